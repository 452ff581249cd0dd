/- Own library: code in a round of a range over a function; the call of a round. -/
import Derived.Test.YtglaigeellpikaaXVcGuard
import Derived.RangeFuncNested
import Derived.RangeFuncCalls
import Derived.RangeFuncLeaves
import Derived.OrdersIn
namespace Go.Vc
section
variable {n l : Nat} {P : Program} {Q : Exit → Act → World → Prop} {ops : Array Oper}
theorem rows_in {row : String} {args : Array Value} {w : World} {R : Value → World → Prop} (h : Rows P row args w R) : RowsIn (Fence.wide.inRound l) n P row args w R :=
  fun c cs _ => let ⟨v, w', r, s⟩ := h c cs; ⟨v, w', r, stepsIn_wide.2 s⟩
theorem upon_in {o : Oper} {a : Act} {K : Act → World → Prop} {r : Result Next} (h : Oper.upon P o a K Q r) : o.uponIn (Fence.wide.inRound l) n P a K Q r := by
  cases r with
  | ok x w' =>
    cases x with
    | value v => exact h
    | skip => exact h
    | defer d => exact h
    | enter f args =>
      refine ⟨fun h => by simp [Fence.wide] at h, CallsIn.inRound l (callsIn_wide.2 ?_)⟩
      exact Calls.mono h fun e w'' he => by cases e <;> exact he
    | row row args => exact ⟨fun h => by simp [Fence.wide] at h, rows_in h⟩
    | _ => exact h.elim
  | halt x w' => cases x <;> exact h
def noDefer (l : List Oper) : Bool := l.all fun o => match o.op with | .defer _ => false | _ => true
theorem noDefer_at {L : List Oper} (h : noDefer L = true) {o : Oper} (ho : o ∈ L) : ∀ c, o.op ≠ .defer c := fun c e => by
  have := List.all_eq_true.1 h o ho
  rw [e] at this; cases this
theorem wpIn_of {o : Oper} {a : Act} {w : World} {K : Act → World → Prop} (hd : ∀ c, o.op ≠ .defer c) (h : o.wp P a w K Q) : o.wpIn (Fence.wide.inRound l) n P a w K Q :=
  ⟨fun _ _ => trivial, by rw [Oper.semAt_eq _ _ _ hd]; exact upon_in h⟩
theorem list_in (hq : ¬ LetsOut Q) : ∀ (L : List Oper) (a : Act) (w : World), noDefer L = true → wpList P ops Q L a w → wpListIn (Fence.wide.inRound l) n P ops Q L a w := by
  intro L
  induction L with
  | nil => intro a w _ h; exact h
  | cons o L ih =>
    intro a w hd h
    have hd' : noDefer L = true := by unfold noDefer at hd ⊢; rw [List.all_cons, Bool.and_eq_true] at hd; exact hd.2
    unfold wpList at h
    unfold wpListIn
    split at h
    · rename_i hw
      rw [if_pos hw]
      rcases h with h | ⟨_, h⟩
      · exact Oper.wpIn_mono (fun a w h => ih a w hd' h) (wpIn_of (noDefer_at hd (by simp)) h)
      · exact absurd h hq
    · rename_i hw
      rw [if_neg hw]
      exact ⟨fun _ _ => trivial, ih _ _ hd' h⟩
theorem any_in {md : Region.Mode} (hq : ¬ LetsOut Q) (hd : noDefer ops.toList = true) : ∀ (fuel : Nat) (listed : Array Bool) (a : Act) (w : World), wpAny P md ops Q fuel listed a w → wpAnyIn (Fence.wide.inRound l) n P md ops Q fuel listed a w := by
  intro fuel
  induction fuel with
  | zero => intro listed a w h; exact h
  | succ fuel ih =>
    intro listed a w h
    refine ⟨h.1, fun i hi => ?_⟩
    have h2 := h.2 i hi
    unfold wpOp at h2
    unfold wpOpIn
    split
    · rename_i he
      rw [he] at h2
      exact ih _ _ _ h2
    · rename_i o he
      rw [he] at h2
      dsimp only at h2
      have hm : o ∈ ops.toList := by
        obtain ⟨hi2, rfl⟩ := Array.getElem?_eq_some_iff.1 he
        simp
      split
      · rename_i hw
        rw [if_pos hw] at h2
        rcases h2 with h2 | ⟨_, h2⟩
        · exact Oper.wpIn_mono (fun a w h => ih _ a w h) (wpIn_of (noDefer_at hd hm) h2)
        · exact absurd h2 hq
      · rename_i hw
        rw [if_neg hw] at h2
        exact ⟨fun _ _ => trivial, ih _ _ _ h2⟩
end
section
variable {P : Program} {N : Nat} {L : List Oper} {Q : Exit → Env → World → Prop} {ρ : Env}
theorem any_A {w : World} (k m : Nat) (hr : regOk L k = true) (C0 C1 : World → Prop)
    (h0 : C0 { w with drawn := w.drawn + 1 })
    (h : VA P L (ancs L []) C0 C1 m k 0 L ρ fun ρ' => ∀ w', (bif Nat.blt m k then C1 w' else C0 w') → VL P N L Q (L.drop k) ρ' w') (okL : okOps N L = true) :
    wpAny P .any L.toArray (lift N Q) L.toArray.size (Array.replicate L.toArray.size false) (act N ρ) { w with drawn := w.drawn + 1 } := by
  have R := regOk_spec hr
  obtain ⟨vs, hl, hll, hobs, hK⟩ := VA_spec k 0 L ρ _ h
  let vals : Nat → Value := fun x => vs.getD x undef
  have henv : ∀ x, x ≤ k → envL L vals ρ x = ch ρ L vs x := by
    intro x
    induction x with
    | zero => intro _; rw [envL_zero, ch_zero]
    | succ x ih =>
      intro hx
      have ho : L[x]? = some L[x] := List.getElem?_eq_getElem (by omega)
      rw [envL_succ ho, ih (by omega), ch_succ L ρ vs x L[x] (vs.getD x undef) ho (by simp [List.getD, List.getElem?_eq_getElem (by omega : x < vs.length)])]
  have start := wpAny_any (P := P) (N := N) (vals := vals) (ρ := ρ) R okL hll (C := stage C0 C1 m) (QQ := lift N Q) ?_ ?_ k L.toArray.size (Array.replicate L.toArray.size false) { w with drawn := w.drawn + 1 } (by simp) ?_ ?_ ?_ (by simp; omega) ?_
  · have e : lst (Array.replicate L.toArray.size false) = fun _ => false := by
      funext j; unfold lst; simp [Array.getElem?_replicate]; split <;> rfl
    rw [e, envD_none] at start
    exact start
  · intro i o ho hik D hcl hDi hdeps hsuf w' hC
    have hob := hobs i o hik ho
    rw [Nat.zero_add, ← henv i (by omega)] at hob
    have hil : i < L.length := (List.getElem?_eq_some_iff.1 ho).1
    constructor
    · intro hw
      have h1 := hob.1 hw
      by_cases him : i = m
      · subst him
        rw [Nat.beq_refl, cond_true] at h1
        have hC' : C0 w' := by unfold stage at hC; rw [hDi] at hC; exact hC
        have := h1 w' hC'
        have e : stage C0 C1 i (setD D i) = C1 := by funext w; unfold stage setD; simp
        rw [e]; exact this
      · rw [nbeq_ne him, cond_false] at h1
        have e : ∀ w, stage C0 C1 m (setD D i) w = bif D m then C1 w else C0 w := by
          intro w; unfold stage setD; rw [nbeq_ne (fun e => him e.symm), Bool.false_or]
        cases hDm : D m with
        | true =>
          have hC' : C1 w' := by unfold stage at hC; rw [hDm] at hC; exact hC
          have hml : m < L.length := by
            rcases Nat.lt_or_ge m k with h | h
            · omega
            · rw [hsuf m h] at hDm; cases hDm
          have hb : ((ancs L []).getD m 0).testBit i = false := by
            cases hb : ((ancs L []).getD m 0).testBit i with
            | false => rfl
            | true => rw [anc_closed hcl hml hb hDm] at hDi; cases hDi
          have h2 := h1.2
          rw [hb, cond_false] at h2
          have e' : stage C0 C1 m (setD D i) = C1 := by funext w; rw [e w, hDm]; rfl
          rw [e']; exact h2 w' hC'
        | false =>
          have hC' : C0 w' := by unfold stage at hC; rw [hDm] at hC; exact hC
          have hb : ((ancs L []).getD i 0).testBit m = false := by
            cases hb : ((ancs L []).getD i 0).testBit m with
            | false => rfl
            | true => rw [anc_done R hcl ho hdeps hb] at hDm; cases hDm
          have h2 := h1.1
          rw [hb, cond_false] at h2
          have e' : stage C0 C1 m (setD D i) = C0 := by funext w; rw [e w, hDm]; rfl
          rw [e']; exact h2 w' hC'
    · intro hw
      obtain ⟨h1, h2⟩ := hob.2 hw
      refine ⟨h1, ?_⟩
      by_cases him : i = m
      · subst him
        rw [Nat.beq_refl, cond_true] at h2
        have hC' : C0 w' := by unfold stage at hC; rw [hDi] at hC; exact hC
        have e : stage C0 C1 i (setD D i) = C1 := by funext w; unfold stage setD; simp
        rw [e]; exact h2 w' hC'
      · have e : stage C0 C1 m (setD D i) w' = stage C0 C1 m D w' := by
          unfold stage setD; rw [nbeq_ne (fun e => him e.symm), Bool.false_or]
        rw [e]; exact hC
  · intro w' hC
    have hC' : bif Nat.blt m k then C1 w' else C0 w' := hC
    have hv := hK w' hC'
    rw [← henv k (Nat.le_refl _)] at hv
    have hdrop : okOps N (L.drop k) = true := by
      unfold okOps at *
      rw [List.all_eq_true] at *
      exact fun o ho => okL o (List.mem_of_mem_drop ho)
    have := wpList_mono (lift_mono fun _ _ _ h => h.1) _ _ _ (hv.go okL hdrop)
    rw [← wpOps_eq_wpList (L.drop k) k (by intro j; simp)] at this
    simpa using this
  · intro i o _ hi
    unfold lst at hi
    simp [Array.getElem?_replicate] at hi
    split at hi <;> cases hi
  · intro j _; unfold lst; simp [Array.getElem?_replicate]; split <;> rfl
  · have : ((List.range k).filter fun j => !lst (Array.replicate L.toArray.size false) j) = List.range k := by
      rw [List.filter_eq_self]
      intro j _; unfold lst; simp [Array.getElem?_replicate]; split <;> rfl
    rw [this, List.length_range]
  · have e : lst (Array.replicate L.toArray.size false) = fun _ => false := by
      funext j; unfold lst; simp [Array.getElem?_replicate]; split <;> rfl
    rw [e]; exact h0

end
/-- Code within a round. -/
structure VI (l n : Nat) (P : Program) (N : Nat) (c : Code) (Q : Exit → Env → World → Prop) (ρ : Env) (w : World) : Prop where
  go : okCode N c = true → c.wpIn (Fence.wide.inRound l) n P (lift N Q) (act N ρ) w
section
variable {l n : Nat} {P : Program} {N : Nat} {L : List Oper} {Q : Exit → Env → World → Prop} {ρ : Env} {w : World}
theorem lets_no (hq : ∀ ρ w, ¬ Q .outgrown ρ w) : ¬ LetsOut (lift N Q) := fun ⟨_, w, ρ, _, h⟩ => hq ρ w h
theorem VI.region {id : Nat} (hq : ∀ ρ w, ¬ Q .outgrown ρ w) (hd : noDefer L = true) (h : VL P N L Q L ρ w) : VI l n P N (.region id L.toArray false) Q ρ w := by
  refine ⟨fun ok => ?_⟩
  have ok' : okOps N L = true := by simpa [okCode] using ok
  exact wpIn_region_lit (list_in (lets_no hq) L _ _ hd (wpList_mono (lift_mono fun _ _ _ h => h.1) _ _ _ (h.go ok' ok')))
theorem VI.regionQ {id : Nat} (hq : ∀ ρ w, ¬ Q .outgrown ρ w) (hd : noDefer L = true) (hm : P.follows .mixedOrders = true) (k : Nat) (hr : regOk L k = true) (hk : Nat.ble k L.length = true) (C : World → Prop)
    (h0 : C { w with drawn := w.drawn + 1 })
    (h : VQ P L C k L ρ fun ρ' => ∀ w', C w' → VL P N L Q (L.drop k) ρ' w') : VI l n P N (.region id L.toArray true) Q ρ w := by
  have hk' : k ≤ L.length := Nat.le_of_ble_eq_true hk
  refine ⟨fun ok => ?_⟩
  have okL : okOps N L = true := by simpa [okCode] using ok
  refine wpIn_region_any hm (any_in (lets_no hq) hd _ _ _ _ (any_A k k hr C (fun _ => False) h0 ?_ okL))
  have := h.go 0 (by omega)
  rw [Nat.add_zero] at this
  have e : Nat.blt k k = false := nblt_no (Nat.lt_irrefl k)
  rw [e]
  exact this
theorem VI.seq {x y : Code} (h : VI l n P N x (thn (VI l n P N y Q) Q) ρ w) : VI l n P N (.seq x y) Q ρ w := by
  refine ⟨fun ok => ?_⟩
  simp only [okCode, Bool.and_eq_true] at ok
  refine wpIn_seq (Code.wpIn_mono ?_ (h.go ok.1))
  rintro e a w' ⟨ρ', rfl, hQ⟩
  cases e with
  | normal => exact hQ.go ok.2
  | _ => exact ⟨ρ', rfl, hQ⟩
theorem VI.skip (h : Q .normal ρ w) : VI l n P N .skip Q ρ w := ⟨fun _ => wpIn_skip ⟨ρ, rfl, h⟩⟩
theorem VI.block {id : Nat} {c : Code} (h : VI l n P N c (blk id Q) ρ w) : VI l n P N (.block id c) Q ρ w := by
  refine ⟨fun ok => ?_⟩
  simp only [okCode] at ok
  refine wpIn_block (Code.wpIn_mono ?_ (h.go ok))
  rintro e a w' ⟨ρ', rfl, hQ⟩
  cases e with
  | exit id' =>
    simp only [Exit.inBlock]
    by_cases hid : id' = id
    · subst hid
      simp only [blk, Nat.beq_refl, cond_true] at hQ
      rw [if_pos rfl]; exact ⟨ρ', rfl, hQ⟩
    · have : Nat.beq id' id = false := nbeq_ne hid
      simp only [blk, this, cond_false] at hQ
      rw [if_neg hid]; exact ⟨ρ', rfl, hQ⟩
  | _ => exact ⟨ρ', rfl, hQ⟩
theorem VI.cond {c : Operand} {x y : Code} {t : Bool} (hc : tm ρ c = .bool t) (ht : t = true → VI l n P N x Q ρ w) (hf : t = false → VI l n P N y Q ρ w) :
    VI l n P N (.cond c x y) Q ρ w := by
  refine ⟨fun ok => ?_⟩
  simp only [okCode, Bool.and_eq_true] at ok
  refine wpIn_cond (t := t) (by rw [eval_act ok.1.1]; exact hc) ?_
  cases t with
  | true => exact (ht rfl).go ok.1.2
  | false => exact (hf rfl).go ok.2
/-- The call of a round, and the denial of what it says. -/
theorem R.callY {x y : Operand} {lp : Nat} {fn : FuncId} {tmps : Array Value} {assign body : Code} {ts : Array TypeId} {ty : TypeId} {v : Value} (hx : tm ρ x = .func (.yield lp) #[] #[]) (hy : tm ρ y = v)
    (h : (Instr.yield lp #[v]).run P w = .ok (.round lp fn tmps assign body) w) :
    run1 P ρ (.call { callee := .value x, args := #[y], argTypes := ts }) ty w = .ok (.round lp fn tmps assign body) w := by
  subst hy
  simp only [run1, execOp, resolve, hx, Deferred.ofValue, invoke, Sem.run_bind, Sem.run_pure, Result.andThen_ok, List.map_toArray]
  simpa using h
theorem VLI.op {n d : Nat} {q : Op} {ty : TypeId} {p : String} {af : Array Edge} {v : Value} {w' : World} {rest : List Oper} {ops : Array Oper} {QQ : Exit → Act → World → Prop} (okl : okOps N ({ dst := some d, op := q, type := ty, pos := p, after := af, guard := none } :: rest) = true) (hr : run1 P ρ q ty w = .ok (.value v) w')
    (h : okOps N rest = true → wpListIn Fence.wide n P ops QQ rest (act N (upd ρ d v)) w') : wpListIn Fence.wide n P ops QQ ({ dst := some d, op := q, type := ty, pos := p, after := af, guard := none } :: rest) (act N ρ) w := by
  obtain ⟨ho, hr'⟩ := okOps_cons okl
  refine wpListIn_plain rfl fun K hK => ⟨fun _ _ => trivial, ?_⟩
  have e : Fence.wide.round = none := rfl
  rw [e, Oper.semAt_none, exec_act ho, run1_eq, hr]
  simp only [Oper.uponIn, act_put]
  exact hK _ _ (h hr')
theorem VLI.round {n d : Nat} {q : Op} {ty : TypeId} {p : String} {af : Array Edge} {w' : World} {rest : List Oper} {ops : Array Oper} {QQ : Exit → Act → World → Prop} {lp : Nat} {fn : FuncId} {tmps : Array Value} {assign body : Code} {R : Ending → World → Prop}
    (okl : okOps N ({ dst := some d, op := q, type := ty, pos := p, after := af, guard := none } :: rest) = true) (hr : run1 P ρ q ty w = .ok (.round lp fn tmps assign body) w')
    (hR : RoundIn Fence.wide (n - 1) P lp fn tmps assign body w' R)
    (h : okOps N rest = true → ∀ e w'', R e w'' → ∃ v, e = .returned v ∧ wpListIn Fence.wide n P ops QQ rest (act N (upd ρ d v)) w'') : wpListIn Fence.wide n P ops QQ ({ dst := some d, op := q, type := ty, pos := p, after := af, guard := none } :: rest) (act N ρ) w := by
  obtain ⟨ho, hr'⟩ := okOps_cons okl
  refine wpListIn_plain rfl fun K hK => ⟨fun _ _ => trivial, ?_⟩
  have e : Fence.wide.round = none := rfl
  rw [e, Oper.semAt_none, exec_act ho, run1_eq, hr]
  refine ⟨fun h => by simp [Fence.wide] at h, RoundIn.mono hR fun e w'' he => ?_⟩
  obtain ⟨v, rfl, h2⟩ := h hr' e w'' he
  have := hK _ _ h2
  simp only [act_put]
  exact this
end
end Go.Vc
