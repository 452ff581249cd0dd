/- Own library: a walk over the operations of a function with the frame as a function of the slot numbers. Rules for code, for lists of operations, and for regions whose order is open. -/
import Derived.WalkKit
import Derived.Orders
namespace Go.Vc

abbrev Env := Nat → Value
def upd (ρ : Env) (d : Nat) (v : Value) : Env := fun t => bif Nat.beq t d then v else ρ t
def tm (ρ : Env) : Operand → Value
  | .tmp t => ρ t
  | .const v => v
  | .global g => .pointer (some ⟨g, 0, none⟩)
  | .func f => .func (.func f) #[] #[]
def act (N : Nat) (ρ : Env) : Act := { tmps := Array.ofFn (fun i : Fin N => ρ i.val), defers := [] }
def put (ρ : Env) : Option Tmp → Value → Env
  | some d, v => upd ρ d v
  | none, _ => ρ
/-- The slots of a list hold the values of a list. -/
def setL : List Nat → List Value → Env → Env
  | l :: L, v :: V, ρ => upd (setL L V ρ) l v
  | _, _, ρ => ρ
def env0 (l : List Value) : Env := fun t => l.getD t undef

theorem nbeq_ne {a b : Nat} (h : a ≠ b) : Nat.beq a b = false := by
  cases h' : Nat.beq a b with
  | false => rfl
  | true => exact absurd (Nat.eq_of_beq_eq_true h') h
theorem upd_self (ρ : Env) (d : Nat) : upd ρ d (ρ d) = ρ := by
  funext t
  unfold upd
  by_cases h : t = d
  · subst h; simp
  · have : Nat.beq t d = false := nbeq_ne h
    rw [this]; rfl
theorem upd_eq {ρ : Env} {d : Nat} {v : Value} (h : ρ d = v) : upd ρ d v = ρ := by subst h; exact upd_self ρ d
theorem setL_self (L : List Nat) (V : List Value) (ρ : Env) (h : L.map ρ = V) : setL L V ρ = ρ := by
  induction L generalizing V with
  | nil => cases V <;> rfl
  | cons l L ih =>
    cases V with
    | nil => rfl
    | cons v V =>
      simp only [List.map_cons, List.cons.injEq] at h
      simp only [setL]
      rw [ih V h.2]
      exact upd_eq h.1

theorem act_put (N : Nat) (ρ : Env) (d : Option Tmp) (v : Value) : (act N ρ).put d v = act N (put ρ d v) := by
  cases d with
  | none => rfl
  | some d =>
    show (⟨(Array.ofFn (fun i : Fin N => ρ i.val)).setIfInBounds d v, []⟩ : Act) = ⟨Array.ofFn (fun i : Fin N => upd ρ d v i.val), []⟩
    congr 1
    refine Array.ext (by simp) fun i h1 h2 => ?_
    have hi : i < N := by simpa using h2
    rw [Array.getElem_setIfInBounds (by simpa using h1)]
    simp only [Array.getElem_ofFn]
    unfold upd
    by_cases h : i = d
    · subst h; simp
    · have hb : Nat.beq i d = false := nbeq_ne h
      have h' : ¬ d = i := fun e => h e.symm
      rw [if_neg h', hb]; rfl

def okX (N : Nat) : Operand → Bool
  | .tmp t => Nat.blt t N
  | _ => true
def okDst (N : Nat) (o : Oper) : Bool := match o.dst with | some d => Nat.blt d N | none => true
def okOp (N : Nat) (o : Oper) : Bool := o.op.operands.all (okX N) && okDst N o && (match o.op with | .select .. => false | _ => true)
def okOps (N : Nat) (l : List Oper) : Bool := l.all (okOp N)
def okCode (N : Nat) : Code → Bool
  | .region _ ops _ => okOps N ops.toList
  | .seq a b => okCode N a && okCode N b
  | .cond c a b => okX N c && okCode N a && okCode N b
  | .block _ b => okCode N b
  | .loop b => okCode N b
  | .scope b => okCode N b
  | .rangeFunc f ps a b => okX N f && ps.all (fun t => Nat.blt t N) && okCode N a && okCode N b
  | _ => true

theorem eval_act {N : Nat} {ρ : Env} {x : Operand} (h : okX N x = true) : (act N ρ).eval x = tm ρ x := by
  cases x with
  | tmp t =>
    have ht : t < N := by simpa [okX, Nat.blt_eq] using h
    simp [Act.eval, act, tm, ht]
  | const v => rfl
  | global g => rfl
  | func f => rfl

theorem exec_act {N : Nat} {ρ : Env} {o : Oper} (h : okOp N o = true) : execOp (act N ρ).eval o = execOp (tm ρ) o := by
  simp only [okOp, Bool.and_eq_true] at h
  refine execOp_congr o ?_ ?_
  · intro cs b he
    have := h.2
    rw [he] at this
    cases this
  · intro x hx
    have h1 := h.1.1
    rw [Array.all_eq_true_iff_forall_mem] at h1
    exact eval_act (h1 x hx)

/-- What the guard's operation has yielded. -/
def dstAt : List Oper → Nat → Option Nat
  | [], _ => none
  | o :: _, 0 => o.dst
  | _ :: l, n + 1 => dstAt l n
theorem dstAt_eq (l : List Oper) (j : Nat) : dstAt l j = (l[j]?).bind (·.dst) := by
  induction l generalizing j with
  | nil => simp [dstAt]
  | cons o l ih => cases j <;> simp [dstAt, ih]

theorem yielded_act {N : Nat} {ρ : Env} {L : List Oper} (hL : okOps N L = true) {j d : Nat} (hd : dstAt L j = some d) {b : Bool} (hb : ρ d = .bool b) :
    yielded L.toArray (act N ρ).tmps j = some b := by
  rw [dstAt_eq] at hd
  unfold yielded
  have h1 : (L.toArray[j]?).bind (·.dst) = some d := by simpa using hd
  rw [h1]
  obtain ⟨o, ho, hod⟩ := Option.bind_eq_some_iff.1 hd
  have hm : o ∈ L := List.mem_of_getElem? ho
  have := List.all_eq_true.1 hL o hm
  simp only [okOp, okDst, hod, Bool.and_eq_true, Nat.blt_eq] at this
  have hdN := this.1.2
  have : (act N ρ).tmps[d]? = some (ρ d) := by simp [act, hdN]
  simp only [Option.bind_some]
  rw [this, hb]

theorem yielded_undef {N : Nat} {ρ : Env} {L : List Oper} {j d : Nat} (hd : dstAt L j = some d) (hb : ρ d = undef) :
    yielded L.toArray (act N ρ).tmps j = none := by
  rw [dstAt_eq] at hd
  unfold yielded
  have h1 : (L.toArray[j]?).bind (·.dst) = some d := by simpa using hd
  rw [h1]
  simp only [Option.bind_some]
  by_cases hN : d < N
  · have : (act N ρ).tmps[d]? = some (ρ d) := by simp [act, hN]
    rw [this, hb]; rfl
  · have : (act N ρ).tmps[d]? = none := by simp [act]; omega
    rw [this]

def elemN (t : Nat) : List Nat → Bool
  | [] => false
  | a :: l => bif Nat.beq t a then true else elemN t l
/-- The slots of 'W' are whatever they are. -/
def scr (W : List Nat) (ρg ρ : Env) : Env := fun t => bif elemN t W then ρg t else ρ t
def dstsIn (W : List Nat) (l : List Oper) : Bool := l.all fun o => match o.dst with | some d => elemN d W | none => true
/-- 'ρ'' is as 'ρ' outside the slots that the operations of 'l' write. -/
def Agree (l : List Oper) (ρ ρ' : Env) : Prop := ∀ t, (∀ o ∈ l, o.dst ≠ some t) → ρ' t = ρ t
theorem Agree.refl (l : List Oper) (ρ : Env) : Agree l ρ ρ := fun _ _ => rfl
theorem Agree.cons {o : Oper} {l : List Oper} {ρ ρ' : Env} {v : Value} (h : Agree l (put ρ o.dst v) ρ') : Agree (o :: l) ρ ρ' := by
  intro t ht
  rw [h t fun o' ho' => ht o' (by simp [ho'])]
  cases hd : o.dst with
  | none => rfl
  | some d =>
    show upd ρ d v t = ρ t
    have hne : t ≠ d := by rintro rfl; exact ht o (by simp) hd
    unfold upd; rw [nbeq_ne hne]; rfl
theorem Agree.scr {W : List Nat} {l : List Oper} {ρ ρ' : Env} (h : Agree l ρ ρ') (hW : dstsIn W l = true) : ρ' = scr W ρ' ρ := by
  funext t
  unfold Go.Vc.scr
  cases ht : elemN t W with
  | true => rfl
  | false =>
    refine h t fun o ho hd => ?_
    have := List.all_eq_true.1 hW o ho
    rw [hd] at this
    simp only at this
    rw [ht] at this; cases this

def lift (N : Nat) (Q : Exit → Env → World → Prop) : Exit → Act → World → Prop := fun e a w => ∃ ρ, a = act N ρ ∧ Q e ρ w

structure V (P : Program) (N : Nat) (c : Code) (Q : Exit → Env → World → Prop) (ρ : Env) (w : World) : Prop where
  go : okCode N c = true → c.wp P (lift N Q) (act N ρ) w

/-- 'L': the whole region (for the guards); 'l': what is left of it. -/
structure VL (P : Program) (N : Nat) (L : List Oper) (Q : Exit → Env → World → Prop) (l : List Oper) (ρ : Env) (w : World) : Prop where
  go : okOps N L = true → okOps N l = true → wpList P L.toArray (lift N fun e ρ' w' => Q e ρ' w' ∧ Agree l ρ ρ') l (act N ρ) w

def thn (K : Env → World → Prop) (Q : Exit → Env → World → Prop) : Exit → Env → World → Prop
  | .normal, ρ, w => K ρ w
  | e, ρ, w => Q e ρ w
def blk (id : Nat) (Q : Exit → Env → World → Prop) : Exit → Env → World → Prop
  | .exit id', ρ, w => bif Nat.beq id' id then Q .normal ρ w else Q (.exit id') ρ w
  | e, ρ, w => Q e ρ w

section code
variable {P : Program} {N : Nat} {Q : Exit → Env → World → Prop} {ρ : Env} {w : World}

theorem V.mono {c : Code} {Q' : Exit → Env → World → Prop} (h : V P N c Q ρ w) (hq : ∀ e ρ w, Q e ρ w → Q' e ρ w) : V P N c Q' ρ w :=
  ⟨fun ok => wp_mono (h.go ok) fun _ _ _ ⟨ρ', ha, hQ⟩ => ⟨ρ', ha, hq _ _ _ hQ⟩⟩

theorem V.seq {x y : Code} (h : V P N x (thn (V P N y Q) Q) ρ w) : V P N (.seq x y) Q ρ w := by
  refine ⟨fun ok => ?_⟩
  simp only [okCode, Bool.and_eq_true] at ok
  refine wp_seq (wp_mono (h.go ok.1) ?_)
  rintro e a w' ⟨ρ', rfl, hQ⟩
  cases e with
  | normal => exact hQ.go ok.2
  | _ => exact ⟨ρ', rfl, hQ⟩

theorem V.skip (h : Q .normal ρ w) : V P N .skip Q ρ w := ⟨fun _ => wp_skip ⟨ρ, rfl, h⟩⟩
theorem V.label {l : Nat} (h : Q .normal ρ w) : V P N (.label l) Q ρ w := ⟨fun _ => wp_label ⟨ρ, rfl, h⟩⟩
theorem V.exit {id : Nat} (h : Q (.exit id) ρ w) : V P N (.exit id) Q ρ w := ⟨fun _ => wp_exit ⟨ρ, rfl, h⟩⟩
theorem V.ret (h : Q .ret ρ w) : V P N .ret Q ρ w := ⟨fun _ => wp_ret ⟨ρ, rfl, h⟩⟩

theorem V.block {id : Nat} {c : Code} (h : V P N c (blk id Q) ρ w) : V P N (.block id c) Q ρ w := by
  refine ⟨fun ok => ?_⟩
  simp only [okCode] at ok
  refine wp_block (wp_mono (h.go ok) ?_)
  rintro e a w' ⟨ρ', rfl, hQ⟩
  cases e with
  | exit id' =>
    simp only [Exit.inBlock]
    by_cases hid : id' = id
    · subst hid
      simp only [blk, Nat.beq_refl, cond_true] at hQ
      rw [if_pos rfl]; exact ⟨ρ', rfl, hQ⟩
    · have : Nat.beq id' id = false := nbeq_ne hid
      simp only [blk, this, cond_false] at hQ
      rw [if_neg hid]; exact ⟨ρ', rfl, hQ⟩
  | _ => exact ⟨ρ', rfl, hQ⟩

theorem V.scope {c : Code} (h : V P N c (fun e ρ w => match e with | .goto _ => False | e => Q e ρ w) ρ w) : V P N (.scope c) Q ρ w := by
  refine ⟨fun ok => ?_⟩
  simp only [okCode] at ok
  refine wp_scope_straight (wp_mono (h.go ok) ?_)
  rintro e a w' ⟨ρ', rfl, hQ⟩
  cases e with
  | goto l => exact hQ.elim
  | _ => exact ⟨ρ', rfl, hQ⟩

theorem V.cond {c : Operand} {x y : Code} {t : Bool} (hc : tm ρ c = .bool t) (ht : t = true → V P N x Q ρ w) (hf : t = false → V P N y Q ρ w) :
    V P N (.cond c x y) Q ρ w := by
  refine ⟨fun ok => ?_⟩
  simp only [okCode, Bool.and_eq_true] at ok
  refine wp_cond (t := t) (by rw [eval_act ok.1.1]; exact hc) ?_
  cases t with
  | true => exact (ht rfl).go ok.1.2
  | false => exact (hf rfl).go ok.2
theorem V.condT {c : Operand} {x y : Code} (hc : tm ρ c = .bool true) (ht : V P N x Q ρ w) : V P N (.cond c x y) Q ρ w :=
  V.cond hc (fun _ => ht) (fun h => nomatch h)
theorem V.condF {c : Operand} {x y : Code} (hc : tm ρ c = .bool false) (hf : V P N y Q ρ w) : V P N (.cond c x y) Q ρ w :=
  V.cond hc (fun h => nomatch h) (fun _ => hf)

/-- A test that is a proposition. -/
theorem V.condP {c : Operand} {x y : Code} {p : Prop} [Decidable p] (hc : tm ρ c = .bool (decide p)) (ht : p → V P N x Q ρ w) (hf : ¬ p → V P N y Q ρ w) : V P N (.cond c x y) Q ρ w :=
  V.cond hc (fun h => ht (of_decide_eq_true h)) (fun h => hf (of_decide_eq_false h))

/-- What follows may be proved once for all ways that lead to it: the slots of 'L' hold 'vals i', all else is forgotten. -/
theorem V.cut (L : List Nat) {ι : Type} (vals : ι → List Value) (J : ι → World → Prop) {x y : Code}
    (h1 : V P N x (thn (fun ρ' w' => ∃ i, L.map ρ' = vals i ∧ J i w') Q) ρ w)
    (h2 : ∀ ρ i w, J i w → V P N y Q (setL L (vals i) ρ) w) : V P N (.seq x y) Q ρ w := by
  refine V.seq (V.mono h1 ?_)
  intro e ρ' w' hQ
  cases e with
  | normal =>
    obtain ⟨i, hL, hJ⟩ := hQ
    have := h2 ρ' i w' hJ
    rw [setL_self _ _ _ hL] at this
    exact this
  | _ => exact hQ

/-- A loop: its state is told by 'i'; the slots of 'L' hold 'vals i' at every round's head. -/
theorem V.loop (L : List Nat) {ι : Type} (vals : ι → List Value) (J : ι → World → Prop) (μ : ι → Nat) {c : Code} (i₀ : ι)
    (h₀ : L.map ρ = vals i₀) (hJ : J i₀ w)
    (round : ∀ ρ i w, J i w → V P N c (thn (fun ρ' w' => ∃ i', L.map ρ' = vals i' ∧ J i' w' ∧ μ i' < μ i) Q) (setL L (vals i) ρ) w) :
    V P N (.loop c) Q ρ w := by
  refine ⟨fun ok => ?_⟩
  simp only [okCode] at ok
  intro b k cs
  have key : ∀ n i, μ i = n → ∀ ρ w, L.map ρ = vals i → J i w →
      ∃ e a' w', lift N Q e a' w' ∧ Arrives P (lone (b.at (act N ρ) (.code c :: .inLoop c :: k)) cs w) b k cs e a' w' := by
    intro n
    induction n using Nat.strongRecOn with
    | _ n ih =>
      intro i hn ρ w hL hJ
      have hr := round ρ i w hJ
      rw [setL_self _ _ _ hL] at hr
      replace hr := hr.go ok
      obtain ⟨e, a₁, w₁, ⟨ρ₁, rfl, hq⟩, harr⟩ := hr b (.inLoop c :: k) cs
      cases e with
      | normal =>
        obtain ⟨i', hL', hJ', hlt⟩ := hq
        obtain ⟨e₂, a₂, w₂, hq₂, harr₂⟩ := ih (μ i') (hn ▸ hlt) i' rfl ρ₁ w₁ hL' hJ'
        exact ⟨e₂, a₂, w₂, hq₂, .of_steps (Steps.trans harr (.one step_inLoop)) harr₂⟩
      | exit id => exact ⟨_, _, w₁, ⟨ρ₁, rfl, hq⟩, .pass (x := .inLoop c) rfl (fun _ _ => .inl (by simp)) harr⟩
      | goto l => exact ⟨_, _, w₁, ⟨ρ₁, rfl, hq⟩, .pass (x := .inLoop c) rfl (fun _ _ => .inl (by simp)) harr⟩
      | ret => exact ⟨_, _, w₁, ⟨ρ₁, rfl, hq⟩, .pass (x := .inLoop c) rfl (fun _ _ => .inl (by simp)) harr⟩
      | panic ch => exact ⟨_, _, w₁, ⟨ρ₁, rfl, hq⟩, .pass (x := .inLoop c) rfl (fun _ _ => .inl (by simp)) harr⟩
      | outgrown => exact ⟨_, _, w₁, ⟨ρ₁, rfl, hq⟩, .pass (x := .inLoop c) rfl (fun _ _ => .inl (by simp)) harr⟩
  obtain ⟨e, a', w', hq, harr⟩ := key _ i₀ rfl ρ w h₀ hJ
  exact ⟨e, a', w', hq, .of_steps (.one step_loop) harr⟩
end code
end Go.Vc
