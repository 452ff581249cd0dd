/- Own library: regions whose order is open. The operations before place 'k' may come up in any order that their edges allow; those from 'k' on come last, one behind the other. -/
import Derived.Test.YtbckofoibdljgaaVcOps
namespace Go.Vc

theorem nblt {a b : Nat} : Nat.blt a b = true ↔ a < b := by rw [Nat.blt_eq]
theorem nblt_no {a b : Nat} (h : ¬ a < b) : Nat.blt a b = false := by
  cases hx : Nat.blt a b with
  | false => rfl
  | true => exact absurd (nblt.1 hx) h
theorem getD_app {α : Type} (l l' : List α) (i : Nat) (d : α) (h : i < l.length) : (l ++ l').getD i d = l.getD i d := by
  simp [List.getD, List.getElem?_append_left h]

def binds (e : Edge) : Bool := Region.binds .any e
def ancOf (o : Oper) (acc : List Nat) : Nat := o.after.toList.foldl (fun s e => bif binds e then s ||| (2 ^ e.on ||| acc.getD e.on 0) else s) 0
/-- For each operation the set of those that come before it, as bits. -/
def ancs : List Oper → List Nat → List Nat
  | [], acc => acc
  | o :: l, acc => ancs l (acc ++ [ancOf o acc])

def names (L : List Oper) (o : Oper) : List Nat :=
  (o.op.operands.toList.filterMap fun | .tmp t => some t | _ => none) ++ o.dst.toList ++ (match o.guard with | some (j, _) => (dstAt L j).toList | none => [])
def clash (L : List Oper) (o o' : Oper) : Bool := match o'.dst with | some d => (names L o).elem d | none => false
/-- 'k': from here on one behind the other. -/
def regOk (L : List Oper) (k : Nat) : Bool :=
  let A := ancs L []
  (L.zipIdx.all fun (o, i) =>
    (o.after.toList.all fun e => !binds e || Nat.blt e.on i) &&
    L.zipIdx.all fun (o', j) => Nat.beq i j || !clash L o o' || (bif Nat.blt j i then (A.getD i 0).testBit j else (A.getD j 0).testBit i)) &&
  ((List.range L.length).all fun i => Nat.blt i k || (List.range i).all fun j => (A.getD i 0).testBit j)

theorem ancs_length (l : List Oper) (acc : List Nat) : (ancs l acc).length = acc.length + l.length := by
  induction l generalizing acc with
  | nil => simp [ancs]
  | cons o l ih => simp [ancs, ih]; omega
theorem ancs_prefix (l : List Oper) (acc : List Nat) (i : Nat) (h : i < acc.length) : (ancs l acc).getD i 0 = acc.getD i 0 := by
  induction l generalizing acc with
  | nil => rfl
  | cons o l ih =>
    rw [ancs, ih _ (by simp; omega)]
    simp [List.getD, List.getElem?_append_left h]

def closedD (L : List Oper) (D : Nat → Bool) : Prop := ∀ i o, L[i]? = some o → D i = true → ∀ e ∈ o.after, binds e = true → D e.on = true

theorem foldl_or_bit {α : Type} (f : α → Nat) (p : α → Bool) (l : List α) (s j : Nat) (h : (l.foldl (fun s e => bif p e then s ||| f e else s) s).testBit j = true) :
    s.testBit j = true ∨ ∃ e ∈ l, p e = true ∧ (f e).testBit j = true := by
  induction l generalizing s with
  | nil => exact .inl h
  | cons e l ih =>
    simp only [List.foldl_cons] at h
    rcases ih _ h with h | ⟨e', he, hp, hf⟩
    · cases hpe : p e with
      | true =>
        rw [hpe, cond_true, Nat.testBit_or, Bool.or_eq_true] at h
        rcases h with h | h
        · exact .inl h
        · exact .inr ⟨e, by simp, hpe, h⟩
      | false => rw [hpe] at h; exact .inl h
    · exact .inr ⟨e', by simp [he], hp, hf⟩

theorem ancs_spec {D : Nat → Bool} (l : List Oper) : ∀ (pre : List Oper) (acc : List Nat), acc.length = pre.length → closedD (pre ++ l) D →
    (∀ i j, i < acc.length → (acc.getD i 0).testBit j = true → D i = true → D j = true) →
    ∀ i j, i < (pre ++ l).length → ((ancs l acc).getD i 0).testBit j = true → D i = true → D j = true := by
  induction l with
  | nil => intro pre acc hl _ h i j hi; simp only [List.append_nil] at hi; rw [ancs]; exact h i j (by omega)
  | cons o l ih =>
    intro pre acc hl hD h i j hi hb hDi
    have e : pre ++ o :: l = (pre ++ [o]) ++ l := by simp
    rw [ancs] at hb
    refine ih (pre ++ [o]) (acc ++ [ancOf o acc]) (by simp [hl]) (by rw [← e]; exact hD) ?_ i j (by rw [← e]; exact hi) hb hDi
    intro i j hi hb hDi
    by_cases hlt : i < acc.length
    · rw [getD_app _ _ _ _ hlt] at hb
      exact h i j hlt hb hDi
    · have hi' : i = acc.length := by simp at hi; omega
      subst hi'
      have : (acc ++ [ancOf o acc]).getD acc.length 0 = ancOf o acc := by simp [List.getD]
      rw [this] at hb
      unfold ancOf at hb
      rcases foldl_or_bit _ _ _ _ _ hb with hb | ⟨x, hx, hbd, hf⟩
      · simp at hb
      · have ho : (pre ++ o :: l)[acc.length]? = some o := by simp [hl]
        have hDx : D x.on = true := hD _ _ ho hDi x (by simpa using hx) hbd
        rw [Nat.testBit_or, Bool.or_eq_true] at hf
        rcases hf with hf | hf
        · rw [Nat.testBit_two_pow] at hf
          have : x.on = j := by simpa using hf
          rw [← this]; exact hDx
        · have hlt : x.on < acc.length := by
            rcases Nat.lt_or_ge x.on acc.length with h | h
            · exact h
            · rw [List.getD, List.getElem?_eq_none h] at hf; simp at hf
          exact h x.on j hlt hf hDx

theorem anc_closed {L : List Oper} {D : Nat → Bool} (hD : closedD L D) {i j : Nat} (hi : i < L.length) (hb : ((ancs L []).getD i 0).testBit j = true) (hDi : D i = true) : D j = true :=
  ancs_spec (D := D) L [] [] rfl (by simpa using hD) (by intro i j h; simp at h) i j (by simpa using hi) hb hDi

/-! ### The frame when some operations have come up -/
def envD (L : List Oper) (vals : Nat → Value) (D : Nat → Bool) (ρ : Env) : Env := fun t =>
  (List.range L.length).foldl (fun acc j => bif D j && dstAt L j == some t then vals j else acc) (ρ t)

theorem foldl_range_congr {α : Type} (f g : α → Nat → α) (n : Nat) (a : α) (h : ∀ a j, j < n → f a j = g a j) : (List.range n).foldl f a = (List.range n).foldl g a := by
  induction n generalizing a with
  | zero => rfl
  | succ n ih =>
    rw [List.range_succ, List.foldl_append, List.foldl_append, ih a fun a j hj => h a j (by omega)]
    simp only [List.foldl_cons, List.foldl_nil]
    exact h _ _ (by omega)

theorem envD_congr {L : List Oper} {vals : Nat → Value} {D D' : Nat → Bool} {ρ : Env} {t : Nat}
    (h : ∀ j, j < L.length → dstAt L j = some t → D j = D' j) : envD L vals D ρ t = envD L vals D' ρ t := by
  unfold envD
  refine foldl_range_congr _ _ _ _ fun a j hj => ?_
  by_cases ht : dstAt L j = some t
  · rw [h j hj ht]
  · have : (dstAt L j == some t) = false := by simpa using ht
    rw [this]; simp

theorem foldl_last (L : List Oper) (vals : Nat → Value) (D : Nat → Bool) (t i : Nat) (a : Value) : ∀ n, i < n → D i = true → dstAt L i = some t →
    (∀ j, i < j → j < n → dstAt L j = some t → D j = false) →
    (List.range n).foldl (fun acc j => bif D j && dstAt L j == some t then vals j else acc) a = vals i := by
  intro n
  induction n with
  | zero => intro h; omega
  | succ n ih =>
    intro hi hD hd hlater
    rw [List.range_succ, List.foldl_append]
    simp only [List.foldl_cons, List.foldl_nil]
    by_cases hin : i = n
    · subst hin; rw [hD, hd]; simp
    · have hlt : i < n := by omega
      rw [ih hlt hD hd fun j h1 h2 => hlater j h1 (by omega)]
      by_cases ht : dstAt L n = some t
      · rw [hlater n hlt (by omega) ht]; rfl
      · have : (dstAt L n == some t) = false := by simpa using ht
        rw [this]; simp

theorem dstAt_lt {L : List Oper} {j d : Nat} (h : dstAt L j = some d) : j < L.length := by
  rw [dstAt_eq] at h
  obtain ⟨o, ho, _⟩ := Option.bind_eq_some_iff.1 h
  exact (List.getElem?_eq_some_iff.1 ho).1

def setD (D : Nat → Bool) (i : Nat) : Nat → Bool := fun j => Nat.beq j i || D j

theorem envD_set {L : List Oper} {vals : Nat → Value} {D : Nat → Bool} {ρ : Env} {i : Nat} {o : Oper} (ho : L[i]? = some o)
    (hlater : ∀ d, o.dst = some d → ∀ j, i < j → dstAt L j = some d → D j = false) :
    envD L vals (setD D i) ρ = put (envD L vals D ρ) o.dst (vals i) := by
  have hdi : dstAt L i = o.dst := by rw [dstAt_eq, ho]; rfl
  funext t
  have other : ∀ t, o.dst ≠ some t → envD L vals (setD D i) ρ t = envD L vals D ρ t := fun t ht => envD_congr fun j hj hdj => by
    have : j ≠ i := by rintro rfl; rw [hdi] at hdj; exact ht hdj
    simp [setD, nbeq_ne this]
  cases hd : o.dst with
  | none => rw [put]; exact other t (by simp [hd])
  | some d =>
    rw [put]
    unfold upd
    by_cases htd : t = d
    · subst htd
      rw [Nat.beq_refl, cond_true]
      unfold envD
      refine foldl_last L vals _ t i _ _ (List.getElem?_eq_some_iff.1 ho).1 (by simp [setD]) (by rw [hdi, hd]) fun j h1 _ h3 => ?_
      have : j ≠ i := by omega
      simp [setD, nbeq_ne this, hlater t hd j h1 h3]
    · rw [nbeq_ne htd, cond_false]
      exact other t (by rw [hd]; simpa using fun h => htd h.symm)

theorem envD_none (L : List Oper) (vals : Nat → Value) (ρ : Env) : envD L vals (fun _ => false) ρ = ρ := by
  funext t
  unfold envD
  have : ∀ n, (List.range n).foldl (fun acc j => bif (fun _ => false) j && dstAt L j == some t then vals j else acc) (ρ t) = ρ t := by
    intro n
    induction n with
    | zero => rfl
    | succ n ih => rw [List.range_succ, List.foldl_append, ih]; rfl
  exact this _

/-! ### One operation -/
def yl (L : List Oper) (ρ : Env) (j : Nat) : Option Bool := match dstAt L j with | some d => (match ρ d with | .bool b => some b | _ => none) | none => none
theorem yl_act {N : Nat} {ρ : Env} {L : List Oper} (hL : okOps N L = true) (j : Nat) : yielded L.toArray (act N ρ).tmps j = yl L ρ j := by
  unfold yl yielded
  rw [dstAt_eq]
  have h1 : (L.toArray[j]?).bind (·.dst) = (L[j]?).bind (·.dst) := by simp
  rw [h1]
  cases hd : (L[j]?).bind (·.dst) with
  | none => rfl
  | some d =>
    obtain ⟨o, ho, hod⟩ := Option.bind_eq_some_iff.1 hd
    have := List.all_eq_true.1 hL o (List.mem_of_getElem? ho)
    simp only [okOp, okDst, hod, Bool.and_eq_true, Nat.blt_eq] at this
    have : (act N ρ).tmps[d]? = some (ρ d) := by simp [act, this.1.2]
    simp only [Option.bind_some]
    rw [this]
    cases ρ d <;> rfl
def wantedE (L : List Oper) (ρ : Env) (o : Oper) : Bool := Region.wanted o (yl L ρ)

/-- The operation yields 'v' and a world with 'K'. -/
def yieldsTo (P : Program) (ρ : Env) (o : Oper) (w : World) (v : Value) (K : World → Prop) : Prop :=
  match (execOp (tm ρ) o).run P w with
  | .ok (.value u) w' => u = v ∧ K w'
  | .ok .skip w' => v = undef ∧ K w'
  | .ok (.enter f args) w' => Rets P f args w' fun u w'' => u = v ∧ K w''
  | _ => False

section
variable {P : Program} {N : Nat} {L : List Oper} {Q : Exit → Env → World → Prop} {vals : Nat → Value} {ρ : Env} {k : Nat}

theorem wpOp_of_yields {i : Nat} {o : Oper} (hL : okOps N L = true) (ho : L[i]? = some o) {ρi : Env} {w : World} {Kw : World → Prop} {K : Act → World → Prop} {QQ : Exit → Act → World → Prop}
    (hw : wantedE L ρi o = true → yieldsTo P ρi o w (vals i) Kw) (hn : wantedE L ρi o = false → vals i = undef ∧ Kw w)
    (hK : ∀ w', Kw w' → K (act N (put ρi o.dst (vals i))) w') : wpOp P L.toArray QQ i K (act N ρi) w := by
  unfold wpOp
  have ho' : L.toArray[i]? = some o := by simpa using ho
  rw [ho']
  simp only
  have hok : okOp N o = true := List.all_eq_true.1 hL o (List.mem_of_getElem? ho)
  have e : (fun j => yielded L.toArray (act N ρi).tmps j) = yl L ρi := funext fun j => yl_act hL j
  have e' : Region.wanted o (yielded L.toArray (act N ρi).tmps) = wantedE L ρi o := by
    show Region.wanted o (fun j => yielded L.toArray (act N ρi).tmps j) = _
    rw [e]; rfl
  rw [e']
  cases hwant : wantedE L ρi o with
  | true =>
    simp only [if_true]
    left
    have h := hw hwant
    unfold yieldsTo at h
    unfold Oper.wp
    rw [exec_act hok]
    revert h
    generalize (execOp (tm ρi) o).run P w = r
    intro h
    cases r with
    | ok n w' =>
      cases n <;> simp only at h <;> simp only [Oper.upon]
      case value u => rw [h.1, act_put]; exact hK _ h.2
      case skip => rw [act_put, ← h.1]; exact hK _ h.2
      case enter f args =>
        refine Calls.mono h ?_
        rintro e w'' ⟨v, rfl, rfl, hk⟩
        simp only
        rw [act_put]; exact hK _ hk
    | halt x w' => exact h.elim
  | false =>
    simp only [Bool.false_eq_true, if_false]
    obtain ⟨h1, h2⟩ := hn hwant
    rw [act_put, ← h1]; exact hK _ h2

/-- What the check gives. -/
structure RegOk (L : List Oper) (k : Nat) : Prop where
  back : ∀ i o, L[i]? = some o → ∀ e ∈ o.after, binds e = true → e.on < i
  apart : ∀ i o j o', L[i]? = some o → L[j]? = some o' → i ≠ j → clash L o o' = true → (j < i ∧ ((ancs L []).getD i 0).testBit j = true) ∨ (i < j ∧ ((ancs L []).getD j 0).testBit i = true)
  serial : ∀ i, i < L.length → k ≤ i → ∀ j, j < i → ((ancs L []).getD i 0).testBit j = true

theorem regOk_spec (h : regOk L k = true) : RegOk L k := by
  simp only [regOk, Bool.and_eq_true, List.all_eq_true] at h
  obtain ⟨h1, h2⟩ := h
  refine ⟨fun i o ho e he hb => ?_, fun i o j o' ho ho' hij hc => ?_, fun i hi hk j hj => ?_⟩
  · have := (h1 (o, i) (by rw [List.mem_zipIdx_iff_getElem?]; exact ho)).1 e (by simpa using he)
    simp only [hb, Bool.not_true, Bool.false_or, Nat.blt_eq] at this
    exact this
  · have := (h1 (o, i) (by rw [List.mem_zipIdx_iff_getElem?]; exact ho)).2 (o', j) (by rw [List.mem_zipIdx_iff_getElem?]; exact ho')
    simp only [hc, nbeq_ne hij, Bool.not_true, Bool.false_or, Bool.or_false] at this
    by_cases hji : j < i
    · have hb : Nat.blt j i = true := by simpa [Nat.blt_eq] using hji
      rw [hb, cond_true] at this
      exact .inl ⟨hji, this⟩
    · have hb : Nat.blt j i = false := by
        cases hx : Nat.blt j i with
        | false => rfl
        | true => exact absurd (nblt.1 hx) hji
      rw [hb, cond_false] at this
      exact .inr ⟨by omega, this⟩
  · have := h2 i (List.mem_range.2 hi)
    have hb : Nat.blt i k = false := nblt_no (by omega)
    rw [hb, Bool.false_or, List.all_eq_true] at this
    exact this j (List.mem_range.2 hj)

theorem clash_of {o o' : Oper} {d : Nat} (h : o'.dst = some d) (hd : d ∈ names L o) : clash L o o' = true := by
  unfold clash; rw [h]; simpa using hd

theorem anc_lt_aux : ∀ (l pre : List Oper) (acc : List Nat), acc.length = pre.length → (∀ i o, (pre ++ l)[i]? = some o → ∀ e ∈ o.after, binds e = true → e.on < i) →
    (∀ i x, i < acc.length → (acc.getD i 0).testBit x = true → x < i) → ∀ i x, i < (pre ++ l).length → ((ancs l acc).getD i 0).testBit x = true → x < i := by
  intro l
  induction l with
  | nil => intro pre acc hl _ h i x hi; simp only [List.append_nil] at hi; rw [ancs]; exact h i x (by omega)
  | cons o l ih =>
    intro pre acc hl hB h i x hi hb
    have e : pre ++ o :: l = (pre ++ [o]) ++ l := by simp
    rw [ancs] at hb
    refine ih (pre ++ [o]) (acc ++ [ancOf o acc]) (by simp [hl]) (by rw [← e]; exact hB) ?_ i x (by rw [← e]; exact hi) hb
    intro i x hi hb
    by_cases hlt : i < acc.length
    · rw [getD_app _ _ _ _ hlt] at hb
      exact h i x hlt hb
    · have hi' : i = acc.length := by simp at hi; omega
      subst hi'
      have : (acc ++ [ancOf o acc]).getD acc.length 0 = ancOf o acc := by simp [List.getD]
      rw [this] at hb
      unfold ancOf at hb
      rcases foldl_or_bit _ _ _ _ _ hb with hb | ⟨y, hy, hbd, hf⟩
      · simp at hb
      · have ho : (pre ++ o :: l)[acc.length]? = some o := by simp [hl]
        have hyl := hB _ _ ho y (by simpa using hy) hbd
        rw [Nat.testBit_or, Bool.or_eq_true] at hf
        rcases hf with hf | hf
        · rw [Nat.testBit_two_pow] at hf
          have : y.on = x := by simpa using hf
          omega
        · have := h y.on x hyl hf; omega
theorem anc_lt (R : RegOk L k) {i x : Nat} (hi : i < L.length) (hb : ((ancs L []).getD i 0).testBit x = true) : x < i :=
  anc_lt_aux L [] [] rfl (by simpa using R.back) (by intro i x h; simp at h) i x (by simpa using hi) hb

theorem anc_done (R : RegOk L k) {D : Nat → Bool} (hD : closedD L D) {i : Nat} {o : Oper} (ho : L[i]? = some o)
    (hdeps : ∀ e ∈ o.after, binds e = true → D e.on = true) {j : Nat} (hb : ((ancs L []).getD i 0).testBit j = true) : D j = true := by
  have hi := (List.getElem?_eq_some_iff.1 ho).1
  have hc : closedD L (setD D i) := by
    intro i' o' ho' hDi' e he hbe
    by_cases hii : i' = i
    · rw [hii, ho] at ho'
      injection ho' with ho'
      rw [← ho'] at he
      simp [setD, hdeps e he hbe]
    · have : D i' = true := by simpa [setD, nbeq_ne hii] using hDi'
      simp [setD, hD i' o' ho' this e he hbe]
  have := anc_closed hc hi hb (by simp [setD])
  have hne : j ≠ i := by have := anc_lt R hi hb; omega
  simpa [setD, nbeq_ne hne] using this

/-- Operands and guard read the same in the frame of the done ones as in that of the text's order. -/
theorem env_same (R : RegOk L k) {D : Nat → Bool} (hD : closedD L D) {i : Nat} {o : Oper} (ho : L[i]? = some o) (hDi : D i = false)
    (hdeps : ∀ e ∈ o.after, binds e = true → D e.on = true) {t : Nat} (ht : t ∈ names L o) :
    envD L vals D ρ t = envD L vals (fun j => Nat.blt j i) ρ t := by
  refine envD_congr fun j hj hdj => ?_
  by_cases hji : j = i
  · rw [hji, hDi, nblt_no (Nat.lt_irrefl i)]
  · obtain ⟨o', ho'⟩ : ∃ o', L[j]? = some o' := ⟨L[j], List.getElem?_eq_getElem hj⟩
    have hd' : o'.dst = some t := by rw [dstAt_eq, ho'] at hdj; exact hdj
    rcases R.apart i o j o' ho ho' (Ne.symm hji) (clash_of hd' ht) with ⟨hlt, hb⟩ | ⟨hlt, hb⟩
    · rw [anc_done R hD ho hdeps hb, nblt.2 hlt]
    · rw [nblt_no (by omega)]
      cases hDj : D j with
      | false => rfl
      | true => rw [anc_closed hD hj hb hDj] at hDi; cases hDi

/-- The operation's effect hangs on its operands' and its guard's slots alone. -/
theorem tm_same {ρ ρ' : Env} {o : Oper} (h : ∀ t ∈ names L o, ρ t = ρ' t) (hs : okOp N o = true) : execOp (tm ρ) o = execOp (tm ρ') o := by
  refine execOp_congr o ?_ ?_
  · intro cs b he
    simp only [okOp, Bool.and_eq_true] at hs
    have := hs.2
    rw [he] at this
    cases this
  · intro x hx
    cases x with
    | tmp t =>
      show ρ t = ρ' t
      refine h t ?_
      unfold names
      rw [List.mem_append, List.mem_append]
      exact .inl (.inl (List.mem_filterMap.2 ⟨.tmp t, by simpa using hx, rfl⟩))
    | _ => rfl
theorem wanted_same {ρ ρ' : Env} {o : Oper} (h : ∀ t ∈ names L o, ρ t = ρ' t) : wantedE L ρ o = wantedE L ρ' o := by
  unfold wantedE Region.wanted
  cases hg : o.guard with
  | none => rfl
  | some g =>
    obtain ⟨j, want⟩ := g
    simp only
    have : yl L ρ j = yl L ρ' j := by
      unfold yl
      cases hd : dstAt L j with
      | none => rfl
      | some d => simp only; rw [h d (by unfold names; rw [hg]; simp [hd])]
    rw [this]

def lexD (i : Nat) : Nat → Bool := fun j => Nat.blt j i
/-- The frame in the text's order, ahead of operation 'i'. -/
def envL (L : List Oper) (vals : Nat → Value) (ρ : Env) (i : Nat) : Env := envD L vals (lexD i) ρ
theorem setD_lex (i : Nat) : setD (lexD i) i = lexD (i + 1) := by
  funext j
  unfold setD lexD
  by_cases h : j = i
  · subst h; rw [Nat.beq_refl, Bool.true_or, nblt.2 (by omega)]
  · rw [nbeq_ne h, Bool.false_or]
    by_cases hlt : j < i
    · rw [nblt.2 hlt, nblt.2 (by omega)]
    · rw [nblt_no hlt, nblt_no (by omega)]
theorem envL_zero : envL L vals ρ 0 = ρ := by
  unfold envL
  have : lexD 0 = fun _ => false := by funext j; exact nblt_no (by omega)
  rw [this]; exact envD_none _ _ _
theorem envL_succ {i : Nat} {o : Oper} (ho : L[i]? = some o) : envL L vals ρ (i + 1) = put (envL L vals ρ i) o.dst (vals i) := by
  unfold envL
  rw [← setD_lex]
  exact envD_set ho fun d _ j hj _ => nblt_no (by omega)

/-- What is asked of an operation of the part whose order is open: 'i' its place; 'ρi': the frame in the text's order. -/
def Asked (P : Program) (L : List Oper) (C : (Nat → Bool) → World → Prop) (k i : Nat) (o : Oper) (ρi : Env) (v : Value) : Prop :=
  ∀ D, closedD L D → D i = false → (∀ e ∈ o.after, binds e = true → D e.on = true) → (∀ j, k ≤ j → D j = false) → ∀ w, C D w →
    (wantedE L ρi o = true → yieldsTo P ρi o w v (C (setD D i))) ∧ (wantedE L ρi o = false → v = undef ∧ C (setD D i) w)

theorem closed_set {D : Nat → Bool} (hD : closedD L D) {i : Nat} {o : Oper} (ho : L[i]? = some o) (hdeps : ∀ e ∈ o.after, binds e = true → D e.on = true) : closedD L (setD D i) := by
  intro i' o' ho' hDi' e he hb
  by_cases hii : i' = i
  · rw [hii, ho] at ho'
    injection ho' with ho'
    rw [← ho'] at he
    simp [setD, hdeps e he hb]
  · have : D i' = true := by simpa [setD, nbeq_ne hii] using hDi'
    simp [setD, hD i' o' ho' this e he hb]

def lst (a : Array Bool) : Nat → Bool := fun j => a.getD j false
theorem lst_set {a : Array Bool} {i : Nat} (h : i < a.size) : lst (a.setIfInBounds i true) = setD (lst a) i := by
  funext j
  unfold lst setD
  by_cases hj : j = i
  · subst hj; simp [h]
  · rw [nbeq_ne hj, Bool.false_or]
    simp [Array.getElem?_setIfInBounds_ne (fun e => hj e.symm : ¬ i = j)]

theorem lst_no {a : Array Bool} {j : Nat} (h : j < a.size) (h' : a.getD j true = false) : lst a j = false := by
  unfold lst; simp [h] at h' ⊢; exact h'
theorem lst_no' {a : Array Bool} {j : Nat} (h : j < a.size) (h' : lst a j = false) : a.getD j true = false := by
  unfold lst at h'; simp [h] at h' ⊢; exact h'

/-- The last part: one behind the other. -/
theorem wpAny_serial (R : RegOk L k) {QQ : Exit → Act → World → Prop} : ∀ (n m fuel : Nat) (listed : Array Bool) (a : Act) (w : World), n = L.length - m → k ≤ m → m ≤ L.length → listed.size = L.length →
    lst listed = lexD m → L.length - m ≤ fuel → wpOps P L.toArray QQ (List.range' m n) a w → wpAny P .any L.toArray QQ fuel listed a w := by
  intro n
  induction n with
  | zero =>
    intro m fuel listed a w hn hk hm hs hl hf h
    have hnil : Region.ready .any L.toArray listed = [] := by
      rw [List.eq_nil_iff_forall_not_mem]
      intro j hj
      obtain ⟨h0, o, ho, _⟩ := mem_ready.1 hj
      have hjl : j < L.length := by simpa using (Array.getElem?_eq_some_iff.1 ho).1
      have := lst_no (by omega) h0
      rw [hl] at this
      unfold lexD at this
      rw [nblt.2 (by omega)] at this; cases this
    cases fuel with
    | zero => exact ⟨hnil, by simpa [wpOps] using h⟩
    | succ fuel => exact ⟨fun _ => by simpa [wpOps] using h, fun j hj => by rw [hnil] at hj; cases hj⟩
  | succ n ih =>
    intro m fuel listed a w hn hk hm hs hl hf h
    have hml : m < L.length := by omega
    obtain ⟨fuel, rfl⟩ : ∃ f, fuel = f + 1 := ⟨fuel - 1, by omega⟩
    have hready : ∀ j, j ∈ Region.ready .any L.toArray listed → j = m := by
      intro j hj
      obtain ⟨h0, o, ho, hall⟩ := mem_ready.1 hj
      have hjl : j < L.length := by simpa using (Array.getElem?_eq_some_iff.1 ho).1
      have h1 := lst_no (by omega) h0
      rw [hl] at h1
      have hjm : ¬ j < m := fun hlt => by unfold lexD at h1; rw [nblt.2 hlt] at h1; cases h1
      by_cases hgt : m < j
      · have hb := R.serial j hjl (by omega) m hgt
        have hcl : closedD L (lst listed) := by
          rw [hl]
          intro i' o' ho' hlt e he hb'
          have := R.back i' o' ho' e he hb'
          have := nblt.1 hlt
          exact nblt.2 (by omega)
        have ho' : L[j]? = some o := by simpa using ho
        have hd := anc_done R hcl ho' (fun e he hbe => hall e he hbe) hb
        rw [hl] at hd
        have := nblt.1 hd
        omega
      · omega
    have hmem : m ∈ Region.ready .any L.toArray listed := by
      refine mem_ready.2 ⟨lst_no' (by omega) (by rw [hl]; exact nblt_no (Nat.lt_irrefl m)), L[m], by simp [hml], fun e he hb => ?_⟩
      have := R.back m L[m] (by simp [hml]) e he hb
      have h2 : lst listed e.on = true := by rw [hl]; exact nblt.2 this
      exact h2
    refine ⟨fun h0 => (by rw [h0] at hmem; cases hmem), fun j hj => ?_⟩
    rw [hready j hj]
    rw [List.range'_succ, wpOps_cons] at h
    refine wpOp_mono (fun a' w' h' => ?_) h
    exact ih (m + 1) fuel _ a' w' (by omega) (by omega) (by omega) (by simpa using hs) (by rw [lst_set (by omega), hl, setD_lex]) (by omega) h'

theorem wpAny_any (R : RegOk L k) (hL : okOps N L = true) (hkl : k ≤ L.length) {C : (Nat → Bool) → World → Prop} {QQ : Exit → Act → World → Prop}
    (hask : ∀ i o, L[i]? = some o → i < k → Asked P L C k i o (envL L vals ρ i) (vals i))
    (hend : ∀ w, C (lexD k) w → wpOps P L.toArray QQ (List.range' k (L.length - k)) (act N (envL L vals ρ k)) w) :
    ∀ (n fuel : Nat) (listed : Array Bool) (w : World), listed.size = L.length → closedD L (lst listed) → (∀ j, k ≤ j → lst listed j = false) →
      n = ((List.range k).filter fun j => !lst listed j).length → n + (L.length - k) ≤ fuel → C (lst listed) w →
      wpAny P .any L.toArray QQ fuel listed (act N (envD L vals (lst listed) ρ)) w := by
  intro n
  induction n with
  | zero =>
    intro fuel listed w hs hcl hsuf hn hf hC
    have hall : ∀ j, j < k → lst listed j = true := by
      intro j hj
      have h0 := List.eq_nil_of_length_eq_zero hn.symm
      rw [List.filter_eq_nil_iff] at h0
      simpa using h0 j (List.mem_range.2 hj)
    have he : lst listed = lexD k := by
      funext j
      by_cases hj : j < k
      · rw [hall j hj]; exact (nblt.2 hj).symm
      · rw [hsuf j (by omega)]; exact (nblt_no hj).symm
    rw [he] at hC ⊢
    exact wpAny_serial R _ k fuel listed _ w rfl (Nat.le_refl _) hkl hs he (by omega) (hend w hC)
  | succ n ih =>
    intro fuel listed w hs hcl hsuf hn hf hC
    obtain ⟨fuel, rfl⟩ : ∃ f, fuel = f + 1 := ⟨fuel - 1, by omega⟩
    -- some place below 'k' is not done; the least such is ready
    have hex : ∃ j, j < k ∧ lst listed j = false ∧ ∀ i, i < j → lst listed i = true := by
      have h0 : ∃ j, j < k ∧ lst listed j = false := by
        have : ((List.range k).filter fun j => !lst listed j) ≠ [] := by
          intro h; rw [h] at hn; cases hn
        obtain ⟨j, hj⟩ := List.exists_mem_of_ne_nil _ this
        rw [List.mem_filter, List.mem_range] at hj
        exact ⟨j, hj.1, by simpa using hj.2⟩
      obtain ⟨j, hjk, hj⟩ := h0
      have key : ∀ j, lst listed j = false → ∃ m, m ≤ j ∧ lst listed m = false ∧ ∀ i, i < m → lst listed i = true := by
        intro j
        induction j using Nat.strongRecOn with
        | _ j ihj =>
          intro hj
          by_cases hx : ∀ i, i < j → lst listed i = true
          · exact ⟨j, Nat.le_refl _, hj, hx⟩
          · obtain ⟨i, hi⟩ := Classical.not_forall.1 hx
            obtain ⟨hij, hi'⟩ := Classical.not_imp.1 hi
            obtain ⟨m, h1, h2, h3⟩ := ihj i hij (by simpa using hi')
            exact ⟨m, by omega, h2, h3⟩
      obtain ⟨m, h1, h2, h3⟩ := key j hj
      exact ⟨m, by omega, h2, h3⟩
    obtain ⟨m, hmk, hmn, hmall⟩ := hex
    have hml : m < L.length := by omega
    have hmem : m ∈ Region.ready .any L.toArray listed := by
      refine mem_ready.2 ⟨lst_no' (by omega) hmn, L[m], by simp [hml], fun e he hb => ?_⟩
      exact hmall e.on (R.back m L[m] (by simp [hml]) e he hb)
    refine ⟨fun h0 => (by rw [h0] at hmem; cases hmem), fun i hi => ?_⟩
    obtain ⟨h0, o, ho, hdeps⟩ := mem_ready.1 hi
    have ho' : L[i]? = some o := by simpa using ho
    have hil : i < L.length := (List.getElem?_eq_some_iff.1 ho').1
    have hDi : lst listed i = false := lst_no (by omega) h0
    have hik : i < k := by
      rcases Nat.lt_or_ge i k with h | h
      · exact h
      · have := anc_done R hcl ho' (fun e he hb => hdeps e he hb) (R.serial i hil h m (by omega))
        rw [this] at hmn; cases hmn
    have hok : okOp N o = true := List.all_eq_true.1 hL o (List.mem_of_getElem? ho')
    have hsame : ∀ t ∈ names L o, envD L vals (lst listed) ρ t = envL L vals ρ i t := fun t ht => env_same R hcl ho' hDi (fun e he hb => hdeps e he hb) ht
    have hA := hask i o ho' hik (lst listed) hcl hDi (fun e he hb => hdeps e he hb) hsuf w hC
    rw [← wanted_same hsame] at hA
    have hlater : ∀ d, o.dst = some d → ∀ j, i < j → dstAt L j = some d → lst listed j = false := by
      intro d hd j hij hdj
      have hjl := dstAt_lt hdj
      have hoj : L[j]? = some L[j] := List.getElem?_eq_getElem hjl
      have hdj' : L[j].dst = some d := by rw [dstAt_eq, hoj] at hdj; exact hdj
      have hc : clash L o L[j] = true := clash_of hdj' (by unfold names; simp [hd])
      rcases R.apart i o j L[j] ho' hoj (by omega) hc with ⟨hlt, _⟩ | ⟨_, hb⟩
      · omega
      · cases hDj : lst listed j with
        | false => rfl
        | true => rw [anc_closed hcl hjl hb hDj] at hDi; cases hDi
    refine wpOp_of_yields (Kw := C (setD (lst listed) i)) hL ho' (fun hw => ?_) (fun hw => hA.2 hw) (fun w' hC' => ?_)
    · have h1 := hA.1 hw
      unfold yieldsTo at h1 ⊢
      rw [tm_same hsame hok]
      exact h1
    · rw [← envD_set ho' hlater, ← lst_set (by omega)]
      refine ih fuel _ w' (by simpa using hs) (by rw [lst_set (by omega)]; exact closed_set hcl ho' (fun e he hb => hdeps e he hb)) ?_ ?_ (by omega) (by rw [lst_set (by omega)]; exact hC')
      · intro j hj
        rw [lst_set (by omega)]
        have : j ≠ i := by omega
        simp [setD, nbeq_ne this, hsuf j hj]
      · rw [lst_set (by omega)]
        have key : ∀ k, i < k → ((List.range k).filter fun j => !lst listed j).length = ((List.range k).filter fun j => !setD (lst listed) i j).length + 1 := by
          intro k
          induction k with
          | zero => intro h; omega
          | succ k ihk =>
            intro h
            rw [List.range_succ, List.filter_append, List.filter_append, List.length_append, List.length_append]
            by_cases hik : i = k
            · subst hik
              have e1 : ((List.range i).filter fun j => !setD (lst listed) i j) = (List.range i).filter fun j => !lst listed j := by
                refine List.filter_congr fun j hj => ?_
                have : j ≠ i := by have := List.mem_range.1 hj; omega
                simp [setD, nbeq_ne this]
              rw [e1]
              simp [hDi, setD]
            · rw [ihk (by omega)]
              have : k ≠ i := fun e => hik e.symm
              have e2 : ([k].filter fun j => !setD (lst listed) i j) = [k].filter fun j => !lst listed j := by
                refine List.filter_congr fun j hj => ?_
                have : j ≠ i := by have := List.mem_singleton.1 hj; omega
                simp [setD, nbeq_ne this]
              rw [e2]
              omega
        have := key k hik
        omega

/-! ### The rules for use -/
/-- A class of worlds for each stage: before and behind the operation 'm' (the one writer among those whose order is open; 'm' at least as great as the region: there is none). -/
def stage (C0 C1 : World → Prop) (m : Nat) (D : Nat → Bool) (w : World) : Prop := bif D m then C1 w else C0 w

/-- The walk in the text's order over the first operations; 'i': the next one's place, 'j' : how many are left of them. -/
def VA (P : Program) (L : List Oper) (A : List Nat) (C0 C1 : World → Prop) (m : Nat) : (j i : Nat) → List Oper → (ρ : Env) → (K : Env → Prop) → Prop
  | 0, _, _, ρ, K => K ρ
  | _ + 1, _, [], _, _ => False
  | j + 1, i, o :: l, ρ, K =>
    (wantedE L ρ o = true → ∃ v,
      (bif Nat.beq i m then ∀ w, C0 w → yieldsTo P ρ o w v C1
       else ((bif (A.getD i 0).testBit m then True else ∀ w, C0 w → yieldsTo P ρ o w v C0) ∧ (bif (A.getD m 0).testBit i then True else ∀ w, C1 w → yieldsTo P ρ o w v C1))) ∧
      VA P L A C0 C1 m j (i + 1) l (put ρ o.dst v) K) ∧
    (wantedE L ρ o = false → (bif Nat.beq i m then ∀ w, C0 w → C1 w else True) ∧ VA P L A C0 C1 m j (i + 1) l (put ρ o.dst undef) K)

def ch : Env → List Oper → List Value → Nat → Env
  | ρ, o :: l, v :: vs, x + 1 => ch (put ρ o.dst v) l vs x
  | ρ, _, _, _ => ρ
theorem ch_succ (l : List Oper) : ∀ (ρ : Env) (vs : List Value) (x : Nat) (o : Oper) (v : Value), l[x]? = some o → vs[x]? = some v → ch ρ l vs (x + 1) = put (ch ρ l vs x) o.dst v := by
  induction l with
  | nil => intro ρ vs x o v h; simp at h
  | cons o l ih =>
    intro ρ vs x o' v h hv
    cases vs with
    | nil => simp at hv
    | cons v' vs =>
      cases x with
      | zero =>
        simp at h hv
        subst h; subst hv
        cases l <;> cases vs <;> rfl
      | succ x =>
        have := ih (put ρ o.dst v') vs x o' v (by simpa using h) (by simpa using hv)
        show ch (put ρ o.dst v') l vs (x + 1) = put (ch (put ρ o.dst v') l vs x) o'.dst v
        exact this
theorem ch_zero (ρ : Env) (l : List Oper) (vs : List Value) : ch ρ l vs 0 = ρ := by cases l <;> cases vs <;> rfl

def Ob (P : Program) (L : List Oper) (C0 C1 : World → Prop) (m i : Nat) (o : Oper) (ρ : Env) (v : Value) : Prop :=
  (wantedE L ρ o = true →
      (bif Nat.beq i m then ∀ w, C0 w → yieldsTo P ρ o w v C1
       else ((bif ((ancs L []).getD i 0).testBit m then True else ∀ w, C0 w → yieldsTo P ρ o w v C0) ∧ (bif ((ancs L []).getD m 0).testBit i then True else ∀ w, C1 w → yieldsTo P ρ o w v C1)))) ∧
    (wantedE L ρ o = false → v = undef ∧ (bif Nat.beq i m then ∀ w, C0 w → C1 w else True))

theorem VA_spec {C0 C1 : World → Prop} {m : Nat} : ∀ (j i : Nat) (l : List Oper) (ρ : Env) (K : Env → Prop), VA P L (ancs L []) C0 C1 m j i l ρ K →
    ∃ vs : List Value, vs.length = j ∧ j ≤ l.length ∧ (∀ x o, x < j → l[x]? = some o → Ob P L C0 C1 m (i + x) o (ch ρ l vs x) (vs.getD x undef)) ∧ K (ch ρ l vs j) := by
  intro j
  induction j with
  | zero => intro i l ρ K h; exact ⟨[], rfl, by omega, by intro x o hx; omega, by rw [ch_zero]; exact h⟩
  | succ j ih =>
    intro i l ρ K h
    cases l with
    | nil => exact h.elim
    | cons o l =>
      have hv : ∃ v, Ob P L C0 C1 m i o ρ v ∧ VA P L (ancs L []) C0 C1 m j (i + 1) l (put ρ o.dst v) K := by
        cases hw : wantedE L ρ o with
        | true =>
          obtain ⟨v, h1, h2⟩ := h.1 hw
          exact ⟨v, ⟨fun _ => h1, fun h => (by rw [hw] at h; cases h)⟩, h2⟩
        | false =>
          obtain ⟨h1, h2⟩ := h.2 hw
          exact ⟨undef, ⟨fun h => (by rw [hw] at h; cases h), fun _ => ⟨rfl, h1⟩⟩, h2⟩
      obtain ⟨v, hob, hva⟩ := hv
      obtain ⟨vs, hl, hll, hobs, hK⟩ := ih (i + 1) l _ K hva
      refine ⟨v :: vs, by simp [hl], by simp; omega, ?_, hK⟩
      intro x o' hx ho'
      cases x with
      | zero => simp at ho'; subst ho'; rw [ch_zero]; exact hob
      | succ x =>
        have := hobs x o' (by omega) (by simpa using ho')
        rw [show i + (x + 1) = i + 1 + x from by omega]
        exact this

theorem V.regionA {id : Nat} {w : World} (hm : P.follows .mixedOrders = true) (k m : Nat) (hr : regOk L k = true) (C0 C1 : World → Prop)
    (h0 : C0 { w with drawn := w.drawn + 1 })
    (h : VA P L (ancs L []) C0 C1 m k 0 L ρ fun ρ' => ∀ w', (bif Nat.blt m k then C1 w' else C0 w') → VL P N L Q (L.drop k) ρ' w') :
    V P N (.region id L.toArray true) Q ρ w := by
  refine ⟨fun ok => ?_⟩
  have okL : okOps N L = true := by simpa [okCode] using ok
  have R := regOk_spec hr
  obtain ⟨vs, hl, hll, hobs, hK⟩ := VA_spec k 0 L ρ _ h
  let vals : Nat → Value := fun x => vs.getD x undef
  have henv : ∀ x, x ≤ k → envL L vals ρ x = ch ρ L vs x := by
    intro x
    induction x with
    | zero => intro _; rw [envL_zero, ch_zero]
    | succ x ih =>
      intro hx
      have ho : L[x]? = some L[x] := List.getElem?_eq_getElem (by omega)
      rw [envL_succ ho, ih (by omega), ch_succ L ρ vs x L[x] (vs.getD x undef) ho (by simp [List.getD, List.getElem?_eq_getElem (by omega : x < vs.length)])]
  refine wp_region_any hm ?_
  have start := wpAny_any (P := P) (N := N) (vals := vals) (ρ := ρ) R okL hll (C := stage C0 C1 m) (QQ := lift N Q) ?_ ?_ k L.toArray.size (Array.replicate L.toArray.size false) { w with drawn := w.drawn + 1 } (by simp) ?_ ?_ ?_ (by simp; omega) ?_
  · have e : lst (Array.replicate L.toArray.size false) = fun _ => false := by
      funext j; unfold lst; simp [Array.getElem?_replicate]; split <;> rfl
    rw [e, envD_none] at start
    exact start
  · intro i o ho hik D hcl hDi hdeps hsuf w' hC
    have hob := hobs i o hik ho
    rw [Nat.zero_add, ← henv i (by omega)] at hob
    have hil : i < L.length := (List.getElem?_eq_some_iff.1 ho).1
    constructor
    · intro hw
      have h1 := hob.1 hw
      by_cases him : i = m
      · subst him
        rw [Nat.beq_refl, cond_true] at h1
        have hC' : C0 w' := by unfold stage at hC; rw [hDi] at hC; exact hC
        have := h1 w' hC'
        have e : stage C0 C1 i (setD D i) = C1 := by funext w; unfold stage setD; simp
        rw [e]; exact this
      · rw [nbeq_ne him, cond_false] at h1
        have e : ∀ w, stage C0 C1 m (setD D i) w = bif D m then C1 w else C0 w := by
          intro w; unfold stage setD; rw [nbeq_ne (fun e => him e.symm), Bool.false_or]
        cases hDm : D m with
        | true =>
          have hC' : C1 w' := by unfold stage at hC; rw [hDm] at hC; exact hC
          have hml : m < L.length := by
            rcases Nat.lt_or_ge m k with h | h
            · omega
            · rw [hsuf m h] at hDm; cases hDm
          have hb : ((ancs L []).getD m 0).testBit i = false := by
            cases hb : ((ancs L []).getD m 0).testBit i with
            | false => rfl
            | true => rw [anc_closed hcl hml hb hDm] at hDi; cases hDi
          have h2 := h1.2
          rw [hb, cond_false] at h2
          have e' : stage C0 C1 m (setD D i) = C1 := by funext w; rw [e w, hDm]; rfl
          rw [e']; exact h2 w' hC'
        | false =>
          have hC' : C0 w' := by unfold stage at hC; rw [hDm] at hC; exact hC
          have hb : ((ancs L []).getD i 0).testBit m = false := by
            cases hb : ((ancs L []).getD i 0).testBit m with
            | false => rfl
            | true => rw [anc_done R hcl ho hdeps hb] at hDm; cases hDm
          have h2 := h1.1
          rw [hb, cond_false] at h2
          have e' : stage C0 C1 m (setD D i) = C0 := by funext w; rw [e w, hDm]; rfl
          rw [e']; exact h2 w' hC'
    · intro hw
      obtain ⟨h1, h2⟩ := hob.2 hw
      refine ⟨h1, ?_⟩
      by_cases him : i = m
      · subst him
        rw [Nat.beq_refl, cond_true] at h2
        have hC' : C0 w' := by unfold stage at hC; rw [hDi] at hC; exact hC
        have e : stage C0 C1 i (setD D i) = C1 := by funext w; unfold stage setD; simp
        rw [e]; exact h2 w' hC'
      · have e : stage C0 C1 m (setD D i) w' = stage C0 C1 m D w' := by
          unfold stage setD; rw [nbeq_ne (fun e => him e.symm), Bool.false_or]
        rw [e]; exact hC
  · intro w' hC
    have hC' : bif Nat.blt m k then C1 w' else C0 w' := hC
    have hv := hK w' hC'
    rw [← henv k (Nat.le_refl _)] at hv
    have hdrop : okOps N (L.drop k) = true := by
      unfold okOps at *
      rw [List.all_eq_true] at *
      exact fun o ho => okL o (List.mem_of_mem_drop ho)
    have := wpList_mono (lift_mono fun _ _ _ h => h.1) _ _ _ (hv.go okL hdrop)
    rw [← wpOps_eq_wpList (L.drop k) k (by intro j; simp)] at this
    simpa using this
  · intro i o _ hi
    unfold lst at hi
    simp [Array.getElem?_replicate] at hi
    split at hi <;> cases hi
  · intro j _; unfold lst; simp [Array.getElem?_replicate]; split <;> rfl
  · have : ((List.range k).filter fun j => !lst (Array.replicate L.toArray.size false) j) = List.range k := by
      rw [List.filter_eq_self]
      intro j _; unfold lst; simp [Array.getElem?_replicate]; split <;> rfl
    rw [this, List.length_range]
  · have e : lst (Array.replicate L.toArray.size false) = fun _ => false := by
      funext j; unfold lst; simp [Array.getElem?_replicate]; split <;> rfl
    rw [e]; exact h0

/-! ### No writer among those whose order is open -/
/-- The walk in the text's order over the first 'j' operations; each yields one value in every world of the class 'C', and leaves a world of the class. -/
structure VQ (P : Program) (L : List Oper) (C : World → Prop) (j : Nat) (l : List Oper) (ρ : Env) (K : Env → Prop) : Prop where
  go : ∀ (i : Nat), j + i < L.length + 1 → VA P L (ancs L []) C (fun _ => False) (j + i) j i l ρ K

theorem VQ.nil {C : World → Prop} {K : Env → Prop} {l : List Oper} (h : K ρ) : VQ P L C 0 l ρ K := ⟨fun _ _ => h⟩

theorem ancs_out (L : List Oper) (m : Nat) (h : L.length ≤ m) (i : Nat) : ((ancs L []).getD m 0).testBit i = false := by
  have : (ancs L []).length = L.length := by rw [ancs_length]; simp
  rw [List.getD, List.getElem?_eq_none (by omega)]; simp

theorem VQ.step {C : World → Prop} {K : Env → Prop} {j : Nat} {o : Oper} {l : List Oper}
    (h : (wantedE L ρ o = true → ∃ v, (∀ w, C w → yieldsTo P ρ o w v C) ∧ VQ P L C j l (put ρ o.dst v) K) ∧ (wantedE L ρ o = false → VQ P L C j l (put ρ o.dst undef) K)) :
    VQ P L C (j + 1) (o :: l) ρ K := by
  refine ⟨fun i hi => ⟨fun hw => ?_, fun hw => ?_⟩⟩
  · obtain ⟨v, h1, h2⟩ := h.1 hw
    refine ⟨v, ?_, ?_⟩
    · rw [nbeq_ne (by omega : i ≠ j + 1 + i), cond_false]
      refine ⟨?_, ?_⟩
      · cases ((ancs L []).getD i 0).testBit (j + 1 + i) with
        | true => exact trivial
        | false => exact h1
      · cases ((ancs L []).getD (j + 1 + i) 0).testBit i with
        | true => exact trivial
        | false => exact fun _ h => h.elim
    · have := h2.go (i + 1) (by omega)
      rw [show j + 1 + i = j + (i + 1) from by omega]; exact this
  · refine ⟨?_, ?_⟩
    · rw [nbeq_ne (by omega : i ≠ j + 1 + i), cond_false]; exact trivial
    · have := (h.2 hw).go (i + 1) (by omega)
      rw [show j + 1 + i = j + (i + 1) from by omega]; exact this

theorem V.regionQ {id : Nat} {w : World} (hm : P.follows .mixedOrders = true) (k : Nat) (hr : regOk L k = true) (hk : Nat.ble k L.length = true) (C : World → Prop)
    (h0 : C { w with drawn := w.drawn + 1 })
    (h : VQ P L C k L ρ fun ρ' => ∀ w', C w' → VL P N L Q (L.drop k) ρ' w') :
    V P N (.region id L.toArray true) Q ρ w := by
  have hk' : k ≤ L.length := Nat.le_of_ble_eq_true hk
  refine V.regionA hm k k hr C (fun _ => False) h0 ?_
  have := h.go 0 (by omega)
  rw [Nat.add_zero] at this
  have e : Nat.blt k k = false := nblt_no (Nat.lt_irrefl k)
  rw [e]
  exact this

section
variable {C : World → Prop} {K : Env → Prop} {j : Nat} {l : List Oper} {d : Nat} {q : Op} {ty : TypeId} {p : String} {af : Array Edge} {v : Value}
theorem VQ.op (hr : ∀ w, C w → run1 P ρ q ty w = .ok (.value v) w) (h : VQ P L C j l (upd ρ d v) K) :
    VQ P L C (j + 1) ({ dst := some d, op := q, type := ty, pos := p, after := af, guard := none } :: l) ρ K :=
  VQ.step ⟨fun _ => ⟨v, fun w hw => by unfold yieldsTo; rw [run1_eq, hr w hw]; exact ⟨rfl, hw⟩, h⟩, fun hw => by simp [wantedE, Region.wanted] at hw⟩
/-- An operation that makes something new, but whose value is one. -/
theorem VQ.op' (hr : ∀ w, C w → ∃ w', run1 P ρ q ty w = .ok (.value v) w' ∧ C w') (h : VQ P L C j l (upd ρ d v) K) :
    VQ P L C (j + 1) ({ dst := some d, op := q, type := ty, pos := p, after := af, guard := none } :: l) ρ K :=
  VQ.step ⟨fun _ => ⟨v, fun w hw => by obtain ⟨w', h1, h2⟩ := hr w hw; unfold yieldsTo; rw [run1_eq, h1]; exact ⟨rfl, h2⟩, h⟩, fun hw => by simp [wantedE, Region.wanted] at hw⟩
theorem VQ.enter {f : FuncId} {args : Array Value} (hr : ∀ w, run1 P ρ q ty w = .ok (.enter f args) w) (hc : ∀ w, C w → Rets P f args w fun u w' => u = v ∧ C w')
    (h : VQ P L C j l (upd ρ d v) K) :
    VQ P L C (j + 1) ({ dst := some d, op := q, type := ty, pos := p, after := af, guard := none } :: l) ρ K :=
  VQ.step ⟨fun _ => ⟨v, fun w hw => by unfold yieldsTo; rw [run1_eq, hr w]; exact hc w hw, h⟩, fun hw => by simp [wantedE, Region.wanted] at hw⟩

theorem VQ.guard {i dj : Nat} {want t : Bool} {d : Option Tmp} (hd : dstAt L i = some dj) (ht : tm ρ (.tmp dj) = .bool t)
    (h1 : t = want → VQ P L C (j + 1) ({ dst := d, op := q, type := ty, pos := p, after := af, guard := none } :: l) (upd ρ dj (.bool want)) K)
    (h2 : t = !want → VQ P L C j l (put (upd ρ dj (.bool !want)) d undef) K) :
    VQ P L C (j + 1) ({ dst := d, op := q, type := ty, pos := p, after := af, guard := some (i, want) } :: l) ρ K := by
  have hy : yl L ρ i = some t := by
    unfold yl; rw [hd]
    have ht : ρ dj = .bool t := ht
    simp only [ht]
  by_cases htw : t = want
  · subst htw
    have h := h1 rfl
    rw [upd_eq ht] at h
    refine ⟨fun x hx => ?_⟩
    have h' := h.go x hx
    refine ⟨fun _ => ?_, fun hw => ?_⟩
    · exact h'.1 (by simp [wantedE, Region.wanted])
    · simp [wantedE, Region.wanted, hy] at hw
  · have htw' : t = !want := by cases t <;> cases want <;> simp_all
    subst htw'
    have h := h2 rfl
    rw [upd_eq ht] at h
    exact VQ.step ⟨fun hw => by simp [wantedE, Region.wanted, hy] at hw, fun _ => h⟩
theorem VQ.gT {i dj : Nat} {want : Bool} {d : Option Tmp} (hd : dstAt L i = some dj) (ht : tm ρ (.tmp dj) = .bool want)
    (h1 : VQ P L C (j + 1) ({ dst := d, op := q, type := ty, pos := p, after := af, guard := none } :: l) ρ K) :
    VQ P L C (j + 1) ({ dst := d, op := q, type := ty, pos := p, after := af, guard := some (i, want) } :: l) ρ K := by
  refine VQ.guard hd ht (fun _ => ?_) (fun h => by cases want <;> cases h)
  rw [upd_eq ht]; exact h1
theorem VQ.gF {i dj d : Nat} {want : Bool} (hd : dstAt L i = some dj) (ht : tm ρ (.tmp dj) = .bool (!want)) (h2 : VQ P L C j l (upd ρ d undef) K) :
    VQ P L C (j + 1) ({ dst := some d, op := q, type := ty, pos := p, after := af, guard := some (i, want) } :: l) ρ K := by
  refine VQ.guard hd ht (fun h => by cases want <;> cases h) (fun _ => ?_)
  rw [upd_eq ht]; exact h2
theorem VQ.gU {i dj d : Nat} {want : Bool} (hd : dstAt L i = some dj) (ht : tm ρ (.tmp dj) = undef) (h2 : VQ P L C j l (upd ρ d undef) K) :
    VQ P L C (j + 1) ({ dst := some d, op := q, type := ty, pos := p, after := af, guard := some (i, want) } :: l) ρ K := by
  have hy : yl L ρ i = none := by
    unfold yl; rw [hd]
    have ht : ρ dj = undef := ht
    simp only [ht]; rfl
  exact VQ.step ⟨fun hw => by simp [wantedE, Region.wanted, hy] at hw, fun _ => h2⟩
theorem VQ.and {i dj d : Nat} {t : Bool} (hd : dstAt L i = some dj) (ht : tm ρ (.tmp dj) = .bool t)
    (h1 : t = true → VQ P L C (j + 1) ({ dst := some d, op := q, type := ty, pos := p, after := af, guard := none } :: l) (upd ρ dj (.bool true)) K)
    (h2 : t = false → VQ P L C j l (upd (upd ρ dj (.bool false)) d undef) K) :
    VQ P L C (j + 1) ({ dst := some d, op := q, type := ty, pos := p, after := af, guard := some (i, true) } :: l) ρ K := VQ.guard hd ht h1 h2
theorem VQ.or {i dj d : Nat} {t : Bool} (hd : dstAt L i = some dj) (ht : tm ρ (.tmp dj) = .bool t)
    (h1 : t = false → VQ P L C (j + 1) ({ dst := some d, op := q, type := ty, pos := p, after := af, guard := none } :: l) (upd ρ dj (.bool false)) K)
    (h2 : t = true → VQ P L C j l (upd (upd ρ dj (.bool true)) d undef) K) :
    VQ P L C (j + 1) ({ dst := some d, op := q, type := ty, pos := p, after := af, guard := some (i, false) } :: l) ρ K := VQ.guard hd ht h1 h2
theorem VQ.andP {i dj d : Nat} {pp : Prop} [Decidable pp] (hd : dstAt L i = some dj) (ht : tm ρ (.tmp dj) = .bool (decide pp))
    (h1 : pp → VQ P L C (j + 1) ({ dst := some d, op := q, type := ty, pos := p, after := af, guard := none } :: l) (upd ρ dj (.bool true)) K)
    (h2 : ¬ pp → VQ P L C j l (upd (upd ρ dj (.bool false)) d undef) K) :
    VQ P L C (j + 1) ({ dst := some d, op := q, type := ty, pos := p, after := af, guard := some (i, true) } :: l) ρ K :=
  VQ.and hd ht (fun h => h1 (of_decide_eq_true h)) (fun h => h2 (of_decide_eq_false h))
theorem VQ.orP {i dj d : Nat} {pp : Prop} [Decidable pp] (hd : dstAt L i = some dj) (ht : tm ρ (.tmp dj) = .bool (decide pp))
    (h1 : ¬ pp → VQ P L C (j + 1) ({ dst := some d, op := q, type := ty, pos := p, after := af, guard := none } :: l) (upd ρ dj (.bool false)) K)
    (h2 : pp → VQ P L C j l (upd (upd ρ dj (.bool true)) d undef) K) :
    VQ P L C (j + 1) ({ dst := some d, op := q, type := ty, pos := p, after := af, guard := some (i, false) } :: l) ρ K :=
  VQ.or hd ht (fun h => h1 (of_decide_eq_false h)) (fun h => h2 (of_decide_eq_true h))
end

/-! ### With one writer -/
structure VW (P : Program) (L : List Oper) (C0 C1 : World → Prop) (m j i : Nat) (l : List Oper) (ρ : Env) (K : Env → Prop) : Prop where
  go : VA P L (ancs L []) C0 C1 m j i l ρ K

theorem V.regionW {id : Nat} {w : World} (hm : P.follows .mixedOrders = true) (k m : Nat) (hr : regOk L k = true) (hmk : Nat.blt m k = true) (C0 C1 : World → Prop)
    (h0 : C0 { w with drawn := w.drawn + 1 })
    (h : VW P L C0 C1 m k 0 L ρ fun ρ' => ∀ w', C1 w' → VL P N L Q (L.drop k) ρ' w') :
    V P N (.region id L.toArray true) Q ρ w := by
  refine V.regionA hm k m hr C0 C1 h0 ?_
  rw [hmk]
  exact h.go
section
variable {C0 C1 : World → Prop} {m i : Nat} {K : Env → Prop} {j : Nat} {l : List Oper} {d : Nat} {q : Op} {ty : TypeId} {p : String} {af : Array Edge} {v : Value}
theorem VW.nil (h : K ρ) : VW P L C0 C1 m 0 i l ρ K := ⟨h⟩
theorem VW.mk' {o : Oper} (hg : o.guard = none) (hi : Nat.beq i m = false) (h0 : ∀ w, C0 w → yieldsTo P ρ o w v C0)
    (h1 : ((ancs L []).getD m 0).testBit i = true ∨ ∀ w, C1 w → yieldsTo P ρ o w v C1) (h : VW P L C0 C1 m j (i + 1) l (put ρ o.dst v) K) : VW P L C0 C1 m (j + 1) i (o :: l) ρ K := by
  refine ⟨⟨fun _ => ⟨v, ?_, h.go⟩, fun hw => by simp [wantedE, Region.wanted, hg] at hw⟩⟩
  rw [hi, cond_false]
  refine ⟨?_, ?_⟩
  · cases ((ancs L []).getD i 0).testBit m with
    | true => exact trivial
    | false => exact h0
  · rcases h1 with h1 | h1
    · rw [h1]; exact trivial
    · cases ((ancs L []).getD m 0).testBit i with
      | true => exact trivial
      | false => exact h1
/-- Before or behind the writer. -/
theorem VW.op (hr : ∀ w, C0 w ∨ C1 w → run1 P ρ q ty w = .ok (.value v) w) (h : VW P L C0 C1 m j (i + 1) l (upd ρ d v) K) (hi : Nat.beq i m = false := by rfl) :
    VW P L C0 C1 m (j + 1) i ({ dst := some d, op := q, type := ty, pos := p, after := af, guard := none } :: l) ρ K :=
  VW.mk' rfl hi (fun w hw => by unfold yieldsTo; rw [run1_eq, hr w (.inl hw)]; exact ⟨rfl, hw⟩) (.inr fun w hw => by unfold yieldsTo; rw [run1_eq, hr w (.inr hw)]; exact ⟨rfl, hw⟩) h
/-- Before the writer alone. -/
theorem VW.op0 (hr : ∀ w, C0 w → run1 P ρ q ty w = .ok (.value v) w) (h : VW P L C0 C1 m j (i + 1) l (upd ρ d v) K) (hi : Nat.beq i m = false := by rfl) (hb : ((ancs L []).getD m 0).testBit i = true := by kernel_rfl) :
    VW P L C0 C1 m (j + 1) i ({ dst := some d, op := q, type := ty, pos := p, after := af, guard := none } :: l) ρ K :=
  VW.mk' rfl hi (fun w hw => by unfold yieldsTo; rw [run1_eq, hr w hw]; exact ⟨rfl, hw⟩) (.inl hb) h
/-- The writer. -/
theorem VW.wr (hr : ∀ w, C0 w → ∃ w', run1 P ρ q ty w = .ok (.value v) w' ∧ C1 w') (h : VW P L C0 C1 m j (i + 1) l (upd ρ d v) K) (hi : Nat.beq i m = true := by rfl) :
    VW P L C0 C1 m (j + 1) i ({ dst := some d, op := q, type := ty, pos := p, after := af, guard := none } :: l) ρ K := by
  refine ⟨⟨fun _ => ⟨v, ?_, h.go⟩, fun hw => by simp [wantedE, Region.wanted] at hw⟩⟩
  rw [hi, cond_true]
  intro w hw
  obtain ⟨w', h1, h2⟩ := hr w hw
  unfold yieldsTo; rw [run1_eq, h1]; exact ⟨rfl, h2⟩
end
end

section
variable {P : Program} {N : Nat} {L : List Oper} {Q : Exit → Env → World → Prop} {ρ : Env}
theorem VA_frame {A : List Nat} {C0 C1 : World → Prop} {m : Nat} : ∀ (j i : Nat) (l : List Oper) (ρ : Env) (K : Env → Prop), VA P L A C0 C1 m j i l ρ K → VA P L A C0 C1 m j i l ρ fun ρ' => K ρ' ∧ Agree l ρ ρ' := by
  intro j
  induction j with
  | zero => intro i l ρ K h; exact ⟨h, Agree.refl _ _⟩
  | succ j ih =>
    intro i l ρ K h
    cases l with
    | nil => exact h.elim
    | cons o l =>
      have mono : ∀ (j i : Nat) (l : List Oper) (ρ : Env) (K K' : Env → Prop), (∀ ρ, K ρ → K' ρ) → VA P L A C0 C1 m j i l ρ K → VA P L A C0 C1 m j i l ρ K' := by
        intro j
        induction j with
        | zero => intro i l ρ K K' hk h; exact hk _ h
        | succ j ih =>
          intro i l ρ K K' hk h
          cases l with
          | nil => exact h
          | cons o l =>
            refine ⟨fun hw => ?_, fun hw => ?_⟩
            · obtain ⟨v, h1, h2⟩ := h.1 hw; exact ⟨v, h1, ih _ _ _ _ _ hk h2⟩
            · obtain ⟨h1, h2⟩ := h.2 hw; exact ⟨h1, ih _ _ _ _ _ hk h2⟩
      refine ⟨fun hw => ?_, fun hw => ?_⟩
      · obtain ⟨v, h1, h2⟩ := h.1 hw
        exact ⟨v, h1, mono _ _ _ _ _ _ (fun ρ' hh => ⟨hh.1, Agree.cons hh.2⟩) (ih _ _ _ _ h2)⟩
      · obtain ⟨h1, h2⟩ := h.2 hw
        exact ⟨h1, mono _ _ _ _ _ _ (fun ρ' hh => ⟨hh.1, Agree.cons hh.2⟩) (ih _ _ _ _ h2)⟩
theorem VQ.frame {C : World → Prop} {j : Nat} {l : List Oper} {K : Env → Prop} (h : VQ P L C j l ρ K) : VQ P L C j l ρ fun ρ' => K ρ' ∧ Agree l ρ ρ' :=
  ⟨fun i hi => VA_frame _ _ _ _ _ (h.go i hi)⟩

/-- A region that only reads, its order open: its end, with what it wrote forgotten but for one slot. -/
theorem V.regionQCut {id : Nat} {w : World} (hm : P.follows .mixedOrders = true) (k : Nat) (hr : regOk L k = true) (hk : Nat.beq k L.length = true) (C : World → Prop)
    (h0 : C { w with drawn := w.drawn + 1 }) (W : List Nat) (d : Nat) (v : Value) (hW : dstsIn W L = true)
    (h1 : VQ P L C k L ρ fun ρ' => tm ρ' (.tmp d) = v) (h2 : ∀ ρg w', C w' → Q .normal (upd (scr W ρg ρ) d v) w') :
    V P N (.region id L.toArray true) Q ρ w := by
  have hk' : k = L.length := Nat.eq_of_beq_eq_true hk
  refine V.regionQ hm k hr (by rw [hk']; exact Nat.ble_self_eq_true _) C h0 ?_
  have h := h1.frame
  refine ⟨fun i hi => ?_⟩
  have mono : ∀ (A : List Nat) (C0 C1 : World → Prop) (m j i : Nat) (l : List Oper) (ρ : Env) (K K' : Env → Prop), (∀ ρ, K ρ → K' ρ) → VA P L A C0 C1 m j i l ρ K → VA P L A C0 C1 m j i l ρ K' := by
    intro A C0 C1 m j
    induction j with
    | zero => intro i l ρ K K' hk h; exact hk _ h
    | succ j ih =>
      intro i l ρ K K' hk h
      cases l with
      | nil => exact h
      | cons o l =>
        refine ⟨fun hw => ?_, fun hw => ?_⟩
        · obtain ⟨v, h1, h2⟩ := h.1 hw; exact ⟨v, h1, ih _ _ _ _ _ hk h2⟩
        · obtain ⟨h1, h2⟩ := h.2 hw; exact ⟨h1, ih _ _ _ _ _ hk h2⟩
  refine mono _ _ _ _ _ _ _ _ _ _ ?_ (h.go i hi)
  rintro ρ' ⟨hd, ha⟩ w' hC
  have e : L.drop k = [] := by rw [hk']; simp
  rw [e]
  refine VL.nil ?_
  have hd : ρ' d = v := hd
  have := h2 ρ' w' hC
  rw [← ha.scr hW, upd_eq hd] at this
  exact this
end
end Go.Vc
