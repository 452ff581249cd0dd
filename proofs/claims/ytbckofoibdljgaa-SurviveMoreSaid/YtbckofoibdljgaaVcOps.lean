/- Own library: rules for lists of operations, and what single operations yield. -/
import Derived.Test.YtbckofoibdljgaaVc
namespace Go.Vc

/-- What an operation does in the frame 'ρ'. -/
def run1 (P : Program) (ρ : Env) (op : Op) (ty : TypeId) (w : World) : Result Next :=
  (execOp (tm ρ) { dst := none, op := op, type := ty, pos := "", after := #[], guard := none }).run P w

theorem run1_eq {P : Program} {ρ : Env} {d : Option Tmp} {op : Op} {ty : TypeId} {p : String} {af : Array Edge} {g : Option (Nat × Bool)} {w : World} :
    (execOp (tm ρ) { dst := d, op := op, type := ty, pos := p, after := af, guard := g }).run P w = run1 P ρ op ty w := rfl

/-- The call of a Go function, in the form that is used here: it returns. -/
def Rets (P : Program) (f : FuncId) (args : Array Value) (w : World) (R : Value → World → Prop) : Prop :=
  Calls P f args w fun e w' => ∃ v, e = .returned v ∧ R v w'
theorem Rets.mono {P : Program} {f : FuncId} {args : Array Value} {w : World} {R R' : Value → World → Prop} (h : Rets P f args w R) (hr : ∀ v w', R v w' → R' v w') : Rets P f args w R' :=
  Calls.mono h fun _ _ ⟨v, he, hR⟩ => ⟨v, he, hr _ _ hR⟩

theorem upon_mono {P : Program} {o : Oper} {a : Act} {K K' : Act → World → Prop} {Q Q' : Exit → Act → World → Prop} (hK : ∀ a w, K a w → K' a w) (hQ : ∀ e a w, Q e a w → Q' e a w) {r : Result Next}
    (h : Oper.upon P o a K Q r) : Oper.upon P o a K' Q' r := by
  cases r with
  | ok n w' =>
    cases n <;> simp only [Oper.upon] at h ⊢ <;>
      first
        | exact hK _ _ h
        | exact Calls.mono h (fun e w'' he => by cases e <;> first | exact hK _ _ he | exact hQ _ _ _ he | (obtain ⟨x, y, hxy⟩ := he; exact ⟨x, y, hQ _ _ _ hxy⟩))
        | exact Rows.mono h (fun _ _ he => hK _ _ he)
  | halt x w' => cases x <;> simp only [Oper.upon] at h ⊢ <;> exact hQ _ _ _ h

theorem wpList_mono {P : Program} {ops : Array Oper} {Q Q' : Exit → Act → World → Prop} (hQ : ∀ e a w, Q e a w → Q' e a w) : ∀ (l : List Oper) (a : Act) (w : World), wpList P ops Q l a w → wpList P ops Q' l a w := by
  intro l
  induction l with
  | nil => intro a w h; exact hQ _ _ _ h
  | cons o l ih =>
    intro a w h
    unfold wpList at h ⊢
    split at h
    · rename_i hw; rw [if_pos hw]
      rcases h with h | ⟨h1, a', w', h2⟩
      · left; unfold Oper.wp at h ⊢; exact upon_mono ih hQ h
      · right; exact ⟨h1, a', w', hQ _ _ _ h2⟩
    · rename_i hw; rw [if_neg hw]; exact ih _ _ h

theorem lift_mono {N : Nat} {Q Q' : Exit → Env → World → Prop} (h : ∀ e ρ w, Q e ρ w → Q' e ρ w) : ∀ e a w, lift N Q e a w → lift N Q' e a w :=
  fun _ _ _ ⟨ρ, ha, hq⟩ => ⟨ρ, ha, h _ _ _ hq⟩

section ops
variable {P : Program} {N : Nat} {L : List Oper} {Q : Exit → Env → World → Prop} {rest : List Oper} {ρ : Env} {w w' : World}
  {d : Nat} {q : Op} {ty : TypeId} {p : String} {af : Array Edge} {v : Value}

theorem VL.nil (h : Q .normal ρ w) : VL P N L Q [] ρ w := ⟨fun _ _ => wpList_nil ⟨ρ, rfl, h, Agree.refl _ _⟩⟩

theorem V.region {id : Nat} {L : List Oper} (h : VL P N L Q L ρ w) : V P N (.region id L.toArray false) Q ρ w := by
  refine ⟨fun ok => ?_⟩
  have ok' : okOps N L = true := by simpa [okCode] using ok
  exact wp_region_lit (wpList_mono (lift_mono fun _ _ _ h => h.1) _ _ _ (h.go ok' ok'))

theorem okOps_cons {o : Oper} {l : List Oper} (h : okOps N (o :: l) = true) : okOp N o = true ∧ okOps N l = true := by
  simpa [okOps] using h

theorem VL.step {QQ : Exit → Act → World → Prop} {o : Oper} (hg : o.guard = none) (okl : okOps N (o :: rest) = true)
    (h : okOps N rest = true → Oper.upon P o (act N ρ) (wpList P L.toArray QQ rest) QQ ((execOp (tm ρ) o).run P w)) : wpList P L.toArray QQ (o :: rest) (act N ρ) w := by
  obtain ⟨ho, hr⟩ := okOps_cons okl
  refine wpList_plain hg fun K hK => ?_
  unfold Oper.wp
  rw [exec_act ho]
  exact upon_mono hK (fun _ _ _ h => h) (h hr)

/-- What is left behind an operation, with what the whole list writes. -/
theorem VL.cons {o : Oper} {v : Value} (h : VL P N L Q rest (put ρ o.dst v) w') (okL : okOps N L = true) (hr : okOps N rest = true) :
    wpList P L.toArray (lift N fun e ρ' w' => Q e ρ' w' ∧ Agree (o :: rest) ρ ρ') rest (act N (put ρ o.dst v)) w' :=
  wpList_mono (lift_mono fun _ _ _ h => ⟨h.1, Agree.cons h.2⟩) _ _ _ (h.go okL hr)

theorem VL.op (hr : run1 P ρ q ty w = .ok (.value v) w') (h : VL P N L Q rest (upd ρ d v) w') :
    VL P N L Q ({ dst := some d, op := q, type := ty, pos := p, after := af, guard := none } :: rest) ρ w := by
  refine ⟨fun okL okl => VL.step rfl okl fun hr' => ?_⟩
  rw [run1_eq, hr]
  simp only [Oper.upon, act_put]
  exact VL.cons (o := { dst := some d, op := q, type := ty, pos := p, after := af, guard := none }) h okL hr'

theorem VL.op0 (hr : run1 P ρ q ty w = .ok .skip w') (h : VL P N L Q rest ρ w') :
    VL P N L Q ({ dst := none, op := q, type := ty, pos := p, after := af, guard := none } :: rest) ρ w := by
  refine ⟨fun okL okl => VL.step rfl okl fun hr' => ?_⟩
  rw [run1_eq, hr]
  simp only [Oper.upon, act_put]
  exact VL.cons (v := undef) (o := { dst := none, op := q, type := ty, pos := p, after := af, guard := none }) h okL hr'
/-- The value is not used. -/
theorem VL.opv (hr : run1 P ρ q ty w = .ok (.value v) w') (h : VL P N L Q rest ρ w') :
    VL P N L Q ({ dst := none, op := q, type := ty, pos := p, after := af, guard := none } :: rest) ρ w := by
  refine ⟨fun okL okl => VL.step rfl okl fun hr' => ?_⟩
  rw [run1_eq, hr]
  simp only [Oper.upon, act_put]
  exact VL.cons (v := undef) (o := { dst := none, op := q, type := ty, pos := p, after := af, guard := none }) h okL hr'

theorem VL.enter {f : FuncId} {args : Array Value} (hr : run1 P ρ q ty w = .ok (.enter f args) w')
    (h : Rets P f args w' fun v w'' => VL P N L Q rest (upd ρ d v) w'') :
    VL P N L Q ({ dst := some d, op := q, type := ty, pos := p, after := af, guard := none } :: rest) ρ w := by
  refine ⟨fun okL okl => VL.step rfl okl fun hr' => ?_⟩
  rw [run1_eq, hr]
  simp only [Oper.upon]
  refine Calls.mono h ?_
  rintro e w'' ⟨v, rfl, hv⟩
  simp only
  rw [act_put]
  exact VL.cons (o := { dst := some d, op := q, type := ty, pos := p, after := af, guard := none }) hv okL hr'

/-- A region's end, with what it wrote forgotten but for one slot. -/
theorem V.regionCut {id : Nat} {L : List Oper} (W : List Nat) (d : Nat) (v : Value) (J : World → Prop) (hW : dstsIn W L = true)
    (h1 : VL P N L (fun e ρ' w' => e = .normal ∧ tm ρ' (.tmp d) = v ∧ J w') L ρ w) (h2 : ∀ ρg w', J w' → Q .normal (upd (scr W ρg ρ) d v) w') : V P N (.region id L.toArray false) Q ρ w := by
  refine ⟨fun ok => ?_⟩
  have ok' : okOps N L = true := by simpa [okCode] using ok
  refine wp_region_lit (wpList_mono (lift_mono ?_) _ _ _ (h1.go ok' ok'))
  rintro e ρ' w' ⟨⟨rfl, hd, hJ⟩, ha⟩
  have hd : ρ' d = v := hd
  have := h2 ρ' w' hJ
  rw [← ha.scr hW, upd_eq hd] at this
  exact this

/-- A guarded operation: the guard's slot holds a truth value. -/
theorem VL.guard {j dj : Nat} {want t : Bool} {d : Option Tmp} (hd : dstAt L j = some dj) (ht : tm ρ (.tmp dj) = .bool t)
    (h1 : t = want → VL P N L Q ({ dst := d, op := q, type := ty, pos := p, after := af, guard := none } :: rest) (upd ρ dj (.bool want)) w)
    (h2 : t = !want → VL P N L Q rest (put (upd ρ dj (.bool !want)) d undef) w) :
    VL P N L Q ({ dst := d, op := q, type := ty, pos := p, after := af, guard := some (j, want) } :: rest) ρ w := by
  refine ⟨fun okL okl => ?_⟩
  obtain ⟨ho, hr⟩ := okOps_cons okl
  have hy : yielded L.toArray (act N ρ).tmps j = some t := yielded_act okL hd ht
  have ag : ∀ {l : List Oper} {ρ' : Env}, (∀ o ∈ l, o.dst = d) → Agree (l ++ rest) ρ ρ' → Agree ({ dst := d, op := q, type := ty, pos := p, after := af, guard := some (j, want) } :: rest) ρ ρ' := by
    intro l ρ' hl h t ht
    refine h t fun o ho => ?_
    rcases List.mem_append.1 ho with ho | ho
    · rw [hl o ho]; exact ht { dst := d, op := q, type := ty, pos := p, after := af, guard := some (j, want) } (by simp)
    · exact ht o (by simp [ho])
  by_cases htw : t = want
  · subst htw
    have := h1 rfl
    rw [upd_eq ht] at this
    replace this := this.go okL (by simpa [okOps, okOp, okDst] using okl)
    replace this := wpList_mono (lift_mono (Q' := fun e ρ' w' => Q e ρ' w' ∧ Agree ({ dst := d, op := q, type := ty, pos := p, after := af, guard := some (j, t) } :: rest) ρ ρ') fun _ _ _ h => ⟨h.1, ag (l := [{ dst := d, op := q, type := ty, pos := p, after := af, guard := none }]) (by simp) h.2⟩) _ _ _ this
    unfold wpList at this ⊢
    rw [if_pos (by simp [Region.wanted])] at this
    rw [if_pos (by simp [Region.wanted, hy])]
    exact this
  · have htw' : t = !want := by cases t <;> cases want <;> simp_all
    subst htw'
    have := h2 rfl
    rw [upd_eq ht] at this
    replace this := VL.cons (o := { dst := d, op := q, type := ty, pos := p, after := af, guard := some (j, want) }) this okL hr
    unfold wpList
    rw [if_neg (by simp [Region.wanted, hy]), act_put]
    exact this
/-- The guard's slot holds a literal: the operation is wanted. -/
theorem VL.gT {j dj : Nat} {want : Bool} {d : Option Tmp} (hd : dstAt L j = some dj) (ht : tm ρ (.tmp dj) = .bool want)
    (h1 : VL P N L Q ({ dst := d, op := q, type := ty, pos := p, after := af, guard := none } :: rest) ρ w) :
    VL P N L Q ({ dst := d, op := q, type := ty, pos := p, after := af, guard := some (j, want) } :: rest) ρ w := by
  refine VL.guard hd ht (fun _ => ?_) (fun h => by cases want <;> cases h)
  rw [upd_eq ht]; exact h1
/-- It is passed over. -/
theorem VL.gF {j dj d : Nat} {want : Bool} (hd : dstAt L j = some dj) (ht : tm ρ (.tmp dj) = .bool (!want)) (h2 : VL P N L Q rest (upd ρ d undef) w) :
    VL P N L Q ({ dst := some d, op := q, type := ty, pos := p, after := af, guard := some (j, want) } :: rest) ρ w := by
  refine VL.guard hd ht (fun h => by cases want <;> cases h) (fun _ => ?_)
  rw [upd_eq ht]; exact h2
/-- The guard's slot was passed over itself. -/
theorem VL.gU {j dj d : Nat} {want : Bool} (hd : dstAt L j = some dj) (ht : tm ρ (.tmp dj) = undef) (h2 : VL P N L Q rest (upd ρ d undef) w) :
    VL P N L Q ({ dst := some d, op := q, type := ty, pos := p, after := af, guard := some (j, want) } :: rest) ρ w := by
  refine ⟨fun okL okl => ?_⟩
  obtain ⟨ho, hr⟩ := okOps_cons okl
  have hy : yielded L.toArray (act N ρ).tmps j = none := yielded_undef hd ht
  have this : VL P N L Q rest (put ρ (some d) undef) w := h2
  replace this := VL.cons (o := { dst := some d, op := q, type := ty, pos := p, after := af, guard := some (j, want) }) this okL hr
  unfold wpList
  rw [if_neg (by simp [Region.wanted, hy]), act_put]
  exact this
/-- '&&': wanted where the slot is true. -/
theorem VL.and {j dj d : Nat} {t : Bool} (hd : dstAt L j = some dj) (ht : tm ρ (.tmp dj) = .bool t)
    (h1 : t = true → VL P N L Q ({ dst := some d, op := q, type := ty, pos := p, after := af, guard := none } :: rest) (upd ρ dj (.bool true)) w)
    (h2 : t = false → VL P N L Q rest (upd (upd ρ dj (.bool false)) d undef) w) :
    VL P N L Q ({ dst := some d, op := q, type := ty, pos := p, after := af, guard := some (j, true) } :: rest) ρ w :=
  VL.guard hd ht h1 h2
/-- '||': wanted where the slot is false. -/
theorem VL.or {j dj d : Nat} {t : Bool} (hd : dstAt L j = some dj) (ht : tm ρ (.tmp dj) = .bool t)
    (h1 : t = false → VL P N L Q ({ dst := some d, op := q, type := ty, pos := p, after := af, guard := none } :: rest) (upd ρ dj (.bool false)) w)
    (h2 : t = true → VL P N L Q rest (upd (upd ρ dj (.bool true)) d undef) w) :
    VL P N L Q ({ dst := some d, op := q, type := ty, pos := p, after := af, guard := some (j, false) } :: rest) ρ w :=
  VL.guard hd ht h1 h2
theorem VL.andP {j dj d : Nat} {pp : Prop} [Decidable pp] (hd : dstAt L j = some dj) (ht : tm ρ (.tmp dj) = .bool (decide pp))
    (h1 : pp → VL P N L Q ({ dst := some d, op := q, type := ty, pos := p, after := af, guard := none } :: rest) (upd ρ dj (.bool true)) w)
    (h2 : ¬ pp → VL P N L Q rest (upd (upd ρ dj (.bool false)) d undef) w) :
    VL P N L Q ({ dst := some d, op := q, type := ty, pos := p, after := af, guard := some (j, true) } :: rest) ρ w :=
  VL.and hd ht (fun h => h1 (of_decide_eq_true h)) (fun h => h2 (of_decide_eq_false h))
theorem VL.orP {j dj d : Nat} {pp : Prop} [Decidable pp] (hd : dstAt L j = some dj) (ht : tm ρ (.tmp dj) = .bool (decide pp))
    (h1 : ¬ pp → VL P N L Q ({ dst := some d, op := q, type := ty, pos := p, after := af, guard := none } :: rest) (upd ρ dj (.bool false)) w)
    (h2 : pp → VL P N L Q rest (upd (upd ρ dj (.bool true)) d undef) w) :
    VL P N L Q ({ dst := some d, op := q, type := ty, pos := p, after := af, guard := some (j, false) } :: rest) ρ w :=
  VL.or hd ht (fun h => h1 (of_decide_eq_false h)) (fun h => h2 (of_decide_eq_true h))
end ops

theorem cutB {ρ : Env} {x : Operand} {b B : Bool} (h : tm ρ x = .bool b) (e : b = B) : tm ρ x = .bool B := by rw [h, e]
theorem cutI {ρ : Env} {x : Operand} {k : IntKind} {b B : Int} (h : tm ρ x = .int k b) (e : b = B) : tm ρ x = .int k B := by rw [h, e]

/-! ### A function's beginning and end -/
def fpost' (P : Program) (N : Nat) (fn : Func) (R : Value → World → Prop) : Exit → Env → World → Prop
  | .normal, ρ, w | .ret, ρ, w => ∃ v, (results fn (act N ρ).tmps).run P w = .ok v w ∧ R v w
  | _, _, _ => False
structure fpost (P : Program) (N : Nat) (fn : Func) (R : Value → World → Prop) (e : Exit) (ρ : Env) (w : World) : Prop where
  go : fpost' P N fn R e ρ w

theorem env0_act (N : Nat) (l : List Value) (h : l.length ≤ N) : (l.toArray ++ Array.replicate (N - l.length) undef) = (act N (env0 l)).tmps := by
  refine Array.ext (by simp [act]; omega) fun i h1 h2 => ?_
  have hi : i < N := by simpa [act] using h2
  simp only [act, Array.getElem_ofFn, env0]
  rw [Array.getElem_append]
  split
  · rename_i hlt
    have : i < l.length := by simpa using hlt
    simp [this]
  · rename_i hlt
    have : ¬ i < l.length := by simpa using hlt
    simp [List.getD, List.getElem?_eq_none (by omega : l.length ≤ i)]

theorem enter {P : Program} {f : FuncId} {fn : Func} {c : Code} {N : Nat} {args : List Value} {w : World} {R : Value → World → Prop}
    (hf : P.funcs[f]? = some fn) (hb : fn.body = some c) (hN : fn.ntmps = N) (hok : okCode N c = true) (hl : Nat.ble args.length N = true)
    (h : V P N c (fpost P N fn R) (env0 args) w) : Rets P f args.toArray w R := by
  refine calls_of_wp hf hb ?_
  subst hN
  have ha : ({ tmps := args.toArray ++ Array.replicate (fn.ntmps - args.toArray.size) undef, defers := [] } : Act) = act fn.ntmps (env0 args) := by
    show Act.mk _ _ = Act.mk _ _
    rw [List.size_toArray, env0_act _ _ (by simpa using hl)]
    rfl
  rw [ha]
  refine wp_mono (h.go hok) ?_
  rintro e a w' ⟨ρ', rfl, hQ⟩
  cases e with
  | normal => obtain ⟨v, hr, hR⟩ := hQ.go; exact ⟨rfl, v, hr, v, rfl, hR⟩
  | ret => obtain ⟨v, hr, hR⟩ := hQ.go; exact ⟨rfl, v, hr, v, rfl, hR⟩
  | _ => exact hQ.go.elim

section ret
variable {P : Program} {N : Nat} {fn : Func} {R : Value → World → Prop} {ρ : Env} {w : World}
theorem tmps_getD {t : Nat} (h : Nat.blt t N = true) : (act N ρ).tmps.getD t undef = ρ t := by
  have : t < N := by simpa [Nat.blt_eq] using h
  simp [act, this]
theorem fret0 (hr : fn.results = #[]) (h : R (.tuple #[]) w) : fpost P N fn R .ret ρ w := ⟨⟨_, by simp [results, hr], h⟩⟩
theorem fend0 (hr : fn.results = #[]) (h : R (.tuple #[]) w) : fpost P N fn R .normal ρ w := ⟨⟨_, by simp [results, hr], h⟩⟩
theorem fret1 {t : Nat} {v : Value} (hr : fn.results = #[.tmp t]) (ht : Nat.blt t N = true) (hv : tm ρ (.tmp t) = v) (h : R v w) : fpost P N fn R .ret ρ w :=
  ⟨⟨v, by have hv : ρ t = v := hv; rw [results_tmp hr, tmps_getD ht, hv], h⟩⟩
theorem fret2 {t u : Nat} {v x : Value} (hr : fn.results = #[.tmp t, .tmp u]) (ht : Nat.blt t N = true) (hu : Nat.blt u N = true) (hv : tm ρ (.tmp t) = v) (hx : tm ρ (.tmp u) = x) (h : R (.tuple #[v, x]) w) : fpost P N fn R .ret ρ w :=
  ⟨⟨_, by have hv : ρ t = v := hv; have hx : ρ u = x := hx; rw [results_tmp2 hr, tmps_getD ht, tmps_getD hu, hv, hx], h⟩⟩
theorem fret3 {t u s : Nat} {v x y : Value} (hr : fn.results = #[.tmp t, .tmp u, .tmp s]) (ht : Nat.blt t N = true) (hu : Nat.blt u N = true) (hs : Nat.blt s N = true)
    (hv : tm ρ (.tmp t) = v) (hx : tm ρ (.tmp u) = x) (hy : tm ρ (.tmp s) = y) (h : R (.tuple #[v, x, y]) w) : fpost P N fn R .ret ρ w :=
  ⟨⟨_, by
    have hv : ρ t = v := hv
    have hx : ρ u = x := hx
    have hy : ρ s = y := hy
    have e1 := tmps_getD (ρ := ρ) ht; have e2 := tmps_getD (ρ := ρ) hu; have e3 := tmps_getD (ρ := ρ) hs
    rw [hv] at e1; rw [hx] at e2; rw [hy] at e3
    simp only [results, hr]
    simp at e1 e2 e3 ⊢
    exact ⟨e1, e2, e3⟩, h⟩⟩
end ret
end Go.Vc
