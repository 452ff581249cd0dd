/- Regions whose order is open and in which several operations make blocks: each result is told by a relation of its own, which later blocks keep. -/
import Derived.Test.YtglaigeellpikaaXVcOwn
namespace Go.Vc

def updV (vs : Nat → Value) (i : Nat) (u : Value) : Nat → Value := fun j => bif Nat.beq j i then u else vs j
/-- The operation yields some value and a world with 'K'. -/
def yieldsR (P : Program) (ρ : Env) (o : Oper) (w : World) (K : Value → World → Prop) : Prop :=
  match (execOp (tm ρ) o).run P w with
  | .ok (.value u) w' => K u w'
  | .ok .skip w' => K undef w'
  | .ok (.enter f args) w' => Rets P f args w' K
  | _ => False

section
variable {P : Program} {N : Nat} {L : List Oper} {Q : Exit → Env → World → Prop} {ρ : Env} {k : Nat}

theorem wpOp_of_yieldsR {i : Nat} {o : Oper} (hL : okOps N L = true) (ho : L[i]? = some o) {ρi : Env} {w : World} {Kw : Value → World → Prop} {K : Act → World → Prop} {QQ : Exit → Act → World → Prop}
    (hw : wantedE L ρi o = true → yieldsR P ρi o w Kw) (hn : wantedE L ρi o = false → Kw undef w)
    (hK : ∀ u w', Kw u w' → K (act N (put ρi o.dst u)) w') : wpOp P L.toArray QQ i K (act N ρi) w := by
  unfold wpOp
  have ho' : L.toArray[i]? = some o := by simpa using ho
  rw [ho']
  simp only
  have hok : okOp N o = true := List.all_eq_true.1 hL o (List.mem_of_getElem? ho)
  have e : (fun j => yielded L.toArray (act N ρi).tmps j) = yl L ρi := funext fun j => yl_act hL j
  have e' : Region.wanted o (yielded L.toArray (act N ρi).tmps) = wantedE L ρi o := by
    show Region.wanted o (fun j => yielded L.toArray (act N ρi).tmps j) = _
    rw [e]; rfl
  rw [e']
  cases hwant : wantedE L ρi o with
  | true =>
    simp only [if_true]
    left
    have h := hw hwant
    unfold yieldsR at h
    unfold Oper.wp
    rw [exec_act hok]
    revert h
    generalize (execOp (tm ρi) o).run P w = r
    intro h
    cases r with
    | ok n w' =>
      cases n <;> simp only at h <;> simp only [Oper.upon]
      case value u => rw [act_put]; exact hK _ _ h
      case skip => rw [act_put]; exact hK _ _ h
      case enter f args =>
        refine Calls.mono h ?_
        rintro e w'' ⟨v, rfl, hk⟩
        simp only
        rw [act_put]; exact hK _ _ hk
    | halt x w' => exact h.elim
  | false =>
    simp only [Bool.false_eq_true, if_false]
    rw [act_put]; exact hK _ _ (hn hwant)

theorem envD_vals {vals vals' : Nat → Value} {D : Nat → Bool} (h : ∀ j, D j = true → vals j = vals' j) : envD L vals D ρ = envD L vals' D ρ := by
  funext t
  unfold envD
  refine foldl_range_congr _ _ _ _ fun a j _ => ?_
  cases hD : D j with
  | false => rfl
  | true => rw [h j hD]
theorem updV_self (vs : Nat → Value) (i : Nat) (u : Value) : updV vs i u i = u := by unfold updV; rw [Nat.beq_refl]; rfl
theorem updV_ne (vs : Nat → Value) {i j : Nat} (u : Value) (h : j ≠ i) : updV vs i u j = vs j := by unfold updV; rw [nbeq_ne h]; rfl

/-- What is asked of an operation, its frame in the text's order. -/
def Asked2 (P : Program) (L : List Oper) (ρ : Env) (C : (Nat → Bool) → (Nat → Value) → World → Prop) (k i : Nat) (o : Oper) : Prop :=
  ∀ D vals, closedD L D → D i = false → (∀ e ∈ o.after, binds e = true → D e.on = true) → (∀ j, k ≤ j → D j = false) → ∀ w, C D vals w →
    (wantedE L (envL L vals ρ i) o = true → yieldsR P (envL L vals ρ i) o w fun u w' => C (setD D i) (updV vals i u) w') ∧ (wantedE L (envL L vals ρ i) o = false → C (setD D i) (updV vals i undef) w)

theorem wpAny_any2 (R : RegOk L k) (hL : okOps N L = true) (hkl : k ≤ L.length) {C : (Nat → Bool) → (Nat → Value) → World → Prop} {QQ : Exit → Act → World → Prop}
    (hask : ∀ i o, L[i]? = some o → i < k → Asked2 P L ρ C k i o)
    (hend : ∀ vals w, C (lexD k) vals w → wpOps P L.toArray QQ (List.range' k (L.length - k)) (act N (envL L vals ρ k)) w) :
    ∀ (n fuel : Nat) (listed : Array Bool) (vals : Nat → Value) (w : World), listed.size = L.length → closedD L (lst listed) → (∀ j, k ≤ j → lst listed j = false) →
      n = ((List.range k).filter fun j => !lst listed j).length → n + (L.length - k) ≤ fuel → C (lst listed) vals w →
      wpAny P .any L.toArray QQ fuel listed (act N (envD L vals (lst listed) ρ)) w := by
  intro n
  induction n with
  | zero =>
    intro fuel listed vals w hs hcl hsuf hn hf hC
    have hall : ∀ j, j < k → lst listed j = true := by
      intro j hj
      have h0 := List.eq_nil_of_length_eq_zero hn.symm
      rw [List.filter_eq_nil_iff] at h0
      simpa using h0 j (List.mem_range.2 hj)
    have he : lst listed = lexD k := by
      funext j
      by_cases hj : j < k
      · rw [hall j hj]; exact (nblt.2 hj).symm
      · rw [hsuf j (by omega)]; exact (nblt_no hj).symm
    rw [he] at hC ⊢
    exact wpAny_serial R _ k fuel listed _ w rfl (Nat.le_refl _) hkl hs he (by omega) (hend vals w hC)
  | succ n ih =>
    intro fuel listed vals w hs hcl hsuf hn hf hC
    obtain ⟨fuel, rfl⟩ : ∃ f, fuel = f + 1 := ⟨fuel - 1, by omega⟩
    have hex : ∃ j, j < k ∧ lst listed j = false ∧ ∀ i, i < j → lst listed i = true := by
      have h0 : ∃ j, j < k ∧ lst listed j = false := by
        have : ((List.range k).filter fun j => !lst listed j) ≠ [] := by
          intro h; rw [h] at hn; cases hn
        obtain ⟨j, hj⟩ := List.exists_mem_of_ne_nil _ this
        rw [List.mem_filter, List.mem_range] at hj
        exact ⟨j, hj.1, by simpa using hj.2⟩
      obtain ⟨j, hjk, hj⟩ := h0
      have key : ∀ j, lst listed j = false → ∃ m, m ≤ j ∧ lst listed m = false ∧ ∀ i, i < m → lst listed i = true := by
        intro j
        induction j using Nat.strongRecOn with
        | _ j ihj =>
          intro hj
          by_cases hx : ∀ i, i < j → lst listed i = true
          · exact ⟨j, Nat.le_refl _, hj, hx⟩
          · obtain ⟨i, hi⟩ := Classical.not_forall.1 hx
            obtain ⟨hij, hi'⟩ := Classical.not_imp.1 hi
            obtain ⟨m, h1, h2, h3⟩ := ihj i hij (by simpa using hi')
            exact ⟨m, by omega, h2, h3⟩
      obtain ⟨m, h1, h2, h3⟩ := key j hj
      exact ⟨m, by omega, h2, h3⟩
    obtain ⟨m, hmk, hmn, hmall⟩ := hex
    have hml : m < L.length := by omega
    have hmem : m ∈ Region.ready .any L.toArray listed := by
      refine mem_ready.2 ⟨lst_no' (by omega) hmn, L[m], by simp [hml], fun e he hb => ?_⟩
      exact hmall e.on (R.back m L[m] (by simp [hml]) e he hb)
    refine ⟨fun h0 => (by rw [h0] at hmem; cases hmem), fun i hi => ?_⟩
    obtain ⟨h0, o, ho, hdeps⟩ := mem_ready.1 hi
    have ho' : L[i]? = some o := by simpa using ho
    have hil : i < L.length := (List.getElem?_eq_some_iff.1 ho').1
    have hDi : lst listed i = false := lst_no (by omega) h0
    have hik : i < k := by
      rcases Nat.lt_or_ge i k with h | h
      · exact h
      · have := anc_done R hcl ho' (fun e he hb => hdeps e he hb) (R.serial i hil h m (by omega))
        rw [this] at hmn; cases hmn
    have hok : okOp N o = true := List.all_eq_true.1 hL o (List.mem_of_getElem? ho')
    have hsame : ∀ t ∈ names L o, envD L vals (lst listed) ρ t = envL L vals ρ i t := fun t ht => env_same R hcl ho' hDi (fun e he hb => hdeps e he hb) ht
    have hA := hask i o ho' hik (lst listed) vals hcl hDi (fun e he hb => hdeps e he hb) hsuf w hC
    rw [← wanted_same hsame] at hA
    have hlater : ∀ d, o.dst = some d → ∀ j, i < j → dstAt L j = some d → lst listed j = false := by
      intro d hd j hij hdj
      have hjl := dstAt_lt hdj
      have hoj : L[j]? = some L[j] := List.getElem?_eq_getElem hjl
      have hdj' : L[j].dst = some d := by rw [dstAt_eq, hoj] at hdj; exact hdj
      have hc : clash L o L[j] = true := clash_of hdj' (by unfold names; simp [hd])
      rcases R.apart i o j L[j] ho' hoj (by omega) hc with ⟨hlt, _⟩ | ⟨_, hb⟩
      · omega
      · cases hDj : lst listed j with
        | false => rfl
        | true => rw [anc_closed hcl hjl hb hDj] at hDi; cases hDi
    refine wpOp_of_yieldsR (Kw := fun u w' => C (setD (lst listed) i) (updV vals i u) w') hL ho' (fun hw => ?_) (fun hw => hA.2 hw) (fun u w' hC' => ?_)
    · have h1 := hA.1 hw
      unfold yieldsR at h1 ⊢
      rw [tm_same hsame hok]
      exact h1
    · have ee : put (envD L vals (lst listed) ρ) o.dst u = envD L (updV vals i u) (setD (lst listed) i) ρ := by
        rw [envD_set ho' hlater, updV_self]
        congr 1
        exact envD_vals fun j hj => (updV_ne vals u fun e => by rw [e, hDi] at hj; cases hj).symm
      rw [ee, ← lst_set (by omega)]
      refine ih fuel _ (updV vals i u) w' (by simpa using hs) (by rw [lst_set (by omega)]; exact closed_set hcl ho' (fun e he hb => hdeps e he hb)) ?_ ?_ (by omega) (by rw [lst_set (by omega)]; exact hC')
      · intro j hj
        rw [lst_set (by omega)]
        have : j ≠ i := by omega
        simp [setD, nbeq_ne this, hsuf j hj]
      · rw [lst_set (by omega)]
        have key : ∀ k, i < k → ((List.range k).filter fun j => !lst listed j).length = ((List.range k).filter fun j => !setD (lst listed) i j).length + 1 := by
          intro k
          induction k with
          | zero => intro h; omega
          | succ k ihk =>
            intro h
            rw [List.range_succ, List.filter_append, List.filter_append, List.length_append, List.length_append]
            by_cases hik : i = k
            · subst hik
              have e1 : ((List.range i).filter fun j => !setD (lst listed) i j) = (List.range i).filter fun j => !lst listed j := by
                refine List.filter_congr fun j hj => ?_
                have : j ≠ i := by have := List.mem_range.1 hj; omega
                simp [setD, nbeq_ne this]
              rw [e1]
              simp [hDi, setD]
            · rw [ihk (by omega)]
              have : k ≠ i := fun e => hik e.symm
              have e2 : ([k].filter fun j => !setD (lst listed) i j) = [k].filter fun j => !lst listed j := by
                refine List.filter_congr fun j hj => ?_
                have : j ≠ i := by have := List.mem_singleton.1 hj; omega
                simp [setD, nbeq_ne this]
              rw [e2]
              omega
        have := key k hik
        omega

/-- The walk in the text's order: 'R i' tells the result of operation 'i' in every later world. -/
def VMs (P : Program) (A : List Nat) (L : List Oper) (R : Nat → Value → World → Prop) (w0 : World) (vals : Nat → Value) (K : Env → Prop) : (j i : Nat) → List Oper → Env → Prop
  | 0, _, _, ρ => K ρ
  | _ + 1, _, [], _ => False
  | j + 1, i, o :: l, ρ =>
    (∀ w', Ext w0 w' → (∀ x, (A.getD i 0).testBit x = true → R x (vals x) w') →
      (wantedE L ρ o = true → yieldsR P ρ o w' fun u w'' => R i u w'' ∧ Ext w' w'') ∧ (wantedE L ρ o = false → R i undef w')) ∧
    VMs P A L R w0 vals K j (i + 1) l (put ρ o.dst (vals i))

theorem VMs_spec {A : List Nat} {R : Nat → Value → World → Prop} {w0 : World} {vals : Nat → Value} {K : Env → Prop} : ∀ (j i : Nat) (l : List Oper), l = L.drop i → VMs P A L R w0 vals K j i l (envL L vals ρ i) → i + j ≤ L.length →
    (∀ x o, x < j → L[i + x]? = some o → ∀ w', Ext w0 w' → (∀ y, (A.getD (i + x) 0).testBit y = true → R y (vals y) w') →
      (wantedE L (envL L vals ρ (i + x)) o = true → yieldsR P (envL L vals ρ (i + x)) o w' fun u w'' => R (i + x) u w'' ∧ Ext w' w'') ∧ (wantedE L (envL L vals ρ (i + x)) o = false → R (i + x) undef w')) ∧ K (envL L vals ρ (i + j)) := by
  intro j
  induction j with
  | zero => intro i l hl h hj; exact ⟨fun x o hx => by omega, h⟩
  | succ j ih =>
    intro i l hl h hj
    have hi : i < L.length := by omega
    rw [List.drop_eq_getElem_cons hi] at hl
    subst hl
    obtain ⟨h1, h2⟩ := h
    have ho : L[i]? = some L[i] := List.getElem?_eq_getElem hi
    rw [← envL_succ ho] at h2
    obtain ⟨h3, h4⟩ := ih (i + 1) _ rfl h2 (by omega)
    refine ⟨fun x o hx ho2 => ?_, by rw [show i + (j + 1) = i + 1 + j by omega]; exact h4⟩
    cases x with
    | zero =>
      rw [Nat.add_zero] at ho2 ⊢
      rw [ho] at ho2
      injection ho2 with ho2
      subst ho2
      exact h1
    | succ x =>
      rw [show i + (x + 1) = i + 1 + x by omega] at ho2 ⊢
      exact h3 x o (by omega) ho2

theorem V.regionM {id : Nat} {w : World} (hm : P.follows .mixedOrders = true) (k : Nat) (hr : regOk L k = true) (hk : Nat.ble k L.length = true) (R : Nat → Value → World → Prop)
    (mono : ∀ i u w1 w2, Ext w w1 → R i u w1 → Ext w1 w2 → R i u w2)
    (h : ∀ vals, VMs P (ancs L []) L R w vals (fun ρ' => ∀ w', Ext w w' → (∀ j, j < k → R j (vals j) w') → VL P N L Q (L.drop k) ρ' w') k 0 L ρ) :
    V P N (.region id L.toArray true) Q ρ w := by
  refine ⟨fun ok => ?_⟩
  have okL : okOps N L = true := by simpa [okCode] using ok
  have RO := regOk_spec hr
  have hkl := Nat.le_of_ble_eq_true hk
  refine wp_region_any hm ?_
  have hv := fun vals => VMs_spec (P := P) (ρ := ρ) k 0 L rfl (by rw [envL_zero]; exact h vals) (by omega)
  let C : (Nat → Bool) → (Nat → Value) → World → Prop := fun D vals w' => Ext w w' ∧ ∀ j, j < k → D j = true → R j (vals j) w'
  have start := wpAny_any2 (P := P) (N := N) (ρ := ρ) (C := C) (QQ := lift N Q) RO okL hkl ?_ ?_ k L.toArray.size (Array.replicate L.toArray.size false) (fun _ => undef) { w with drawn := w.drawn + 1 } (by simp) ?_ ?_ ?_ (by simp; omega) ?_
  · have e : lst (Array.replicate L.toArray.size false) = fun _ => false := by
      funext j; unfold lst; simp [Array.getElem?_replicate]; split <;> rfl
    rw [e, envD_none] at start
    exact start
  · intro i o ho hik D vals hcl hDi hdeps hsuf w' hC
    obtain ⟨h1, _⟩ := hv vals
    have h1 := h1 i o hik (by rw [Nat.zero_add]; exact ho) w' hC.1 fun y hy => by
      rw [Nat.zero_add] at hy
      have hil : i < L.length := (List.getElem?_eq_some_iff.1 ho).1
      have hyi := anc_lt RO hil hy
      exact hC.2 y (by omega) (anc_done RO hcl ho hdeps hy)
    rw [Nat.zero_add] at h1
    have keep : ∀ u w'', R i u w'' → Ext w' w'' → C (setD D i) (updV vals i u) w'' := fun u w'' hR he => by
      refine ⟨hC.1.trans he, fun j hj hD => ?_⟩
      by_cases hji : j = i
      · subst hji; rw [updV_self]; exact hR
      · rw [updV_ne _ _ hji]
        have : D j = true := by simpa [setD, nbeq_ne hji] using hD
        exact mono j _ _ _ hC.1 (hC.2 j hj this) he
    refine ⟨fun hw => ?_, fun hw => keep _ _ (h1.2 hw) (Mod.refl _ _)⟩
    have h2 := h1.1 hw
    unfold yieldsR at h2 ⊢
    revert h2
    generalize (execOp (tm (envL L vals ρ i)) o).run P w' = r
    intro h2
    cases r with
    | ok n w'' =>
      cases n with
      | value u => exact keep _ _ h2.1 h2.2
      | skip => exact keep _ _ h2.1 h2.2
      | enter f args => exact h2.mono fun u w3 h3 => keep _ _ h3.1 h3.2
      | _ => exact h2
    | halt => exact h2
  · intro vals w' hC
    obtain ⟨_, h2⟩ := hv vals
    rw [Nat.zero_add] at h2
    have hvl := h2 w' hC.1 fun j hj => hC.2 j hj (nblt.2 hj)
    have hdrop : okOps N (L.drop k) = true := by
      unfold okOps at *
      rw [List.all_eq_true] at *
      exact fun o ho => okL o (List.mem_of_mem_drop ho)
    have := wpList_mono (lift_mono fun _ _ _ h => h.1) _ _ _ (hvl.go okL hdrop)
    rw [← wpOps_eq_wpList (L.drop k) k (by intro j; simp)] at this
    simpa using this
  · intro i o _ hi
    unfold lst at hi
    simp [Array.getElem?_replicate] at hi
    split at hi <;> cases hi
  · intro j _; unfold lst; simp [Array.getElem?_replicate]; split <;> rfl
  · have : ((List.range k).filter fun j => !lst (Array.replicate L.toArray.size false) j) = List.range k := by
      rw [List.filter_eq_self]
      intro j _; unfold lst; simp [Array.getElem?_replicate]; split <;> rfl
    rw [this, List.length_range]
  · refine ⟨Ext.drawn _, fun j _ hj => ?_⟩
    unfold lst at hj
    simp [Array.getElem?_replicate] at hj
    split at hj <;> cases hj
end

section
variable {P : Program} {ρ : Env} {w : World} {d : Option Tmp} {q : Op} {ty : TypeId} {p : String} {af : Array Edge} {g : Option (Nat × Bool)}
theorem yieldsR_op {v : Value} {w' : World} {K : Value → World → Prop} (h : run1 P ρ q ty w = .ok (.value v) w') (hK : K v w') : yieldsR P ρ { dst := d, op := q, type := ty, pos := p, after := af, guard := g } w K := by
  unfold yieldsR
  have : (execOp (tm ρ) { dst := d, op := q, type := ty, pos := p, after := af, guard := g }).run P w = .ok (.value v) w' := h
  rw [this]; exact hK
end
section
variable {P : Program} {ρ : Env} {w : World} {d : Nat} {ty t : TypeId} {x y : Operand}
theorem yieldsR_build1 {α : Type} {enc : α → List Value} {B e s : Nat} {z v : Value} {d : Option Tmp} {p : String} {af : Array Edge} {g : Option (Nat × Bool)} {x1 : Operand} {K : Value → World → Prop}
    (hu : ∀ w, (underlying t).run P w = .ok (.slice e) w) (hs : ∀ w, (sizeOf e).run P w = .ok s w) (hz : ∀ w, (zeroValue e).run P w = .ok z w) (hzs : z.cells.size = s) (hs0 : Nat.blt 0 s = true) (hn : Nat.ble s 16777216 = true)
    (u : α) (hx : tm ρ x1 = v) (hv : v.cells.toList = enc u) (hus : (enc u).length = s) (hB : B ≤ w.heap.size)
    (hK : ∀ b w', OwnT enc s e B w' (some ⟨b, 0, none⟩) 1 [u] → Ext w w' → K (.slice (some ⟨b, 0, none⟩) 1 1) w') :
    yieldsR P ρ { dst := d, op := .buildSlice t 1 [(0, x1)].toArray, type := ty, pos := p, after := af, guard := g } w K := by
  have hcs : v.cells.size = s := by rw [← hus, ← hv]; simp
  have hcells : bld (fun i => some (i * s, s)) (zrep z.cells.toList 1) ([(0, x1)].map fun p => (p.1, tm ρ p.2)) = enc u := by
    simp only [List.map_cons, List.map_nil, bld, Nat.zero_mul, zrep, List.append_nil, hx]
    rw [ovr_eq _ _ _ (by simp [hcs, hzs])]
    simp only [List.take_zero, List.nil_append, Nat.zero_add]
    rw [List.drop_eq_nil_of_le (by simp [hcs, hzs]), List.append_nil, hv]
  refine yieldsR_op (R.buildSl (n := 1) hu hs hz ?_ (by rw [Nat.one_mul]; exact hn) rfl ?_) (hK _ _ (OwnT.of1 enc s u (Blk.alloc _ _) hB ?_ hus) (Ext.alloc _ _))
  · rw [Bool.and_eq_true]; exact ⟨by rw [hzs]; exact Nat.beq_refl _, hs0⟩
  · simp only [List.map_cons, List.map_nil, bldOk, Bool.and_true, Bool.and_eq_true, Nat.zero_mul, Nat.one_mul, Nat.zero_add, hx]
    exact ⟨by rw [hcs]; exact Nat.beq_refl _, by rw [hcs]; exact Nat.ble_self_eq_true _⟩
  · rw [hcells]
end
end Go.Vc

/- Own library: appending one element in a region of open order that makes no call: the literal is the region's only writer. -/
namespace Go.Vc

/-- Before the literal. -/
structure C0B (w0 w' : World) : Prop where
  e : Ext w0 w'
  sz : w'.heap.size = w0.heap.size
theorem C0B.drawn (w : World) : C0B w { w with drawn := w.drawn + 1 } := ⟨Ext.drawn w, rfl⟩
/-- Behind it. -/
structure C1B {α : Type} (w0 : World) (enc : α → List Value) (s t : Nat) (u : α) (w' : World) : Prop where
  e : Ext w0 w'
  o : OwnT enc s t w0.heap.size w' (some ⟨w0.heap.size, 0, none⟩) 1 [u]
section
variable {P : Program} {L : List Oper} {ρ : Env} {m i j : Nat} {l : List Oper} {K : Env → Prop} {d : Nat} {ty t : TypeId} {p : String} {af : Array Edge}
theorem VW.build1 {α : Type} {enc : α → List Value} {w0 : World} {e s : Nat} {z v : Value} {x1 : Operand}
    (hu : ∀ w, (underlying t).run P w = .ok (.slice e) w) (hs : ∀ w, (sizeOf e).run P w = .ok s w) (hz : ∀ w, (zeroValue e).run P w = .ok z w) (hzs : z.cells.size = s) (hs0 : Nat.blt 0 s = true) (hn : Nat.ble s 16777216 = true)
    (u : α) (hx : tm ρ x1 = v) (hv : v.cells.toList = enc u) (hus : (enc u).length = s)
    (h : VW P L (C0B w0) (C1B w0 enc s e u) m j (i + 1) l (upd ρ d (.slice (some ⟨w0.heap.size, 0, none⟩) 1 1)) K) (hi : Nat.beq i m = true := by rfl) :
    VW P L (C0B w0) (C1B w0 enc s e u) m (j + 1) i ({ dst := some d, op := .buildSlice t 1 [(0, x1)].toArray, type := ty, pos := p, after := af, guard := none } :: l) ρ K := by
  refine VW.wr (fun w hw => ⟨w.alloc (.cells (enc u).toArray e (0, 0)), ?_, hw.e.trans (Ext.alloc _ _), ?_⟩) h hi
  · have hcs : v.cells.size = s := by rw [← hus, ← hv]; simp
    have hcells : bld (fun i => some (i * s, s)) (zrep z.cells.toList 1) ([(0, x1)].map fun p => (p.1, tm ρ p.2)) = enc u := by
      simp only [List.map_cons, List.map_nil, bld, Nat.zero_mul, zrep, List.append_nil, hx]
      rw [ovr_eq _ _ _ (by simp [hcs, hzs])]
      simp only [List.take_zero, List.nil_append, Nat.zero_add]
      rw [List.drop_eq_nil_of_le (by simp [hcs, hzs]), List.append_nil, hv]
    have hr := R.buildSl (P := P) (ρ := ρ) (ty := ty) (w := w) (n := 1) (parts := [(0, x1)]) hu hs hz (by rw [Bool.and_eq_true]; exact ⟨by rw [hzs]; exact Nat.beq_refl _, hs0⟩) (by rw [Nat.one_mul]; exact hn) rfl (by
      simp only [List.map_cons, List.map_nil, bldOk, Bool.and_true, Bool.and_eq_true, Nat.zero_mul, Nat.one_mul, Nat.zero_add, hx]
      exact ⟨by rw [hcs]; exact Nat.beq_refl _, by rw [hcs]; exact Nat.ble_self_eq_true _⟩)
    rw [hcells, hw.sz] at hr
    exact hr
  · refine OwnT.of1 enc s u (b := w0.heap.size) (cs := (enc u).toArray) ?_ (Nat.le_refl _) (by simp) hus
    have := Blk.alloc w (.cells (enc u).toArray e (0, 0))
    rw [hw.sz] at this
    exact this
end
end Go.Vc
