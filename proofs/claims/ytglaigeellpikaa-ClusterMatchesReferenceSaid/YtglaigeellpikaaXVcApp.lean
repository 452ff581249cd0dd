/- Regions whose order is open and in which several operations make blocks: each result is told by a relation of its own, which later blocks keep. -/
import Derived.Test.YtglaigeellpikaaXVcOwn
namespace Go.Vc

def updV (vs : Nat → Value) (i : Nat) (u : Value) : Nat → Value := fun j => bif Nat.beq j i then u else vs j
/-- The operation yields some value and a world with 'K'. -/
def yieldsR (P : Program) (ρ : Env) (o : Oper) (w : World) (K : Value → World → Prop) : Prop :=
  match (execOp (tm ρ) o).run P w with
  | .ok (.value u) w' => K u w'
  | .ok .skip w' => K undef w'
  | .ok (.enter f args) w' => Rets P f args w' K
  | _ => False

section
variable {P : Program} {N : Nat} {L : List Oper} {Q : Exit → Env → World → Prop} {ρ : Env} {k : Nat}

theorem wpOp_of_yieldsR {i : Nat} {o : Oper} (hL : okOps N L = true) (ho : L[i]? = some o) {ρi : Env} {w : World} {Kw : Value → World → Prop} {K : Act → World → Prop} {QQ : Exit → Act → World → Prop}
    (hw : wantedE L ρi o = true → yieldsR P ρi o w Kw) (hn : wantedE L ρi o = false → Kw undef w)
    (hK : ∀ u w', Kw u w' → K (act N (put ρi o.dst u)) w') : wpOp P L.toArray QQ i K (act N ρi) w := by
  unfold wpOp
  have ho' : L.toArray[i]? = some o := by simpa using ho
  rw [ho']
  simp only
  have hok : okOp N o = true := List.all_eq_true.1 hL o (List.mem_of_getElem? ho)
  have e : (fun j => yielded L.toArray (act N ρi).tmps j) = yl L ρi := funext fun j => yl_act hL j
  have e' : Region.wanted o (yielded L.toArray (act N ρi).tmps) = wantedE L ρi o := by
    show Region.wanted o (fun j => yielded L.toArray (act N ρi).tmps j) = _
    rw [e]; rfl
  rw [e']
  cases hwant : wantedE L ρi o with
  | true =>
    simp only [if_true]
    left
    have h := hw hwant
    unfold yieldsR at h
    unfold Oper.wp
    rw [exec_act hok]
    revert h
    generalize (execOp (tm ρi) o).run P w = r
    intro h
    cases r with
    | ok n w' =>
      cases n <;> simp only at h <;> simp only [Oper.upon]
      case value u => rw [act_put]; exact hK _ _ h
      case skip => rw [act_put]; exact hK _ _ h
      case enter f args =>
        refine Calls.mono h ?_
        rintro e w'' ⟨v, rfl, hk⟩
        simp only
        rw [act_put]; exact hK _ _ hk
    | halt x w' => exact h.elim
  | false =>
    simp only [Bool.false_eq_true, if_false]
    rw [act_put]; exact hK _ _ (hn hwant)

theorem envD_vals {vals vals' : Nat → Value} {D : Nat → Bool} (h : ∀ j, D j = true → vals j = vals' j) : envD L vals D ρ = envD L vals' D ρ := by
  funext t
  unfold envD
  refine foldl_range_congr _ _ _ _ fun a j _ => ?_
  cases hD : D j with
  | false => rfl
  | true => rw [h j hD]
theorem updV_self (vs : Nat → Value) (i : Nat) (u : Value) : updV vs i u i = u := by unfold updV; rw [Nat.beq_refl]; rfl
theorem updV_ne (vs : Nat → Value) {i j : Nat} (u : Value) (h : j ≠ i) : updV vs i u j = vs j := by unfold updV; rw [nbeq_ne h]; rfl

/-- What is asked of an operation, its frame in the text's order. -/
def Asked2 (P : Program) (L : List Oper) (ρ : Env) (C : (Nat → Bool) → (Nat → Value) → World → Prop) (k i : Nat) (o : Oper) : Prop :=
  ∀ D vals, closedD L D → D i = false → (∀ e ∈ o.after, binds e = true → D e.on = true) → (∀ j, k ≤ j → D j = false) → ∀ w, C D vals w →
    (wantedE L (envL L vals ρ i) o = true → yieldsR P (envL L vals ρ i) o w fun u w' => C (setD D i) (updV vals i u) w') ∧ (wantedE L (envL L vals ρ i) o = false → C (setD D i) (updV vals i undef) w)

theorem wpAny_any2 (R : RegOk L k) (hL : okOps N L = true) (hkl : k ≤ L.length) {C : (Nat → Bool) → (Nat → Value) → World → Prop} {QQ : Exit → Act → World → Prop}
    (hask : ∀ i o, L[i]? = some o → i < k → Asked2 P L ρ C k i o)
    (hend : ∀ vals w, C (lexD k) vals w → wpOps P L.toArray QQ (List.range' k (L.length - k)) (act N (envL L vals ρ k)) w) :
    ∀ (n fuel : Nat) (listed : Array Bool) (vals : Nat → Value) (w : World), listed.size = L.length → closedD L (lst listed) → (∀ j, k ≤ j → lst listed j = false) →
      n = ((List.range k).filter fun j => !lst listed j).length → n + (L.length - k) ≤ fuel → C (lst listed) vals w →
      wpAny P .any L.toArray QQ fuel listed (act N (envD L vals (lst listed) ρ)) w := by
  intro n
  induction n with
  | zero =>
    intro fuel listed vals w hs hcl hsuf hn hf hC
    have hall : ∀ j, j < k → lst listed j = true := by
      intro j hj
      have h0 := List.eq_nil_of_length_eq_zero hn.symm
      rw [List.filter_eq_nil_iff] at h0
      simpa using h0 j (List.mem_range.2 hj)
    have he : lst listed = lexD k := by
      funext j
      by_cases hj : j < k
      · rw [hall j hj]; exact (nblt.2 hj).symm
      · rw [hsuf j (by omega)]; exact (nblt_no hj).symm
    rw [he] at hC ⊢
    exact wpAny_serial R _ k fuel listed _ w rfl (Nat.le_refl _) hkl hs he (by omega) (hend vals w hC)
  | succ n ih =>
    intro fuel listed vals w hs hcl hsuf hn hf hC
    obtain ⟨fuel, rfl⟩ : ∃ f, fuel = f + 1 := ⟨fuel - 1, by omega⟩
    have hex : ∃ j, j < k ∧ lst listed j = false ∧ ∀ i, i < j → lst listed i = true := by
      have h0 : ∃ j, j < k ∧ lst listed j = false := by
        have : ((List.range k).filter fun j => !lst listed j) ≠ [] := by
          intro h; rw [h] at hn; cases hn
        obtain ⟨j, hj⟩ := List.exists_mem_of_ne_nil _ this
        rw [List.mem_filter, List.mem_range] at hj
        exact ⟨j, hj.1, by simpa using hj.2⟩
      obtain ⟨j, hjk, hj⟩ := h0
      have key : ∀ j, lst listed j = false → ∃ m, m ≤ j ∧ lst listed m = false ∧ ∀ i, i < m → lst listed i = true := by
        intro j
        induction j using Nat.strongRecOn with
        | _ j ihj =>
          intro hj
          by_cases hx : ∀ i, i < j → lst listed i = true
          · exact ⟨j, Nat.le_refl _, hj, hx⟩
          · obtain ⟨i, hi⟩ := Classical.not_forall.1 hx
            obtain ⟨hij, hi'⟩ := Classical.not_imp.1 hi
            obtain ⟨m, h1, h2, h3⟩ := ihj i hij (by simpa using hi')
            exact ⟨m, by omega, h2, h3⟩
      obtain ⟨m, h1, h2, h3⟩ := key j hj
      exact ⟨m, by omega, h2, h3⟩
    obtain ⟨m, hmk, hmn, hmall⟩ := hex
    have hml : m < L.length := by omega
    have hmem : m ∈ Region.ready .any L.toArray listed := by
      refine mem_ready.2 ⟨lst_no' (by omega) hmn, L[m], by simp [hml], fun e he hb => ?_⟩
      exact hmall e.on (R.back m L[m] (by simp [hml]) e he hb)
    refine ⟨fun h0 => (by rw [h0] at hmem; cases hmem), fun i hi => ?_⟩
    obtain ⟨h0, o, ho, hdeps⟩ := mem_ready.1 hi
    have ho' : L[i]? = some o := by simpa using ho
    have hil : i < L.length := (List.getElem?_eq_some_iff.1 ho').1
    have hDi : lst listed i = false := lst_no (by omega) h0
    have hik : i < k := by
      rcases Nat.lt_or_ge i k with h | h
      · exact h
      · have := anc_done R hcl ho' (fun e he hb => hdeps e he hb) (R.serial i hil h m (by omega))
        rw [this] at hmn; cases hmn
    have hok : okOp N o = true := List.all_eq_true.1 hL o (List.mem_of_getElem? ho')
    have hsame : ∀ t ∈ names L o, envD L vals (lst listed) ρ t = envL L vals ρ i t := fun t ht => env_same R hcl ho' hDi (fun e he hb => hdeps e he hb) ht
    have hA := hask i o ho' hik (lst listed) vals hcl hDi (fun e he hb => hdeps e he hb) hsuf w hC
    rw [← wanted_same hsame] at hA
    have hlater : ∀ d, o.dst = some d → ∀ j, i < j → dstAt L j = some d → lst listed j = false := by
      intro d hd j hij hdj
      have hjl := dstAt_lt hdj
      have hoj : L[j]? = some L[j] := List.getElem?_eq_getElem hjl
      have hdj' : L[j].dst = some d := by rw [dstAt_eq, hoj] at hdj; exact hdj
      have hc : clash L o L[j] = true := clash_of hdj' (by unfold names; simp [hd])
      rcases R.apart i o j L[j] ho' hoj (by omega) hc with ⟨hlt, _⟩ | ⟨_, hb⟩
      · omega
      · cases hDj : lst listed j with
        | false => rfl
        | true => rw [anc_closed hcl hjl hb hDj] at hDi; cases hDi
    refine wpOp_of_yieldsR (Kw := fun u w' => C (setD (lst listed) i) (updV vals i u) w') hL ho' (fun hw => ?_) (fun hw => hA.2 hw) (fun u w' hC' => ?_)
    · have h1 := hA.1 hw
      unfold yieldsR at h1 ⊢
      rw [tm_same hsame hok]
      exact h1
    · have ee : put (envD L vals (lst listed) ρ) o.dst u = envD L (updV vals i u) (setD (lst listed) i) ρ := by
        rw [envD_set ho' hlater, updV_self]
        congr 1
        exact envD_vals fun j hj => (updV_ne vals u fun e => by rw [e, hDi] at hj; cases hj).symm
      rw [ee, ← lst_set (by omega)]
      refine ih fuel _ (updV vals i u) w' (by simpa using hs) (by rw [lst_set (by omega)]; exact closed_set hcl ho' (fun e he hb => hdeps e he hb)) ?_ ?_ (by omega) (by rw [lst_set (by omega)]; exact hC')
      · intro j hj
        rw [lst_set (by omega)]
        have : j ≠ i := by omega
        simp [setD, nbeq_ne this, hsuf j hj]
      · rw [lst_set (by omega)]
        have key : ∀ k, i < k → ((List.range k).filter fun j => !lst listed j).length = ((List.range k).filter fun j => !setD (lst listed) i j).length + 1 := by
          intro k
          induction k with
          | zero => intro h; omega
          | succ k ihk =>
            intro h
            rw [List.range_succ, List.filter_append, List.filter_append, List.length_append, List.length_append]
            by_cases hik : i = k
            · subst hik
              have e1 : ((List.range i).filter fun j => !setD (lst listed) i j) = (List.range i).filter fun j => !lst listed j := by
                refine List.filter_congr fun j hj => ?_
                have : j ≠ i := by have := List.mem_range.1 hj; omega
                simp [setD, nbeq_ne this]
              rw [e1]
              simp [hDi, setD]
            · rw [ihk (by omega)]
              have : k ≠ i := fun e => hik e.symm
              have e2 : ([k].filter fun j => !setD (lst listed) i j) = [k].filter fun j => !lst listed j := by
                refine List.filter_congr fun j hj => ?_
                have : j ≠ i := by have := List.mem_singleton.1 hj; omega
                simp [setD, nbeq_ne this]
              rw [e2]
              omega
        have := key k hik
        omega

end

section
variable {P : Program} {ρ : Env} {w : World} {d : Option Tmp} {q : Op} {ty : TypeId} {p : String} {af : Array Edge} {g : Option (Nat × Bool)}
theorem yieldsR_op {v : Value} {w' : World} {K : Value → World → Prop} (h : run1 P ρ q ty w = .ok (.value v) w') (hK : K v w') : yieldsR P ρ { dst := d, op := q, type := ty, pos := p, after := af, guard := g } w K := by
  unfold yieldsR
  have : (execOp (tm ρ) { dst := d, op := q, type := ty, pos := p, after := af, guard := g }).run P w = .ok (.value v) w' := h
  rw [this]; exact hK
end
section
variable {P : Program} {ρ : Env} {w : World} {d : Nat} {ty t : TypeId} {x y : Operand}
theorem yieldsR_build1 {α : Type} {enc : α → List Value} {B e s : Nat} {z v : Value} {d : Option Tmp} {p : String} {af : Array Edge} {g : Option (Nat × Bool)} {x1 : Operand} {K : Value → World → Prop}
    (hu : ∀ w, (underlying t).run P w = .ok (.slice e) w) (hs : ∀ w, (sizeOf e).run P w = .ok s w) (hz : ∀ w, (zeroValue e).run P w = .ok z w) (hzs : z.cells.size = s) (hs0 : Nat.blt 0 s = true) (hn : Nat.ble s 16777216 = true)
    (u : α) (hx : tm ρ x1 = v) (hv : v.cells.toList = enc u) (hus : (enc u).length = s) (hB : B ≤ w.heap.size)
    (hK : ∀ b w', OwnT enc s e B w' (some ⟨b, 0, none⟩) 1 [u] → Ext w w' → K (.slice (some ⟨b, 0, none⟩) 1 1) w') :
    yieldsR P ρ { dst := d, op := .buildSlice t 1 [(0, x1)].toArray, type := ty, pos := p, after := af, guard := g } w K := by
  have hcs : v.cells.size = s := by rw [← hus, ← hv]; simp
  have hcells : bld (fun i => some (i * s, s)) (zrep z.cells.toList 1) ([(0, x1)].map fun p => (p.1, tm ρ p.2)) = enc u := by
    simp only [List.map_cons, List.map_nil, bld, Nat.zero_mul, zrep, List.append_nil, hx]
    rw [ovr_eq _ _ _ (by simp [hcs, hzs])]
    simp only [List.take_zero, List.nil_append, Nat.zero_add]
    rw [List.drop_eq_nil_of_le (by simp [hcs, hzs]), List.append_nil, hv]
  refine yieldsR_op (R.buildSl (n := 1) hu hs hz ?_ (by rw [Nat.one_mul]; exact hn) rfl ?_) (hK _ _ (OwnT.of1 enc s u (Blk.alloc _ _) hB ?_ hus) (Ext.alloc _ _))
  · rw [Bool.and_eq_true]; exact ⟨by rw [hzs]; exact Nat.beq_refl _, hs0⟩
  · simp only [List.map_cons, List.map_nil, bldOk, Bool.and_true, Bool.and_eq_true, Nat.zero_mul, Nat.one_mul, Nat.zero_add, hx]
    exact ⟨by rw [hcs]; exact Nat.beq_refl _, by rw [hcs]; exact Nat.ble_self_eq_true _⟩
  · rw [hcells]
end
end Go.Vc

/- Own library: appending one element in a region of open order that makes no call: the literal is the region's only writer. -/
namespace Go.Vc

end Go.Vc
