/- Own library: a region of open order whose first k operations are open and behind which a round is called (printed by mkin.py). -/
import Derived.Test.YtdbcfpcicjgghaaGreatDoorXVcLaw2
import Derived.Test.YtdbcfpcicjgghaaGreatDoorXVcLaw
import Derived.Test.YtdbcfpcicjgghaaGreatDoorXVcGuard
namespace Go.Vc
set_option maxHeartbeats 16000000
set_option maxRecDepth 100000
section
variable {P:Program} {N:Nat} {L:List Oper} {Q:Exit → Env → World → Prop} {ρ:Env} {k:Nat}
theorem wpOpI_of_yieldsR {mm i:Nat} {o:Oper} (hL:okOps N L = true) (ho:L[i]? = some o) {ρi:Env} {w:World} {Kw:Value → World → Prop} {K:Act → World → Prop} {QQ:Exit → Act → World → Prop}
  (hw:wantedE L ρi o = true → yieldsR P ρi o w Kw) (hn:wantedE L ρi o = false → Kw undef w)
  (hK:∀ u w', Kw u w' → K (act N (put ρi o.dst u)) w'):wpOpIn Fence.wide mm P L.toArray QQ i K (act N ρi) w:=by
 unfold wpOpIn
 have ho':L.toArray[i]? = some o:=by simpa using ho
 rw [ho']
 simp only
 have hok:okOp N o = true:=List.all_eq_true.1 hL o (List.mem_of_getElem? ho)
 have e:(fun j=>yielded L.toArray (act N ρi).tmps j) = yl L ρi:=funext fun j=>yl_act hL j
 have e':Region.wanted o (yielded L.toArray (act N ρi).tmps) = wantedE L ρi o:=by
  show Region.wanted o (fun j=>yielded L.toArray (act N ρi).tmps j) = _
  rw [e]; rfl
 rw [e']
 cases hwant:wantedE L ρi o with
 | true =>
  simp only [if_true]
  have h:=hw hwant
  unfold yieldsR at h
  refine ⟨fun _ _=>trivial, ?_⟩
  have e:Fence.wide.round = none:=rfl
  rw [e, Oper.semAt_none, exec_act hok]
  revert h
  generalize (execOp (tm ρi) o).run P w = r
  intro h
  cases r with
  | ok n w' =>
   cases n <;> simp only at h <;> simp only [Oper.uponIn]
   case value u=>rw [act_put]; exact hK _ _ h
   case skip=>rw [act_put]; exact hK _ _ h
   case enter f args =>
    refine ⟨fun h=>by simp [Fence.wide] at h, callsIn_wide.2 (Calls.mono h ?_)⟩
    rintro e w'' ⟨v, rfl, hk⟩
    simp only
    rw [act_put]; exact hK _ _ hk
  | halt x w'=>exact h.elim
 | false =>
  simp only [Bool.false_eq_true, if_false]
  refine ⟨fun _ _=>trivial, ?_⟩
  rw [act_put]; exact hK _ _ (hn hwant)
structure VY (m:Nat) (P:Program) (N:Nat) (L0:List Oper) (Q:Exit → Env → World → Prop) (l:List Oper) (ρ:Env) (w:World):Prop where
 go:okOps N L0 = true → okOps N l = true → wpListIn Fence.wide m P L0.toArray (lift N Q) l (act N ρ) w
theorem VY.nil {m:Nat} {w:World} (h:Q .normal ρ w):VY m P N L Q [] ρ w:=⟨fun _ _=>wpListIn_nil ⟨ρ, rfl, h⟩⟩
theorem VY.op {m d:Nat} {q:Op} {ty:TypeId} {p:String} {af:Array Edge} {v:Value} {w w':World} {rest:List Oper} (hr:run1 P ρ q ty w = .ok (.value v) w')
  (h:VY m P N L Q rest (upd ρ d v) w'):VY m P N L Q ({ dst:=some d, op:=q, type:=ty, pos:=p, after:=af, guard:=none } :: rest) ρ w :=
 ⟨fun ok okl=>VLI.op okl hr fun ok2=>h.go ok ok2⟩
theorem VY.round {m d:Nat} {x:Operand} {y:Operand} {ts:Array TypeId} {ty:TypeId} {p:String} {af:Array Edge} {v:Value} {w:World} {rest:List Oper} {lp:Nat} {RR:Ending → World → Prop} (hx:tm ρ x = .func (.yield lp) #[] #[]) (hy:tm ρ y = v) (hY:YieldAt Fence.wide m P lp #[v] w RR)
  (h:∀ e w', RR e w' → ∃ u, e = .returned u ∧ VY (m + 1) P N L Q rest (upd ρ d u) w'):VY (m + 1) P N L Q ({ dst:=some d, op:=.call { callee:=.value x, args:=#[y], argTypes:=ts }, type:=ty, pos:=p, after:=af, guard:=none } :: rest) ρ w:=by
 refine ⟨fun ok okl=>?_⟩
 obtain ⟨fn, tmps, assign, body, hrun, hR⟩:=hY
 exact VLI.round okl (R.callY (v:=v) hx hy hrun) hR fun ok2 e w' he=>by
  obtain ⟨u, rfl, hv⟩:=h e w' he
  exact ⟨u, rfl, hv.go ok ok2⟩
theorem wpAnyI_serial {mm:Nat} (R:RegOk L k) {QQ:Exit → Act → World → Prop}:∀ (n m fuel:Nat) (listed:Array Bool) (a:Act) (w:World), n = L.length - m → k ≤ m → m ≤ L.length → listed.size = L.length →
  lst listed = lexD m → L.length - m ≤ fuel → wpOpsIn Fence.wide mm P L.toArray QQ (List.range' m n) a w → wpAnyIn Fence.wide mm P .any L.toArray QQ fuel listed a w:=by
 intro n
 induction n with
 | zero =>
  intro m fuel listed a w hn hk hm hs hl hf h
  have hnil:Region.ready .any L.toArray listed = []:=by
   rw [List.eq_nil_iff_forall_not_mem]
   intro j hj
   obtain ⟨h0, o, ho, _⟩:=mem_ready.1 hj
   have hjl:j < L.length:=by simpa using (Array.getElem?_eq_some_iff.1 ho).1
   have:=lst_no (by omega) h0
   rw [hl] at this
   unfold lexD at this
   rw [nblt.2 (by omega)] at this; cases this
  cases fuel with
  | zero=>exact ⟨hnil, by simpa [wpOpsIn] using h⟩
  | succ fuel=>exact ⟨fun _=>by simpa [wpOpsIn] using h, fun j hj=>by rw [hnil] at hj; cases hj⟩
 | succ n ih =>
  intro m fuel listed a w hn hk hm hs hl hf h
  have hml:m < L.length:=by omega
  obtain ⟨fuel, rfl⟩:∃ f, fuel = f + 1:=⟨fuel - 1, by omega⟩
  have hready:∀ j, j ∈ Region.ready .any L.toArray listed → j = m:=by
   intro j hj
   obtain ⟨h0, o, ho, hall⟩:=mem_ready.1 hj
   have hjl:j < L.length:=by simpa using (Array.getElem?_eq_some_iff.1 ho).1
   have h1:=lst_no (by omega) h0
   rw [hl] at h1
   have hjm:¬ j < m:=fun hlt=>by unfold lexD at h1; rw [nblt.2 hlt] at h1; cases h1
   by_cases hgt:m < j
   ·have hb:=R.serial j hjl (by omega) m hgt
    have hcl:closedD L (lst listed):=by
     rw [hl]
     intro i' o' ho' hlt e he hb'
     have:=R.back i' o' ho' e he hb'
     have:=nblt.1 hlt
     exact nblt.2 (by omega)
    have ho':L[j]? = some o:=by simpa using ho
    have hd:=anc_done R hcl ho' (fun e he hbe=>hall e he hbe) hb
    rw [hl] at hd
    have:=nblt.1 hd
    omega
   ·omega
  have hmem:m ∈ Region.ready .any L.toArray listed:=by
   refine mem_ready.2 ⟨lst_no' (by omega) (by rw [hl]; exact nblt_no (Nat.lt_irrefl m)), L[m], by simp [hml], fun e he hb=>?_⟩
   have:=R.back m L[m] (by simp [hml]) e he hb
   have h2:lst listed e.on = true:=by rw [hl]; exact nblt.2 this
   exact h2
  refine ⟨fun h0=>(by rw [h0] at hmem; cases hmem), fun j hj=>?_⟩
  rw [hready j hj]
  rw [List.range'_succ, wpOpsIn_cons] at h
  refine wpOpIn_mono (fun a' w' h'=>?_) h
  exact ih (m + 1) fuel _ a' w' (by omega) (by omega) (by omega) (by simpa using hs) (by rw [lst_set (by omega), hl, setD_lex]) (by omega) h'
theorem wpAnyI_any2 {mm:Nat} (R:RegOk L k) (hL:okOps N L = true) (hkl:k ≤ L.length) {C:(Nat → Bool) → (Nat → Value) → World → Prop} {QQ:Exit → Act → World → Prop}
  (hask:∀ i o, L[i]? = some o → i < k → Asked2 P L ρ C k i o)
  (hend:∀ vals w, C (lexD k) vals w → wpOpsIn Fence.wide mm P L.toArray QQ (List.range' k (L.length - k)) (act N (envL L vals ρ k)) w) :
  ∀ (n fuel:Nat) (listed:Array Bool) (vals:Nat → Value) (w:World), listed.size = L.length → closedD L (lst listed) → (∀ j, k ≤ j → lst listed j = false) →
   n = ((List.range k).filter fun j=>!lst listed j).length → n + (L.length - k) ≤ fuel → C (lst listed) vals w →
   wpAnyIn Fence.wide mm P .any L.toArray QQ fuel listed (act N (envD L vals (lst listed) ρ)) w:=by
 intro n
 induction n with
 | zero =>
  intro fuel listed vals w hs hcl hsuf hn hf hC
  have hall:∀ j, j < k → lst listed j = true:=by
   intro j hj
   have h0:=List.eq_nil_of_length_eq_zero hn.symm
   rw [List.filter_eq_nil_iff] at h0
   simpa using h0 j (List.mem_range.2 hj)
  have he:lst listed = lexD k:=by
   funext j
   by_cases hj:j < k
   ·rw [hall j hj]; exact (nblt.2 hj).symm
   ·rw [hsuf j (by omega)]; exact (nblt_no hj).symm
  rw [he] at hC ⊢
  exact wpAnyI_serial R _ k fuel listed _ w rfl (Nat.le_refl _) hkl hs he (by omega) (hend vals w hC)
 | succ n ih =>
  intro fuel listed vals w hs hcl hsuf hn hf hC
  obtain ⟨fuel, rfl⟩:∃ f, fuel = f + 1:=⟨fuel - 1, by omega⟩
  have hex:∃ j, j < k ∧ lst listed j = false ∧ ∀ i, i < j → lst listed i = true:=by
   have h0:∃ j, j < k ∧ lst listed j = false:=by
    have:((List.range k).filter fun j=>!lst listed j) ≠ []:=by
     intro h; rw [h] at hn; cases hn
    obtain ⟨j, hj⟩:=List.exists_mem_of_ne_nil _ this
    rw [List.mem_filter, List.mem_range] at hj
    exact ⟨j, hj.1, by simpa using hj.2⟩
   obtain ⟨j, hjk, hj⟩:=h0
   have key:∀ j, lst listed j = false → ∃ m, m ≤ j ∧ lst listed m = false ∧ ∀ i, i < m → lst listed i = true:=by
    intro j
    induction j using Nat.strongRecOn with
    | _ j ihj =>
     intro hj
     by_cases hx:∀ i, i < j → lst listed i = true
     ·exact ⟨j, Nat.le_refl _, hj, hx⟩
     ·obtain ⟨i, hi⟩:=Classical.not_forall.1 hx
      obtain ⟨hij, hi'⟩:=Classical.not_imp.1 hi
      obtain ⟨m, h1, h2, h3⟩:=ihj i hij (by simpa using hi')
      exact ⟨m, by omega, h2, h3⟩
   obtain ⟨m, h1, h2, h3⟩:=key j hj
   exact ⟨m, by omega, h2, h3⟩
  obtain ⟨m, hmk, hmn, hmall⟩:=hex
  have hml:m < L.length:=by omega
  have hmem:m ∈ Region.ready .any L.toArray listed:=by
   refine mem_ready.2 ⟨lst_no' (by omega) hmn, L[m], by simp [hml], fun e he hb=>?_⟩
   exact hmall e.on (R.back m L[m] (by simp [hml]) e he hb)
  refine ⟨fun h0=>(by rw [h0] at hmem; cases hmem), fun i hi=>?_⟩
  obtain ⟨h0, o, ho, hdeps⟩:=mem_ready.1 hi
  have ho':L[i]? = some o:=by simpa using ho
  have hil:i < L.length:=(List.getElem?_eq_some_iff.1 ho').1
  have hDi:lst listed i = false:=lst_no (by omega) h0
  have hik:i < k:=by
   rcases Nat.lt_or_ge i k with h | h
   ·exact h
   ·have:=anc_done R hcl ho' (fun e he hb=>hdeps e he hb) (R.serial i hil h m (by omega))
    rw [this] at hmn; cases hmn
  have hok:okOp N o = true:=List.all_eq_true.1 hL o (List.mem_of_getElem? ho')
  have hsame:∀ t ∈ names L o, envD L vals (lst listed) ρ t = envL L vals ρ i t:=fun t ht=>env_same R hcl ho' hDi (fun e he hb=>hdeps e he hb) ht
  have hA:=hask i o ho' hik (lst listed) vals hcl hDi (fun e he hb=>hdeps e he hb) hsuf w hC
  rw [← wanted_same hsame] at hA
  have hlater:∀ d, o.dst = some d → ∀ j, i < j → dstAt L j = some d → lst listed j = false:=by
   intro d hd j hij hdj
   have hjl:=dstAt_lt hdj
   have hoj:L[j]? = some L[j]:=List.getElem?_eq_getElem hjl
   have hdj':L[j].dst = some d:=by rw [dstAt_eq, hoj] at hdj; exact hdj
   have hc:clash L o L[j] = true:=clash_of hdj' (by unfold names; simp [hd])
   rcases R.apart i o j L[j] ho' hoj (by omega) hc with ⟨hlt, _⟩ | ⟨_, hb⟩
   ·omega
   ·cases hDj:lst listed j with
    | false=>rfl
    | true=>rw [anc_closed hcl hjl hb hDj] at hDi; cases hDi
  refine wpOpI_of_yieldsR (Kw:=fun u w'=>C (setD (lst listed) i) (updV vals i u) w') hL ho' (fun hw=>?_) (fun hw=>hA.2 hw) (fun u w' hC'=>?_)
  ·have h1:=hA.1 hw
   unfold yieldsR at h1 ⊢
   rw [tm_same hsame hok]
   exact h1
  ·have ee:put (envD L vals (lst listed) ρ) o.dst u = envD L (updV vals i u) (setD (lst listed) i) ρ:=by
    rw [envD_set ho' hlater, updV_self]
    congr 1
    exact envD_vals fun j hj=>(updV_ne vals u fun e=>by rw [e, hDi] at hj; cases hj).symm
   rw [ee, ← lst_set (by omega)]
   refine ih fuel _ (updV vals i u) w' (by simpa using hs) (by rw [lst_set (by omega)]; exact closed_set hcl ho' (fun e he hb=>hdeps e he hb)) ?_ ?_ (by omega) (by rw [lst_set (by omega)]; exact hC')
   ·intro j hj
    rw [lst_set (by omega)]
    have:j ≠ i:=by omega
    simp [setD, nbeq_ne this, hsuf j hj]
   ·rw [lst_set (by omega)]
    have key:∀ k, i < k → ((List.range k).filter fun j=>!lst listed j).length = ((List.range k).filter fun j=>!setD (lst listed) i j).length + 1:=by
     intro k
     induction k with
     | zero=>intro h; omega
     | succ k ihk =>
      intro h
      rw [List.range_succ, List.filter_append, List.filter_append, List.length_append, List.length_append]
      by_cases hik:i = k
      ·subst hik
       have e1:((List.range i).filter fun j=>!setD (lst listed) i j) = (List.range i).filter fun j=>!lst listed j:=by
        refine List.filter_congr fun j hj=>?_
        have:j ≠ i:=by have:=List.mem_range.1 hj; omega
        simp [setD, nbeq_ne this]
       rw [e1]
       simp [hDi, setD]
      ·rw [ihk (by omega)]
       have:k ≠ i:=fun e=>hik e.symm
       have e2:([k].filter fun j=>!setD (lst listed) i j) = [k].filter fun j=>!lst listed j:=by
        refine List.filter_congr fun j hj=>?_
        have:j ≠ i:=by have:=List.mem_singleton.1 hj; omega
        simp [setD, nbeq_ne this]
       rw [e2]
       omega
    have:=key k hik
    omega
theorem V.regionMI {mm id:Nat} {w:World} (hm:P.follows .mixedOrders = true) (k:Nat) (hr:regOk L k = true) (hk:Nat.ble k L.length = true) (R:Nat → Value → World → Prop)
  (mono:∀ i u w1 w2, Ext w w1 → R i u w1 → Ext w1 w2 → R i u w2)
  (h:∀ vals, VMs P (ancs L []) L R w vals (fun ρ'=>∀ w', Ext w w' → (∀ j, j < k → R j (vals j) w') → VY mm P N L Q (L.drop k) ρ' w') k 0 L ρ) :
  V P N (.region id L.toArray true) Q ρ w:=by
 refine ⟨fun ok=>?_⟩
 have okL:okOps N L = true:=by simpa [okCode] using ok
 have RO:=regOk_spec hr
 have hkl:=Nat.le_of_ble_eq_true hk
 refine (wpIn_wide (n:=mm)).1 (wpIn_region_any hm ?_)
 have hv:=fun vals=>VMs_spec (P:=P) (ρ:=ρ) k 0 L rfl (by rw [envL_zero]; exact h vals) (by omega)
 let C:(Nat → Bool) → (Nat → Value) → World → Prop:=fun D vals w'=>Ext w w' ∧ ∀ j, j < k → D j = true → R j (vals j) w'
 have start:=wpAnyI_any2 (P:=P) (N:=N) (ρ:=ρ) (mm:=mm) (C:=C) (QQ:=lift N Q) RO okL hkl ?_ ?_ k L.toArray.size (Array.replicate L.toArray.size false) (fun _=>undef) { w with drawn:=w.drawn + 1 } (by simp) ?_ ?_ ?_ (by simp; omega) ?_
 ·have e:lst (Array.replicate L.toArray.size false) = fun _=>false:=by
   funext j; unfold lst; simp [Array.getElem?_replicate]; split <;> rfl
  rw [e, envD_none] at start
  exact start
 ·intro i o ho hik D vals hcl hDi hdeps hsuf w' hC
  obtain ⟨h1, _⟩:=hv vals
  have h1:=h1 i o hik (by rw [Nat.zero_add]; exact ho) w' hC.1 fun y hy=>by
   rw [Nat.zero_add] at hy
   have hil:i < L.length:=(List.getElem?_eq_some_iff.1 ho).1
   have hyi:=anc_lt RO hil hy
   exact hC.2 y (by omega) (anc_done RO hcl ho hdeps hy)
  rw [Nat.zero_add] at h1
  have keep:∀ u w'', R i u w'' → Ext w' w'' → C (setD D i) (updV vals i u) w'':=fun u w'' hR he=>by
   refine ⟨hC.1.trans he, fun j hj hD=>?_⟩
   by_cases hji:j = i
   ·subst hji; rw [updV_self]; exact hR
   ·rw [updV_ne _ _ hji]
    have:D j = true:=by simpa [setD, nbeq_ne hji] using hD
    exact mono j _ _ _ hC.1 (hC.2 j hj this) he
  refine ⟨fun hw=>?_, fun hw=>keep _ _ (h1.2 hw) (Mod.refl _ _)⟩
  have h2:=h1.1 hw
  unfold yieldsR at h2 ⊢
  revert h2
  generalize (execOp (tm (envL L vals ρ i)) o).run P w' = r
  intro h2
  cases r with
  | ok n w'' =>
   cases n with
   | value u=>exact keep _ _ h2.1 h2.2
   | skip=>exact keep _ _ h2.1 h2.2
   | enter f args=>exact h2.mono fun u w3 h3=>keep _ _ h3.1 h3.2
   | _=>exact h2
  | halt=>exact h2
 ·intro vals w' hC
  obtain ⟨_, h2⟩:=hv vals
  rw [Nat.zero_add] at h2
  have hvl:=h2 w' hC.1 fun j hj=>hC.2 j hj (nblt.2 hj)
  have hdrop:okOps N (L.drop k) = true:=by
   unfold okOps at *
   rw [List.all_eq_true] at *
   exact fun o ho=>okL o (List.mem_of_mem_drop ho)
  have:=hvl.go okL hdrop
  rw [← wpOpsIn_eq_wpListIn (L.drop k) k (by intro j; simp)] at this
  simpa using this
 ·intro i o _ hi
  unfold lst at hi
  simp [Array.getElem?_replicate] at hi
  split at hi <;> cases hi
 ·intro j _; unfold lst; simp [Array.getElem?_replicate]; split <;> rfl
 ·have:((List.range k).filter fun j=>!lst (Array.replicate L.toArray.size false) j) = List.range k:=by
   rw [List.filter_eq_self]
   intro j _; unfold lst; simp [Array.getElem?_replicate]; split <;> rfl
  rw [this, List.length_range]
 ·refine ⟨Ext.drawn _, fun j _ hj=>?_⟩
  unfold lst at hj
  simp [Array.getElem?_replicate] at hj
  split at hj <;> cases hj
end
end Go.Vc

/- Own library: loops and open regions within a round (printed by mkvi.py). -/
namespace Go.Vc
end Go.Vc
