/- Own library: a call ahead of the writer of a region of open order; an entry of a map that is turned while the map is ranged over; a map's copy. -/
import Derived.Test.YtglaigeellpikaaXVcLaw2
import Derived.Test.YtglaigeellpikaaXVcTMap
import GoSem.Extern.MapsClone
namespace Go.Vc
section
variable {P : Program} {L l : List Oper} {ρ : Env} {C0 C1 : World → Prop} {m j i d : Nat} {ty : TypeId} {p : String} {af : Array Edge} {K : Env → Prop} {v : Value}
theorem VW.callP0 {f : FuncId} {l' : List Operand} {vs : List Value} {ts : Array TypeId} (hC : ∀ a b, C0 a → Ext a b → C0 b) (hc : IsFn P f) (ha : l'.map (tm ρ) = vs) (hf : ∀ w, C0 w → RetsP P f vs.toArray w v)
    (h : VW P L C0 C1 m j (i + 1) l (upd ρ d v) K) (hi : Nat.beq i m = false := by rfl) (hb : ((ancs L []).getD m 0).testBit i = true := by kernel_rfl) :
    VW P L C0 C1 m (j + 1) i ({ dst := some d, op := .call { callee := .value (.func f), args := l'.toArray, argTypes := ts }, type := ty, pos := p, after := af, guard := none } :: l) ρ K :=
  VW.mk' rfl hi (fun w hw => by unfold yieldsTo; rw [run1_eq, R.call hc ha]; exact (hf w hw).mono fun _ w' ⟨hv, he⟩ => ⟨hv, hC w w' hw he⟩) (.inl hb) h
end
section
variable {κ : Type} [DecidableEq κ] {enc : κ → Value} {P : Program} {kt : TypeId}
theorem KeyT.inj (K : KeyT P kt enc) {a b : κ} (h : enc a = enc b) : a = b := by
  have h1 := K.eq a b default
  have h2 := K.eq a a default
  rw [← h, h2] at h1
  injection h1 with h1 _
  simpa using h1.symm
/-- An entry that has just been handed out is turned: the iterator goes on. -/
theorem IterAt.upd (K : KeyT P kt enc) {mt e : TypeId} (hu : ∀ w, (underlying mt).run P w = .ok (.map kt e) w) {w : World} {it r : Nat} {l rem : List (κ × Value)} {k : κ} {v0 : Value} (h : IterAt w it r enc l rem (some (k, v0))) (hne : it ≠ r) (v : Value) :
    ∃ w', (Instr.mapUpdate mt (.map (some r)) (enc k) v).run P w = .ok () w' ∧ IterAt w' it r enc (mset l k v) rem none ∧ Mod (one r) w w' ∧ w'.heap.size = w.heap.size := by
  obtain ⟨es, c, since, c0, seen, hm, hI, hold, hsc, hck, hrem, hl⟩ := h.ex
  obtain ⟨e0, he0, hb0, hekv⟩ := hl _ rfl
  have hf := findKey_run K k es.toList l w hm.kv
  unfold Instr.mapUpdate
  simp only [Sem.run_bind, hu, Result.andThen_ok, getObj_run hm.blk, K.chk, hf]
  have hlen : es.toList.length = l.length := by simpa using congrArg List.length hm.kv
  have hke : e0.key = enc k := congrArg Prod.fst hekv
  obtain ⟨j, hj, hje⟩ := List.getElem_of_mem he0
  have hjl : j < l.length := by omega
  have hjk : (l[j]).1 = k := by
    have h1 := congrArg (fun z => z[j]?) hm.kv
    simp only [List.getElem?_map, List.getElem?_eq_getElem hjl, List.getElem?_eq_getElem hj, hje, Option.map_some, Option.some.injEq, ekv, Prod.mk.injEq] at h1
    exact K.inj (h1.1.symm.trans hke)
  cases hlk : lk k l 0 with
  | none =>
    have := (lk_none hlk).2
    exact absurd (List.mem_map.2 ⟨l[j], List.getElem_mem _, hjk⟩) this
  | some iv =>
    obtain ⟨i, u⟩ := iv
    obtain ⟨_, h2, h3⟩ := lk_some hlk
    simp only [Nat.sub_zero] at h2 h3
    have hi : i < es.size := by have := (List.getElem?_eq_some_iff.1 h2).1; simp at hlen; omega
    have hil : i < l.length := (List.getElem?_eq_some_iff.1 h2).1
    have hik : (l[i]).1 = k := by rw [List.getElem?_eq_getElem hil] at h2; injection h2 with h2; rw [h2]
    have hij : i = j := by
      refine Classical.byContradiction fun hne => ?_
      have hnd := hm.nd
      unfold List.Nodup at hnd
      rw [List.pairwise_map, List.pairwise_iff_getElem] at hnd
      rcases Nat.lt_or_gt_of_ne hne with h | h
      · exact hnd i j hil hjl h (by rw [hik, hjk])
      · exact hnd j i hjl hil h (by rw [hik, hjk])
    subst hij
    have hei : es[i]? = some es[i] := Array.getElem?_eq_getElem hi
    have hes : es[i] = e0 := by simpa using hje
    have hkey : es[i].key = enc k := by rw [hes]; exact hke
    have hstay : (Instr.keyThatStays (enc k) (enc k)).run P w = .ok (enc k) w := by
      unfold Instr.keyThatStays; rw [if_pos (K.stay k)]; rfl
    simp only [hei, Option.map_some, Option.getD_some, hkey, Sem.run_bind, hstay, Result.andThen_ok, setObj_run hm.blk]
    have hmod : (es.modify i fun e => { e with key := enc k, val := v }).toList = es.toList.set i { es[i] with key := enc k, val := v } := by
      rw [Array.toList_modify]
      apply List.ext_getElem?
      intro q
      rw [List.getElem?_modify, List.getElem?_set]
      by_cases hiq : i = q
      · subst hiq; simp [hi]
      · simp [hiq]
    have hbs : (es.toList.map (·.born)).set i es[i].born = es.toList.map (·.born) := by
      apply List.ext_getElem?
      intro q
      rw [List.getElem?_set]
      by_cases hiq : i = q
      · subst hiq; simp [hi]
      · simp [hiq]
    have hseen : seen.contains es[i].born = true := by
      rw [hes]
      have : e0.born ∈ seen := by
        rw [Array.back?_eq_getElem?] at hb0
        exact Array.mem_of_getElem? hb0
      simpa using this
    have hmod2 : Mod (one r) w { w with heap := w.heap.setIfInBounds r (.map (es.modify i fun e => { e with key := enc k, val := v }) c) } := setObj_mod _ _ _
    refine ⟨_, rfl, ⟨_, c, since, c0, seen, ⟨setObj_blk hm.blk _, ?_, ?_, ?_, mset_nodup hm.nd k v⟩, hI.mod hmod2 (fun e => hne e), ?_, hsc, hck, ?_, fun p hp => by cases hp⟩, hmod2, by simp⟩
    · rw [hmod, h3 v, List.map_set, List.map_set, hm.kv]; rfl
    · rw [hmod, List.map_set]
      show ((es.toList.map (·.born)).set i es[i].born).Pairwise _
      rw [hbs]; exact hm.born
    · intro x hx
      rw [hmod] at hx
      rcases List.mem_or_eq_of_mem_set hx with hx | rfl
      · exact hm.clk x hx
      · exact hm.clk es[i] (by simp)
    · intro x hx
      rw [hmod] at hx
      rcases List.mem_or_eq_of_mem_set hx with hx | rfl
      · exact hold x hx
      · exact hold es[i] (by simp)
    · rw [← hrem, hmod]
      have key : ∀ (L : List MapEntry) (i : Nat) (hi : i < L.length) (e' : MapEntry), e'.born = (L[i]).born → seen.contains (L[i]).born = true → (L.set i e').filter (fun e => !seen.contains e.born) = L.filter (fun e => !seen.contains e.born) := by
        intro L
        induction L with
        | nil => intro i hi; simp at hi
        | cons a L ih =>
          intro i hi e' h1 h2
          cases i with
          | zero =>
            simp only [List.getElem_cons_zero] at h1 h2
            rw [List.set_cons_zero, List.filter_cons, List.filter_cons, h1, h2]; rfl
          | succ i =>
            simp only [List.getElem_cons_succ] at h1 h2
            rw [List.set_cons_succ, List.filter_cons, List.filter_cons, ih i (by simpa using hi) e' h1 h2]
      rw [key es.toList i (by simpa using hi) _ (by simp) (by simpa using hseen)]
end
section
variable {P : Program} {N : Nat} {L : List Oper} {Q : Exit → Env → World → Prop} {rest : List Oper} {ρ : Env} {w : World}
  {d : Nat} {ty t : TypeId} {p : String} {af : Array Edge} {x y z' : Operand} {κ : Type} [DecidableEq κ] {enc : κ → Value} {kt e : TypeId}
theorem VL.mapUpdateI {it r : Nat} {l rem : List (κ × Value)} {k : κ} {v0 v : Value} (K : KeyT P kt enc) (hu : ∀ w, (underlying t).run P w = .ok (.map kt e) w) (hx : tm ρ x = .map (some r)) (hy : tm ρ y = enc k) (hz : tm ρ z' = v)
    (hI : IterAt w it r enc l rem (some (k, v0))) (hne : it ≠ r) (h : ∀ w', IterAt w' it r enc (mset l k v) rem none → Mod (one r) w w' → w'.heap.size = w.heap.size → VL P N L Q rest ρ w') :
    VL P N L Q ({ dst := none, op := .mapUpdate t x y z', type := ty, pos := p, after := af, guard := none } :: rest) ρ w := by
  obtain ⟨w', h1, h2, h3, h4⟩ := IterAt.upd K hu hI hne v
  refine VL.op0 ?_ (h w' h2 h3 h4)
  simp only [run1, execOp, hx, hy, hz, Sem.run_bind, h1, Result.andThen_ok, Sem.run_pure]

omit [DecidableEq κ] in
theorem VL.clearM {r : Nat} {l : List (κ × Value)} (hu : ∀ w, (underlying t).run P w = .ok (.map kt e) w) (hx : tm ρ x = .map (some r)) (hm : MapIs w r enc l) (h : ∀ w', MapIs w' r enc [] → Mod (one r) w w' → VL P N L Q rest ρ w') :
    VL P N L Q ({ dst := none, op := .call { callee := .builtin .clear, args := #[x], argTypes := #[t] }, type := ty, pos := p, after := af, guard := none } :: rest) ρ w := by
  obtain ⟨es, c, hA⟩ := hm
  refine VL.opv (v := .tuple #[]) (w' := { w with heap := w.heap.setIfInBounds r (.map #[] c) }) ?_ (h _ ⟨#[], c, setObj_blk hA.blk _, rfl, by simp, by simp, by simp⟩ (setObj_mod _ _ _))
  simp only [run1, execOp, resolve, invoke, builtin, Sem.run_bind, Sem.run_pure, Result.andThen_ok, List.map_toArray, List.map_cons, List.map_nil, hx, Builtin.clear_]
  simp [hu, Sem.run_bind, Result.andThen_ok, getObj_run hA.blk, setObj_run hA.blk, go_sem]
end
section
variable {P : Program} {N : Nat} {L : List Oper} {Q : Exit → Env → World → Prop} {rest : List Oper} {ρ : Env} {w : World} {d : Nat} {ty : TypeId} {p : String} {af : Array Edge} {x : Operand}
theorem VL.callCX {ι : Type} {f : FuncId} {l : List Operand} {Fv Cv vs : List Value} {ts : Array TypeId} {val : ι → Value} {K : ι → World → Prop} (hx : tm ρ x = .func (.func f) Fv.toArray Cv.toArray) (hc : IsFn P f) (ha : l.map (tm ρ) = vs) (hf : RetsX P f (Fv ++ vs ++ Cv).toArray w val K)
    (h : ∀ i w', K i w' → Ext w w' → VL P N L Q rest (upd ρ d (val i)) w') :
    VL P N L Q ({ dst := some d, op := .call { callee := .value x, args := l.toArray, argTypes := ts }, type := ty, pos := p, after := af, guard := none } :: rest) ρ w :=
  VL.callC hx hc ha (hf.mono fun _ w' ⟨i, hv, hK, he⟩ => by rw [hv]; exact h i w' hK he)
end
end Go.Vc
