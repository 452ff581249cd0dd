/- Own library: maps. -/
import Derived.Test.YtbckofoibdljgaaVcRun3
namespace Go.Vc

/-- What is asked of a key's type: 'enc' spells a key as a value. -/
structure KeyT (P : Program) (kt : TypeId) {κ : Type} [DecidableEq κ] (enc : κ → Value) : Prop where
  td : ∃ td, P.underlying kt = some td ∧ ∀ a b, Instr.sameNow td (enc a) (enc b) = none ∨ Instr.sameNow td (enc a) (enc b) = some (decide (a = b))
  eq : ∀ a b w, (Op.equal kt (enc a) (enc b)).run P w = .ok (decide (a = b)) w
  chk : ∀ e a w, (Instr.checkKey e 10000 kt (enc a)).run P w = .ok () w
  stay : ∀ a, Instr.sameBits 10000 (enc a) (enc a) = true

section
variable {κ : Type} [DecidableEq κ] {enc : κ → Value}

def lk (k : κ) : List (κ × Value) → Nat → Option (Nat × Value)
  | [], _ => none
  | (k', v) :: l, i => if k = k' then some (i, v) else lk k l (i + 1)

/-- The map's value at a key. -/
def mget (l : List (κ × Value)) (k : κ) : Option Value :=
  match l with
  | [] => none
  | (k', v) :: l => if k = k' then some v else mget l k
/-- The map with a key set: in place, or behind the others. -/
def mset (l : List (κ × Value)) (k : κ) (v : Value) : List (κ × Value) :=
  match l with
  | [] => [(k, v)]
  | (k', v') :: l => if k = k' then (k, v) :: l else (k', v') :: mset l k v

theorem mget_mset (l : List (κ × Value)) (k k' : κ) (v : Value) : mget (mset l k v) k' = if k' = k then some v else mget l k' := by
  induction l with
  | nil => simp [mset, mget]
  | cons p l ih =>
    obtain ⟨a, x⟩ := p
    simp only [mset]
    by_cases h : k = a
    · subst h; simp only [if_true, mget]
      by_cases h2 : k' = k <;> simp [h2]
    · rw [if_neg h]; simp only [mget, ih]
      by_cases h2 : k' = a
      · subst h2; simp; intro e; exact absurd e.symm h
      · simp [h2]
theorem mset_keys (l : List (κ × Value)) (k : κ) (v : Value) : (mset l k v).map (·.1) = if k ∈ l.map (·.1) then l.map (·.1) else l.map (·.1) ++ [k] := by
  induction l with
  | nil => simp [mset]
  | cons p l ih =>
    obtain ⟨a, x⟩ := p
    simp only [mset]
    by_cases h : k = a
    · subst h; simp
    · rw [if_neg h]; simp only [List.map_cons, ih, List.mem_cons, h, false_or]
      split <;> simp
theorem mset_nodup {l : List (κ × Value)} (h : (l.map (·.1)).Nodup) (k : κ) (v : Value) : ((mset l k v).map (·.1)).Nodup := by
  rw [mset_keys]
  split
  · exact h
  · rename_i hk
    rw [List.nodup_append]
    refine ⟨h, by simp, ?_⟩
    intro a ha b hb
    simp at hb; subst hb
    rintro rfl
    exact hk ha
theorem mget_none {l : List (κ × Value)} {k : κ} : mget l k = none ↔ k ∉ l.map (·.1) := by
  induction l with
  | nil => simp [mget]
  | cons p l ih =>
    obtain ⟨a, x⟩ := p
    simp only [mget, List.map_cons, List.mem_cons]
    by_cases h : k = a
    · simp [h]
    · simp [h, ih]
theorem mget_mem {l : List (κ × Value)} (h : (l.map (·.1)).Nodup) {k : κ} {v : Value} : mget l k = some v ↔ (k, v) ∈ l := by
  induction l with
  | nil => simp [mget]
  | cons p l ih =>
    obtain ⟨a, x⟩ := p
    simp only [List.map_cons, List.nodup_cons] at h
    simp only [mget, List.mem_cons, Prod.mk.injEq]
    by_cases hk : k = a
    · subst hk
      simp only [if_true, Option.some.injEq, true_and]
      constructor
      · intro e; exact .inl e.symm
      · rintro (e | e)
        · exact e.symm
        · exact absurd (List.mem_map_of_mem (f := (·.1)) e) h.1
    · simp [hk, ih h.2]

theorem lk_mget (k : κ) (l : List (κ × Value)) (i : Nat) : (lk k l i).map (·.2) = mget l k := by
  induction l generalizing i with
  | nil => rfl
  | cons p l ih =>
    obtain ⟨a, x⟩ := p
    simp only [lk, mget]
    split
    · rfl
    · exact ih _
theorem lk_some {k : κ} {l : List (κ × Value)} {i j : Nat} {v : Value} (h : lk k l i = some (j, v)) : i ≤ j ∧ l[j - i]? = some (k, v) ∧ ∀ v', mset l k v' = l.set (j - i) (k, v') := by
  induction l generalizing i with
  | nil => simp [lk] at h
  | cons p l ih =>
    obtain ⟨a, x⟩ := p
    simp only [lk] at h
    by_cases hk : k = a
    · subst hk
      simp only [if_true, Option.some.injEq, Prod.mk.injEq] at h
      obtain ⟨rfl, rfl⟩ := h
      simp [mset]
    · rw [if_neg hk] at h
      obtain ⟨h1, h2, h3⟩ := ih h
      have e : j - i = (j - (i + 1)) + 1 := by omega
      refine ⟨by omega, by rw [e]; simpa using h2, fun v' => ?_⟩
      rw [e]
      simp only [mset, if_neg hk, List.set_cons_succ, h3]
theorem lk_none {k : κ} {l : List (κ × Value)} {i : Nat} (h : lk k l i = none) : (∀ v', mset l k v' = l ++ [(k, v')]) ∧ k ∉ l.map (·.1) := by
  induction l generalizing i with
  | nil => simp [mset]
  | cons p l ih =>
    obtain ⟨a, x⟩ := p
    simp only [lk] at h
    by_cases hk : k = a
    · rw [if_pos hk] at h; cases h
    · rw [if_neg hk] at h
      obtain ⟨h1, h2⟩ := ih h
      exact ⟨fun v' => by simp only [mset, if_neg hk, h1, List.cons_append], by simpa [hk] using h2⟩

def ekv (e : MapEntry) : Value × Value := (e.key, e.val)

/-- Block 'r' is a map with these entries, in this order. -/
structure MapAt (w : World) (r : Nat) (enc : κ → Value) (l : List (κ × Value)) (es : Array MapEntry) (clock : Nat) : Prop where
  blk : Blk w r (.map es clock)
  kv : es.toList.map ekv = l.map fun p => (enc p.1, p.2)
  born : (es.toList.map (·.born)).Pairwise (· < ·)
  clk : ∀ e ∈ es.toList, e.born < clock
  nd : (l.map (·.1)).Nodup
/-- The same, the stamps left open. -/
def MapIs (w : World) (r : Nat) (enc : κ → Value) (l : List (κ × Value)) : Prop := ∃ es clock, MapAt w r enc l es clock

omit [DecidableEq κ] in
theorem MapAt.mod {S : Nat → Prop} {w w' : World} {r : Nat} {l : List (κ × Value)} {es : Array MapEntry} {c : Nat} (h : MapAt w r enc l es c) (m : Mod S w w') (hr : ¬ S r) : MapAt w' r enc l es c :=
  ⟨h.blk.mod m hr, h.kv, h.born, h.clk, h.nd⟩
omit [DecidableEq κ] in
theorem MapIs.mod {S : Nat → Prop} {w w' : World} {r : Nat} {l : List (κ × Value)} (h : MapIs w r enc l) (m : Mod S w w') (hr : ¬ S r) : MapIs w' r enc l :=
  let ⟨es, c, h⟩ := h; ⟨es, c, h.mod m hr⟩
omit [DecidableEq κ] in
theorem MapIs.ext {w w' : World} {r : Nat} {l : List (κ × Value)} (h : MapIs w r enc l) (m : Ext w w') : MapIs w' r enc l := h.mod m fun e => e
omit [DecidableEq κ] in
theorem MapIs.lt {w : World} {r : Nat} {l : List (κ × Value)} (h : MapIs w r enc l) : r < w.heap.size := let ⟨_, _, h⟩ := h; h.blk.lt
omit [DecidableEq κ] in
theorem MapIs.nd {w : World} {r : Nat} {l : List (κ × Value)} (h : MapIs w r enc l) : (l.map (·.1)).Nodup := let ⟨_, _, h⟩ := h; h.nd

variable {P : Program} {kt : TypeId}

theorem findAsking_run (K : KeyT P kt enc) (k : κ) : ∀ (es : List MapEntry) (l : List (κ × Value)) (i : Nat) (w : World), es.map ekv = l.map (fun p => (enc p.1, p.2)) →
    (Instr.findAsking kt (enc k) es i).run P w = .ok (lk k l i) w := by
  intro es
  induction es with
  | nil => intro l i w h; cases l with | nil => rfl | cons => simp at h
  | cons e es ih =>
    intro l i w h
    cases l with
    | nil => simp at h
    | cons p l =>
      obtain ⟨a, x⟩ := p
      simp only [List.map_cons, List.cons.injEq, ekv, Prod.mk.injEq] at h
      obtain ⟨⟨h1, h2⟩, h3⟩ := h
      simp only [Instr.findAsking, h1, Sem.run_bind, K.eq, Result.andThen_ok, lk]
      by_cases hk : k = a
      · simp [hk, go_sem, h2]
      · simp only [hk, decide_false, Bool.false_eq_true, if_false]
        exact ih l (i + 1) w h3

theorem findKey_run (K : KeyT P kt enc) (k : κ) (es : List MapEntry) (l : List (κ × Value)) (w : World) (h : es.map ekv = l.map (fun p => (enc p.1, p.2))) :
    (Instr.findKey kt (enc k) es).run P w = .ok (lk k l 0) w := by
  obtain ⟨td, htd, hnow⟩ := K.td
  have hu : (underlying kt).run P w = .ok td w := run_underlying htd w
  have key : ∀ (es : List MapEntry) (l : List (κ × Value)) (i : Nat), es.map ekv = l.map (fun p => (enc p.1, p.2)) → Instr.findNow td (enc k) es i = none ∨ Instr.findNow td (enc k) es i = some (lk k l i) := by
    intro es
    induction es with
    | nil => intro l i h; cases l with | nil => exact .inr rfl | cons => simp at h
    | cons e es ih =>
      intro l i h
      cases l with
      | nil => simp at h
      | cons p l =>
        obtain ⟨a, x⟩ := p
        simp only [List.map_cons, List.cons.injEq, ekv, Prod.mk.injEq] at h
        obtain ⟨⟨h1, h2⟩, h3⟩ := h
        simp only [Instr.findNow, h1, lk]
        rcases hnow k a with hn | hn
        · rw [hn]; exact .inl rfl
        · rw [hn]
          by_cases hk : k = a
          · simp [hk, h2]
          · simp only [hk, decide_false, if_false]
            exact ih l (i + 1) h3
  unfold Instr.findKey
  simp only [Sem.run_bind, hu, Result.andThen_ok]
  rcases key es l 0 h with hn | hn
  · rw [hn]; exact findAsking_run K k es l 0 w h
  · rw [hn]; rfl

theorem setObj_run {w : World} {r : Nat} {es : Array MapEntry} {c : Nat} (h : Blk w r (.map es c)) (o : Obj) :
    (setObj r o).run P w = .ok () { w with heap := w.heap.setIfInBounds r o } := by
  unfold Blk at h
  simp [setObj, Sem.run, h]
theorem setObj_mod (w : World) (r : Nat) (o : Obj) : Mod (one r) w { w with heap := w.heap.setIfInBounds r o } :=
  ⟨rfl, rfl, rfl, Nat.le_refl _, by simp, fun b _ hn => by
    have : ¬ r = b := fun e => hn e.symm
    simp [Array.getElem?_setIfInBounds_ne this]⟩
theorem setObj_blk {w : World} {r : Nat} {o' : Obj} (h : Blk w r o') (o : Obj) : Blk { w with heap := w.heap.setIfInBounds r o } r o := by
  have := h.lt
  unfold Blk; simp [this]
theorem getObj_run {w : World} {r : Nat} {es : Array MapEntry} {c : Nat} (h : Blk w r (.map es c)) : (getObj r).run P w = .ok (.map es c) w := by
  unfold Blk at h
  simp [getObj, Sem.run, h]

theorem pairwise_snoc {l : List Nat} {c : Nat} (h : l.Pairwise (· < ·)) (hc : ∀ x ∈ l, x < c) : (l ++ [c]).Pairwise (· < ·) := by
  rw [List.pairwise_append]
  exact ⟨h, by simp, fun a ha b hb => by simp at hb; subst hb; exact hc a ha⟩

/-- 'm[k] = v'. -/
theorem mapUpdate_run (K : KeyT P kt enc) {mt e : TypeId} (hu : ∀ w, (underlying mt).run P w = .ok (.map kt e) w) {w : World} {r : Nat} {l : List (κ × Value)} (h : MapIs w r enc l) (k : κ) (v : Value) :
    ∃ w', (Instr.mapUpdate mt (.map (some r)) (enc k) v).run P w = .ok () w' ∧ MapIs w' r enc (mset l k v) ∧ Mod (one r) w w' := by
  obtain ⟨es, c, hm⟩ := h
  have hf := findKey_run K k es.toList l w hm.kv
  unfold Instr.mapUpdate
  simp only [Sem.run_bind, hu, Result.andThen_ok, getObj_run hm.blk, K.chk, hf]
  have hlen : es.toList.length = l.length := by simpa using congrArg List.length hm.kv
  cases hlk : lk k l 0 with
  | none =>
    obtain ⟨h1, h2⟩ := lk_none hlk
    simp only [setObj_run hm.blk]
    refine ⟨_, rfl, ⟨_, _, setObj_blk hm.blk _, ?_, ?_, ?_, mset_nodup hm.nd k v⟩, setObj_mod w r _⟩
    · rw [h1 v]; simp [hm.kv, ekv]
    · simp only [Array.toList_push, List.map_append, List.map_cons, List.map_nil]
      refine pairwise_snoc hm.born fun x hx => ?_
      obtain ⟨e, he, rfl⟩ := List.mem_map.1 hx
      exact hm.clk e he
    · intro e he
      simp at he
      rcases he with he | rfl
      · have := hm.clk e (by simpa using he); omega
      · exact Nat.lt_succ_self _
  | some iv =>
    obtain ⟨i, u⟩ := iv
    obtain ⟨_, h2, h3⟩ := lk_some hlk
    simp only [Nat.sub_zero] at h2 h3
    have hi : i < es.size := by have := (List.getElem?_eq_some_iff.1 h2).1; simp at hlen; omega
    have hei : es[i]? = some es[i] := Array.getElem?_eq_getElem hi
    have hkey : es[i].key = enc k := by
      have h4 := congrArg (fun l => l[i]?) hm.kv
      simp only [List.getElem?_map, h2, Option.map_some] at h4
      rw [show es.toList[i]? = some es[i] from by simp [hi]] at h4
      simp only [Option.map_some, Option.some.injEq, ekv, Prod.mk.injEq] at h4
      exact h4.1
    have hstay : (Instr.keyThatStays (enc k) (enc k)).run P w = .ok (enc k) w := by
      unfold Instr.keyThatStays; rw [if_pos (K.stay k)]; rfl
    simp only [hei, Option.map_some, Option.getD_some, hkey, Sem.run_bind, hstay, Result.andThen_ok, setObj_run hm.blk]
    have hmod : (es.modify i fun e => { e with key := enc k, val := v }).toList = es.toList.set i { es[i] with key := enc k, val := v } := by
      rw [Array.toList_modify]
      apply List.ext_getElem?
      intro j
      rw [List.getElem?_modify, List.getElem?_set]
      by_cases hij : i = j
      · subst hij; simp [hi]
      · simp [hij]
    refine ⟨_, rfl, ⟨_, _, setObj_blk hm.blk _, ?_, ?_, ?_, mset_nodup hm.nd k v⟩, setObj_mod w r _⟩
    · rw [hmod, h3 v, List.map_set, List.map_set, hm.kv]; rfl
    · rw [hmod, List.map_set]
      have : (es.toList.map (·.born)).set i es[i].born = es.toList.map (·.born) := by
        apply List.ext_getElem?
        intro j
        rw [List.getElem?_set]
        by_cases hij : i = j
        · subst hij; simp [hi]
        · simp [hij]
      show ((es.toList.map (·.born)).set i es[i].born).Pairwise _
      rw [this]; exact hm.born
    · intro e he
      rw [hmod] at he
      rcases List.mem_or_eq_of_mem_set he with he | rfl
      · exact hm.clk e he
      · exact hm.clk es[i] (by simp)

/-- 'm[k]'. -/
theorem lookup_run (K : KeyT P kt enc) {mt e : TypeId} {z : Value} (hu : ∀ w, (underlying mt).run P w = .ok (.map kt e) w) (hz : ∀ w, (zeroValue e).run P w = .ok z w) {w : World} {r : Nat} {l : List (κ × Value)} (h : MapIs w r enc l) (k : κ) (ok : Bool) :
    (Instr.lookup mt (.map (some r)) (enc k) ok).run P w = .ok (bif ok then .tuple #[(mget l k).getD z, .bool (mget l k).isSome] else (mget l k).getD z) w := by
  obtain ⟨es, c, hm⟩ := h
  have hf := findKey_run K k es.toList l w hm.kv
  unfold Instr.lookup
  simp only [Sem.run_bind, hu, Result.andThen_ok, getObj_run hm.blk, Sem.run_pure, K.chk, hf]
  have h2 := lk_mget k l 0
  cases hlk : lk k l 0 with
  | none =>
    rw [hlk] at h2
    simp only [Option.map_none] at h2
    rw [← h2]
    simp only [Sem.run_bind, hz, Result.andThen_ok, Sem.run_pure]
    cases ok <;> rfl
  | some iv =>
    rw [hlk] at h2
    simp only [Option.map_some] at h2
    rw [← h2]
    simp only [Sem.run_pure, Result.andThen_ok]
    cases ok <;> rfl
end

theorem ba_beq (a b : ByteArray) : (a == b) = decide (a = b) := by
  cases a with | mk a => cases b with | mk b =>
  show (a == b) = _
  rw [Bool.eq_iff_iff]
  simp
theorem ba_list (a b : ByteArray) : (a.toList = b.toList) = (a = b) := by
  apply propext
  constructor
  · exact ba_inj
  · intro h; rw [h]
theorem chkI {P : Program} {T n : Nat} {e : Bool} {k j : IntKind} {x : Int} (hu : ∀ w, (underlying T).run P w = .ok (.int j) w) (w : World) : (Instr.checkKey e (n + 1) T (.int k x)).run P w = .ok () w := by
  simp [Instr.checkKey, go_sem, hu]
theorem chkG {P : Program} {T n : Nat} {e : Bool} {x : ByteArray} (hu : ∀ w, (underlying T).run P w = .ok .string w) (w : World) : (Instr.checkKey e (n + 1) T (.string x)).run P w = .ok () w := by
  simp [Instr.checkKey, go_sem, hu]

section
variable {P : Program} {N : Nat} {L : List Oper} {Q : Exit → Env → World → Prop} {rest : List Oper} {ρ : Env} {w : World}
  {d : Nat} {ty t : TypeId} {p : String} {af : Array Edge} {x y z' : Operand} {κ : Type} [DecidableEq κ] {enc : κ → Value} {kt e : TypeId}

theorem VL.makeMap (h : ∀ r w', r = w.heap.size → Ext w w' → Blk w' r (.map #[] 0) → VL P N L Q rest (upd ρ d (.map (some r))) w') :
    VL P N L Q ({ dst := some d, op := .makeMap t none, type := ty, pos := p, after := af, guard := none } :: rest) ρ w := by
  refine VL.op (v := .map (some w.heap.size)) (w' := w.alloc (.map #[] 0)) ?_ (h _ _ rfl (Ext.alloc _ _) (Blk.alloc _ _))
  simp [run1, go_sem, Instr.makeMap]
omit [DecidableEq κ] in
theorem MapIs.empty {w : World} {r : Nat} (h : Blk w r (.map #[] 0)) : MapIs w r enc [] := ⟨#[], 0, h, rfl, by simp, by simp, by simp⟩

theorem VL.mapUpdate {r : Nat} {l : List (κ × Value)} {k : κ} {v : Value} (K : KeyT P kt enc) (hu : ∀ w, (underlying t).run P w = .ok (.map kt e) w) (hx : tm ρ x = .map (some r)) (hy : tm ρ y = enc k) (hz : tm ρ z' = v)
    (hm : MapIs w r enc l) (h : ∀ w', MapIs w' r enc (mset l k v) → Mod (one r) w w' → VL P N L Q rest ρ w') :
    VL P N L Q ({ dst := none, op := .mapUpdate t x y z', type := ty, pos := p, after := af, guard := none } :: rest) ρ w := by
  obtain ⟨w', h1, h2, h3⟩ := mapUpdate_run K hu hm k v
  refine VL.op0 ?_ (h w' h2 h3)
  simp only [run1, execOp, hx, hy, hz, Sem.run_bind, h1, Result.andThen_ok, Sem.run_pure]
theorem R.lookup {r : Nat} {l : List (κ × Value)} {k : κ} {z : Value} (K : KeyT P kt enc) (hu : ∀ w, (underlying t).run P w = .ok (.map kt e) w) (hz : ∀ w, (zeroValue e).run P w = .ok z w)
    (hm : MapIs w r enc l) (hx : tm ρ x = .map (some r)) (hy : tm ρ y = enc k) :
    run1 P ρ (.lookup t x y false) ty w = .ok (.value ((mget l k).getD z)) w := by
  have := lookup_run K hu hz hm k false
  simp only [run1, execOp, hx, hy, Sem.run_bind, this, Result.andThen_ok, Sem.run_pure, cond_false]
theorem R.lookupOk {r : Nat} {l : List (κ × Value)} {k : κ} {z : Value} (K : KeyT P kt enc) (hu : ∀ w, (underlying t).run P w = .ok (.map kt e) w) (hz : ∀ w, (zeroValue e).run P w = .ok z w)
    (hm : MapIs w r enc l) (hx : tm ρ x = .map (some r)) (hy : tm ρ y = enc k) :
    run1 P ρ (.lookup t x y true) ty w = .ok (.value (.tuple #[(mget l k).getD z, .bool (mget l k).isSome])) w := by
  have := lookup_run K hu hz hm k true
  simp only [run1, execOp, hx, hy, Sem.run_bind, this, Result.andThen_ok, Sem.run_pure, cond_true]
end

/-- '==' on two structs or arrays. -/
theorem R.eqlK {P : Program} {ρ : Env} {w : World} {ty t ty2 : TypeId} {x y : Operand} {κ : Type} [DecidableEq κ] {enc : κ → Value} (K : KeyT P t enc) (hg : P.eqGuardType P.depth t = false) (ha : ∀ a, ∃ cs, enc a = .agg cs) (a b : κ)
    (hx : tm ρ x = enc a) (hy : tm ρ y = enc b) : run1 P ρ (.binOp .eql t x y ty2) ty w = .ok (.value (.bool (decide (a = b)))) w := by
  obtain ⟨ca, hca⟩ := ha a
  obtain ⟨cb, hcb⟩ := ha b
  have h := K.eq a b w
  rw [hca, hcb] at h
  have hp : (eqGuard .eql t x y (.agg ca) (.agg cb)).run P w = .ok () w := by
    simp [eqGuard, go_sem, hg]
  simp only [run1, execOp, hx, hy, hca, hcb, Sem.run_bind, hp, Result.andThen_ok, binOp, h, Sem.run_pure]
theorem R.neqK {P : Program} {ρ : Env} {w : World} {ty t ty2 : TypeId} {x y : Operand} {κ : Type} [DecidableEq κ] {enc : κ → Value} (K : KeyT P t enc) (hg : P.eqGuardType P.depth t = false) (ha : ∀ a, ∃ cs, enc a = .agg cs) (a b : κ)
    (hx : tm ρ x = enc a) (hy : tm ρ y = enc b) : run1 P ρ (.binOp .neq t x y ty2) ty w = .ok (.value (.bool (decide (a ≠ b)))) w := by
  obtain ⟨ca, hca⟩ := ha a
  obtain ⟨cb, hcb⟩ := ha b
  have h := K.eq a b w
  rw [hca, hcb] at h
  have hp : (eqGuard .neq t x y (.agg ca) (.agg cb)).run P w = .ok () w := by
    simp [eqGuard, go_sem, hg]
  have e : (!decide (a = b)) = decide (a ≠ b) := by simp
  simp only [run1, execOp, hx, hy, hca, hcb, Sem.run_bind, hp, Result.andThen_ok, binOp, h, Sem.run_pure, e]
end Go.Vc
