/- Own library: an entry of a map, found or made, and then written. -/
import Derived.Test.YtbckofoibdljgaaVcMap
namespace Go.Vc
section
variable {κ : Type} [DecidableEq κ] {enc : κ → Value} {P : Program} {kt : TypeId}

theorem mset_self {l : List (κ × Value)} {k : κ} {u : Value} (h : mget l k = some u) : mset l k u = l := by
  induction l with
  | nil => simp [mget] at h
  | cons p l ih =>
    obtain ⟨a, x⟩ := p
    simp only [mget] at h
    simp only [mset]
    by_cases hk : k = a
    · rw [if_pos hk] at h ⊢
      injection h with h
      rw [h, hk]
    · rw [if_neg hk] at h ⊢
      rw [ih h]
theorem mset_mset (l : List (κ × Value)) (k : κ) (u v : Value) : mset (mset l k u) k v = mset l k v := by
  induction l with
  | nil => simp [mset]
  | cons p l ih =>
    obtain ⟨a, x⟩ := p
    simp only [mset]
    by_cases hk : k = a
    · rw [if_pos hk, if_pos hk]; simp [mset]
    · rw [if_neg hk, if_neg hk]; simp [mset, hk, ih]

/-- The stamp of a key's entry, or the next one. -/
def stampOf (l : List (κ × Value)) (es : Array MapEntry) (c : Nat) (k : κ) : Nat := match lk k l 0 with | some (i, _) => ((es[i]?).map (·.born)).getD 0 | none => c
/-- The entry of this key has this stamp. -/
def StampAt (l : List (κ × Value)) (es : Array MapEntry) (k : κ) (s : Nat) : Prop := ∃ i v, lk k l 0 = some (i, v) ∧ (es[i]?).map (·.born) = some s

theorem lk_snoc {k : κ} {l : List (κ × Value)} {i : Nat} {v : Value} (h : lk k l i = none) : lk k (l ++ [(k, v)]) i = some (i + l.length, v) := by
  induction l generalizing i with
  | nil => simp [lk]
  | cons p l ih =>
    obtain ⟨a, x⟩ := p
    simp only [lk] at h
    by_cases hk : k = a
    · rw [if_pos hk] at h; cases h
    · rw [if_neg hk] at h
      simp only [List.cons_append, lk, if_neg hk, ih h, List.length_cons]
      congr 2; omega

theorem mapEntry_run (K : KeyT P kt enc) {mt e : TypeId} {z : Value} (hu : ∀ w, (underlying mt).run P w = .ok (.map kt e) w) (hz : ∀ w, (zeroValue e).run P w = .ok z w) {w : World} {r : Nat} {l : List (κ × Value)} {es : Array MapEntry} {c : Nat} (hm : MapAt w r enc l es c) (k : κ) :
    ∃ w', (Instr.mapEntry mt (.map (some r)) (enc k)).run P w = .ok (.tuple #[(mget l k).getD z, goInt (stampOf l es c k)]) w' ∧ (∃ es' c', MapAt w' r enc (mset l k ((mget l k).getD z)) es' c' ∧ StampAt (mset l k ((mget l k).getD z)) es' k (stampOf l es c k)) ∧ Mod (one r) w w' := by
  have hf := findKey_run K k es.toList l w hm.kv
  have hg := lk_mget k l 0
  have hlen : es.toList.length = l.length := by simpa using congrArg List.length hm.kv
  unfold Instr.mapEntry stampOf
  simp only [Sem.run_bind, hu, Result.andThen_ok, getObj_run hm.blk, K.chk, hf]
  cases hlk : lk k l 0 with
  | none =>
    rw [hlk] at hg
    simp only [Option.map_none] at hg
    obtain ⟨h1, h2⟩ := lk_none hlk
    simp only [Sem.run_bind, hz, Result.andThen_ok, setObj_run hm.blk, Sem.run_pure]
    refine ⟨_, by rw [← hg]; rfl, ⟨_, _, ⟨setObj_blk hm.blk _, ?_, ?_, ?_, mset_nodup hm.nd k _⟩, ?_⟩, setObj_mod w r _⟩
    · rw [← hg, h1]; simp [hm.kv, ekv]
    · simp only [Array.toList_push, List.map_append, List.map_cons, List.map_nil]
      refine pairwise_snoc hm.born fun x hx => ?_
      obtain ⟨e, he, rfl⟩ := List.mem_map.1 hx
      exact hm.clk e he
    · intro e he
      simp at he
      rcases he with he | rfl
      · have := hm.clk e (by simpa using he); omega
      · exact Nat.lt_succ_self _
    · rw [← hg, h1]
      refine ⟨_, _, lk_snoc hlk, ?_⟩
      rw [Nat.zero_add, ← hlen]; simp
  | some iv =>
    obtain ⟨i, u⟩ := iv
    rw [hlk] at hg
    simp only [Option.map_some] at hg
    obtain ⟨_, h2, h3⟩ := lk_some hlk
    simp only [Nat.sub_zero] at h2 h3
    have hi : i < es.size := by have := (List.getElem?_eq_some_iff.1 h2).1; simp at hlen; omega
    have hei : es[i]? = some es[i] := Array.getElem?_eq_getElem hi
    have hkey : es[i].key = enc k := by
      have h4 := congrArg (fun l => l[i]?) hm.kv
      simp only [List.getElem?_map, h2, Option.map_some] at h4
      rw [show es.toList[i]? = some es[i] from by simp [hi]] at h4
      simp only [Option.map_some, Option.some.injEq, ekv, Prod.mk.injEq] at h4
      exact h4.1
    have hstay : (Instr.keyThatStays (enc k) (enc k)).run P w = .ok (enc k) w := by
      unfold Instr.keyThatStays; rw [if_pos (K.stay k)]; rfl
    have hmod : (es.modify i fun e => { e with key := enc k }) = es := by
      apply Array.ext_getElem?
      intro j
      rw [Array.getElem?_modify]
      by_cases hij : i = j
      · subst hij
        rw [if_pos rfl, hei]
        simp only [Option.map_some, Option.some.injEq]
        rw [← hkey]
      · rw [if_neg hij]
    simp only [hei, Option.map_some, Option.getD_some, hkey, Sem.run_bind, hstay, Result.andThen_ok, setObj_run hm.blk, Sem.run_pure, hmod]
    refine ⟨_, by rw [← hg]; rfl, ⟨es, c, ?_, ?_⟩, setObj_mod w r _⟩
    · rw [← hg, Option.getD_some, mset_self hg.symm]
      exact ⟨setObj_blk hm.blk _, hm.kv, hm.born, hm.clk, hm.nd⟩
    · rw [← hg, Option.getD_some, mset_self hg.symm]
      exact ⟨i, u, hlk, by rw [hei]; rfl⟩

theorem entryStore_run {mt : TypeId} {w : World} {r : Nat} {l : List (κ × Value)} {es : Array MapEntry} {c : Nat} (hm : MapAt w r enc l es c) {k : κ} {s : Nat} (hs : StampAt l es k s) (v : Value) :
    ∃ w', (Instr.entryStore mt (.map (some r)) (goInt s) v).run P w = .ok () w' ∧ MapIs w' r enc (mset l k v) ∧ Mod (one r) w w' := by
  obtain ⟨i, u, hlk, hb⟩ := hs
  obtain ⟨_, h2, h3⟩ := lk_some hlk
  simp only [Nat.sub_zero] at h2 h3
  have hlen : es.toList.length = l.length := by simpa using congrArg List.length hm.kv
  have hi : i < es.size := by have := (List.getElem?_eq_some_iff.1 h2).1; simp at hlen; omega
  have hei : es[i]? = some es[i] := Array.getElem?_eq_getElem hi
  rw [hei] at hb
  simp only [Option.map_some, Option.some.injEq] at hb
  have hfi : es.findIdx? (fun e => (e.born : Int) == (s : Int)) = some i := by
    rw [Array.findIdx?_eq_some_iff_getElem]
    refine ⟨hi, by rw [hb]; exact beq_self_eq_true _, fun j hj => ?_⟩
    have hp := List.pairwise_iff_getElem.1 hm.born j i (by simp; omega) (by simpa using hi) hj
    simp at hp
    have : ¬ ((es[j]'(by omega)).born : Int) = (s : Int) := by omega
    simpa using this
  have hkey : es[i].key = enc k := by
    have h4 := congrArg (fun l => l[i]?) hm.kv
    simp only [List.getElem?_map, h2, Option.map_some] at h4
    rw [show es.toList[i]? = some es[i] from by simp [hi]] at h4
    simp only [Option.map_some, Option.some.injEq, ekv, Prod.mk.injEq] at h4
    exact h4.1
  have hmod : (es.modify i fun e => { e with val := v }).toList = es.toList.set i { es[i] with val := v } := by
    rw [Array.toList_modify]
    apply List.ext_getElem?
    intro j
    rw [List.getElem?_modify, List.getElem?_set]
    by_cases hij : i = j
    · subst hij; simp [hi]
    · simp [hij]
  have ha : (asInt (.int .i64 (s : Int))).run P w = .ok (s : Int) w := rfl
  unfold Instr.entryStore
  simp only [Sem.run_bind, getObj_run hm.blk, Result.andThen_ok, goInt, ha, Sem.run_pure, hfi, setObj_run hm.blk]
  refine ⟨_, rfl, ⟨_, _, setObj_blk hm.blk _, ?_, ?_, ?_, mset_nodup hm.nd k v⟩, setObj_mod w r _⟩
  · rw [hmod, h3 v, List.map_set, List.map_set, hm.kv]
    simp only [ekv, hkey]
  · rw [hmod, List.map_set]
    have : (es.toList.map (·.born)).set i es[i].born = es.toList.map (·.born) := by
      apply List.ext_getElem?
      intro j
      rw [List.getElem?_set]
      by_cases hij : i = j
      · subst hij; simp [hi]
      · simp [hij]
    show ((es.toList.map (·.born)).set i es[i].born).Pairwise _
    rw [this]; exact hm.born
  · intro e he
    rw [hmod] at he
    rcases List.mem_or_eq_of_mem_set he with he | rfl
    · exact hm.clk e he
    · exact hm.clk es[i] (by simp)
end

section
variable {P : Program} {N : Nat} {L : List Oper} {Q : Exit → Env → World → Prop} {rest : List Oper} {ρ : Env} {w : World}
  {d : Nat} {ty t : TypeId} {p : String} {af : Array Edge} {x y z' : Operand} {κ : Type} [DecidableEq κ] {enc : κ → Value} {kt e : TypeId}
theorem R.lookupV {r : Nat} {l : List (κ × Value)} {k : κ} {z v : Value} (K : KeyT P kt enc) (hu : ∀ w, (underlying t).run P w = .ok (.map kt e) w) (hz : ∀ w, (zeroValue e).run P w = .ok z w)
    (hm : MapIs w r enc l) (hv : (mget l k).getD z = v) (hx : tm ρ x = .map (some r)) (hy : tm ρ y = enc k) :
    run1 P ρ (.lookup t x y false) ty w = .ok (.value v) w := by subst hv; exact R.lookup K hu hz hm hx hy
/-- A map into which a key has been entered, with its stamp. -/
structure MapEnt (r : Nat) (enc : κ → Value) (l : List (κ × Value)) (k : κ) (s : Nat) (w0 w : World) : Prop where
  m : Mod (one r) w0 w
  at_ : ∃ es c, MapAt w r enc l es c ∧ StampAt l es k s
theorem MapEnt.is {r : Nat} {l : List (κ × Value)} {k : κ} {s : Nat} {w0 w : World} (h : MapEnt r enc l k s w0 w) : MapIs w r enc l := let ⟨es, c, h, _⟩ := h.at_; ⟨es, c, h⟩
theorem R.mapEntry {r : Nat} {l : List (κ × Value)} {es : Array MapEntry} {c : Nat} {k : κ} {z : Value} {w0 : World} (K : KeyT P kt enc) (hu : ∀ w, (underlying t).run P w = .ok (.map kt e) w) (hz : ∀ w, (zeroValue e).run P w = .ok z w)
    (h0 : Ext w0 w) (hm : MapAt w r enc l es c) (hx : tm ρ x = .map (some r)) (hy : tm ρ y = enc k) :
    ∃ w', run1 P ρ (.mapEntry t x y) ty w = .ok (.value (.tuple #[(mget l k).getD z, .int .i64 (stampOf l es c k : Nat)])) w' ∧ MapEnt r enc (mset l k ((mget l k).getD z)) k (stampOf l es c k) w0 w' := by
  obtain ⟨w', h1, h2, h3⟩ := mapEntry_run K hu hz hm k
  refine ⟨w', ?_, ⟨(Ext.mod h0).then h3 fun _ _ h => h, h2⟩⟩
  simp only [run1, execOp, hx, hy, Sem.run_bind, h1, Result.andThen_ok, Sem.run_pure]; rfl
theorem R.mapEntryV {r : Nat} {l : List (κ × Value)} {es : Array MapEntry} {c : Nat} {k : κ} {z v : Value} {w0 : World} (K : KeyT P kt enc) (hu : ∀ w, (underlying t).run P w = .ok (.map kt e) w) (hz : ∀ w, (zeroValue e).run P w = .ok z w)
    (h0 : Ext w0 w) (hm : MapAt w r enc l es c) (hv : (mget l k).getD z = v) (hx : tm ρ x = .map (some r)) (hy : tm ρ y = enc k) :
    ∃ w', run1 P ρ (.mapEntry t x y) ty w = .ok (.value (.tuple #[v, .int .i64 (stampOf l es c k : Nat)])) w' ∧ MapEnt r enc (mset l k v) k (stampOf l es c k) w0 w' := by
  subst hv; exact R.mapEntry K hu hz h0 hm hx hy
theorem VL.entryStore {r : Nat} {l : List (κ × Value)} {k : κ} {s : Nat} {v : Value} {w0 : World} (hx : tm ρ x = .map (some r)) (hy : tm ρ y = .int .i64 (s : Nat)) (hz : tm ρ z' = v)
    (hm : MapEnt r enc l k s w0 w) (h : ∀ w', MapIs w' r enc (mset l k v) → Mod (one r) w0 w' → VL P N L Q rest ρ w') :
    VL P N L Q ({ dst := none, op := .entryStore t x y z', type := ty, pos := p, after := af, guard := none } :: rest) ρ w := by
  obtain ⟨es, c, h1, h2⟩ := hm.at_
  obtain ⟨w', h3, h4, h5⟩ := entryStore_run (P := P) (mt := t) h1 h2 v
  refine VL.op0 ?_ (h w' h4 (hm.m.then h5 fun _ _ h => h))
  have h3 : (Instr.entryStore t (.map (some r)) (.int .i64 (s : Nat)) v).run P w = .ok () w' := h3
  simp only [run1, execOp, hx, hy, hz, Sem.run_bind, h3, Result.andThen_ok, Sem.run_pure]

/-- A slice's literal with 'n' elements, as an equation. -/
theorem R.buildSl {n e s : Nat} {z : Value} {parts : List (Nat × Operand)} (hu : ∀ w, (underlying t).run P w = .ok (.slice e) w) (hs : ∀ w, (sizeOf e).run P w = .ok s w)
    (hz : ∀ w, (zeroValue e).run P w = .ok z w) (hzs : (Nat.beq z.cells.size s && Nat.blt 0 s) = true) (hn : Nat.ble (n * s) 16777216 = true) (hn0 : Nat.blt 0 n = true)
    (hf : bldOk (fun i => some (i * s, s)) (n * s) (parts.map fun p => (p.1, tm ρ p.2)) = true) :
    run1 P ρ (.buildSlice t n parts.toArray) ty w = .ok (.value (.slice (some ⟨w.heap.size, 0, none⟩) n n)) (w.alloc (.cells (bld (fun i => some (i * s, s)) (zrep z.cells.toList n) (parts.map fun p => (p.1, tm ρ p.2))).toArray e (0, 0))) := by
  simp only [Bool.and_eq_true] at hzs
  have hz1 := Nat.eq_of_beq_eq_true hzs.1
  have hz2 := nblt.1 hzs.2
  have hn1 := nblt.1 hn0
  have hn' : ¬ (n * s > 2 ^ 24) := by have := Nat.le_of_ble_eq_true hn; omega
  have hnew : ∀ c : Array Value, (newRow e c).run P w = .ok ⟨w.heap.size, 0, none⟩ (w.alloc (.cells c e)) := fun c => by simp [newRow, go_sem]
  have hcells : (Array.range (n * s)).map (z.cells[· % z.cells.size]!) = (zrep z.cells.toList n).toArray := by
    rw [← hz1]; exact zero_cells _ (by omega) n
  have hl : (zrep z.cells.toList n).toArray.size = n * s := by
    have := zrep_len z.cells.toList n
    simp only [Array.length_toList, hz1] at this
    simpa using this
  have hfill := fill_bld (fun i => some (i * s, s)) (parts.map fun p => (p.1, tm ρ p.2)) (zrep z.cells.toList n).toArray (by rw [hl]; exact hf)
  have hfill' : Instr.fill (fun i => some (i * s, s)) (zrep z.cells.toList n).toArray (parts.map fun (i, x) => (i, tm ρ x)) = some (bld (fun i => some (i * s, s)) (zrep z.cells.toList n) (parts.map fun p => (p.1, tm ρ p.2))).toArray := hfill
  have h0 : ¬ n * s = 0 := by
    intro h
    rcases Nat.mul_eq_zero.1 h with h | h <;> omega
  simp only [run1, execOp, Instr.buildSlice, Sem.run_bind, hu, hs, Result.andThen_ok, List.map_toArray, hn', if_false, Sem.run_pure, h0, hz, hcells, hfill', hnew]
/-- An array's element, of one cell. -/
theorem R.indexA {n e i : Nat} {cs : List Value} {k : IntKind} {v : Value} (hu : ∀ w, (underlying t).run P w = .ok (.array n e) w) (ha : ∀ w, (isAgg e).run P w = .ok false w) (hs : ∀ w, (sizeOf e).run P w = .ok 1 w)
    (hx : tm ρ x = .agg cs.toArray) (hy : tm ρ y = .int k (i : Nat)) (hi : i < n) (hv : cs[i]? = some v) : run1 P ρ (.index t x y) ty w = .ok (.value v) w := by
  have h0 : (0 : Int) ≤ (i : Int) := Int.natCast_nonneg _
  simp [run1, go_sem, hx, hy, hu, ha, hs, Instr.index, asIntOf, hi, part, hv]
end

section
variable {P : Program} {N : Nat} {L : List Oper} {Q : Exit → Env → World → Prop} {rest l : List Oper} {ρ : Env} {w w0 : World}
  {d m i j : Nat} {ty t : TypeId} {p : String} {af : Array Edge} {x y : Operand} {K : Env → Prop}
/-- The writer is a slice's literal. -/
theorem VW.bs {n e s : Nat} {z : Value} {parts : List (Nat × Operand)} (hu : ∀ w, (underlying t).run P w = .ok (.slice e) w) (hs : ∀ w, (sizeOf e).run P w = .ok s w)
    (hz : ∀ w, (zeroValue e).run P w = .ok z w) (hzs : (Nat.beq z.cells.size s && Nat.blt 0 s) = true) (hn : Nat.ble (n * s) 16777216 = true) (hn0 : Nat.blt 0 n = true)
    (hf : bldOk (fun i => some (i * s, s)) (n * s) (parts.map fun p => (p.1, tm ρ p.2)) = true) {cs : Array Value} (hcs : (bld (fun i => some (i * s, s)) (zrep z.cells.toList n) (parts.map fun p => (p.1, tm ρ p.2))).toArray = cs)
    (h : VW P L (fun w' => Ext w0 w' ∧ w'.heap.size = w0.heap.size) (fun w' => Ext w0 w' ∧ Blk w' w0.heap.size (.cells cs e (0, 0))) m j (i + 1) l (upd ρ d (.slice (some ⟨w0.heap.size, 0, none⟩) n n)) K) (hi : Nat.beq i m = true := by rfl) :
    VW P L (fun w' => Ext w0 w' ∧ w'.heap.size = w0.heap.size) (fun w' => Ext w0 w' ∧ Blk w' w0.heap.size (.cells cs e (0, 0))) m (j + 1) i ({ dst := some d, op := .buildSlice t n parts.toArray, type := ty, pos := p, after := af, guard := none } :: l) ρ K := by
  refine VW.wr (fun w' ⟨h1, h2⟩ => ⟨_, ?_, h1.trans (Ext.alloc _ (.cells cs e (0, 0))), ?_⟩) h hi
  · rw [R.buildSl hu hs hz hzs hn hn0 hf, h2, hcs]
  · have := Blk.alloc w' (.cells cs e (0, 0))
    rwa [h2] at this
theorem VL.appendOne {α : Type} {enc : α → List Value} {B e s bytes b : Nat} {z : Value} (E : ElT P t e s bytes z) {a : Option Addr} {n cap : Nat} {l : List α} (u : α)
    (hx : tm ρ x = .slice a n cap) (hl : n = l.length) (hown : OwnT enc s e B w a cap l) (hy : tm ρ y = .slice (some ⟨b, 0, none⟩) 1 1) {cs : Array Value} {T : TypeId} (hX : Blk w b (.cells cs T (0, 0))) (hcs : cs.toList = enc u) (hus : (enc u).length = s) (hone : allOne (enc u) = true)
    (hbytes : (l.length + 1) * bytes ≤ 140737488355328) (h63 : l.length + 1 ≤ maxLen) (hB : B ≤ w.heap.size)
    (h : ∀ a' cap' w', OwnT enc s e B w' a' cap' (l ++ [u]) → Mod (aBlk a) w w' → (∀ k, aBlk a' k → aBlk a k ∨ w.heap.size ≤ k) → VL P N L Q rest (upd ρ d (.slice a' (n + 1) cap')) w') :
    VL P N L Q ({ dst := some d, op := .call { callee := .builtin .append, args := #[x, y], argTypes := #[t, t] }, type := ty, pos := p, after := af, guard := none } :: rest) ρ w := by
  subst hl
  have hsrc : SlV w s (some ⟨b, 0, none⟩) [enc u] := ⟨by simpa using hus, .inr ⟨b, 0, rfl, by simpa [hcs] using hX.row⟩⟩
  refine VL.append (news := [enc u]) (m := 1) (c := 1) E hx (by simp) hown hy rfl hsrc (by simp) ?_ (by simpa using hbytes) (by simpa using h63) hB fun a' cap' w2 ho hm hf => ?_
  · intro r hr v hv
    simp at hr; subst hr
    exact (allOne_iff _).1 hone v hv
  · refine h a' cap' w2 ?_ hm hf
    unfold OwnT; rw [List.map_append]; exact ho
end
end Go.Vc
