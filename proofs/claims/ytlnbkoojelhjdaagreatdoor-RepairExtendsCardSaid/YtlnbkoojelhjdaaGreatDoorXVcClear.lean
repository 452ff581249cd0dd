/- Ranges over maps that the loop does not turn: in whatever order, each entry once. -/
import Derived.Test.YtlnbkoojelhjdaaGreatDoorXVcOwn
import Derived.Laws.IdiomRangeMap
import Derived.Test.YtlnbkoojelhjdaaGreatDoorXVcRun3
import Derived.Laws.OwnMore
namespace Go.Vc
variable {κ : Type} [DecidableEq κ] {enc : κ → Value}

theorem map_eraseIdx' {α β : Type} (f : α → β) : ∀ (l : List α) (i : Nat), (l.eraseIdx i).map f = (l.map f).eraseIdx i
  | [], _ => rfl
  | _ :: _, 0 => rfl
  | a :: l, i + 1 => by rw [List.eraseIdx_cons_succ, List.map_cons, map_eraseIdx' f l i, List.map_cons, List.eraseIdx_cons_succ]
theorem filter_eraseIdx {α : Type} (g : α → Nat) : ∀ (l : List α) (j : Nat) (hj : j < l.length), (l.map g).Nodup → l.filter (fun x => !(g x == g l[j])) = l.eraseIdx j
  | [], _, h, _ => by simp at h
  | a :: l, 0, _, hn => by
    have hn := List.nodup_cons.1 hn
    rw [List.eraseIdx_cons_zero, List.filter_cons]
    simp only [List.getElem_cons_zero, beq_self_eq_true, Bool.not_true, Bool.false_eq_true, if_false]
    rw [List.filter_eq_self]
    intro x hx
    have : g x ≠ g a := fun e => hn.1 (by rw [← e]; exact List.mem_map.2 ⟨x, hx, rfl⟩)
    simpa using this
  | a :: l, j + 1, hj, hn => by
    have hn := List.nodup_cons.1 hn
    have hj' : j < l.length := by simpa using hj
    rw [List.eraseIdx_cons_succ, List.filter_cons]
    have : g a ≠ g l[j] := fun e => hn.1 (by rw [e]; exact List.mem_map.2 ⟨l[j], by simp, rfl⟩)
    simp only [List.getElem_cons_succ]
    have h2 : (g a == g l[j]) = false := by simpa using this
    rw [h2]
    simp only [Bool.not_false, if_true]
    rw [filter_eraseIdx g l j hj' hn.2]

/-- An iterator over a map: 'rem' are the entries that it has not handed out; 'last' the one that it handed out last. -/
structure IterAt (w : World) (it r : Nat) (enc : κ → Value) (l rem : List (κ × Value)) (last : Option (κ × Value)) : Prop where
  ex : ∃ es clock since c0 seen, MapAt w r enc l es clock ∧ Blk w it (.mapIter (some r) since seen c0) ∧ (∀ x ∈ es.toList, x.born < since) ∧ since ≤ c0 ∧ c0 = clock ∧
    (es.toList.filter fun e => !seen.contains e.born).map ekv = rem.map (fun p => (enc p.1, p.2)) ∧
    (∀ p, last = some p → ∃ e ∈ es.toList, seen.back? = some e.born ∧ ekv e = (enc p.1, p.2))
omit [DecidableEq κ] in
theorem IterAt.mod {S : Nat → Prop} {w w' : World} {it r : Nat} {l rem : List (κ × Value)} {last : Option (κ × Value)} (h : IterAt w it r enc l rem last) (m : Mod S w w') (h1 : ¬ S it) (h2 : ¬ S r) : IterAt w' it r enc l rem last := by
  obtain ⟨es, clock, since, c0, seen, a, b, c⟩ := h.ex
  exact ⟨es, clock, since, c0, seen, a.mod m h2, b.mod m h1, c⟩
omit [DecidableEq κ] in
theorem IterAt.ext {w w' : World} {it r : Nat} {l rem : List (κ × Value)} {last : Option (κ × Value)} (h : IterAt w it r enc l rem last) (m : Ext w w') : IterAt w' it r enc l rem last := h.mod m (fun e => e) (fun e => e)
omit [DecidableEq κ] in
theorem IterAt.is {w : World} {it r : Nat} {l rem : List (κ × Value)} {last : Option (κ × Value)} (h : IterAt w it r enc l rem last) : MapIs w r enc l := let ⟨es, clock, _, _, _, a, _⟩ := h.ex; ⟨es, clock, a⟩
omit [DecidableEq κ] in
theorem IterAt.lt {w : World} {it r : Nat} {l rem : List (κ × Value)} {last : Option (κ × Value)} (h : IterAt w it r enc l rem last) : it < w.heap.size := let ⟨_, _, _, _, _, _, b, _⟩ := h.ex; b.lt

theorem setObj_runI {w : World} {r : Nat} {a : Option Nat} {b c : Nat} {s : Array Nat} (h : Blk w r (.mapIter a b s c)) (o : Obj) {P : Program} :
    (setObj r o).run P w = .ok () { w with heap := w.heap.setIfInBounds r o } := by
  unfold Blk at h
  simp only [setObj, Sem.run, h]
theorem setObj_blkO {w : World} {r : Nat} {o' : Obj} (h : Blk w r o') (o : Obj) : Blk { w with heap := w.heap.setIfInBounds r o } r o := by
  have := h.lt
  show (w.heap.setIfInBounds r o)[r]? = _
  simp [this]

section
variable {P : Program} {w : World}
theorem getObj_any {r : Nat} {es : Array MapEntry} {c : Nat} (h : Blk w r (.map es c)) : (getObj r).run P w = .ok (.map es c) w := by
  unfold Blk at h; simp only [getObj, Sem.run, h]
theorem getObj_it {r : Nat} {a : Option Nat} {b c : Nat} {s : Array Nat} (h : Blk w r (.mapIter a b s c)) : (getObj r).run P w = .ok (.mapIter a b s c) w := by
  unfold Blk at h; simp only [getObj, Sem.run, h]

omit [DecidableEq κ] in
theorem next_run (ty : TypeId) {it r : Nat} {l rem : List (κ × Value)} {last : Option (κ × Value)} (h : IterAt w it r enc l rem last) (hne : it ≠ r) :
    (rem = [] ∧ (Instr.next (.pointer (some ⟨it, 0, none⟩)) false ty).run P w = .ok (.tuple #[.bool false]) w) ∨
    ∃ (i : Nat) (hi : i < rem.length) (w' : World), (Instr.next (.pointer (some ⟨it, 0, none⟩)) false ty).run P w = .ok (.tuple #[.bool true, enc (rem[i]).1, (rem[i]).2]) w' ∧
      Mod (one it) w w' ∧ w'.heap.size = w.heap.size ∧ IterAt w' it r enc l (rem.eraseIdx i) (some rem[i]) := by
  obtain ⟨es, clock, since, c0, seen, hm, hI, hold, hsc, hck, hrem, _⟩ := h.ex
  have hmB := hm.blk
  simp only [Instr.next, Sem.run_bind, getObj_it hI, getObj_any hmB, Result.andThen_ok, next_test_false seen es since c0 hold hsc, Bool.false_eq_true, if_false]
  obtain ⟨Lq, hL⟩ : ∃ Lq, Lq = Array.filter (fun e => !seen.contains e.born) es := ⟨_, rfl⟩
  have hLl : Lq.toList = es.toList.filter fun e => !seen.contains e.born := by rw [hL]; simp
  have hmem : ∀ x ∈ Lq.toList, x.born < since := fun x hx => hold x (by rw [hLl, List.mem_filter] at hx; exact hx.1)
  rw [← hL]
  have e1 : Lq.filter (fun x => decide (x.born < since)) = Lq := Array.filter_eq_self.2 (fun x hx => by simpa using hmem x (by simpa using hx))
  have e2 : Lq.filter (fun x => decide (x.born ≥ since)) = #[] := by
    rw [Array.filter_eq_empty_iff]
    intro x hx
    have := hmem x (by simpa using hx)
    simp
    omega
  rw [← hLl] at hrem
  have hlen : rem.length = Lq.size := by have := congrArg List.length hrem; simpa using this.symm
  simp only [e1, e2, Array.append_empty]
  by_cases h0 : Lq.size = 0
  · left
    have : Lq = #[] := Array.eq_empty_of_size_eq_zero h0
    subst this
    refine ⟨List.eq_nil_of_length_eq_zero (by simpa using hlen), ?_⟩
    simp [choose, Sem.run, Question.forced]
  · right
    have hne2 : Lq.isEmpty = false := by simp [Array.isEmpty, h0]
    simp only [hne2, Bool.false_eq_true, if_false, Array.empty_append, Array.size_map]
    have hch : ∃ (j : Nat) (w1 : World), j < Lq.size ∧ Ext w w1 ∧ w1.heap = w.heap ∧ (choose (Question.mapNext Lq.size)).run P w = .ok j w1 := by
      by_cases hf : Lq.size ≤ 1
      · exact ⟨0, w, by omega, Mod.refl _ _, rfl, by simp [choose, Sem.run, Question.forced, hf]⟩
      · exact ⟨_, w.drew, Nat.mod_lt _ (by omega), Ext.drawn w, rfl, by
          simp only [choose, Sem.run, Question.forced, decide_eq_true_eq, hf, if_false, Question.cut]
          rfl⟩
    obtain ⟨j, w1, hj, hal, hheap, hrun⟩ := hch
    have hjr : j < rem.length := by omega
    have hI1 := hI.ext hal
    have hel : ekv Lq[j] = (enc (rem[j]).1, (rem[j]).2) := by
      have h1 := congrArg (fun z => z[j]?) hrem
      simp only [List.getElem?_map, List.getElem?_eq_getElem hjr, Option.map_some] at h1
      rw [List.getElem?_eq_getElem (by simpa using hj)] at h1
      simpa using Option.some.inj h1
    have hk : Lq[j].key = enc (rem[j]).1 := congrArg Prod.fst hel
    have hv : Lq[j].val = (rem[j]).2 := congrArg Prod.snd hel
    have hjm : Lq[j] ∈ es.toList := by
      have : Lq[j] ∈ Lq.toList := by simp
      rw [hLl, List.mem_filter] at this
      exact this.1
    have hmod : Mod (one it) w1 { w1 with heap := w1.heap.setIfInBounds it (.mapIter (some r) since (seen.push Lq[j].born) clock) } := setObj_mod _ _ _
    refine ⟨j, hjr, { w1 with heap := w1.heap.setIfInBounds it (.mapIter (some r) since (seen.push Lq[j].born) clock) }, ?_, (Ext.mod hal).trans hmod, by simp [hheap], ?_⟩
    · simp only [hrun, Array.getElem?_map, Array.getElem?_eq_getElem hj, Option.map_some, Sem.run_bind, setObj_runI hI1, Result.andThen_ok, hk, hv]
      rfl
    · refine ⟨es, clock, since, clock, seen.push Lq[j].born, (hm.mod (hal.mod (S := one it)) (fun e => hne e.symm)).mod hmod (fun e => hne e.symm), setObj_blkO hI1 _, hold, by omega, rfl, ?_, fun p hp => ?_⟩
      · have hb : ((es.toList.filter fun e => !seen.contains e.born).map (·.born)).Nodup := by
          have h1 : (es.toList.map (·.born)).Nodup := hm.born.imp (fun h => Nat.ne_of_lt h)
          exact List.Sublist.nodup (List.Sublist.map _ List.filter_sublist) h1
        rw [← hLl] at hb
        have h3 := filter_eraseIdx (fun e : MapEntry => e.born) Lq.toList j (by simpa using hj) hb
        have e : Lq.toList[j]'(by simpa using hj) = Lq[j] := by simp
        simp only [e] at h3
        have h4 : (es.toList.filter fun e => !(seen.push Lq[j].born).contains e.born) = Lq.toList.eraseIdx j := by
          refine Eq.trans ?_ h3
          rw [hLl, List.filter_filter]
          refine List.filter_congr fun x _ => ?_
          simp only [Array.contains_push, Bool.not_or]
          rw [Bool.and_comm]
        rw [h4, map_eraseIdx', hrem, map_eraseIdx']
      · injection hp with hp
        subst hp
        exact ⟨Lq[j], hjm, by simp, hel⟩

end

section
variable {P : Program} {N : Nat} {L : List Oper} {Q : Exit → Env → World → Prop} {rest : List Oper} {ρ : Env} {w : World}
  {d : Nat} {ty t kt e : TypeId} {p : String} {af : Array Edge} {x : Operand}
omit [DecidableEq κ] in
theorem VL.range {r : Nat} {l : List (κ × Value)} (hu : ∀ w, (underlying t).run P w = .ok (.map kt e) w) (hx : tm ρ x = .map (some r)) (hm : MapIs w r enc l)
    (h : ∀ it w', it = w.heap.size → Ext w w' → IterAt w' it r enc l l none → VL P N L Q rest (upd ρ d (.pointer (some ⟨it, 0, none⟩))) w') :
    VL P N L Q ({ dst := some d, op := .range t x, type := ty, pos := p, after := af, guard := none } :: rest) ρ w := by
  obtain ⟨es, c, hA⟩ := hm
  have hb := hA.blk
  refine VL.op (v := .pointer (some ⟨w.heap.size, 0, none⟩)) (w' := w.alloc (.mapIter (some r) c #[] c)) ?_ (h _ _ rfl (Ext.alloc _ _) ⟨es, c, c, c, #[], hA.mod (Ext.alloc _ _) (fun e => e), Blk.alloc _ _, hA.clk, Nat.le_refl _, rfl, ?_, fun p hp => by cases hp⟩)
  · have h1 : (Instr.range t (.map (some r))).run P w = .ok (.pointer (some ⟨w.heap.size, 0, none⟩)) (w.alloc (.mapIter (some r) c #[] c)) := by
      simp only [Instr.range, Sem.run_bind, hu, Result.andThen_ok, getObj_any hb, Sem.run_pure]
      rfl
    simp only [run1, execOp, hx, Sem.run_bind, h1, Result.andThen_ok, Sem.run_pure]
  · rw [← hA.kv]
    congr 1
    rw [List.filter_eq_self]
    intro x _; simp
omit [DecidableEq κ] in
theorem VL.next {it r : Nat} {l rem : List (κ × Value)} {last : Option (κ × Value)} (hx : tm ρ x = .pointer (some ⟨it, 0, none⟩)) (hI : IterAt w it r enc l rem last) (hne : it ≠ r)
    (h0 : rem = [] → VL P N L Q rest (upd ρ d (.tuple #[.bool false])) w)
    (h1 : ∀ i (hi : i < rem.length) w', Mod (one it) w w' → w'.heap.size = w.heap.size → IterAt w' it r enc l (rem.eraseIdx i) (some rem[i]) → VL P N L Q rest (upd ρ d (.tuple #[.bool true, enc (rem[i]).1, (rem[i]).2])) w') :
    VL P N L Q ({ dst := some d, op := .next x false, type := ty, pos := p, after := af, guard := none } :: rest) ρ w := by
  rcases next_run (P := P) ty hI hne with ⟨hr, hrun⟩ | ⟨i, hi, w', hrun, hm, hsz, hI'⟩
  · refine VL.op ?_ (h0 hr)
    simp only [run1, execOp, hx, Sem.run_bind, hrun, Result.andThen_ok, Sem.run_pure]
  · refine VL.op ?_ (h1 i hi w' hm hsz hI')
    simp only [run1, execOp, hx, Sem.run_bind, hrun, Result.andThen_ok, Sem.run_pure]
end
end Go.Vc

/- Slices of arrays; slices that are made; keys that are arrays. -/
namespace Go.Vc
section
variable {P : Program} {N : Nat} {L : List Oper} {Q : Exit → Env → World → Prop} {ρ : Env} {w : World} {rest : List Oper}
variable {d : Nat} {ty t : TypeId} {p : String} {af : Array Edge} {x y : Operand}
theorem Blk.sl {α : Type} {enc : α → List Value} {b : Nat} {c : Array Value} {T : TypeId} {fr : Nat × Nat} (h : Blk w b (.cells c T fr)) {s off : Nat} {l : List α} (hl : ∀ u ∈ l, (enc u).length = s) (hc : (l.map enc).flatten = c.toList.drop off) : TSl enc s w (some ⟨b, off, none⟩) l := by
  refine ⟨fun r hr => ?_, .inr ⟨b, off, rfl, c, T, fr, h, fun i hi => ?_⟩⟩
  · obtain ⟨u, hu, rfl⟩ := List.mem_map.1 hr; exact hl u hu
  · rw [hc, List.getElem?_drop]; simp
end
end Go.Vc

/- Comparing functions, as plain mathematics; lists. -/
namespace Go.Vc
def cmpI (a b : Int) : Int := if a < b then -1 else if b < a then 1 else 0
/-- What is asked of a comparing function of numbers: below, equal or above nothing. -/
structure Cmp {α : Type} (f : α → α → Int) : Prop where
  anti : ∀ a b, f b a = - f a b
  trans : ∀ a b c, f a b ≤ 0 → f b c ≤ 0 → f a c ≤ 0
theorem Cmp.on {α β : Type} {f : β → β → Int} (h : Cmp f) (g : α → β) : Cmp fun a b => f (g a) (g b) := ⟨fun _a _b => h.anti _ _, fun _a _b _c => h.trans _ _ _⟩
end Go.Vc

/- Maps whose values are of one kind; lists in strict order. -/
namespace Go.Vc
section
variable {κ α : Type} [DecidableEq κ]
def tset (l : List (κ × α)) (k : κ) (v : α) : List (κ × α) :=
  match l with
  | [] => [(k, v)]
  | (k', v') :: l => if k = k' then (k, v) :: l else (k', v') :: tset l k v
def tget (l : List (κ × α)) (k : κ) : Option α :=
  match l with
  | [] => none
  | (k', v) :: l => if k = k' then some v else tget l k
def tenc (f : α → Value) (l : List (κ × α)) : List (κ × Value) := l.map fun p => (p.1, f p.2)
theorem tset_enc (f : α → Value) (l : List (κ × α)) (k : κ) (v : α) : tenc f (tset l k v) = mset (tenc f l) k (f v) := by
  induction l with
  | nil => rfl
  | cons p l ih =>
    obtain ⟨a, x⟩ := p
    unfold tenc at ih ⊢
    simp only [tset, List.map_cons, mset]
    split
    · rfl
    · rw [List.map_cons, ih]
theorem tget_enc (f : α → Value) (l : List (κ × α)) (k : κ) : mget (tenc f l) k = (tget l k).map f := by
  induction l with
  | nil => rfl
  | cons p l ih =>
    obtain ⟨a, x⟩ := p
    unfold tenc at ih ⊢
    simp only [tget, List.map_cons, mget]
    split
    · rfl
    · exact ih
theorem tget_tset (l : List (κ × α)) (k k' : κ) (v : α) : tget (tset l k v) k' = if k' = k then some v else tget l k' := by
  induction l with
  | nil => simp [tset, tget]
  | cons p l ih =>
    obtain ⟨a, x⟩ := p
    simp only [tset]
    by_cases h : k = a
    · subst h; simp only [if_true, tget]
      by_cases h2 : k' = k <;> simp [h2]
    · rw [if_neg h]; simp only [tget, ih]
      by_cases h2 : k' = a
      · subst h2; simp; intro e; exact absurd e.symm h
      · simp [h2]
end
section
variable {P : Program} {N : Nat} {L : List Oper} {Q : Exit → Env → World → Prop} {rest : List Oper} {ρ : Env} {w : World}
  {d : Nat} {ty : TypeId} {p : String} {af : Array Edge} {x : Operand}
end
end Go.Vc

/- Slices that are made, and tails that are cleared. -/
namespace Go.Vc
theorem zrep_eq (z : List Value) : ∀ n, zrep z n = ((List.replicate n z)).flatten
  | 0 => rfl
  | n + 1 => by rw [zrep, zrep_eq z n, List.replicate_succ, List.flatten_cons]
section
variable {P : Program} {N : Nat} {L : List Oper} {Q : Exit → Env → World → Prop} {ρ : Env} {w : World} {rest : List Oper}
variable {d : Nat} {ty t : TypeId} {p : String} {af : Array Edge} {x y : Operand}
variable {α : Type} {enc : α → List Value} {e s bytes : Nat} {z : Value}
/-- 'make([]T, n)'. -/
theorem VL.makeSl (E : ElT P t e s bytes z) (u0 : α) (hz : z.cells.toList = enc u0) {n : Nat} {B : Nat} (hx : tm ρ x = .int .i64 n) (hy : tm ρ y = .int .i64 n) (hbytes : bytes * n ≤ 281474976710656) (h63 : n ≤ maxLen) (hB : B ≤ w.heap.size)
    (h : ∀ b w', b = w.heap.size → Ext w w' → OwnT enc s e B w' (some ⟨b, 0, none⟩) n (List.replicate n u0) → VL P N L Q rest (upd ρ d (.slice (some ⟨b, 0, none⟩) n n)) w') :
    VL P N L Q ({ dst := some d, op := .makeSlice t x y, type := ty, pos := p, after := af, guard := none } :: rest) ρ w := by
  obtain ⟨i, hi, hzz, hsz, hby⟩ := E.hi
  subst hsz; subst hby
  have hr := run_make (P := P) w t e i z E.ht hi hzz .i64 .i64 (n : Int) (n : Int) (by omega) (by omega) (by
    have h1 : ((i.bytes * n : Nat) : Int) ≤ 281474976710656 := by omega
    rwa [Int.natCast_mul] at h1) (by simp [maxLen] at h63; omega)
  simp only [Int.toNat_natCast] at hr
  refine VL.op (v := .slice (some ⟨w.heap.size, 0, none⟩) n n) (w' := w.alloc (.cells (madeCells z.cells (n * i.size)) e)) ?_ (h _ _ rfl (Ext.alloc _ _) ?_)
  · simp only [run1, execOp, hx, hy, Sem.run_bind, hr, Result.andThen_ok, Sem.run_pure]
  · have hm : madeCells z.cells (n * i.size) = (zrep z.cells.toList n).toArray := by
      have h2 := zero_cells z.cells (by rw [E.hz]; exact E.hs) n
      rw [← h2, E.hz]
      unfold madeCells
      simp [E.hz]
    have := OwnT.of_blk (enc := enc) (s := i.size) (B := B) (l := List.replicate n u0) (Blk.alloc w (.cells (madeCells z.cells (n * i.size)) e)) hB (by rw [hm, zrep_eq]; simp [hz]) (fun r hr => by
      obtain ⟨v, hv, rfl⟩ := List.mem_map.1 hr
      rw [List.eq_of_mem_replicate hv, ← hz]
      simpa using E.hz) (by simpa using h63)
    simpa using this
end
section
variable {P : Program} {N : Nat} {L : List Oper} {Q : Exit → Env → World → Prop} {ρ : Env} {w : World} {rest : List Oper}
variable {ty t : TypeId} {p : String} {af : Array Edge} {x : Operand}
variable {α : Type} [Inhabited α] {enc : α → List Value} {K e : Nat} {z : Value} {w0 : World} {a : Option Addr} {d : Array α}
/-- 'clear(l[k:])': the first ones stay. -/
theorem VL.clearS (E : Elt enc K) (hu : ∀ w, (underlying t).run P w = .ok (.slice e) w) (hz : ∀ w, (zeroValue e).run P w = .ok z w) (hzs : z.cells.size = K) (hz1 : allOne z.cells.toList = true) (hs : Srt enc K w0 a d w) {k m c cap : Nat} (hx : tm ρ x = .slice (cutA a K k c) m cap) (hm : k + m = d.size) (hkc : k < c ∨ m = 0)
    (h : ∀ w' d', d'.size = k → (∀ q, q < k → d'[q]! = d[q]!) → Srt enc K w0 a d' w' → VL P N L Q rest ρ w') :
    VL P N L Q ({ dst := none, op := .call { callee := .builtin .clear, args := #[x], argTypes := #[t] }, type := ty, pos := p, after := af, guard := none } :: rest) ρ w := by
  obtain ⟨blk, off, cs, T, ha, hB, hc⟩ := hs.c
  have hfin : ∀ w', Srt enc K w0 a d w' → Srt enc K w0 a (d.extract 0 k) w' := fun w' h => by
    obtain ⟨blk, off, cs, T, ha, hB, hc⟩ := h.c
    refine ⟨h.m, blk, off, cs, T, ha, hB, fun q hq r hr => ?_⟩
    have hq' : q < k ∧ q < d.size := by simp at hq; omega
    have e1 : (d.extract 0 k)[q]! = d[q]! := by rw [getElem!_pos _ q hq, getElem!_pos d q hq'.2]; simp
    rw [e1]; exact hc q hq'.2 r hr
  have hext : ∀ q, q < k → (d.extract 0 k)[q]! = d[q]! := fun q hq => by
    have h1 : q < (d.extract 0 k).size := by simp; omega
    rw [getElem!_pos _ q h1, getElem!_pos d q (by omega)]; simp
  have hsz : (d.extract 0 k).size = k := by simp; omega
  by_cases h0 : m = 0
  · refine VL.opv (v := .tuple #[]) (w' := w) ?_ (h w (d.extract 0 k) hsz hext (hfin w hs))
    subst h0
    simp only [run1, execOp, resolve, invoke, builtin, Sem.run_bind, Sem.run_pure, Result.andThen_ok, List.map_toArray, List.map_cons, List.map_nil, hx, Builtin.clear_]
    simp [hu, Sem.run_bind, Result.andThen_ok]
    cases cutA a K k c <;> rfl
  · have hcut : cutA a K k c = some ⟨blk, off + k * K, none⟩ := by
      rw [ha]
      unfold cutA
      rw [if_neg (by omega), Option.map_some]
      unfold Addr.add
      split
      · rename_i h0; rw [h0]; rfl
      · rfl
    have hp := E.pos
    have hvl : (Builtin.zeroCells z.cells m).toList.length = m * K := by simp [Builtin.zeroCells, hzs]
    have hfit : off + k * K + m * K ≤ cs.size := by
      have h1 := (hc (d.size - 1) (by omega) (K - 1) (by omega)).2
      have h2 : (d.size - 1) * K + K = d.size * K := by
        rw [← Nat.succ_mul]; congr 1; omega
      have h3 : k * K + m * K = d.size * K := by rw [← Nat.add_mul, hm]
      omega
    have hall : ∀ v ∈ (Builtin.zeroCells z.cells m).toList, v.oneCell' = true := by
      intro v hv
      rw [show Builtin.zeroCells z.cells m = (zrep z.cells.toList m).toArray from zero_cells z.cells (by omega) m] at hv
      rw [List.toList_toArray, zrep_eq] at hv
      obtain ⟨r, hr, hv⟩ := List.mem_flatten.1 hv
      rw [List.eq_of_mem_replicate hr] at hv
      exact (allOne_iff _).1 hz1 v hv
    have hst := run_storeCells_at P blk (off + k * K) T (Builtin.zeroCells z.cells m).toList 0 cs w hB (by simp only [Nat.add_zero]; rw [hvl]; exact hfit) hall
    simp only [Nat.add_zero] at hst
    obtain ⟨w', hw'⟩ : ∃ w', w' = w.setRow blk (putCells cs (off + k * K) (Builtin.zeroCells z.cells m).toList) := ⟨_, rfl⟩
    have hst : (storeCells ⟨blk, off + k * K, none⟩ (Builtin.zeroCells z.cells m).toList).run P w = .ok () w' := by rw [hw']; exact hst
    have hsrt : Srt enc K w0 a (d.extract 0 k) w' := by
      subst hw'
      refine ⟨hs.m.then (setRow_mod _ _ _) fun x _ hx => ⟨_, ha, hx.symm⟩, blk, off, _, T, ha, setRow_heap w blk cs _ T _ hB, fun q hq r hr => ?_⟩
      have hq' : q < k ∧ q < d.size := by simp at hq; omega
      rw [putCells_get cs _ _ (by rw [hvl]; exact hfit), putCells_size cs _ _ (by rw [hvl]; exact hfit), hext q hq'.1]
      have h2 : (q + 1) * K ≤ k * K := Nat.mul_le_mul_right _ hq'.1
      rw [Nat.succ_mul] at h2
      rw [if_pos (by omega)]
      exact hc q hq'.2 r hr
    refine VL.opv (v := .tuple #[]) (w' := w') ?_ (h w' (d.extract 0 k) hsz hext hsrt)
    obtain ⟨m', rfl⟩ : ∃ m', m = m' + 1 := ⟨m - 1, by omega⟩
    simp only [run1, execOp, resolve, invoke, builtin, Sem.run_bind, Sem.run_pure, Result.andThen_ok, List.map_toArray, List.map_cons, List.map_nil, hx, hcut, Builtin.clear_]
    simp [hu, hz, Sem.run_bind, Result.andThen_ok, hst]
end
section
variable {P : Program} {N : Nat} {L : List Oper} {Q : Exit → Env → World → Prop} {ρ : Env} {w : World} {rest : List Oper}
variable {d : Nat} {ty : TypeId} {p : String} {af : Array Edge} {x : Operand}
/-- A closure's call that turns memory. -/
theorem VL.callCY {ι : Type} {f : FuncId} {l : List Operand} {Fv Cv vs : List Value} {ts : Array TypeId} {val : ι → Value} {K : ι → World → Prop} (hx : tm ρ x = .func (.func f) Fv.toArray Cv.toArray) (hc : IsFn P f) (ha : l.map (tm ρ) = vs) (hf : RetsY P f (Fv ++ vs ++ Cv).toArray w val K)
    (h : ∀ i w', K i w' → VL P N L Q rest (upd ρ d (val i)) w') :
    VL P N L Q ({ dst := some d, op := .call { callee := .value x, args := l.toArray, argTypes := ts }, type := ty, pos := p, after := af, guard := none } :: rest) ρ w :=
  VL.callC hx hc ha (hf.mono fun _ w' ⟨i, hv, hK⟩ => by rw [hv]; exact h i w' hK)
end
section
variable {P : Program} {ρ : Env} {w : World} {ty t kt e : TypeId} {x y : Operand} {κ : Type} [DecidableEq κ] {enc : κ → Value}
/-- A map of numbers is asked, with 'ok'. -/
theorem R.lookupOkI {r : Nat} {l : List (κ × Value)} {k : κ} (K : KeyT P kt enc) (hu : ∀ w, (underlying t).run P w = .ok (.map kt e) w) (hz : ∀ w, (zeroValue e).run P w = .ok (.int .i64 0) w)
    (hm : MapIs w r enc l) (o : Option Int) (hv : mget l k = o.map fun i => .int .i64 i) (hx : tm ρ x = .map (some r)) (hy : tm ρ y = enc k) :
    run1 P ρ (.lookup t x y true) ty w = .ok (.value (.tuple #[.int .i64 (o.getD 0), .bool o.isSome])) w := by
  have h := R.lookupOk (ty := ty) K hu hz hm hx hy
  rw [hv] at h
  rw [h]
  cases o <;> rfl
end
end Go.Vc
