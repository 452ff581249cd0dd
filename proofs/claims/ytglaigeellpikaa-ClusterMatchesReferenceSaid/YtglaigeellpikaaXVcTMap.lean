/- Ranges over maps that the loop does not turn: in whatever order, each entry once. -/
import Derived.Test.YtglaigeellpikaaXVcOwn
import Derived.Laws.IdiomRangeMap
import Derived.Test.YtglaigeellpikaaXVcRun3
namespace Go.Vc
variable {κ : Type} [DecidableEq κ] {enc : κ → Value}

theorem map_eraseIdx' {α β : Type} (f : α → β) : ∀ (l : List α) (i : Nat), (l.eraseIdx i).map f = (l.map f).eraseIdx i
  | [], _ => rfl
  | _ :: _, 0 => rfl
  | a :: l, i + 1 => by rw [List.eraseIdx_cons_succ, List.map_cons, map_eraseIdx' f l i, List.map_cons, List.eraseIdx_cons_succ]
theorem filter_eraseIdx {α : Type} (g : α → Nat) : ∀ (l : List α) (j : Nat) (hj : j < l.length), (l.map g).Nodup → l.filter (fun x => !(g x == g l[j])) = l.eraseIdx j
  | [], _, h, _ => by simp at h
  | a :: l, 0, _, hn => by
    have hn := List.nodup_cons.1 hn
    rw [List.eraseIdx_cons_zero, List.filter_cons]
    simp only [List.getElem_cons_zero, beq_self_eq_true, Bool.not_true, Bool.false_eq_true, if_false]
    rw [List.filter_eq_self]
    intro x hx
    have : g x ≠ g a := fun e => hn.1 (by rw [← e]; exact List.mem_map.2 ⟨x, hx, rfl⟩)
    simpa using this
  | a :: l, j + 1, hj, hn => by
    have hn := List.nodup_cons.1 hn
    have hj' : j < l.length := by simpa using hj
    rw [List.eraseIdx_cons_succ, List.filter_cons]
    have : g a ≠ g l[j] := fun e => hn.1 (by rw [e]; exact List.mem_map.2 ⟨l[j], by simp, rfl⟩)
    simp only [List.getElem_cons_succ]
    have h2 : (g a == g l[j]) = false := by simpa using this
    rw [h2]
    simp only [Bool.not_false, if_true]
    rw [filter_eraseIdx g l j hj' hn.2]

/-- An iterator over a map: 'rem' are the entries that it has not handed out; 'last' the one that it handed out last. -/
structure IterAt (w : World) (it r : Nat) (enc : κ → Value) (l rem : List (κ × Value)) (last : Option (κ × Value)) : Prop where
  ex : ∃ es clock since c0 seen, MapAt w r enc l es clock ∧ Blk w it (.mapIter (some r) since seen c0) ∧ (∀ x ∈ es.toList, x.born < since) ∧ since ≤ c0 ∧ c0 = clock ∧
    (es.toList.filter fun e => !seen.contains e.born).map ekv = rem.map (fun p => (enc p.1, p.2)) ∧
    (∀ p, last = some p → ∃ e ∈ es.toList, seen.back? = some e.born ∧ ekv e = (enc p.1, p.2))
omit [DecidableEq κ] in
theorem IterAt.mod {S : Nat → Prop} {w w' : World} {it r : Nat} {l rem : List (κ × Value)} {last : Option (κ × Value)} (h : IterAt w it r enc l rem last) (m : Mod S w w') (h1 : ¬ S it) (h2 : ¬ S r) : IterAt w' it r enc l rem last := by
  obtain ⟨es, clock, since, c0, seen, a, b, c⟩ := h.ex
  exact ⟨es, clock, since, c0, seen, a.mod m h2, b.mod m h1, c⟩
omit [DecidableEq κ] in
theorem IterAt.ext {w w' : World} {it r : Nat} {l rem : List (κ × Value)} {last : Option (κ × Value)} (h : IterAt w it r enc l rem last) (m : Ext w w') : IterAt w' it r enc l rem last := h.mod m (fun e => e) (fun e => e)
omit [DecidableEq κ] in
theorem IterAt.is {w : World} {it r : Nat} {l rem : List (κ × Value)} {last : Option (κ × Value)} (h : IterAt w it r enc l rem last) : MapIs w r enc l := let ⟨es, clock, _, _, _, a, _⟩ := h.ex; ⟨es, clock, a⟩
omit [DecidableEq κ] in
theorem IterAt.lt {w : World} {it r : Nat} {l rem : List (κ × Value)} {last : Option (κ × Value)} (h : IterAt w it r enc l rem last) : it < w.heap.size := let ⟨_, _, _, _, _, _, b, _⟩ := h.ex; b.lt

theorem setObj_runI {w : World} {r : Nat} {a : Option Nat} {b c : Nat} {s : Array Nat} (h : Blk w r (.mapIter a b s c)) (o : Obj) {P : Program} :
    (setObj r o).run P w = .ok () { w with heap := w.heap.setIfInBounds r o } := by
  unfold Blk at h
  simp only [setObj, Sem.run, h]
theorem setObj_blkO {w : World} {r : Nat} {o' : Obj} (h : Blk w r o') (o : Obj) : Blk { w with heap := w.heap.setIfInBounds r o } r o := by
  have := h.lt
  show (w.heap.setIfInBounds r o)[r]? = _
  simp [this]

section
variable {P : Program} {w : World}
theorem getObj_any {r : Nat} {es : Array MapEntry} {c : Nat} (h : Blk w r (.map es c)) : (getObj r).run P w = .ok (.map es c) w := by
  unfold Blk at h; simp only [getObj, Sem.run, h]
theorem getObj_it {r : Nat} {a : Option Nat} {b c : Nat} {s : Array Nat} (h : Blk w r (.mapIter a b s c)) : (getObj r).run P w = .ok (.mapIter a b s c) w := by
  unfold Blk at h; simp only [getObj, Sem.run, h]

omit [DecidableEq κ] in
theorem next_run (ty : TypeId) {it r : Nat} {l rem : List (κ × Value)} {last : Option (κ × Value)} (h : IterAt w it r enc l rem last) (hne : it ≠ r) :
    (rem = [] ∧ (Instr.next (.pointer (some ⟨it, 0, none⟩)) false ty).run P w = .ok (.tuple #[.bool false]) w) ∨
    ∃ (i : Nat) (hi : i < rem.length) (w' : World), (Instr.next (.pointer (some ⟨it, 0, none⟩)) false ty).run P w = .ok (.tuple #[.bool true, enc (rem[i]).1, (rem[i]).2]) w' ∧
      Mod (one it) w w' ∧ w'.heap.size = w.heap.size ∧ IterAt w' it r enc l (rem.eraseIdx i) (some rem[i]) := by
  obtain ⟨es, clock, since, c0, seen, hm, hI, hold, hsc, hck, hrem, _⟩ := h.ex
  have hmB := hm.blk
  simp only [Instr.next, Sem.run_bind, getObj_it hI, getObj_any hmB, Result.andThen_ok, next_test_false seen es since c0 hold hsc, Bool.false_eq_true, if_false]
  obtain ⟨Lq, hL⟩ : ∃ Lq, Lq = Array.filter (fun e => !seen.contains e.born) es := ⟨_, rfl⟩
  have hLl : Lq.toList = es.toList.filter fun e => !seen.contains e.born := by rw [hL]; simp
  have hmem : ∀ x ∈ Lq.toList, x.born < since := fun x hx => hold x (by rw [hLl, List.mem_filter] at hx; exact hx.1)
  rw [← hL]
  have e1 : Lq.filter (fun x => decide (x.born < since)) = Lq := Array.filter_eq_self.2 (fun x hx => by simpa using hmem x (by simpa using hx))
  have e2 : Lq.filter (fun x => decide (x.born ≥ since)) = #[] := by
    rw [Array.filter_eq_empty_iff]
    intro x hx
    have := hmem x (by simpa using hx)
    simp
    omega
  rw [← hLl] at hrem
  have hlen : rem.length = Lq.size := by have := congrArg List.length hrem; simpa using this.symm
  simp only [e1, e2, Array.append_empty]
  by_cases h0 : Lq.size = 0
  · left
    have : Lq = #[] := Array.eq_empty_of_size_eq_zero h0
    subst this
    refine ⟨List.eq_nil_of_length_eq_zero (by simpa using hlen), ?_⟩
    simp [choose, Sem.run, Question.forced]
  · right
    have hne2 : Lq.isEmpty = false := by simp [Array.isEmpty, h0]
    simp only [hne2, Bool.false_eq_true, if_false, Array.empty_append, Array.size_map]
    have hch : ∃ (j : Nat) (w1 : World), j < Lq.size ∧ Ext w w1 ∧ w1.heap = w.heap ∧ (choose (Question.mapNext Lq.size)).run P w = .ok j w1 := by
      by_cases hf : Lq.size ≤ 1
      · exact ⟨0, w, by omega, Mod.refl _ _, rfl, by simp [choose, Sem.run, Question.forced, hf]⟩
      · exact ⟨_, w.drew, Nat.mod_lt _ (by omega), Ext.drawn w, rfl, by
          simp only [choose, Sem.run, Question.forced, decide_eq_true_eq, hf, if_false, Question.cut]
          rfl⟩
    obtain ⟨j, w1, hj, hal, hheap, hrun⟩ := hch
    have hjr : j < rem.length := by omega
    have hI1 := hI.ext hal
    have hel : ekv Lq[j] = (enc (rem[j]).1, (rem[j]).2) := by
      have h1 := congrArg (fun z => z[j]?) hrem
      simp only [List.getElem?_map, List.getElem?_eq_getElem hjr, Option.map_some] at h1
      rw [List.getElem?_eq_getElem (by simpa using hj)] at h1
      simpa using Option.some.inj h1
    have hk : Lq[j].key = enc (rem[j]).1 := congrArg Prod.fst hel
    have hv : Lq[j].val = (rem[j]).2 := congrArg Prod.snd hel
    have hjm : Lq[j] ∈ es.toList := by
      have : Lq[j] ∈ Lq.toList := by simp
      rw [hLl, List.mem_filter] at this
      exact this.1
    have hmod : Mod (one it) w1 { w1 with heap := w1.heap.setIfInBounds it (.mapIter (some r) since (seen.push Lq[j].born) clock) } := setObj_mod _ _ _
    refine ⟨j, hjr, { w1 with heap := w1.heap.setIfInBounds it (.mapIter (some r) since (seen.push Lq[j].born) clock) }, ?_, (Ext.mod hal).trans hmod, by simp [hheap], ?_⟩
    · simp only [hrun, Array.getElem?_map, Array.getElem?_eq_getElem hj, Option.map_some, Sem.run_bind, setObj_runI hI1, Result.andThen_ok, hk, hv]
      rfl
    · refine ⟨es, clock, since, clock, seen.push Lq[j].born, (hm.mod (hal.mod (S := one it)) (fun e => hne e.symm)).mod hmod (fun e => hne e.symm), setObj_blkO hI1 _, hold, by omega, rfl, ?_, fun p hp => ?_⟩
      · have hb : ((es.toList.filter fun e => !seen.contains e.born).map (·.born)).Nodup := by
          have h1 : (es.toList.map (·.born)).Nodup := hm.born.imp (fun h => Nat.ne_of_lt h)
          exact List.Sublist.nodup (List.Sublist.map _ List.filter_sublist) h1
        rw [← hLl] at hb
        have h3 := filter_eraseIdx (fun e : MapEntry => e.born) Lq.toList j (by simpa using hj) hb
        have e : Lq.toList[j]'(by simpa using hj) = Lq[j] := by simp
        simp only [e] at h3
        have h4 : (es.toList.filter fun e => !(seen.push Lq[j].born).contains e.born) = Lq.toList.eraseIdx j := by
          refine Eq.trans ?_ h3
          rw [hLl, List.filter_filter]
          refine List.filter_congr fun x _ => ?_
          simp only [Array.contains_push, Bool.not_or]
          rw [Bool.and_comm]
        rw [h4, map_eraseIdx', hrem, map_eraseIdx']
      · injection hp with hp
        subst hp
        exact ⟨Lq[j], hjm, by simp, hel⟩

omit [DecidableEq κ] in
theorem entry_run {it r : Nat} {l rem : List (κ × Value)} {p : κ × Value} (h : IterAt w it r enc l rem (some p)) :
    (Instr.entry (.pointer (some ⟨it, 0, none⟩))).run P w = .ok (.tuple #[enc p.1, p.2]) w := by
  obtain ⟨es, clock, since, c0, seen, hm, hI, hold, hsc, hck, hrem, hl⟩ := h.ex
  obtain ⟨e, he, hb, hekv⟩ := hl p rfl
  have h1 : (es.toList.map (·.born)).Nodup := hm.born.imp (fun h => Nat.ne_of_lt h)
  have hf : es.find? (·.born == e.born) = some e := by rw [← Array.find?_toList]; exact find_born e es.toList h1 he
  have hk : e.key = enc p.1 := congrArg Prod.fst hekv
  have hv : e.val = p.2 := congrArg Prod.snd hekv
  subst hck
  simp only [Instr.entry, Sem.run_bind, getObj_it hI, getObj_any hm.blk, Result.andThen_ok, hb, bne_self_eq_false, Bool.false_eq_true, if_false, hf, hk, hv]
  rfl
end

section
variable {P : Program} {N : Nat} {L : List Oper} {Q : Exit → Env → World → Prop} {rest : List Oper} {ρ : Env} {w : World}
  {d : Nat} {ty t kt e : TypeId} {p : String} {af : Array Edge} {x : Operand}
omit [DecidableEq κ] in
theorem VL.range {r : Nat} {l : List (κ × Value)} (hu : ∀ w, (underlying t).run P w = .ok (.map kt e) w) (hx : tm ρ x = .map (some r)) (hm : MapIs w r enc l)
    (h : ∀ it w', it = w.heap.size → Ext w w' → IterAt w' it r enc l l none → VL P N L Q rest (upd ρ d (.pointer (some ⟨it, 0, none⟩))) w') :
    VL P N L Q ({ dst := some d, op := .range t x, type := ty, pos := p, after := af, guard := none } :: rest) ρ w := by
  obtain ⟨es, c, hA⟩ := hm
  have hb := hA.blk
  refine VL.op (v := .pointer (some ⟨w.heap.size, 0, none⟩)) (w' := w.alloc (.mapIter (some r) c #[] c)) ?_ (h _ _ rfl (Ext.alloc _ _) ⟨es, c, c, c, #[], hA.mod (Ext.alloc _ _) (fun e => e), Blk.alloc _ _, hA.clk, Nat.le_refl _, rfl, ?_, fun p hp => by cases hp⟩)
  · have h1 : (Instr.range t (.map (some r))).run P w = .ok (.pointer (some ⟨w.heap.size, 0, none⟩)) (w.alloc (.mapIter (some r) c #[] c)) := by
      simp only [Instr.range, Sem.run_bind, hu, Result.andThen_ok, getObj_any hb, Sem.run_pure]
      rfl
    simp only [run1, execOp, hx, Sem.run_bind, h1, Result.andThen_ok, Sem.run_pure]
  · rw [← hA.kv]
    congr 1
    rw [List.filter_eq_self]
    intro x _; simp
omit [DecidableEq κ] in
theorem VL.next {it r : Nat} {l rem : List (κ × Value)} {last : Option (κ × Value)} (hx : tm ρ x = .pointer (some ⟨it, 0, none⟩)) (hI : IterAt w it r enc l rem last) (hne : it ≠ r)
    (h0 : rem = [] → VL P N L Q rest (upd ρ d (.tuple #[.bool false])) w)
    (h1 : ∀ i (hi : i < rem.length) w', Mod (one it) w w' → w'.heap.size = w.heap.size → IterAt w' it r enc l (rem.eraseIdx i) (some rem[i]) → VL P N L Q rest (upd ρ d (.tuple #[.bool true, enc (rem[i]).1, (rem[i]).2])) w') :
    VL P N L Q ({ dst := some d, op := .next x false, type := ty, pos := p, after := af, guard := none } :: rest) ρ w := by
  rcases next_run (P := P) ty hI hne with ⟨hr, hrun⟩ | ⟨i, hi, w', hrun, hm, hsz, hI'⟩
  · refine VL.op ?_ (h0 hr)
    simp only [run1, execOp, hx, Sem.run_bind, hrun, Result.andThen_ok, Sem.run_pure]
  · refine VL.op ?_ (h1 i hi w' hm hsz hI')
    simp only [run1, execOp, hx, Sem.run_bind, hrun, Result.andThen_ok, Sem.run_pure]
omit [DecidableEq κ] in
theorem R.entry {it r : Nat} {l rem : List (κ × Value)} {q : κ × Value} (hx : tm ρ x = .pointer (some ⟨it, 0, none⟩)) (hI : IterAt w it r enc l rem (some q)) :
    run1 P ρ (.entry x) ty w = .ok (.value (.tuple #[enc q.1, q.2])) w := by
  simp only [run1, execOp, hx, Sem.run_bind, entry_run hI, Result.andThen_ok, Sem.run_pure]
end
end Go.Vc

/- Slices of arrays; slices that are made; keys that are arrays. -/
namespace Go.Vc
section
variable {P : Program} {N : Nat} {L : List Oper} {Q : Exit → Env → World → Prop} {ρ : Env} {w : World} {rest : List Oper}
variable {d : Nat} {ty t : TypeId} {p : String} {af : Array Edge} {x y : Operand}
/-- The slice of a whole array's variable. -/
theorem R.slArr {b off n e T s : Nat} (hu : ∀ w, (underlying T).run P w = .ok (.array n e) w) (hs : ∀ w, (sizeOf e).run P w = .ok s w) (hx : tm ρ x = .pointer (some ⟨b, off, none⟩)) :
    run1 P ρ (.slice T x none none none) ty w = .ok (.value (.slice (some ⟨b, off, none⟩) n n)) w := by
  simp only [run1, execOp, Instr.sliceAt, Option.map_none, hx, Sem.run_bind, hu, Result.andThen_ok, Instr.sureAddr, Instr.sliceBounds, Sem.run_pure, hs, Nat.sub_zero, Nat.zero_mul]
  congr 4
  split
  · rfl
  · simp [Addr.add]
theorem Blk.sl {α : Type} {enc : α → List Value} {b : Nat} {c : Array Value} {T : TypeId} {fr : Nat × Nat} (h : Blk w b (.cells c T fr)) {s off : Nat} {l : List α} (hl : ∀ u ∈ l, (enc u).length = s) (hc : (l.map enc).flatten = c.toList.drop off) : TSl enc s w (some ⟨b, off, none⟩) l := by
  refine ⟨fun r hr => ?_, .inr ⟨b, off, rfl, c, T, fr, h, fun i hi => ?_⟩⟩
  · obtain ⟨u, hu, rfl⟩ := List.mem_map.1 hr; exact hl u hu
  · rw [hc, List.getElem?_drop]; simp
end
end Go.Vc

/- Comparing functions, as plain mathematics; lists. -/
namespace Go.Vc
def cmpI (a b : Int) : Int := if a < b then -1 else if b < a then 1 else 0
def orL (l : List Int) : Int := (l.find? fun x => decide (x ≠ 0)).getD 0
theorem orL_cons (x : Int) (l : List Int) : orL (x :: l) = if x = 0 then orL l else x := by
  unfold orL; by_cases h : x = 0 <;> simp [h]
theorem orL_at (l : List Int) (k : Nat) (hk : k < l.length) (h0 : ∀ i, i < k → l.getD i 0 = 0) (h1 : l.getD k 0 ≠ 0) : orL l = l.getD k 0 := by
  induction l generalizing k with
  | nil => simp at hk
  | cons x l ih =>
    rw [orL_cons]
    cases k with
    | zero => simp at h1 ⊢; intro h; exact absurd h h1
    | succ k =>
      have := h0 0 (by omega)
      simp at this
      rw [if_pos this]
      exact ih k (by simpa using hk) (fun i hi => by simpa using h0 (i + 1) (by omega)) (by simpa using h1)
theorem orL_none (l : List Int) (h0 : ∀ i, i < l.length → l.getD i 0 = 0) : orL l = 0 := by
  induction l with
  | nil => rfl
  | cons x l ih =>
    have := h0 0 (by simp)
    simp at this
    rw [orL_cons, if_pos this]
    exact ih fun i hi => by simpa using h0 (i + 1) (by simpa using hi)

theorem getD_ext {l m : List Int} (h : l.length = m.length) (hi : ∀ i, i < l.length → l.getD i 0 = m.getD i 0) : l = m := by
  apply List.ext_getElem h
  intro i h1 h2
  have := hi i h1
  simpa [List.getD, h1, h2] using this

theorem encI_len (l : List Int) : ∀ r ∈ l.map encI, r.length = 1 := by
  intro r hr
  obtain ⟨x, _, rfl⟩ := List.mem_map.1 hr
  rfl
end Go.Vc

/- Maps whose values are of one kind; lists in strict order. -/
namespace Go.Vc
section
variable {κ α : Type} [DecidableEq κ]
def tset (l : List (κ × α)) (k : κ) (v : α) : List (κ × α) :=
  match l with
  | [] => [(k, v)]
  | (k', v') :: l => if k = k' then (k, v) :: l else (k', v') :: tset l k v
def tget (l : List (κ × α)) (k : κ) : Option α :=
  match l with
  | [] => none
  | (k', v) :: l => if k = k' then some v else tget l k
def tenc (f : α → Value) (l : List (κ × α)) : List (κ × Value) := l.map fun p => (p.1, f p.2)
theorem tset_enc (f : α → Value) (l : List (κ × α)) (k : κ) (v : α) : tenc f (tset l k v) = mset (tenc f l) k (f v) := by
  induction l with
  | nil => rfl
  | cons p l ih =>
    obtain ⟨a, x⟩ := p
    unfold tenc at ih ⊢
    simp only [tset, List.map_cons, mset]
    split
    · rfl
    · rw [List.map_cons, ih]
theorem tget_enc (f : α → Value) (l : List (κ × α)) (k : κ) : mget (tenc f l) k = (tget l k).map f := by
  induction l with
  | nil => rfl
  | cons p l ih =>
    obtain ⟨a, x⟩ := p
    unfold tenc at ih ⊢
    simp only [tget, List.map_cons, mget]
    split
    · rfl
    · exact ih
theorem tget_tset (l : List (κ × α)) (k k' : κ) (v : α) : tget (tset l k v) k' = if k' = k then some v else tget l k' := by
  induction l with
  | nil => simp [tset, tget]
  | cons p l ih =>
    obtain ⟨a, x⟩ := p
    simp only [tset]
    by_cases h : k = a
    · subst h; simp only [if_true, tget]
      by_cases h2 : k' = k <;> simp [h2]
    · rw [if_neg h]; simp only [tget, ih]
      by_cases h2 : k' = a
      · subst h2; simp; intro e; exact absurd e.symm h
      · simp [h2]
theorem tset_keys (l : List (κ × α)) (k : κ) (v : α) : (tset l k v).map (·.1) = if k ∈ l.map (·.1) then l.map (·.1) else l.map (·.1) ++ [k] := by
  induction l with
  | nil => simp [tset]
  | cons p l ih =>
    obtain ⟨a, x⟩ := p
    simp only [tset]
    by_cases h : k = a
    · subst h; simp
    · rw [if_neg h, List.map_cons, ih, List.map_cons]
      by_cases h2 : k ∈ l.map (·.1)
      · rw [if_pos h2, if_pos (List.mem_cons_of_mem _ h2)]
      · rw [if_neg h2, if_neg (fun e => (List.mem_cons.1 e).elim h h2)]; rfl
theorem tget_mem {l : List (κ × α)} (h : (l.map (·.1)).Nodup) {k : κ} {v : α} : tget l k = some v ↔ (k, v) ∈ l := by
  induction l with
  | nil => simp [tget]
  | cons p l ih =>
    obtain ⟨a, x⟩ := p
    have h := List.nodup_cons.1 h
    simp only [tget]
    by_cases e : k = a
    · subst e
      rw [if_pos rfl]
      constructor
      · intro hv; injection hv with hv; subst hv; simp
      · intro hm
        rcases List.mem_cons.1 hm with hm | hm
        · injection hm with _ hm; rw [hm]
        · exact absurd (List.mem_map.2 ⟨_, hm, rfl⟩) h.1
    · rw [if_neg e, ih h.2]
      constructor
      · exact fun hm => List.mem_cons_of_mem _ hm
      · intro hm
        rcases List.mem_cons.1 hm with hm | hm
        · injection hm with hm _; exact absurd hm e
        · exact hm
omit [DecidableEq κ] in
theorem tenc_erase (f : α → Value) (l : List (κ × α)) (i : Nat) : tenc f (l.eraseIdx i) = (tenc f l).eraseIdx i := map_eraseIdx' _ l i
omit [DecidableEq κ] in
theorem tenc_get (f : α → Value) (l : List (κ × α)) (i : Nat) (hi : i < (tenc f l).length) : (tenc f l)[i] = ((l[i]'(by simpa [tenc] using hi)).1, f (l[i]'(by simpa [tenc] using hi)).2) := by simp [tenc]
omit [DecidableEq κ] in
theorem tenc_len (f : α → Value) (l : List (κ × α)) : (tenc f l).length = l.length := by simp [tenc]
end
section
variable {P : Program} {N : Nat} {L : List Oper} {Q : Exit → Env → World → Prop} {rest : List Oper} {ρ : Env} {w : World}
  {d : Nat} {ty : TypeId} {p : String} {af : Array Edge} {x : Operand}
/-- The next entry of a map whose values are of one kind. -/
theorem VL.nextT {κ α : Type} {enc : κ → Value} {f : α → Value} {it r : Nat} {l : List (κ × Value)} {R : List (κ × α)} {last : Option (κ × Value)} (hx : tm ρ x = .pointer (some ⟨it, 0, none⟩)) (hI : IterAt w it r enc l (tenc f R) last) (hne : it ≠ r)
    (h0 : R = [] → VL P N L Q rest (upd ρ d (.tuple #[.bool false])) w)
    (h1 : ∀ i (hi : i < R.length) w', Mod (one it) w w' → w'.heap.size = w.heap.size → IterAt w' it r enc l (tenc f (R.eraseIdx i)) (some (R[i].1, f R[i].2)) → VL P N L Q rest (upd ρ d (.tuple #[.bool true, enc R[i].1, f R[i].2])) w') :
    VL P N L Q ({ dst := some d, op := .next x false, type := ty, pos := p, after := af, guard := none } :: rest) ρ w := by
  refine VL.next hx hI hne (fun h => h0 ?_) (fun i hi w' hm hs hI' => ?_)
  · have := congrArg List.length h
    rw [tenc_len] at this
    exact List.eq_nil_of_length_eq_zero this
  · have hi' : i < R.length := by rwa [tenc_len] at hi
    rw [tenc_get, ← tenc_erase] at hI'
    rw [tenc_get]
    exact h1 i hi' w' hm hs hI'
end
theorem erase_perm {α : Type} : ∀ (l : List α) {i : Nat} (hi : i < l.length), (l[i] :: l.eraseIdx i).Perm l
  | [], _, h => by simp at h
  | a :: l, 0, _ => List.Perm.refl _
  | a :: l, i + 1, h => by
    rw [List.eraseIdx_cons_succ, List.getElem_cons_succ]
    exact (List.Perm.swap _ _ _).trans (List.Perm.cons a (erase_perm l (by simpa using h)))
end Go.Vc
