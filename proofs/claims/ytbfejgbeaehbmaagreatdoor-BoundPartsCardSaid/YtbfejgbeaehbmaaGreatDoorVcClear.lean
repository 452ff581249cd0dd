/- Ranges over maps that the loop does not turn: in whatever order, each entry once. -/
import Derived.Test.YtbfejgbeaehbmaaGreatDoorVcOwn
import Derived.Laws.IdiomRangeMap
import Derived.Test.YtbfejgbeaehbmaaGreatDoorVcRun3
import Derived.Laws.OwnMore
namespace Go.Vc
variable {κ : Type} [DecidableEq κ] {enc : κ → Value}

theorem map_eraseIdx' {α β : Type} (f : α → β) : ∀ (l : List α) (i : Nat), (l.eraseIdx i).map f = (l.map f).eraseIdx i
  | [], _ => rfl
  | _ :: _, 0 => rfl
  | a :: l, i + 1 => by rw [List.eraseIdx_cons_succ, List.map_cons, map_eraseIdx' f l i, List.map_cons, List.eraseIdx_cons_succ]
theorem filter_eraseIdx {α : Type} (g : α → Nat) : ∀ (l : List α) (j : Nat) (hj : j < l.length), (l.map g).Nodup → l.filter (fun x => !(g x == g l[j])) = l.eraseIdx j
  | [], _, h, _ => by simp at h
  | a :: l, 0, _, hn => by
    have hn := List.nodup_cons.1 hn
    rw [List.eraseIdx_cons_zero, List.filter_cons]
    simp only [List.getElem_cons_zero, beq_self_eq_true, Bool.not_true, Bool.false_eq_true, if_false]
    rw [List.filter_eq_self]
    intro x hx
    have : g x ≠ g a := fun e => hn.1 (by rw [← e]; exact List.mem_map.2 ⟨x, hx, rfl⟩)
    simpa using this
  | a :: l, j + 1, hj, hn => by
    have hn := List.nodup_cons.1 hn
    have hj' : j < l.length := by simpa using hj
    rw [List.eraseIdx_cons_succ, List.filter_cons]
    have : g a ≠ g l[j] := fun e => hn.1 (by rw [e]; exact List.mem_map.2 ⟨l[j], by simp, rfl⟩)
    simp only [List.getElem_cons_succ]
    have h2 : (g a == g l[j]) = false := by simpa using this
    rw [h2]
    simp only [Bool.not_false, if_true]
    rw [filter_eraseIdx g l j hj' hn.2]

/-- An iterator over a map: 'rem' are the entries that it has not handed out; 'last' the one that it handed out last. -/
structure IterAt (w : World) (it r : Nat) (enc : κ → Value) (l rem : List (κ × Value)) (last : Option (κ × Value)) : Prop where
  ex : ∃ es clock since c0 seen, MapAt w r enc l es clock ∧ Blk w it (.mapIter (some r) since seen c0) ∧ (∀ x ∈ es.toList, x.born < since) ∧ since ≤ c0 ∧ c0 = clock ∧
    (es.toList.filter fun e => !seen.contains e.born).map ekv = rem.map (fun p => (enc p.1, p.2)) ∧
    (∀ p, last = some p → ∃ e ∈ es.toList, seen.back? = some e.born ∧ ekv e = (enc p.1, p.2))
omit [DecidableEq κ] in
theorem IterAt.mod {S : Nat → Prop} {w w' : World} {it r : Nat} {l rem : List (κ × Value)} {last : Option (κ × Value)} (h : IterAt w it r enc l rem last) (m : Mod S w w') (h1 : ¬ S it) (h2 : ¬ S r) : IterAt w' it r enc l rem last := by
  obtain ⟨es, clock, since, c0, seen, a, b, c⟩ := h.ex
  exact ⟨es, clock, since, c0, seen, a.mod m h2, b.mod m h1, c⟩
omit [DecidableEq κ] in
theorem IterAt.ext {w w' : World} {it r : Nat} {l rem : List (κ × Value)} {last : Option (κ × Value)} (h : IterAt w it r enc l rem last) (m : Ext w w') : IterAt w' it r enc l rem last := h.mod m (fun e => e) (fun e => e)
omit [DecidableEq κ] in
theorem IterAt.is {w : World} {it r : Nat} {l rem : List (κ × Value)} {last : Option (κ × Value)} (h : IterAt w it r enc l rem last) : MapIs w r enc l := let ⟨es, clock, _, _, _, a, _⟩ := h.ex; ⟨es, clock, a⟩
omit [DecidableEq κ] in
theorem IterAt.lt {w : World} {it r : Nat} {l rem : List (κ × Value)} {last : Option (κ × Value)} (h : IterAt w it r enc l rem last) : it < w.heap.size := let ⟨_, _, _, _, _, _, b, _⟩ := h.ex; b.lt

theorem setObj_runI {w : World} {r : Nat} {a : Option Nat} {b c : Nat} {s : Array Nat} (h : Blk w r (.mapIter a b s c)) (o : Obj) {P : Program} :
    (setObj r o).run P w = .ok () { w with heap := w.heap.setIfInBounds r o } := by
  unfold Blk at h
  simp only [setObj, Sem.run, h]
theorem setObj_blkO {w : World} {r : Nat} {o' : Obj} (h : Blk w r o') (o : Obj) : Blk { w with heap := w.heap.setIfInBounds r o } r o := by
  have := h.lt
  show (w.heap.setIfInBounds r o)[r]? = _
  simp [this]

section
variable {P : Program} {w : World}
theorem getObj_any {r : Nat} {es : Array MapEntry} {c : Nat} (h : Blk w r (.map es c)) : (getObj r).run P w = .ok (.map es c) w := by
  unfold Blk at h; simp only [getObj, Sem.run, h]
theorem getObj_it {r : Nat} {a : Option Nat} {b c : Nat} {s : Array Nat} (h : Blk w r (.mapIter a b s c)) : (getObj r).run P w = .ok (.mapIter a b s c) w := by
  unfold Blk at h; simp only [getObj, Sem.run, h]

omit [DecidableEq κ] in
theorem next_run (ty : TypeId) {it r : Nat} {l rem : List (κ × Value)} {last : Option (κ × Value)} (h : IterAt w it r enc l rem last) (hne : it ≠ r) :
    (rem = [] ∧ (Instr.next (.pointer (some ⟨it, 0, none⟩)) false ty).run P w = .ok (.tuple #[.bool false]) w) ∨
    ∃ (i : Nat) (hi : i < rem.length) (w' : World), (Instr.next (.pointer (some ⟨it, 0, none⟩)) false ty).run P w = .ok (.tuple #[.bool true, enc (rem[i]).1, (rem[i]).2]) w' ∧
      Mod (one it) w w' ∧ w'.heap.size = w.heap.size ∧ IterAt w' it r enc l (rem.eraseIdx i) (some rem[i]) := by
  obtain ⟨es, clock, since, c0, seen, hm, hI, hold, hsc, hck, hrem, _⟩ := h.ex
  have hmB := hm.blk
  simp only [Instr.next, Sem.run_bind, getObj_it hI, getObj_any hmB, Result.andThen_ok, next_test_false seen es since c0 hold hsc, Bool.false_eq_true, if_false]
  obtain ⟨Lq, hL⟩ : ∃ Lq, Lq = Array.filter (fun e => !seen.contains e.born) es := ⟨_, rfl⟩
  have hLl : Lq.toList = es.toList.filter fun e => !seen.contains e.born := by rw [hL]; simp
  have hmem : ∀ x ∈ Lq.toList, x.born < since := fun x hx => hold x (by rw [hLl, List.mem_filter] at hx; exact hx.1)
  rw [← hL]
  have e1 : Lq.filter (fun x => decide (x.born < since)) = Lq := Array.filter_eq_self.2 (fun x hx => by simpa using hmem x (by simpa using hx))
  have e2 : Lq.filter (fun x => decide (x.born ≥ since)) = #[] := by
    rw [Array.filter_eq_empty_iff]
    intro x hx
    have := hmem x (by simpa using hx)
    simp
    omega
  rw [← hLl] at hrem
  have hlen : rem.length = Lq.size := by have := congrArg List.length hrem; simpa using this.symm
  simp only [e1, e2, Array.append_empty]
  by_cases h0 : Lq.size = 0
  · left
    have : Lq = #[] := Array.eq_empty_of_size_eq_zero h0
    subst this
    refine ⟨List.eq_nil_of_length_eq_zero (by simpa using hlen), ?_⟩
    simp [choose, Sem.run, Question.forced]
  · right
    have hne2 : Lq.isEmpty = false := by simp [Array.isEmpty, h0]
    simp only [hne2, Bool.false_eq_true, if_false, Array.empty_append, Array.size_map]
    have hch : ∃ (j : Nat) (w1 : World), j < Lq.size ∧ Ext w w1 ∧ w1.heap = w.heap ∧ (choose (Question.mapNext Lq.size)).run P w = .ok j w1 := by
      by_cases hf : Lq.size ≤ 1
      · exact ⟨0, w, by omega, Mod.refl _ _, rfl, by simp [choose, Sem.run, Question.forced, hf]⟩
      · exact ⟨_, w.drew, Nat.mod_lt _ (by omega), Ext.drawn w, rfl, by
          simp only [choose, Sem.run, Question.forced, decide_eq_true_eq, hf, if_false, Question.cut]
          rfl⟩
    obtain ⟨j, w1, hj, hal, hheap, hrun⟩ := hch
    have hjr : j < rem.length := by omega
    have hI1 := hI.ext hal
    have hel : ekv Lq[j] = (enc (rem[j]).1, (rem[j]).2) := by
      have h1 := congrArg (fun z => z[j]?) hrem
      simp only [List.getElem?_map, List.getElem?_eq_getElem hjr, Option.map_some] at h1
      rw [List.getElem?_eq_getElem (by simpa using hj)] at h1
      simpa using Option.some.inj h1
    have hk : Lq[j].key = enc (rem[j]).1 := congrArg Prod.fst hel
    have hv : Lq[j].val = (rem[j]).2 := congrArg Prod.snd hel
    have hjm : Lq[j] ∈ es.toList := by
      have : Lq[j] ∈ Lq.toList := by simp
      rw [hLl, List.mem_filter] at this
      exact this.1
    have hmod : Mod (one it) w1 { w1 with heap := w1.heap.setIfInBounds it (.mapIter (some r) since (seen.push Lq[j].born) clock) } := setObj_mod _ _ _
    refine ⟨j, hjr, { w1 with heap := w1.heap.setIfInBounds it (.mapIter (some r) since (seen.push Lq[j].born) clock) }, ?_, (Ext.mod hal).trans hmod, by simp [hheap], ?_⟩
    · simp only [hrun, Array.getElem?_map, Array.getElem?_eq_getElem hj, Option.map_some, Sem.run_bind, setObj_runI hI1, Result.andThen_ok, hk, hv]
      rfl
    · refine ⟨es, clock, since, clock, seen.push Lq[j].born, (hm.mod (hal.mod (S := one it)) (fun e => hne e.symm)).mod hmod (fun e => hne e.symm), setObj_blkO hI1 _, hold, by omega, rfl, ?_, fun p hp => ?_⟩
      · have hb : ((es.toList.filter fun e => !seen.contains e.born).map (·.born)).Nodup := by
          have h1 : (es.toList.map (·.born)).Nodup := hm.born.imp (fun h => Nat.ne_of_lt h)
          exact List.Sublist.nodup (List.Sublist.map _ List.filter_sublist) h1
        rw [← hLl] at hb
        have h3 := filter_eraseIdx (fun e : MapEntry => e.born) Lq.toList j (by simpa using hj) hb
        have e : Lq.toList[j]'(by simpa using hj) = Lq[j] := by simp
        simp only [e] at h3
        have h4 : (es.toList.filter fun e => !(seen.push Lq[j].born).contains e.born) = Lq.toList.eraseIdx j := by
          refine Eq.trans ?_ h3
          rw [hLl, List.filter_filter]
          refine List.filter_congr fun x _ => ?_
          simp only [Array.contains_push, Bool.not_or]
          rw [Bool.and_comm]
        rw [h4, map_eraseIdx', hrem, map_eraseIdx']
      · injection hp with hp
        subst hp
        exact ⟨Lq[j], hjm, by simp, hel⟩

omit [DecidableEq κ] in
theorem entry_run {it r : Nat} {l rem : List (κ × Value)} {p : κ × Value} (h : IterAt w it r enc l rem (some p)) :
    (Instr.entry (.pointer (some ⟨it, 0, none⟩))).run P w = .ok (.tuple #[enc p.1, p.2]) w := by
  obtain ⟨es, clock, since, c0, seen, hm, hI, hold, hsc, hck, hrem, hl⟩ := h.ex
  obtain ⟨e, he, hb, hekv⟩ := hl p rfl
  have h1 : (es.toList.map (·.born)).Nodup := hm.born.imp (fun h => Nat.ne_of_lt h)
  have hf : es.find? (·.born == e.born) = some e := by rw [← Array.find?_toList]; exact find_born e es.toList h1 he
  have hk : e.key = enc p.1 := congrArg Prod.fst hekv
  have hv : e.val = p.2 := congrArg Prod.snd hekv
  subst hck
  simp only [Instr.entry, Sem.run_bind, getObj_it hI, getObj_any hm.blk, Result.andThen_ok, hb, bne_self_eq_false, Bool.false_eq_true, if_false, hf, hk, hv]
  rfl
end

section
variable {P : Program} {N : Nat} {L : List Oper} {Q : Exit → Env → World → Prop} {rest : List Oper} {ρ : Env} {w : World}
  {d : Nat} {ty t kt e : TypeId} {p : String} {af : Array Edge} {x : Operand}
omit [DecidableEq κ] in
theorem VL.range {r : Nat} {l : List (κ × Value)} (hu : ∀ w, (underlying t).run P w = .ok (.map kt e) w) (hx : tm ρ x = .map (some r)) (hm : MapIs w r enc l)
    (h : ∀ it w', it = w.heap.size → Ext w w' → IterAt w' it r enc l l none → VL P N L Q rest (upd ρ d (.pointer (some ⟨it, 0, none⟩))) w') :
    VL P N L Q ({ dst := some d, op := .range t x, type := ty, pos := p, after := af, guard := none } :: rest) ρ w := by
  obtain ⟨es, c, hA⟩ := hm
  have hb := hA.blk
  refine VL.op (v := .pointer (some ⟨w.heap.size, 0, none⟩)) (w' := w.alloc (.mapIter (some r) c #[] c)) ?_ (h _ _ rfl (Ext.alloc _ _) ⟨es, c, c, c, #[], hA.mod (Ext.alloc _ _) (fun e => e), Blk.alloc _ _, hA.clk, Nat.le_refl _, rfl, ?_, fun p hp => by cases hp⟩)
  · have h1 : (Instr.range t (.map (some r))).run P w = .ok (.pointer (some ⟨w.heap.size, 0, none⟩)) (w.alloc (.mapIter (some r) c #[] c)) := by
      simp only [Instr.range, Sem.run_bind, hu, Result.andThen_ok, getObj_any hb, Sem.run_pure]
      rfl
    simp only [run1, execOp, hx, Sem.run_bind, h1, Result.andThen_ok, Sem.run_pure]
  · rw [← hA.kv]
    congr 1
    rw [List.filter_eq_self]
    intro x _; simp
omit [DecidableEq κ] in
theorem VL.next {it r : Nat} {l rem : List (κ × Value)} {last : Option (κ × Value)} (hx : tm ρ x = .pointer (some ⟨it, 0, none⟩)) (hI : IterAt w it r enc l rem last) (hne : it ≠ r)
    (h0 : rem = [] → VL P N L Q rest (upd ρ d (.tuple #[.bool false])) w)
    (h1 : ∀ i (hi : i < rem.length) w', Mod (one it) w w' → w'.heap.size = w.heap.size → IterAt w' it r enc l (rem.eraseIdx i) (some rem[i]) → VL P N L Q rest (upd ρ d (.tuple #[.bool true, enc (rem[i]).1, (rem[i]).2])) w') :
    VL P N L Q ({ dst := some d, op := .next x false, type := ty, pos := p, after := af, guard := none } :: rest) ρ w := by
  rcases next_run (P := P) ty hI hne with ⟨hr, hrun⟩ | ⟨i, hi, w', hrun, hm, hsz, hI'⟩
  · refine VL.op ?_ (h0 hr)
    simp only [run1, execOp, hx, Sem.run_bind, hrun, Result.andThen_ok, Sem.run_pure]
  · refine VL.op ?_ (h1 i hi w' hm hsz hI')
    simp only [run1, execOp, hx, Sem.run_bind, hrun, Result.andThen_ok, Sem.run_pure]
omit [DecidableEq κ] in
theorem R.entry {it r : Nat} {l rem : List (κ × Value)} {q : κ × Value} (hx : tm ρ x = .pointer (some ⟨it, 0, none⟩)) (hI : IterAt w it r enc l rem (some q)) :
    run1 P ρ (.entry x) ty w = .ok (.value (.tuple #[enc q.1, q.2])) w := by
  simp only [run1, execOp, hx, Sem.run_bind, entry_run hI, Result.andThen_ok, Sem.run_pure]
end
end Go.Vc

/- Slices of arrays; slices that are made; keys that are arrays. -/
namespace Go.Vc
section
variable {P : Program} {N : Nat} {L : List Oper} {Q : Exit → Env → World → Prop} {ρ : Env} {w : World} {rest : List Oper}
variable {d : Nat} {ty t : TypeId} {p : String} {af : Array Edge} {x y : Operand}
/-- The slice of a whole array's variable. -/
theorem R.slArr {b off n e T s : Nat} (hu : ∀ w, (underlying T).run P w = .ok (.array n e) w) (hs : ∀ w, (sizeOf e).run P w = .ok s w) (hx : tm ρ x = .pointer (some ⟨b, off, none⟩)) :
    run1 P ρ (.slice T x none none none) ty w = .ok (.value (.slice (some ⟨b, off, none⟩) n n)) w := by
  simp only [run1, execOp, Instr.sliceAt, Option.map_none, hx, Sem.run_bind, hu, Result.andThen_ok, Instr.sureAddr, Instr.sliceBounds, Sem.run_pure, hs, Nat.sub_zero, Nat.zero_mul]
  congr 4
  split
  · rfl
  · simp [Addr.add]
theorem Blk.sl {α : Type} {enc : α → List Value} {b : Nat} {c : Array Value} {T : TypeId} {fr : Nat × Nat} (h : Blk w b (.cells c T fr)) {s off : Nat} {l : List α} (hl : ∀ u ∈ l, (enc u).length = s) (hc : (l.map enc).flatten = c.toList.drop off) : TSl enc s w (some ⟨b, off, none⟩) l := by
  refine ⟨fun r hr => ?_, .inr ⟨b, off, rfl, c, T, fr, h, fun i hi => ?_⟩⟩
  · obtain ⟨u, hu, rfl⟩ := List.mem_map.1 hr; exact hl u hu
  · rw [hc, List.getElem?_drop]; simp
end
end Go.Vc

/- Comparing functions, as plain mathematics; lists. -/
namespace Go.Vc
def cmpI (a b : Int) : Int := if a < b then -1 else if b < a then 1 else 0
def cmpG (a b : ByteArray) : Int := if sLt a b then -1 else if a = b then 0 else 1
theorem cmpI_zero (a b : Int) : cmpI a b = 0 ↔ a = b := by
  unfold cmpI; (repeat' split) <;> omega

def orL (l : List Int) : Int := (l.find? fun x => decide (x ≠ 0)).getD 0
theorem orL_cons (x : Int) (l : List Int) : orL (x :: l) = if x = 0 then orL l else x := by
  unfold orL; by_cases h : x = 0 <;> simp [h]
theorem orL_at (l : List Int) (k : Nat) (hk : k < l.length) (h0 : ∀ i, i < k → l.getD i 0 = 0) (h1 : l.getD k 0 ≠ 0) : orL l = l.getD k 0 := by
  induction l generalizing k with
  | nil => simp at hk
  | cons x l ih =>
    rw [orL_cons]
    cases k with
    | zero => simp at h1 ⊢; intro h; exact absurd h h1
    | succ k =>
      have := h0 0 (by omega)
      simp at this
      rw [if_pos this]
      exact ih k (by simpa using hk) (fun i hi => by simpa using h0 (i + 1) (by omega)) (by simpa using h1)
theorem orL_none (l : List Int) (h0 : ∀ i, i < l.length → l.getD i 0 = 0) : orL l = 0 := by
  induction l with
  | nil => rfl
  | cons x l ih =>
    have := h0 0 (by simp)
    simp at this
    rw [orL_cons, if_pos this]
    exact ih fun i hi => by simpa using h0 (i + 1) (by simpa using hi)

theorem getD_ext {l m : List Int} (h : l.length = m.length) (hi : ∀ i, i < l.length → l.getD i 0 = m.getD i 0) : l = m := by
  apply List.ext_getElem h
  intro i h1 h2
  have := hi i h1
  simpa [List.getD, h1, h2] using this

theorem bl_irr (a : List UInt8) : Op.bytesLess a a = false := by
  induction a with
  | nil => rfl
  | cons x a ih => simp [Op.bytesLess, ih]
theorem bl_asym (a b : List UInt8) (h : Op.bytesLess a b = true) : Op.bytesLess b a = false := by
  induction a generalizing b with
  | nil => cases b <;> simp [Op.bytesLess] at h ⊢
  | cons x a ih =>
    cases b with
    | nil => simp [Op.bytesLess] at h
    | cons y b =>
      simp [Op.bytesLess] at h ⊢
      rcases h with h | ⟨rfl, h⟩
      · have h1 := UInt8.lt_asymm h
        refine ⟨UInt8.not_lt.1 h1, ?_⟩
        rintro rfl
        exact absurd h (UInt8.lt_irrefl _)
      · exact ⟨UInt8.le_refl _, fun _ => ih b h⟩
theorem bl_total (a b : List UInt8) (h : a ≠ b) : Op.bytesLess a b = true ∨ Op.bytesLess b a = true := by
  induction a generalizing b with
  | nil => cases b with | nil => exact absurd rfl h | cons => exact .inl rfl
  | cons x a ih =>
    cases b with
    | nil => exact .inr rfl
    | cons y b =>
      simp [Op.bytesLess]
      by_cases hxy : x = y
      · subst hxy
        have : a ≠ b := fun e => h (by rw [e])
        rcases ih b this with h | h
        · exact .inl (.inr ⟨rfl, h⟩)
        · exact .inr (.inr ⟨rfl, h⟩)
      · rcases UInt8.lt_or_lt_of_ne hxy with h | h
        · exact .inl (.inl h)
        · exact .inr (.inl h)
theorem bl_trans (a b c : List UInt8) (h1 : Op.bytesLess a b = true) (h2 : Op.bytesLess b c = true) : Op.bytesLess a c = true := by
  induction a generalizing b c with
  | nil =>
    cases c with
    | nil => cases b <;> simp [Op.bytesLess] at h1 h2
    | cons => rfl
  | cons x a ih =>
    cases b with
    | nil => simp [Op.bytesLess] at h1
    | cons y b =>
      cases c with
      | nil => simp [Op.bytesLess] at h2
      | cons z c =>
        simp [Op.bytesLess] at h1 h2 ⊢
        rcases h1 with h1 | ⟨rfl, h1⟩
        · rcases h2 with h2 | ⟨rfl, h2⟩
          · exact .inl (UInt8.lt_trans h1 h2)
          · exact .inl h1
        · rcases h2 with h2 | ⟨rfl, h2⟩
          · exact .inl h2
          · exact .inr ⟨rfl, ih b c h1 h2⟩

/-- What is asked of a comparing function of numbers: below, equal or above nothing. -/
structure Cmp {α : Type} (f : α → α → Int) : Prop where
  anti : ∀ a b, f b a = - f a b
  trans : ∀ a b c, f a b ≤ 0 → f b c ≤ 0 → f a c ≤ 0
theorem Cmp.self {α : Type} {f : α → α → Int} (h : Cmp f) (a : α) : f a a = 0 := by have := h.anti a a; omega
theorem Cmp.trans0 {α : Type} {f : α → α → Int} (h : Cmp f) {a b c : α} (h1 : f a b = 0) (h2 : f b c = 0) : f a c = 0 := by
  have h3 := h.trans a b c (by omega) (by omega)
  have h4 := h.trans c b a (by have := h.anti b c; omega) (by have := h.anti a b; omega)
  have := h.anti a c
  omega
theorem Cmp.transL {α : Type} {f : α → α → Int} (h : Cmp f) {a b c : α} (h1 : f a b < 0) (h2 : f b c ≤ 0) : f a c < 0 := by
  have h3 := h.trans a b c (by omega) h2
  rcases Int.lt_or_eq_of_le h3 with h4 | h4
  · exact h4
  · exfalso
    have h5 := h.trans b c a h2 (by have := h.anti a c; omega)
    have := h.anti a b
    omega
theorem Cmp.transR {α : Type} {f : α → α → Int} (h : Cmp f) {a b c : α} (h1 : f a b ≤ 0) (h2 : f b c < 0) : f a c < 0 := by
  have h3 := h.trans a b c h1 (by omega)
  rcases Int.lt_or_eq_of_le h3 with h4 | h4
  · exact h4
  · exfalso
    have h5 := h.trans c a b (by have := h.anti a c; omega) h1
    have := h.anti b c
    omega

theorem cmpI_cmp : Cmp cmpI := ⟨fun a b => by unfold cmpI; (repeat' split) <;> omega, fun a b c => by unfold cmpI; (repeat' split) <;> omega⟩
theorem cmpI_neg (a b : Int) : cmpI a b < 0 ↔ a < b := by unfold cmpI; (repeat' split) <;> omega

theorem sLt_irr (a : ByteArray) : sLt a a = false := bl_irr _
theorem sLt_asym {a b : ByteArray} (h : sLt a b = true) : sLt b a = false := bl_asym _ _ h
theorem sLt_total {a b : ByteArray} (h : a ≠ b) : sLt a b = true ∨ sLt b a = true := bl_total _ _ fun e => h (ba_inj e)
theorem sLt_trans {a b c : ByteArray} (h1 : sLt a b = true) (h2 : sLt b c = true) : sLt a c = true := bl_trans _ _ _ h1 h2
theorem cmpG_zero (a b : ByteArray) : cmpG a b = 0 ↔ a = b := by
  unfold cmpG
  by_cases h : a = b
  · subst h; simp [sLt_irr]
  · split <;> simp [h]
theorem cmpG_neg (a b : ByteArray) : cmpG a b < 0 ↔ sLt a b = true := by
  unfold cmpG
  by_cases h : sLt a b = true
  · simp [h]
  · rw [if_neg h]
    split <;> simp [h]
theorem cmpG_cmp : Cmp cmpG := by
  have key : ∀ a b, (sLt a b = true ∧ sLt b a = false ∧ a ≠ b) ∨ (a = b ∧ sLt a b = false) ∨ (sLt b a = true ∧ sLt a b = false ∧ a ≠ b) := by
    intro a b
    by_cases h : a = b
    · subst h; exact .inr (.inl ⟨rfl, sLt_irr a⟩)
    · rcases sLt_total h with h1 | h1
      · exact .inl ⟨h1, sLt_asym h1, h⟩
      · exact .inr (.inr ⟨h1, sLt_asym h1, h⟩)
  refine ⟨fun a b => ?_, fun a b c h1 h2 => ?_⟩
  · unfold cmpG
    rcases key a b with ⟨h1, h2, h3⟩ | ⟨h1, h2⟩ | ⟨h1, h2, h3⟩
    · simp [h1, h2, Ne.symm h3]
    · subst h1; simp [h2]
    · simp [h1, h2, h3]
  · have le : ∀ a b, cmpG a b ≤ 0 ↔ sLt a b = true ∨ a = b := by
      intro a b
      rw [Int.le_iff_lt_or_eq, cmpG_neg, cmpG_zero]
    rw [le] at *
    rcases h1 with h1 | rfl
    · rcases h2 with h2 | rfl
      · exact .inl (sLt_trans h1 h2)
      · exact .inl h1
    · exact h2

/-- The first comparison that is not 0. -/
def thenC {α : Type} (f g : α → α → Int) : α → α → Int := fun a b => if f a b = 0 then g a b else f a b
theorem thenC_cmp {α : Type} {f g : α → α → Int} (hf : Cmp f) (hg : Cmp g) : Cmp (thenC f g) := by
  refine ⟨fun a b => ?_, fun a b c h1 h2 => ?_⟩
  · have h1 := hf.anti a b
    have h2 := hg.anti a b
    unfold thenC
    by_cases h : f a b = 0
    · have h' : f b a = 0 := by omega
      rw [if_pos h, if_pos h', h2]
    · have h' : ¬ f b a = 0 := by omega
      rw [if_neg h, if_neg h', h1]
  · unfold thenC at *
    by_cases e1 : f a b = 0
    · rw [if_pos e1] at h1
      by_cases e2 : f b c = 0
      · rw [if_pos e2] at h2
        rw [if_pos (hf.trans0 e1 e2)]
        exact hg.trans _ _ _ h1 h2
      · rw [if_neg e2] at h2
        have := hf.transR (a := a) (b := b) (c := c) (by omega) (by omega)
        rw [if_neg (by omega)]; omega
    · rw [if_neg e1] at h1
      have h3 : f b c ≤ 0 := by
        by_cases e2 : f b c = 0
        · omega
        · rw [if_neg e2] at h2; exact h2
      have := hf.transL (a := a) (b := b) (c := c) (by omega) h3
      rw [if_neg (by omega)]; omega
theorem Cmp.on {α β : Type} {f : β → β → Int} (h : Cmp f) (g : α → β) : Cmp fun a b => f (g a) (g b) := ⟨fun _a _b => h.anti _ _, fun _a _b _c => h.trans _ _ _⟩
theorem Cmp.flip {α : Type} {f : α → α → Int} (h : Cmp f) : Cmp fun a b => f b a := ⟨fun _a _b => h.anti _ _, fun _a _b _c h1 h2 => h.trans _ _ _ h2 h1⟩

theorem all_snoc {α : Type} [Inhabited α] (p : α → Bool) (l : List α) (k : Nat) (hk : k < l.length) : (l.take (k + 1)).all p = ((l.take k).all p && p (l.getD k default)) := by
  rw [List.take_succ_eq_append_getElem hk, List.all_append]
  simp [List.getD, hk]
theorem all_take_false {α : Type} [Inhabited α] (p : α → Bool) (l : List α) (k : Nat) (hk : k < l.length) (h : p (l.getD k default) = false) : l.all p = false := by
  rw [List.all_eq_false]
  exact ⟨l[k], by simp, by simpa [List.getD, hk] using h⟩

theorem filter_snoc {α : Type} [Inhabited α] (p : α → Bool) (l : List α) (k : Nat) (hk : k < l.length) : ((l.take (k + 1)).filter p).length = ((l.take k).filter p).length + (if p (l.getD k default) = true then 1 else 0) := by
  rw [List.take_succ_eq_append_getElem hk, List.filter_append, List.length_append]
  simp only [List.getD, List.getElem?_eq_getElem hk, Option.getD_some, List.filter_cons, List.filter_nil]
  split <;> rfl
theorem filter_le {α : Type} (p : α → Bool) (l : List α) (k : Nat) : ((l.take k).filter p).length ≤ k := Nat.le_trans (List.length_filter_le _ _) (List.length_take_le _ _)

theorem perm_eq {α : Type} {R : α → α → Prop} (anti : ∀ a b, R a b → R b a → a = b) : ∀ {l m : List α}, l.Perm m → l.Pairwise R → m.Pairwise R → l = m := by
  intro l
  induction l with
  | nil => intro m h _ _; exact h.nil_eq
  | cons a l ih =>
    intro m h hl hm
    cases m with
    | nil => exact absurd h.length_eq (by simp)
    | cons b m =>
      have e : a = b := by
        have h1 : a ∈ b :: m := h.mem_iff.1 (by simp)
        have h2 : b ∈ a :: l := h.mem_iff.2 (by simp)
        rcases List.mem_cons.1 h1 with e | h1
        · exact e
        · rcases List.mem_cons.1 h2 with e | h2
          · exact e.symm
          · exact anti _ _ (List.rel_of_pairwise_cons hl h2) (List.rel_of_pairwise_cons hm h1)
      subst e
      rw [ih ((List.perm_cons a).1 h) (List.Pairwise.of_cons hl) (List.Pairwise.of_cons hm)]
theorem nodup_perm {α : Type} [DecidableEq α] : ∀ {l m : List α}, l.Nodup → (∀ x ∈ l, x ∈ m) → l.length = m.length → l.Perm m := by
  intro l
  induction l with
  | nil => intro m _ _ h; cases m with
    | nil => exact List.Perm.refl _
    | cons => simp at h
  | cons a l ih =>
    intro m hn hs hl
    have ha : a ∈ m := hs a (by simp)
    have hn := List.nodup_cons.1 hn
    refine List.Perm.trans ?_ (List.perm_cons_erase ha).symm
    refine List.Perm.cons a (ih hn.2 (fun x hx => ?_) ?_)
    · have : x ≠ a := fun e => hn.1 (e ▸ hx)
      exact (List.mem_erase_of_ne this).2 (hs x (by simp [hx]))
    · rw [List.length_erase_of_mem ha]; simp at hl; omega

theorem cmpI_le (a b : Int) : cmpI a b ≤ 0 ↔ a ≤ b := by unfold cmpI; (repeat' split) <;> omega
theorem toNat_of {i : Int} (h : 0 ≤ i) : ∃ n : Nat, i = n := ⟨i.toNat, by omega⟩
theorem encI_len (l : List Int) : ∀ r ∈ l.map encI, r.length = 1 := by
  intro r hr
  obtain ⟨x, _, rfl⟩ := List.mem_map.1 hr
  rfl
end Go.Vc

/- Maps whose values are of one kind; lists in strict order. -/
namespace Go.Vc
section
variable {κ α : Type} [DecidableEq κ]
def tset (l : List (κ × α)) (k : κ) (v : α) : List (κ × α) :=
  match l with
  | [] => [(k, v)]
  | (k', v') :: l => if k = k' then (k, v) :: l else (k', v') :: tset l k v
def tget (l : List (κ × α)) (k : κ) : Option α :=
  match l with
  | [] => none
  | (k', v) :: l => if k = k' then some v else tget l k
def tenc (f : α → Value) (l : List (κ × α)) : List (κ × Value) := l.map fun p => (p.1, f p.2)
theorem tset_enc (f : α → Value) (l : List (κ × α)) (k : κ) (v : α) : tenc f (tset l k v) = mset (tenc f l) k (f v) := by
  induction l with
  | nil => rfl
  | cons p l ih =>
    obtain ⟨a, x⟩ := p
    unfold tenc at ih ⊢
    simp only [tset, List.map_cons, mset]
    split
    · rfl
    · rw [List.map_cons, ih]
theorem tget_enc (f : α → Value) (l : List (κ × α)) (k : κ) : mget (tenc f l) k = (tget l k).map f := by
  induction l with
  | nil => rfl
  | cons p l ih =>
    obtain ⟨a, x⟩ := p
    unfold tenc at ih ⊢
    simp only [tget, List.map_cons, mget]
    split
    · rfl
    · exact ih
theorem tget_tset (l : List (κ × α)) (k k' : κ) (v : α) : tget (tset l k v) k' = if k' = k then some v else tget l k' := by
  induction l with
  | nil => simp [tset, tget]
  | cons p l ih =>
    obtain ⟨a, x⟩ := p
    simp only [tset]
    by_cases h : k = a
    · subst h; simp only [if_true, tget]
      by_cases h2 : k' = k <;> simp [h2]
    · rw [if_neg h]; simp only [tget, ih]
      by_cases h2 : k' = a
      · subst h2; simp; intro e; exact absurd e.symm h
      · simp [h2]
theorem tset_keys (l : List (κ × α)) (k : κ) (v : α) : (tset l k v).map (·.1) = if k ∈ l.map (·.1) then l.map (·.1) else l.map (·.1) ++ [k] := by
  induction l with
  | nil => simp [tset]
  | cons p l ih =>
    obtain ⟨a, x⟩ := p
    simp only [tset]
    by_cases h : k = a
    · subst h; simp
    · rw [if_neg h, List.map_cons, ih, List.map_cons]
      by_cases h2 : k ∈ l.map (·.1)
      · rw [if_pos h2, if_pos (List.mem_cons_of_mem _ h2)]
      · rw [if_neg h2, if_neg (fun e => (List.mem_cons.1 e).elim h h2)]; rfl
theorem tset_nodup {l : List (κ × α)} (h : (l.map (·.1)).Nodup) (k : κ) (v : α) : ((tset l k v).map (·.1)).Nodup := by
  rw [tset_keys]
  split
  · exact h
  · rename_i hk
    exact List.nodup_append.2 ⟨h, by simp, fun a ha b hb => by rw [List.mem_singleton.1 hb]; exact fun e => hk (e ▸ ha)⟩
theorem tget_mem {l : List (κ × α)} (h : (l.map (·.1)).Nodup) {k : κ} {v : α} : tget l k = some v ↔ (k, v) ∈ l := by
  induction l with
  | nil => simp [tget]
  | cons p l ih =>
    obtain ⟨a, x⟩ := p
    have h := List.nodup_cons.1 h
    simp only [tget]
    by_cases e : k = a
    · subst e
      rw [if_pos rfl]
      constructor
      · intro hv; injection hv with hv; subst hv; simp
      · intro hm
        rcases List.mem_cons.1 hm with hm | hm
        · injection hm with _ hm; rw [hm]
        · exact absurd (List.mem_map.2 ⟨_, hm, rfl⟩) h.1
    · rw [if_neg e, ih h.2]
      constructor
      · exact fun hm => List.mem_cons_of_mem _ hm
      · intro hm
        rcases List.mem_cons.1 hm with hm | hm
        · injection hm with hm _; exact absurd hm e
        · exact hm
omit [DecidableEq κ] in
theorem tenc_erase (f : α → Value) (l : List (κ × α)) (i : Nat) : tenc f (l.eraseIdx i) = (tenc f l).eraseIdx i := map_eraseIdx' _ l i
omit [DecidableEq κ] in
theorem tenc_get (f : α → Value) (l : List (κ × α)) (i : Nat) (hi : i < (tenc f l).length) : (tenc f l)[i] = ((l[i]'(by simpa [tenc] using hi)).1, f (l[i]'(by simpa [tenc] using hi)).2) := by simp [tenc]
omit [DecidableEq κ] in
theorem tenc_len (f : α → Value) (l : List (κ × α)) : (tenc f l).length = l.length := by simp [tenc]
end
section
variable {P : Program} {N : Nat} {L : List Oper} {Q : Exit → Env → World → Prop} {rest : List Oper} {ρ : Env} {w : World}
  {d : Nat} {ty : TypeId} {p : String} {af : Array Edge} {x : Operand}
/-- The next entry of a map whose values are of one kind. -/
theorem VL.nextT {κ α : Type} {enc : κ → Value} {f : α → Value} {it r : Nat} {l : List (κ × Value)} {R : List (κ × α)} {last : Option (κ × Value)} (hx : tm ρ x = .pointer (some ⟨it, 0, none⟩)) (hI : IterAt w it r enc l (tenc f R) last) (hne : it ≠ r)
    (h0 : R = [] → VL P N L Q rest (upd ρ d (.tuple #[.bool false])) w)
    (h1 : ∀ i (hi : i < R.length) w', Mod (one it) w w' → w'.heap.size = w.heap.size → IterAt w' it r enc l (tenc f (R.eraseIdx i)) (some (R[i].1, f R[i].2)) → VL P N L Q rest (upd ρ d (.tuple #[.bool true, enc R[i].1, f R[i].2])) w') :
    VL P N L Q ({ dst := some d, op := .next x false, type := ty, pos := p, after := af, guard := none } :: rest) ρ w := by
  refine VL.next hx hI hne (fun h => h0 ?_) (fun i hi w' hm hs hI' => ?_)
  · have := congrArg List.length h
    rw [tenc_len] at this
    exact List.eq_nil_of_length_eq_zero this
  · have hi' : i < R.length := by rwa [tenc_len] at hi
    rw [tenc_get, ← tenc_erase] at hI'
    rw [tenc_get]
    exact h1 i hi' w' hm hs hI'
end
theorem erase_perm {α : Type} : ∀ (l : List α) {i : Nat} (hi : i < l.length), (l[i] :: l.eraseIdx i).Perm l
  | [], _, h => by simp at h
  | a :: l, 0, _ => List.Perm.refl _
  | a :: l, i + 1, h => by
    rw [List.eraseIdx_cons_succ, List.getElem_cons_succ]
    exact (List.Perm.swap _ _ _).trans (List.Perm.cons a (erase_perm l (by simpa using h)))
/-- Two lists in strict order with the same members are one. -/
theorem sorted_ext {α : Type} {R : α → α → Prop} (irr : ∀ a b, R a b → R b a → False) : ∀ {l m : List α}, l.Pairwise R → m.Pairwise R → (∀ x, x ∈ l ↔ x ∈ m) → l = m := by
  intro l
  induction l with
  | nil =>
    intro m _ _ h
    cases m with
    | nil => rfl
    | cons b m => exact absurd ((h b).2 (by simp)) (by simp)
  | cons a l ih =>
    intro m hl hm h
    cases m with
    | nil => exact absurd ((h a).1 (by simp)) (by simp)
    | cons b m =>
      have e : a = b := by
        rcases List.mem_cons.1 ((h a).1 (by simp)) with e | h1
        · exact e
        · rcases List.mem_cons.1 ((h b).2 (by simp)) with e | h2
          · exact e.symm
          · exact (irr _ _ (List.rel_of_pairwise_cons hl h2) (List.rel_of_pairwise_cons hm h1)).elim
      subst e
      have hl' := List.pairwise_cons.1 hl
      have hm' := List.pairwise_cons.1 hm
      rw [ih hl'.2 hm'.2 fun x => ?_]
      constructor
      · intro hx
        rcases List.mem_cons.1 ((h x).1 (List.mem_cons_of_mem _ hx)) with e | h1
        · subst e; exact (irr _ _ (hl'.1 _ hx) (hl'.1 _ hx)).elim
        · exact h1
      · intro hx
        rcases List.mem_cons.1 ((h x).2 (List.mem_cons_of_mem _ hx)) with e | h1
        · subst e; exact (irr _ _ (hm'.1 _ hx) (hm'.1 _ hx)).elim
        · exact h1
/-- The last of the first ones with a property. -/
theorem last_iff {α : Type} [Inhabited α] (p : α → Bool) (l : List α) (d : α) (k : Nat) (hk : k ≤ l.length) : ((l.take k).filter p).getLast? = some d ↔ ∃ i, i < k ∧ l.getD i default = d ∧ p d = true ∧ ∀ j, i < j → j < k → p (l.getD j default) = false := by
  induction k with
  | zero => simp
  | succ k ih =>
    have hg : l.getD k default = l[k] := by simp [List.getD, show k < l.length by omega]
    rw [List.take_succ_eq_append_getElem (by omega), List.filter_append, ← hg]
    cases hp : p (l.getD k default) with
    | true =>
      rw [List.filter_cons, if_pos hp, List.filter_nil, List.getLast?_append]
      simp only [List.getLast?_singleton, Option.some_or, Option.some.injEq]
      constructor
      · intro e; subst e; exact ⟨k, by omega, rfl, hp, fun j h1 h2 => by omega⟩
      · rintro ⟨i, h1, h2, h3, h4⟩
        by_cases hik : i = k
        · subst hik; exact h2
        · have := h4 k (by omega) (by omega); rw [hp] at this; cases this
    | false =>
      rw [List.filter_cons, if_neg (by rw [hp]; decide), List.filter_nil, List.append_nil, ih (by omega)]
      constructor
      · rintro ⟨i, h1, h2, h3, h4⟩
        refine ⟨i, by omega, h2, h3, fun j h5 h6 => ?_⟩
        by_cases hjk : j = k
        · subst hjk; exact hp
        · exact h4 j h5 (by omega)
      · rintro ⟨i, h1, h2, h3, h4⟩
        by_cases hik : i = k
        · subst hik; rw [h2, h3] at hp; cases hp
        · exact ⟨i, by omega, h2, h3, fun j h5 h6 => h4 j h5 (by omega)⟩
theorem tw_len {α : Type} [Inhabited α] (p : α → Bool) : ∀ (l : List α) (k : Nat), k ≤ l.length → (∀ j, j < k → p (l.getD j default) = true) → (k < l.length → p (l.getD k default) = false) → (l.takeWhile p).length = k := by
  intro l
  induction l with
  | nil => intro k hk _ _; simp at hk; subst hk; rfl
  | cons x l ih =>
    intro k hk h1 h2
    cases k with
    | zero =>
      have := h2 (by simp)
      rw [List.takeWhile_cons, if_neg (by simpa using this)]; rfl
    | succ k =>
      have h0 := h1 0 (by omega)
      rw [List.takeWhile_cons, if_pos (by simpa using h0), List.length_cons, ih k (by simpa using hk) (fun j hj => by simpa using h1 (j + 1) (by omega)) (fun hk2 => by simpa using h2 (by simpa using hk2))]
theorem getD_drop {α : Type} [Inhabited α] (l : List α) (n q : Nat) : (l.drop n).getD q default = l.getD (n + q) default := by simp [List.getD]
theorem cutA_none {a : Option Addr} {s l c : Nat} (h : cutA a s l c = none) : a = none := by
  unfold cutA at h
  split at h
  · exact h
  · cases a with
    | none => rfl
    | some a => cases h
end Go.Vc

/- Slices that are made, and tails that are cleared. -/
namespace Go.Vc
theorem zrep_eq (z : List Value) : ∀ n, zrep z n = ((List.replicate n z)).flatten
  | 0 => rfl
  | n + 1 => by rw [zrep, zrep_eq z n, List.replicate_succ, List.flatten_cons]
section
variable {P : Program} {N : Nat} {L : List Oper} {Q : Exit → Env → World → Prop} {ρ : Env} {w : World} {rest : List Oper}
variable {d : Nat} {ty t : TypeId} {p : String} {af : Array Edge} {x y : Operand}
variable {α : Type} {enc : α → List Value} {e s bytes : Nat} {z : Value}
/-- 'make([]T, n)'. -/
theorem VL.makeSl (E : ElT P t e s bytes z) (u0 : α) (hz : z.cells.toList = enc u0) {n : Nat} {B : Nat} (hx : tm ρ x = .int .i64 n) (hy : tm ρ y = .int .i64 n) (hbytes : bytes * n ≤ 281474976710656) (h63 : n ≤ maxLen) (hB : B ≤ w.heap.size)
    (h : ∀ b w', b = w.heap.size → Ext w w' → OwnT enc s e B w' (some ⟨b, 0, none⟩) n (List.replicate n u0) → VL P N L Q rest (upd ρ d (.slice (some ⟨b, 0, none⟩) n n)) w') :
    VL P N L Q ({ dst := some d, op := .makeSlice t x y, type := ty, pos := p, after := af, guard := none } :: rest) ρ w := by
  obtain ⟨i, hi, hzz, hsz, hby⟩ := E.hi
  subst hsz; subst hby
  have hr := run_make (P := P) w t e i z E.ht hi hzz .i64 .i64 (n : Int) (n : Int) (by omega) (by omega) (by
    have h1 : ((i.bytes * n : Nat) : Int) ≤ 281474976710656 := by omega
    rwa [Int.natCast_mul] at h1) (by simp [maxLen] at h63; omega)
  simp only [Int.toNat_natCast] at hr
  refine VL.op (v := .slice (some ⟨w.heap.size, 0, none⟩) n n) (w' := w.alloc (.cells (madeCells z.cells (n * i.size)) e)) ?_ (h _ _ rfl (Ext.alloc _ _) ?_)
  · simp only [run1, execOp, hx, hy, Sem.run_bind, hr, Result.andThen_ok, Sem.run_pure]
  · have hm : madeCells z.cells (n * i.size) = (zrep z.cells.toList n).toArray := by
      have h2 := zero_cells z.cells (by rw [E.hz]; exact E.hs) n
      rw [← h2, E.hz]
      unfold madeCells
      simp [E.hz]
    have := OwnT.of_blk (enc := enc) (s := i.size) (B := B) (l := List.replicate n u0) (Blk.alloc w (.cells (madeCells z.cells (n * i.size)) e)) hB (by rw [hm, zrep_eq]; simp [hz]) (fun r hr => by
      obtain ⟨v, hv, rfl⟩ := List.mem_map.1 hr
      rw [List.eq_of_mem_replicate hv, ← hz]
      simpa using E.hz) (by simpa using h63)
    simpa using this
end
section
variable {P : Program} {N : Nat} {L : List Oper} {Q : Exit → Env → World → Prop} {ρ : Env} {w : World} {rest : List Oper}
variable {ty t : TypeId} {p : String} {af : Array Edge} {x : Operand}
variable {α : Type} [Inhabited α] {enc : α → List Value} {K e : Nat} {z : Value} {w0 : World} {a : Option Addr} {d : Array α}
/-- 'clear(l[k:])': the first ones stay. -/
theorem VL.clearS (E : Elt enc K) (hu : ∀ w, (underlying t).run P w = .ok (.slice e) w) (hz : ∀ w, (zeroValue e).run P w = .ok z w) (hzs : z.cells.size = K) (hz1 : allOne z.cells.toList = true) (hs : Srt enc K w0 a d w) {k m c cap : Nat} (hx : tm ρ x = .slice (cutA a K k c) m cap) (hm : k + m = d.size) (hkc : k < c ∨ m = 0)
    (h : ∀ w' d', d'.size = k → (∀ q, q < k → d'[q]! = d[q]!) → Srt enc K w0 a d' w' → VL P N L Q rest ρ w') :
    VL P N L Q ({ dst := none, op := .call { callee := .builtin .clear, args := #[x], argTypes := #[t] }, type := ty, pos := p, after := af, guard := none } :: rest) ρ w := by
  obtain ⟨blk, off, cs, T, ha, hB, hc⟩ := hs.c
  have hfin : ∀ w', Srt enc K w0 a d w' → Srt enc K w0 a (d.extract 0 k) w' := fun w' h => by
    obtain ⟨blk, off, cs, T, ha, hB, hc⟩ := h.c
    refine ⟨h.m, blk, off, cs, T, ha, hB, fun q hq r hr => ?_⟩
    have hq' : q < k ∧ q < d.size := by simp at hq; omega
    have e1 : (d.extract 0 k)[q]! = d[q]! := by rw [getElem!_pos _ q hq, getElem!_pos d q hq'.2]; simp
    rw [e1]; exact hc q hq'.2 r hr
  have hext : ∀ q, q < k → (d.extract 0 k)[q]! = d[q]! := fun q hq => by
    have h1 : q < (d.extract 0 k).size := by simp; omega
    rw [getElem!_pos _ q h1, getElem!_pos d q (by omega)]; simp
  have hsz : (d.extract 0 k).size = k := by simp; omega
  by_cases h0 : m = 0
  · refine VL.opv (v := .tuple #[]) (w' := w) ?_ (h w (d.extract 0 k) hsz hext (hfin w hs))
    subst h0
    simp only [run1, execOp, resolve, invoke, builtin, Sem.run_bind, Sem.run_pure, Result.andThen_ok, List.map_toArray, List.map_cons, List.map_nil, hx, Builtin.clear_]
    simp [hu, Sem.run_bind, Result.andThen_ok]
    cases cutA a K k c <;> rfl
  · have hcut : cutA a K k c = some ⟨blk, off + k * K, none⟩ := by
      rw [ha]
      unfold cutA
      rw [if_neg (by omega), Option.map_some]
      unfold Addr.add
      split
      · rename_i h0; rw [h0]; rfl
      · rfl
    have hp := E.pos
    have hvl : (Builtin.zeroCells z.cells m).toList.length = m * K := by simp [Builtin.zeroCells, hzs]
    have hfit : off + k * K + m * K ≤ cs.size := by
      have h1 := (hc (d.size - 1) (by omega) (K - 1) (by omega)).2
      have h2 : (d.size - 1) * K + K = d.size * K := by
        rw [← Nat.succ_mul]; congr 1; omega
      have h3 : k * K + m * K = d.size * K := by rw [← Nat.add_mul, hm]
      omega
    have hall : ∀ v ∈ (Builtin.zeroCells z.cells m).toList, v.oneCell' = true := by
      intro v hv
      rw [show Builtin.zeroCells z.cells m = (zrep z.cells.toList m).toArray from zero_cells z.cells (by omega) m] at hv
      rw [List.toList_toArray, zrep_eq] at hv
      obtain ⟨r, hr, hv⟩ := List.mem_flatten.1 hv
      rw [List.eq_of_mem_replicate hr] at hv
      exact (allOne_iff _).1 hz1 v hv
    have hst := run_storeCells_at P blk (off + k * K) T (Builtin.zeroCells z.cells m).toList 0 cs w hB (by simp only [Nat.add_zero]; rw [hvl]; exact hfit) hall
    simp only [Nat.add_zero] at hst
    obtain ⟨w', hw'⟩ : ∃ w', w' = w.setRow blk (putCells cs (off + k * K) (Builtin.zeroCells z.cells m).toList) := ⟨_, rfl⟩
    have hst : (storeCells ⟨blk, off + k * K, none⟩ (Builtin.zeroCells z.cells m).toList).run P w = .ok () w' := by rw [hw']; exact hst
    have hsrt : Srt enc K w0 a (d.extract 0 k) w' := by
      subst hw'
      refine ⟨hs.m.then (setRow_mod _ _ _) fun x _ hx => ⟨_, ha, hx.symm⟩, blk, off, _, T, ha, setRow_heap w blk cs _ T _ hB, fun q hq r hr => ?_⟩
      have hq' : q < k ∧ q < d.size := by simp at hq; omega
      rw [putCells_get cs _ _ (by rw [hvl]; exact hfit), putCells_size cs _ _ (by rw [hvl]; exact hfit), hext q hq'.1]
      have h2 : (q + 1) * K ≤ k * K := Nat.mul_le_mul_right _ hq'.1
      rw [Nat.succ_mul] at h2
      rw [if_pos (by omega)]
      exact hc q hq'.2 r hr
    refine VL.opv (v := .tuple #[]) (w' := w') ?_ (h w' (d.extract 0 k) hsz hext hsrt)
    obtain ⟨m', rfl⟩ : ∃ m', m = m' + 1 := ⟨m - 1, by omega⟩
    simp only [run1, execOp, resolve, invoke, builtin, Sem.run_bind, Sem.run_pure, Result.andThen_ok, List.map_toArray, List.map_cons, List.map_nil, hx, hcut, Builtin.clear_]
    simp [hu, hz, Sem.run_bind, Result.andThen_ok, hst]
end
section
variable {P : Program} {N : Nat} {L : List Oper} {Q : Exit → Env → World → Prop} {ρ : Env} {w : World} {rest : List Oper}
variable {d : Nat} {ty : TypeId} {p : String} {af : Array Edge} {x : Operand}
/-- A closure's call that turns memory. -/
theorem VL.callCY {ι : Type} {f : FuncId} {l : List Operand} {Fv Cv vs : List Value} {ts : Array TypeId} {val : ι → Value} {K : ι → World → Prop} (hx : tm ρ x = .func (.func f) Fv.toArray Cv.toArray) (hc : IsFn P f) (ha : l.map (tm ρ) = vs) (hf : RetsY P f (Fv ++ vs ++ Cv).toArray w val K)
    (h : ∀ i w', K i w' → VL P N L Q rest (upd ρ d (val i)) w') :
    VL P N L Q ({ dst := some d, op := .call { callee := .value x, args := l.toArray, argTypes := ts }, type := ty, pos := p, after := af, guard := none } :: rest) ρ w :=
  VL.callC hx hc ha (hf.mono fun _ w' ⟨i, hv, hK⟩ => by rw [hv]; exact h i w' hK)
end
section
variable {P : Program} {ρ : Env} {w : World} {ty t kt e : TypeId} {x y : Operand} {κ : Type} [DecidableEq κ] {enc : κ → Value}
/-- A map of numbers is asked, with 'ok'. -/
theorem R.lookupOkI {r : Nat} {l : List (κ × Value)} {k : κ} (K : KeyT P kt enc) (hu : ∀ w, (underlying t).run P w = .ok (.map kt e) w) (hz : ∀ w, (zeroValue e).run P w = .ok (.int .i64 0) w)
    (hm : MapIs w r enc l) (o : Option Int) (hv : mget l k = o.map fun i => .int .i64 i) (hx : tm ρ x = .map (some r)) (hy : tm ρ y = enc k) :
    run1 P ρ (.lookup t x y true) ty w = .ok (.value (.tuple #[.int .i64 (o.getD 0), .bool o.isSome])) w := by
  have h := R.lookupOk (ty := ty) K hu hz hm hx hy
  rw [hv] at h
  rw [h]
  cases o <;> rfl
end
end Go.Vc
