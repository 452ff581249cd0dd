/- Own library: calls; struct and array values; slices that are made. -/
import Derived.Test.YtbckofoibdljgaaVcRun2
namespace Go.Vc
section
variable {P : Program} {N : Nat} {L : List Oper} {Q : Exit → Env → World → Prop} {rest : List Oper} {ρ : Env} {w : World}
  {d : Nat} {ty t : TypeId} {p : String} {af : Array Edge} {x y : Operand}

/-- That 'f' is a Go function with a body. -/
abbrev IsFn (P : Program) (f : FuncId) : Prop := ∀ (args : Array Value) (w : World), (callFunc f args).run P w = .ok (.enter f args) w

theorem R.call {f : FuncId} {l : List Operand} {vs : List Value} {ts : Array TypeId} (hc : IsFn P f) (ha : l.map (tm ρ) = vs) :
    run1 P ρ (.call { callee := .value (.func f), args := l.toArray, argTypes := ts }) ty w = .ok (.enter f vs.toArray) w := by
  subst ha
  have h := hc (l.map (tm ρ)).toArray w
  simp only [run1, execOp, resolve, tm, Deferred.ofValue, invoke, Sem.run_bind, Sem.run_pure, Result.andThen_ok, List.map_toArray]
  simpa using h

theorem VL.call {f : FuncId} {l : List Operand} {vs : List Value} {ts : Array TypeId} (hc : IsFn P f) (ha : l.map (tm ρ) = vs)
    (h : Rets P f vs.toArray w fun v w' => VL P N L Q rest (upd ρ d v) w') :
    VL P N L Q ({ dst := some d, op := .call { callee := .value (.func f), args := l.toArray, argTypes := ts }, type := ty, pos := p, after := af, guard := none } :: rest) ρ w :=
  VL.enter (R.call hc ha) h

/-- A closure. -/
theorem R.callC {f : FuncId} {F C l : List Operand} {Fv Cv vs : List Value} {ts : Array TypeId} (hc : IsFn P f) (hx : tm ρ x = .func (.func f) Fv.toArray Cv.toArray) (ha : l.map (tm ρ) = vs) :
    run1 P ρ (.call { callee := .value x, args := l.toArray, argTypes := ts }) ty w = .ok (.enter f (Fv ++ vs ++ Cv).toArray) w := by
  subst ha
  have h := hc (Fv ++ l.map (tm ρ) ++ Cv).toArray w
  simp only [run1, execOp, resolve, hx, Deferred.ofValue, invoke, Sem.run_bind, Sem.run_pure, Result.andThen_ok, List.map_toArray]
  simpa using h
theorem VL.callC {f : FuncId} {l : List Operand} {Fv Cv vs : List Value} {ts : Array TypeId} (hx : tm ρ x = .func (.func f) Fv.toArray Cv.toArray) (hc : IsFn P f) (ha : l.map (tm ρ) = vs)
    (h : Rets P f (Fv ++ vs ++ Cv).toArray w fun v w' => VL P N L Q rest (upd ρ d v) w') :
    VL P N L Q ({ dst := some d, op := .call { callee := .value x, args := l.toArray, argTypes := ts }, type := ty, pos := p, after := af, guard := none } :: rest) ρ w :=
  VL.enter (R.callC (F := []) (C := []) hc hx ha) h

theorem R.mkFn {f : Go.Fn} {F C : List Operand} {Fv Cv : List Value} (ha : F.map (tm ρ) = Fv) (hb : C.map (tm ρ) = Cv) : run1 P ρ (.makeFunc f F.toArray C.toArray) ty w = .ok (.value (.func f Fv.toArray Cv.toArray)) w := by
  subst ha; subst hb
  simp [run1, execOp, Instr.makeFunc, go_sem]

/-- Cells written over cells, as lists. -/
def ovr : List Value → Nat → List Value → List Value
  | c :: cs, off + 1, vs => c :: ovr cs off vs
  | _ :: cs, 0, v :: vs => v :: ovr cs 0 vs
  | cs, 0, [] => cs
  | [], _, _ => []
theorem ovr_eq (vs : List Value) : ∀ (off : Nat) (cs : List Value), off + vs.length ≤ cs.length → ovr cs off vs = cs.take off ++ vs ++ cs.drop (off + vs.length) := by
  intro off
  induction off with
  | zero =>
    induction vs with
    | nil => intro cs _; cases cs <;> simp [ovr]
    | cons v vs ih =>
      intro cs h
      cases cs with
      | nil => simp at h
      | cons c cs =>
        have := ih cs (by simp at h ⊢; omega)
        simp only [ovr, this]
        simp
  | succ off ih =>
    intro cs h
    cases cs with
    | nil => simp at h
    | cons c cs =>
      have := ih cs (by simp at h ⊢; omega)
      simp only [ovr, this]
      simp [Nat.add_right_comm]
theorem foldl_put (vs : List Value) : ∀ (k off : Nat) (cs : Array Value), off + k + vs.length ≤ cs.size → ((vs.zipIdx k).foldl (fun cs (p : Value × Nat) => cs.setIfInBounds (off + p.2) p.1) cs) = (cs.toList.take (off + k) ++ vs ++ cs.toList.drop (off + k + vs.length)).toArray := by
  induction vs with
  | nil => intro k off cs _; simp
  | cons v vs ih =>
    intro k off cs h
    simp only [List.zipIdx_cons, List.foldl_cons]
    rw [ih (k + 1) off _ (by simp at h ⊢; omega)]
    have e := list_seg_step cs.toList (off + k) v vs (by simp at h ⊢; omega)
    simp only [Array.toList_setIfInBounds]
    congr 1

/-- A literal's cells. -/
def bld (place : Nat → Option (Nat × Nat)) (cs : List Value) : List (Nat × Value) → List Value
  | [] => cs
  | (i, v) :: rest => match place i with | some (off, _) => bld place (ovr cs off v.cells.toList) rest | none => cs
def bldOk (place : Nat → Option (Nat × Nat)) (n : Nat) : List (Nat × Value) → Bool
  | [] => true
  | (i, v) :: rest => match place i with | some (off, size) => Nat.beq v.cells.size size && Nat.ble (off + v.cells.size) n && bldOk place n rest | none => false
theorem fill_bld (place : Nat → Option (Nat × Nat)) : ∀ (pv : List (Nat × Value)) (cs : Array Value), bldOk place cs.size pv = true → Instr.fill place cs pv = some (bld place cs.toList pv).toArray := by
  intro pv
  induction pv with
  | nil => intro cs _; simp [Instr.fill, bld]
  | cons p pv ih =>
    obtain ⟨i, v⟩ := p
    intro cs h
    simp only [bldOk] at h
    cases hp : place i with
    | none => rw [hp] at h; cases h
    | some os =>
      obtain ⟨off, size⟩ := os
      rw [hp] at h
      simp only [Bool.and_eq_true] at h
      obtain ⟨⟨h1, h2⟩, h3⟩ := h
      have h1 := Nat.eq_of_beq_eq_true h1
      have h2 := Nat.le_of_ble_eq_true h2
      have hf := foldl_put v.cells.toList 0 off cs (by simpa using h2)
      have hfa : (v.cells.zipIdx.foldl (fun cs (x : Value × Nat) => cs.setIfInBounds (off + x.2) x.1) cs) = (cs.toList.take off ++ v.cells.toList ++ cs.toList.drop (off + v.cells.toList.length)).toArray := by
        rw [← Array.foldl_toList, Array.toList_zipIdx]
        simpa using hf
      have ho := ovr_eq v.cells.toList off cs.toList (by simpa using h2)
      rw [Instr.fill, hp]
      simp only [bld, hp]
      rw [if_neg (by simp [h1]; omega)]
      have e : (v.cells.zipIdx.foldl (fun cs (c, j) => cs.setIfInBounds (off + j) c) cs) = (ovr cs.toList off v.cells.toList).toArray := by
        rw [ho]; exact hfa
      rw [e, ih]
      have hs : (ovr cs.toList off v.cells.toList).toArray.size = cs.size := by
        rw [ho]
        simp
        omega
      rw [hs]; exact h3

def plc (l : List (Nat × Nat)) (i : Nat) : Option (Nat × Nat) :=
  match l, i with
  | [], _ => none
  | p :: _, 0 => some p
  | _ :: l, i + 1 => plc l i
theorem plc_eq (l : List (Nat × Nat)) (i : Nat) : plc l i = l[i]? := by
  induction l generalizing i with
  | nil => simp [plc]
  | cons p l ih => cases i <;> simp [plc, ih]

theorem R.build {parts : List (Nat × Operand)} {z : Value} {fs : Array Field} {places : List (Nat × Nat)} (hz : ∀ w, (zeroValue t).run P w = .ok z w) (hu : ∀ w, (underlying t).run P w = .ok (.struct fs) w)
    (hp : ∀ w, (fs.mapM (m := Sem) fun f => do pure (f.offset, ← sizeOf f.type)).run P w = .ok places.toArray w) (hf : bldOk (plc places) z.cells.size (parts.map fun p => (p.1, tm ρ p.2)) = true) :
    run1 P ρ (.build t parts.toArray) ty w = .ok (.value (.agg (bld (plc places) z.cells.toList (parts.map fun p => (p.1, tm ρ p.2))).toArray)) w := by
  have h := fill_bld (plc places) _ z.cells hf
  have e : (fun i => places.toArray[i]?) = plc places := by funext i; rw [plc_eq]; simp
  have h' : Instr.fill (fun i => places.toArray[i]?) z.cells (parts.map fun (i, x) => (i, tm ρ x)) = some (bld (plc places) z.cells.toList (parts.map fun p => (p.1, tm ρ p.2))).toArray := by rw [e]; exact h
  simp only [run1, execOp, Instr.build, Sem.run_bind, hz, hu, hp, Result.andThen_ok, List.map_toArray, Sem.run_pure, h']

theorem R.buildArr {parts : List (Nat × Operand)} {z : Value} {n e s : Nat} (hz : ∀ w, (zeroValue t).run P w = .ok z w) (hu : ∀ w, (underlying t).run P w = .ok (.array n e) w)
    (hs : ∀ w, (sizeOf e).run P w = .ok s w) (hf : bldOk (fun i => some (i * s, s)) z.cells.size (parts.map fun p => (p.1, tm ρ p.2)) = true) :
    run1 P ρ (.build t parts.toArray) ty w = .ok (.value (.agg (bld (fun i => some (i * s, s)) z.cells.toList (parts.map fun p => (p.1, tm ρ p.2))).toArray)) w := by
  have h := fill_bld (fun i => some (i * s, s)) _ z.cells hf
  have h' : Instr.fill (fun i => some (i * s, s)) z.cells (parts.map fun (i, x) => (i, tm ρ x)) = some (bld (fun i => some (i * s, s)) z.cells.toList (parts.map fun p => (p.1, tm ρ p.2))).toArray := h
  simp only [run1, execOp, Instr.build, Sem.run_bind, hz, hu, hs, Result.andThen_ok, List.map_toArray, Sem.run_pure, h']

def zrep (z : List Value) : Nat → List Value
  | 0 => []
  | n + 1 => z ++ zrep z n
theorem zrep_len (z : List Value) (n : Nat) : (zrep z n).length = n * z.length := by
  induction n with
  | zero => simp [zrep]
  | succ n ih => simp [zrep, ih, Nat.succ_mul]; omega
theorem zrep_get (z : List Value) (hz : 0 < z.length) (n i : Nat) (hi : i < n * z.length) : (zrep z n)[i]? = z[i % z.length]? := by
  induction n generalizing i with
  | zero => simp at hi
  | succ n ih =>
    rw [zrep]
    by_cases h : i < z.length
    · rw [List.getElem?_append_left h, Nat.mod_eq_of_lt h]
    · rw [List.getElem?_append_right (by omega), ih (i - z.length) (by rw [Nat.succ_mul] at hi; omega)]
      congr 1
      rw [Nat.mod_eq_sub_mod (by omega : i ≥ z.length)]
theorem zero_cells (z : Array Value) (hz : 0 < z.size) (n : Nat) : (Array.range (n * z.size)).map (z[· % z.size]!) = (zrep z.toList n).toArray := by
  refine Array.ext' ?_
  apply List.ext_getElem?
  intro i
  by_cases hi : i < n * z.size
  · have h2 := zrep_get z.toList (by simpa using hz) n i (by simpa using hi)
    have hm : i % z.size < z.size := Nat.mod_lt _ hz
    simp only [Array.toList_map, Array.toList_range, List.getElem?_map, List.getElem?_range hi, Option.map_some, h2, Array.length_toList]
    simp [hm]
  · have hl := zrep_len z.toList n
    rw [List.getElem?_eq_none (by simp; omega), List.getElem?_eq_none (by rw [List.toList_toArray, hl, Array.length_toList]; omega)]

/-- A slice's literal with 'n' elements. -/
theorem VL.buildSl {n e s : Nat} {z : Value} {parts : List (Nat × Operand)} (hu : ∀ w, (underlying t).run P w = .ok (.slice e) w) (hs : ∀ w, (sizeOf e).run P w = .ok s w)
    (hz : ∀ w, (zeroValue e).run P w = .ok z w) (hzs : (Nat.beq z.cells.size s && Nat.blt 0 s) = true) (hn : Nat.ble (n * s) 16777216 = true)
    (hf : bldOk (fun i => some (i * s, s)) (n * s) (parts.map fun p => (p.1, tm ρ p.2)) = true)
    (h : ∀ b w', b = w.heap.size → Ext w w' → Blk w' b (.cells (bld (fun i => some (i * s, s)) (zrep z.cells.toList n) (parts.map fun p => (p.1, tm ρ p.2))).toArray e (0, 0)) → VL P N L Q rest (upd ρ d (.slice (some ⟨b, 0, none⟩) n n)) w') :
    VL P N L Q ({ dst := some d, op := .buildSlice t n parts.toArray, type := ty, pos := p, after := af, guard := none } :: rest) ρ w := by
  simp only [Bool.and_eq_true] at hzs
  have hz1 := Nat.eq_of_beq_eq_true hzs.1
  have hz2 := nblt.1 hzs.2
  refine VL.op (v := .slice (some ⟨w.heap.size, 0, none⟩) n n) ?_ (h _ _ rfl (Ext.alloc _ _) (Blk.alloc _ _))
  have hn' : ¬ (n * s > 2 ^ 24) := by have := Nat.le_of_ble_eq_true hn; omega
  have hnew : ∀ c : Array Value, (newRow e c).run P w = .ok ⟨w.heap.size, 0, none⟩ (w.alloc (.cells c e)) := fun c => by simp [newRow, go_sem]
  have hcells : (Array.range (n * s)).map (z.cells[· % z.cells.size]!) = (zrep z.cells.toList n).toArray := by
    rw [← hz1]; exact zero_cells _ (by omega) n
  have hl : (zrep z.cells.toList n).toArray.size = n * s := by
    have := zrep_len z.cells.toList n
    simp only [Array.length_toList, hz1] at this
    simpa using this
  have hfill := fill_bld (fun i => some (i * s, s)) (parts.map fun p => (p.1, tm ρ p.2)) (zrep z.cells.toList n).toArray (by rw [hl]; exact hf)
  have hfill' : Instr.fill (fun i => some (i * s, s)) (zrep z.cells.toList n).toArray (parts.map fun (i, x) => (i, tm ρ x)) = some (bld (fun i => some (i * s, s)) (zrep z.cells.toList n) (parts.map fun p => (p.1, tm ρ p.2))).toArray := hfill
  simp only [run1, execOp, Instr.buildSlice, Sem.run_bind, hu, hs, Result.andThen_ok, List.map_toArray, hn', if_false, Sem.run_pure]
  by_cases h0 : n * s = 0
  · have hn0 : n = 0 := by
      rcases Nat.mul_eq_zero.1 h0 with h | h
      · exact h
      · omega
    subst hn0
    simp only [h0, if_true, Sem.run_pure, Result.andThen_ok, Sem.run_bind]
    simp only [zrep] at hfill' ⊢
    simp only [show Array.range 0 = #[] from rfl, Array.map_empty, hfill', Sem.run_bind, hnew, Result.andThen_ok, Sem.run_pure]
  · simp only [h0, if_false, Sem.run_bind, hz, Sem.run_pure, Result.andThen_ok, hcells, hfill', hnew]

/-- Where a slice begins that is cut at 'l' out of one with capacity 'c'. -/
def cutA (a : Option Addr) (s l c : Nat) : Option Addr := if c = l then a else a.map (·.add (l * s))
theorem R.slLo {a : Option Addr} {n c e T s : Nat} {k : IntKind} {l : Int} (hu : ∀ w, (underlying T).run P w = .ok (.slice e) w) (hs : ∀ w, (sizeOf e).run P w = .ok s w)
    (hx : tm ρ x = .slice a n c) (hy : tm ρ y = .int k l) (h0 : 0 ≤ l) (h1 : l ≤ n) :
    run1 P ρ (.slice T x (some y) none none) ty w = .ok (.value (.slice (cutA a s l.toNat c) (n - l.toNat) (c - l.toNat))) w := by
  simp [run1, go_sem, hx, hy, hu, hs, Instr.sliceAt, Instr.slice, Instr.sliceBounds, Instr.sliceBound, h0, h1, cutA]
theorem R.slHi {a : Option Addr} {n c e T s : Nat} {k : IntKind} {h : Int} (hu : ∀ w, (underlying T).run P w = .ok (.slice e) w) (hs : ∀ w, (sizeOf e).run P w = .ok s w)
    (hx : tm ρ x = .slice a n c) (hy : tm ρ y = .int k h) (h0 : 0 ≤ h) (h1 : h ≤ c) :
    run1 P ρ (.slice T x none (some y) none) ty w = .ok (.value (.slice (cutA a s 0 c) h.toNat c)) w := by
  simp [run1, go_sem, hx, hy, hu, hs, Instr.sliceAt, Instr.slice, Instr.sliceBounds, Instr.sliceBound, h0, h1, cutA]
theorem R.slLH {z : Operand} {a : Option Addr} {n c e T s : Nat} {k k' : IntKind} {l h : Int} (hu : ∀ w, (underlying T).run P w = .ok (.slice e) w) (hs : ∀ w, (sizeOf e).run P w = .ok s w)
    (hx : tm ρ x = .slice a n c) (hy : tm ρ y = .int k l) (hz : tm ρ z = .int k' h) (h0 : 0 ≤ l) (h1 : l ≤ h) (h2 : h ≤ c) :
    run1 P ρ (.slice T x (some y) (some z) none) ty w = .ok (.value (.slice (cutA a s l.toNat c) (h.toNat - l.toNat) (c - l.toNat))) w := by
  have e1 : 0 ≤ h := by omega
  have e2 : l ≤ (h.toNat : Int) := by omega
  simp [run1, go_sem, hx, hy, hz, hu, hs, Instr.sliceAt, Instr.slice, Instr.sliceBounds, Instr.sliceBound, h0, h2, e1, cutA]
  omega

theorem flatten_drop (rows : List (List Value)) (s : Nat) (hs : ∀ r ∈ rows, r.length = s) (l : Nat) : (rows.drop l).flatten = rows.flatten.drop (l * s) := by
  induction l generalizing rows with
  | zero => simp
  | succ l ih =>
    cases rows with
    | nil => simp
    | cons r rows =>
      rw [List.drop_succ_cons, ih rows fun r h => hs r (by simp [h]), List.flatten_cons, List.drop_append]
      have hr := hs r (by simp)
      have h1 : r.drop ((l + 1) * s) = [] := List.drop_eq_nil_of_le (by rw [hr, Nat.succ_mul]; omega)
      rw [h1, List.nil_append, hr]
      congr 1
      rw [Nat.succ_mul]; omega
theorem SlV.drop {w : World} {s : Nat} {a : Option Addr} {rows : List (List Value)} (h : SlV w s a rows) (l c : Nat) (hc : rows.length ≤ c) : SlV w s (cutA a s l c) (rows.drop l) := by
  refine ⟨fun r hr => h.1 r (List.mem_of_mem_drop hr), ?_⟩
  unfold cutA
  by_cases hcl : c = l
  · left; exact List.drop_eq_nil_of_le (by omega)
  · rw [if_neg hcl]
    rcases h.2 with rfl | ⟨b, off, rfl, hr⟩
    · left; simp
    · right
      refine ⟨b, off + l * s, ?_, ?_⟩
      · show some ((⟨b, off, none⟩ : Addr).add (l * s)) = _
        unfold Addr.add; split <;> simp_all
      · rw [flatten_drop rows s h.1]
        by_cases hle : l * s ≤ rows.flatten.length
        · refine hr.part (fun i hi => by rw [List.getElem?_drop]) (by rw [List.length_drop]; omega)
        · rw [List.drop_eq_nil_of_le (by omega)]
          obtain ⟨cc, T, fr, hB, _⟩ := hr
          exact ⟨cc, T, fr, hB, fun i hi => by simp at hi⟩
theorem TSl.drop {α : Type} {enc : α → List Value} {s : Nat} {w : World} {a : Option Addr} {l : List α} (h : TSl enc s w a l) (k c : Nat) (hc : l.length ≤ c) : TSl enc s w (cutA a s k c) (l.drop k) := by
  have := SlV.drop h k c (by simpa using hc)
  unfold TSl; rw [List.map_drop]; exact this
theorem SlV.take {w : World} {s : Nat} {a : Option Addr} {rows : List (List Value)} (h : SlV w s a rows) (k c : Nat) : SlV w s (cutA a s 0 c) (rows.take k) := by
  have e : cutA a s 0 c = a := by
    unfold cutA
    split
    · rfl
    · rw [Nat.zero_mul]
      cases a with
      | none => rfl
      | some ad => show some (ad.add 0) = _; rfl
  rw [e]
  refine ⟨fun r hr => h.1 r (List.mem_of_mem_take hr), ?_⟩
  rcases h.2 with rfl | ⟨b, off, rfl, hr⟩
  · left; simp
  · right
    refine ⟨b, off, rfl, ?_⟩
    obtain ⟨cc, T, fr, hB, hc⟩ := hr
    refine ⟨cc, T, fr, hB, fun i hi => ?_⟩
    have hf : rows.flatten = (rows.take k).flatten ++ (rows.drop k).flatten := by rw [← List.flatten_append, List.take_append_drop]
    rw [hc i (by rw [hf, List.length_append]; omega), hf, List.getElem?_append_left hi]
theorem TSl.take {α : Type} {enc : α → List Value} {s : Nat} {w : World} {a : Option Addr} {l : List α} (h : TSl enc s w a l) (k c : Nat) : TSl enc s w (cutA a s 0 c) (l.take k) := by
  have := SlV.take h k c
  unfold TSl; rw [List.map_take]; exact this

/-- A new block as a slice of the call's own. -/
theorem OwnSl.of_blk {B e s b : Nat} {cs : Array Value} {rows : List (List Value)} (h : Blk w b (.cells cs e (0, 0))) (hB : B ≤ b) (hr : rows.flatten = cs.toList) (hl : ∀ r ∈ rows, r.length = s) (hm : rows.length ≤ maxLen) :
    OwnSl w B e s (some ⟨b, 0, none⟩) rows.length rows := by
  have hf := flatten_len rows s hl
  refine ⟨hl, hf, .inr ⟨b, rows.length, cs, rfl, hB, h, Nat.le_refl _, hm, ?_, ?_⟩⟩
  · rw [← hf, hr]; simp
  · rw [← hf, hr, List.take_length]
/-- A slice of the call's own whose elements are of one kind. -/
def OwnT {α : Type} (enc : α → List Value) (s e B : Nat) (w : World) (a : Option Addr) (cap : Nat) (l : List α) : Prop := OwnSl w B e s a cap (l.map enc)
theorem OwnT.sl {α : Type} {enc : α → List Value} {s e B : Nat} {a : Option Addr} {cap : Nat} {l : List α} (h : OwnT enc s e B w a cap l) : TSl enc s w a l := OwnSl.sl h
theorem OwnT.ext {α : Type} {enc : α → List Value} {s e B : Nat} {w' : World} {a : Option Addr} {cap : Nat} {l : List α} (h : OwnT enc s e B w a cap l) (m : Ext w w') : OwnT enc s e B w' a cap l := OwnSl.ext h m
theorem OwnT.mod {α : Type} {enc : α → List Value} {s e B : Nat} {w' : World} {a : Option Addr} {cap : Nat} {l : List α} {S : Nat → Prop} (h : OwnT enc s e B w a cap l) (m : Mod S w w') (hn : ∀ k, aBlk a k → ¬ S k) : OwnT enc s e B w' a cap l := OwnSl.mod h m hn
theorem OwnT.nil {α : Type} (enc : α → List Value) (s e B : Nat) (w : World) : OwnT enc s e B w none 0 [] := OwnSl.nil w B e s
theorem OwnT.cap {α : Type} {enc : α → List Value} {s e B : Nat} {a : Option Addr} {cap : Nat} {l : List α} (h : OwnT enc s e B w a cap l) : l.length ≤ cap := by
  rcases h.own.2 with ⟨hv, h0⟩ | ⟨g, c, cur, hv, _, _, hn, _⟩
  · rw [List.length_map] at h0; omega
  · injection hv with _ _ hc
    rw [List.length_map] at hn; omega

/-- 'append(a, x)': the last two operations of such a statement. -/
theorem VL.append1 {α : Type} {enc : α → List Value} {B e s bytes : Nat} {z : Value} {d2 : Nat} {ty2 : TypeId} {p2 : String} {af2 : Array Edge} {x1 : Operand} (E : ElT P t e s bytes z) (hu : ∀ w, (underlying t).run P w = .ok (.slice e) w) (hs : ∀ w, (sizeOf e).run P w = .ok s w)
    (hz : ∀ w, (zeroValue e).run P w = .ok z w) (hn : Nat.ble s 16777216 = true) {a : Option Addr} {n cap : Nat} {l : List α} (u : α)
    (hx : tm ρ x = .slice a n cap) (hdx : okNe d x = true) (hl : n = l.length) (hown : OwnT enc s e B w a cap l) (hu1 : (tm ρ x1).cells.toList = enc u) (hus : (enc u).length = s) (hone : allOne (enc u) = true)
    (hbytes : (l.length + 1) * bytes ≤ 140737488355328) (h63 : l.length + 1 ≤ maxLen) (hB : B ≤ w.heap.size)
    (h : ∀ a' cap' w' vt, OwnT enc s e B w' a' cap' (l ++ [u]) → Mod (aBlk a) w w' → (∀ k, aBlk a' k → aBlk a k ∨ w.heap.size ≤ k) → VL P N L Q rest (upd (upd ρ d vt) d2 (.slice a' (n + 1) cap')) w') :
    VL P N L Q ({ dst := some d, op := .buildSlice t 1 [(0, x1)].toArray, type := ty, pos := p, after := af, guard := none } :: { dst := some d2, op := .call { callee := .builtin .append, args := #[x, .tmp d], argTypes := #[t, t] }, type := ty2, pos := p2, after := af2, guard := none } :: rest) ρ w := by
  subst hl
  have hzs := E.hz
  have hs0 := E.hs
  have hcs : (tm ρ x1).cells.size = s := by rw [← hus, ← hu1]; simp
  refine VL.buildSl hu hs hz ?_ (by rw [Nat.one_mul]; exact hn) ?_ fun b w1 hb he hBk => ?_
  · rw [Bool.and_eq_true]
    exact ⟨by rw [hzs]; exact Nat.beq_refl _, nblt.2 hs0⟩
  · simp only [List.map_cons, List.map_nil, bldOk, Bool.and_true, Bool.and_eq_true, Nat.zero_mul, Nat.one_mul, Nat.zero_add]
    exact ⟨by rw [hcs]; exact Nat.beq_refl _, by rw [hcs]; exact Nat.ble_self_eq_true _⟩
  · have hcells : bld (fun i => some (i * s, s)) (zrep z.cells.toList 1) ([(0, x1)].map fun p => (p.1, tm ρ p.2)) = enc u := by
      simp only [List.map_cons, List.map_nil, bld, Nat.zero_mul, zrep, List.append_nil]
      rw [ovr_eq _ _ _ (by simp [hcs, hzs])]
      simp only [List.take_zero, List.nil_append, Nat.zero_add]
      rw [List.drop_eq_nil_of_le (by simp [hcs, hzs]), List.append_nil, hu1]
    rw [hcells] at hBk
    have hx' : tm (upd ρ d (.slice (some ⟨b, 0, none⟩) 1 1)) x = .slice a l.length cap := by
      cases x with
      | tmp q =>
        have hne : Nat.beq q d = false := by simpa [okNe] using hdx
        show upd ρ d _ q = _
        unfold upd; rw [hne]; exact hx
      | _ => exact hx
    have hsrc : SlV w1 s (some ⟨b, 0, none⟩) [enc u] := ⟨by simpa using hus, .inr ⟨b, 0, rfl, by simpa using hBk.row⟩⟩
    refine VL.append (news := [enc u]) (m := 1) (c := 1) E hx' (by simp) (hown.ext he) (by show upd ρ d _ d = _; unfold upd; simp) rfl hsrc (by simp) ?_ (by simpa using hbytes) (by simpa using h63) (Nat.le_trans hB he.size) fun a' cap' w2 ho hm hf => ?_
    · intro r hr v hv
      simp at hr; subst hr
      exact (allOne_iff _).1 hone v hv
    · refine h a' cap' w2 _ ?_ ((Ext.mod he).then hm fun k hk h => h) ?_
      · unfold OwnT; rw [List.map_append]; exact ho
      · intro k hk
        rcases hf k hk with h | h
        · exact .inl h
        · exact .inr (Nat.le_trans he.size h)

theorem OwnT.of_blk {α : Type} {enc : α → List Value} {s e B b : Nat} {w : World} {cs : Array Value} {l : List α} (h : Blk w b (.cells cs e (0, 0))) (hB : B ≤ b) (hr : (l.map enc).flatten = cs.toList) (hl : ∀ r ∈ l.map enc, r.length = s) (hm : l.length ≤ maxLen) :
    OwnT enc s e B w (some ⟨b, 0, none⟩) l.length l := by
  have := OwnSl.of_blk (rows := l.map enc) h hB hr hl (by simpa using hm)
  simpa [OwnT] using this
/-- The call of a Go function that makes blocks at most, and whose value is one of several. -/
def RetsX {ι : Type} (P : Program) (f : FuncId) (args : Array Value) (w : World) (val : ι → Value) (K : ι → World → Prop) : Prop := Rets P f args w fun u w' => ∃ i, u = val i ∧ K i w' ∧ Ext w w'
theorem VL.callX {ι : Type} {f : FuncId} {l : List Operand} {vs : List Value} {ts : Array TypeId} {val : ι → Value} {K : ι → World → Prop} (hc : IsFn P f) (ha : l.map (tm ρ) = vs) (hf : RetsX P f vs.toArray w val K)
    (h : ∀ i w', K i w' → Ext w w' → VL P N L Q rest (upd ρ d (val i)) w') :
    VL P N L Q ({ dst := some d, op := .call { callee := .value (.func f), args := l.toArray, argTypes := ts }, type := ty, pos := p, after := af, guard := none } :: rest) ρ w :=
  VL.call hc ha (hf.mono fun _ w' ⟨i, hv, hK, he⟩ => by rw [hv]; exact h i w' hK he)

/-- The call of a Go function that makes blocks at most, and whose value is one. -/
def RetsP (P : Program) (f : FuncId) (args : Array Value) (w : World) (v : Value) : Prop := Rets P f args w fun u w' => u = v ∧ Ext w w'

theorem VL.callP {f : FuncId} {l : List Operand} {vs : List Value} {ts : Array TypeId} {v : Value} (hc : IsFn P f) (ha : l.map (tm ρ) = vs) (hf : RetsP P f vs.toArray w v)
    (h : ∀ w', Ext w w' → VL P N L Q rest (upd ρ d v) w') :
    VL P N L Q ({ dst := some d, op := .call { callee := .value (.func f), args := l.toArray, argTypes := ts }, type := ty, pos := p, after := af, guard := none } :: rest) ρ w :=
  VL.call hc ha (hf.mono fun _ w' ⟨hv, he⟩ => by rw [hv]; exact h w' he)

theorem VL.callCP {f : FuncId} {l : List Operand} {Fv Cv vs : List Value} {ts : Array TypeId} {v : Value} (hx : tm ρ x = .func (.func f) Fv.toArray Cv.toArray) (hc : IsFn P f) (ha : l.map (tm ρ) = vs) (hf : RetsP P f (Fv ++ vs ++ Cv).toArray w v)
    (h : ∀ w', Ext w w' → VL P N L Q rest (upd ρ d v) w') :
    VL P N L Q ({ dst := some d, op := .call { callee := .value x, args := l.toArray, argTypes := ts }, type := ty, pos := p, after := af, guard := none } :: rest) ρ w :=
  VL.enter (R.callC (F := []) (C := []) hc hx ha) (hf.mono fun _ w' ⟨hv, he⟩ => by rw [hv]; exact h w' he)
theorem VQ.callCP {C : World → Prop} {K : Env → Prop} {j : Nat} {f : FuncId} {l : List Operand} {Fv Cv vs : List Value} {ts : Array TypeId} {v : Value} (hC : ∀ w w', C w → Ext w w' → C w') (hx : tm ρ x = .func (.func f) Fv.toArray Cv.toArray) (hc : IsFn P f) (ha : l.map (tm ρ) = vs) (hf : ∀ w, C w → RetsP P f (Fv ++ vs ++ Cv).toArray w v)
    (h : VQ P L C j rest (upd ρ d v) K) :
    VQ P L C (j + 1) ({ dst := some d, op := .call { callee := .value x, args := l.toArray, argTypes := ts }, type := ty, pos := p, after := af, guard := none } :: rest) ρ K :=
  VQ.enter (fun w => R.callC (F := []) (C := []) hc hx ha) (fun w hw => (hf w hw).mono fun _ w' ⟨hv, he⟩ => ⟨hv, hC w w' hw he⟩) h

theorem VQ.callP {C : World → Prop} {K : Env → Prop} {j : Nat} {f : FuncId} {l : List Operand} {vs : List Value} {ts : Array TypeId} {v : Value} (hC : ∀ w w', C w → Ext w w' → C w') (hc : IsFn P f) (ha : l.map (tm ρ) = vs) (hf : ∀ w, C w → RetsP P f vs.toArray w v)
    (h : VQ P L C j rest (upd ρ d v) K) :
    VQ P L C (j + 1) ({ dst := some d, op := .call { callee := .value (.func f), args := l.toArray, argTypes := ts }, type := ty, pos := p, after := af, guard := none } :: rest) ρ K :=
  VQ.enter (fun w => R.call hc ha) (fun w hw => (hf w hw).mono fun _ w' ⟨hv, he⟩ => ⟨hv, hC w w' hw he⟩) h

/-- A new variable, one thing between, its first store. -/
theorem VL.allocSt1 {z v : Value} {d2 : Nat} {x2 : Operand} {ty2 ty' : TypeId} {p2 p' : String} {af2 af' : Array Edge} {v2 : Value} {s : Nat} (hz : ∀ w, (zeroValue t).run P w = .ok z w) (hsz : ∀ w, (sizeOf t).run P w = .ok s w) (hl : v.cells.size = s) (hzs : z.cells.size = s) (hx2 : tm ρ x2 = v2) (hd2 : okNe d x2 = true) (hy : tm ρ y = v) (hd : okNe d y = true) (hd' : okNe d2 y = true) (hdd : Nat.beq d d2 = false)
    (h1 : allOne v.cells.toList = true)
    (h : ∀ b w', b = w.heap.size → Ext w w' → Blk w' b (.cells v.cells t (0, 0)) → VL P N L Q rest (upd (upd ρ d (.pointer (some ⟨b, 0, none⟩))) d2 v2) w') :
    VL P N L Q ({ dst := some d, op := .alloc t, type := ty, pos := p, after := af, guard := none } :: { dst := some d2, op := .assign x2, type := ty2, pos := p2, after := af2, guard := none } :: { dst := none, op := .store t (.tmp d) y, type := ty', pos := p', after := af', guard := none } :: rest) ρ w := by
  subst hl
  have look : ∀ (ρ : Env) (d : Nat) (u : Value) (y : Operand), okNe d y = true → tm (upd ρ d u) y = tm ρ y := by
    intro ρ d u y hy
    cases y with
    | tmp s =>
      have hne : Nat.beq s d = false := by simpa [okNe] using hy
      show upd ρ d _ s = ρ s
      unfold upd
      rw [hne]; rfl
    | _ => rfl
  refine VL.alloc hz fun b w1 hb he hB => ?_
  refine VL.op (R.as (v := v2) (by rw [look _ _ _ _ hd2]; exact hx2)) ?_
  refine VL.store (v := v) (ad := ⟨b, 0, none⟩) hsz rfl (by show upd _ d2 _ d = _; unfold upd; simp [hdd]) rfl (by rw [look _ _ _ _ hd', look _ _ _ _ hd]; exact hy) hB (by simp [hzs]) h1 fun w2 hm hsz2 hB2 => ?_
  refine h b w2 hb ?_ ?_
  · exact he.then hm fun k hk e => by (have e : k = b := e); omega
  · rw [putCells_all _ _ (by simpa using hzs)] at hB2
    simpa using hB2

/-- A struct result: it lies in memory. -/
theorem fretC {fn : Func} {R : Value → World → Prop} {a s : Nat} {ad : Addr} {cs : List Value} (hr : fn.results = #[.cell a t]) (ha : Nat.blt a N = true) (hx : tm ρ (.tmp a) = .pointer (some ad)) (hg : ∀ w, (isAgg t).run P w = .ok true w) (hs : ∀ w, (sizeOf t).run P w = .ok s w)
    (hsp : ad.spot = none) (hrow : RowAt w ad.block ad.off cs) (hl : cs.length = s) (h : R (.agg cs.toArray) w) : fpost P N fn R .ret ρ w := by
  subst hl
  refine ⟨⟨.agg cs.toArray, ?_, h⟩⟩
  have hx : ρ a = .pointer (some ad) := hx
  have e := tmps_getD (ρ := ρ) ha
  rw [hx] at e
  have hl := loadVar_agg (P := P) hg hs hsp hrow
  simp only [results, hr]
  simp at e
  simp [e, asAddr, Sem.run_bind, hl, Result.andThen_ok, Sem.run_pure, bind_pure]
end
end Go.Vc
