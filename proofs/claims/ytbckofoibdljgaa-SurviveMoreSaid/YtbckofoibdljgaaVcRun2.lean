/- Own library: operations that make memory or write it; calls. -/
import Derived.Test.YtbckofoibdljgaaVcRun
import Derived.Laws.AppendOwnNone
namespace Go.Vc

/-- Slice type 't' with elements of type 'e': 's' cells, 'bytes' bytes, the zero value 'z'. -/
structure ElT (P : Program) (t e s bytes : Nat) (z : Value) : Prop where
  ht : P.underlying t = some (.slice e)
  hi : ∃ i, P.info? e = some i ∧ i.zero = some z ∧ i.size = s ∧ i.bytes = bytes
  hz : z.cells.size = s
  hs : 0 < s

def allOne : List Value → Bool | [] => true | u :: l => u.oneCell' && allOne l
theorem allOne_iff (l : List Value) : allOne l = true ↔ ∀ u ∈ l, u.oneCell' = true := by
  induction l with
  | nil => simp [allOne]
  | cons u l ih => simp [allOne, ih]

def okNe (d : Nat) : Operand → Bool | .tmp s => !Nat.beq s d | _ => true

/-- A slice of the call's own: it may be appended to. 'B': its block is not older. -/
structure OwnSl (w : World) (B : Nat) (e s : Nat) (a : Option Addr) (cap : Nat) (rows : List (List Value)) : Prop where
  len : ∀ r ∈ rows, r.length = s
  own : w.ownsRow B e s (.slice a rows.length cap) rows.length rows.flatten

theorem OwnSl.nil (w : World) (B e s : Nat) : OwnSl w B e s none 0 [] := ⟨by simp, World.ownsRow_nil w B e s⟩
theorem OwnSl.sl {w : World} {B e s : Nat} {a : Option Addr} {cap : Nat} {rows : List (List Value)} (h : OwnSl w B e s a cap rows) : SlV w s a rows := by
  refine ⟨h.len, ?_⟩
  rcases h.own.2 with ⟨_, h0⟩ | ⟨g, cap', cur, hv, _, hg, hn, _, hc, ht⟩
  · exact .inl (List.eq_nil_of_length_eq_zero h0)
  · injection hv with ha _ _
    refine .inr ⟨g, 0, ha, cur, e, (0, 0), hg, fun i hi => ?_⟩
    rw [← ht] at hi ⊢
    rw [List.getElem?_take]
    have hl : i < rows.length * s := by simp at hi; omega
    rw [if_pos hl]; simp
theorem OwnSl.blk {w : World} {B e s : Nat} {a : Option Addr} {cap : Nat} {rows : List (List Value)} (h : OwnSl w B e s a cap rows) : ∀ k, aBlk a k → B ≤ k ∧ k < w.heap.size := by
  rintro k ⟨ad, rfl, rfl⟩
  exact h.own.lt ad.block rfl
theorem Mod.grown {w w' : World} {v : Value} (g : w.grownBy w' v.ownBlock) (hd : w.drawn ≤ w'.drawn) : Mod (fun k => v.ownBlock = some k) w w' :=
  ⟨g.os, g.tape, g.output, hd, g.size, fun b hb hn => g.block b hb fun e => hn e.symm⟩
theorem OwnSl.mod {S : Nat → Prop} {w w' : World} {B e s : Nat} {a : Option Addr} {cap : Nat} {rows : List (List Value)} (h : OwnSl w B e s a cap rows) (m : Mod S w w') (hn : ∀ k, aBlk a k → ¬ S k) : OwnSl w' B e s a cap rows := by
  refine ⟨h.len, h.own.1, ?_⟩
  rcases h.own.2 with h0 | ⟨g, cap', cur, hv, hB, hg, rest⟩
  · exact .inl h0
  · refine .inr ⟨g, cap', cur, hv, hB, ?_, rest⟩
    have hlt := (Array.getElem?_eq_some_iff.1 hg).1
    rw [m.blk g hlt (hn g ?_)]
    · exact hg
    · injection hv with ha _ _
      exact ⟨_, ha, rfl⟩
theorem OwnSl.ext {w w' : World} {B e s : Nat} {a : Option Addr} {cap : Nat} {rows : List (List Value)} (h : OwnSl w B e s a cap rows) (m : Ext w w') : OwnSl w' B e s a cap rows := h.mod m fun _ _ e => e
theorem OwnSl.weaken {w : World} {B B' e s : Nat} {a : Option Addr} {cap : Nat} {rows : List (List Value)} (h : OwnSl w B e s a cap rows) (hB : B' ≤ B) : OwnSl w B' e s a cap rows := by
  refine ⟨h.len, h.own.1, ?_⟩
  rcases h.own.2 with h0 | ⟨g, cap', cur, hv, hb, rest⟩
  · exact .inl h0
  · exact .inr ⟨g, cap', cur, hv, by omega, rest⟩

theorem setRow_mod (w : World) (g : Nat) (cs : Array Value) : Mod (one g) w (w.setRow g cs) :=
  ⟨rfl, rfl, rfl, Nat.le_refl _, by simp [World.setRow], fun b _ hn => setRow_other w g b cs hn⟩

/-- What a slice holds, as the laws of append want it. -/
theorem SlV.adds {w : World} {s : Nat} {ad : Addr} {rows : List (List Value)} (h : SlV w s (some ad) rows) : ∀ j u, rows.flatten[j]? = some u → w.cell? (ad.add j) = some u := by
  intro j u hu
  rcases h.2 with rfl | ⟨b, off, he, hr⟩
  · simp at hu
  · injection he with he
    subst he
    have hadd : (⟨b, off, none⟩ : Addr).add j = ⟨b, off + j, none⟩ := by unfold Addr.add; split <;> simp_all
    rw [hadd]; exact hr.cell hu

theorem run_append_any {P : Program} {w : World} {B t ty e s bytes : Nat} {z : Value} (E : ElT P t e s bytes z) {a : Option Addr} {cap : Nat} {rows : List (List Value)} (hown : OwnSl w B e s a cap rows)
    {ax : Option Addr} {c : Nat} {news : List (List Value)} (hx : SlV w s ax news) (hax : ax = none → c = 0) (h1 : ∀ r ∈ news, ∀ u ∈ r, u.oneCell' = true)
    (hbytes : (rows.length + news.length) * bytes ≤ 140737488355328) (h63 : rows.length + news.length ≤ maxLen) (hB : B ≤ w.heap.size) :
    ∃ a' cap' w', (Builtin.append_ #[t, t] ty #[.slice a rows.length cap, .slice ax news.length c]).run P w = .ok (.slice a' (rows.length + news.length) cap') w' ∧
      OwnSl w' B e s a' cap' (rows ++ news) ∧ Mod (aBlk a) w w' ∧ (∀ k, aBlk a' k → aBlk a k ∨ w.heap.size ≤ k) := by
  obtain ⟨i, hi, hz, hsz, hby⟩ := E.hi
  have hlens : ∀ r ∈ rows ++ news, r.length = s := by
    intro r hr
    rcases List.mem_append.1 hr with h | h
    · exact hown.len r h
    · exact hx.1 r h
  cases ax with
  | none =>
    have hn : news = [] := by
      rcases hx.2 with h | ⟨b, off, h, _⟩
      · exact h
      · cases h
    subst hn
    have hc := hax rfl
    subst hc
    have hrun := run_append_owned_none (P := P) (w := w) B t ty e i s E.ht hi _ _ _ hown.own
    refine ⟨a, cap, w, by simpa using hrun, by simpa using hown, Mod.refl _ _, fun k hk => .inl hk⟩
  | some ad =>
    obtain ⟨v', w', hr, ho, hg, _⟩ := run_append_own (P := P) w B t ty e i z s bytes E.ht hi hz hsz hby E.hz E.hs _ _ _ hown.own ad news.length c news.flatten
      (flatten_len news s hx.1) hx.adds (by intro u hu; obtain ⟨r, hr, hu⟩ := List.mem_flatten.1 hu; exact h1 r hr u hu) h63 hbytes hB
    have hv : ∃ a' cap', v' = .slice a' (rows.length + news.length) cap' := by
      rcases ho.2 with ⟨h, h0⟩ | ⟨g, cap', cur, h, _⟩
      · exact ⟨none, 0, by rw [h, h0]⟩
      · exact ⟨_, _, h⟩
    obtain ⟨a', cap', rfl⟩ := hv
    have hfr : (∀ k, aBlk a' k → aBlk a k ∨ w.heap.size ≤ k) ∧ w.drawn ≤ w'.drawn := by
      clear hg ho
      have hl := flatten_len news s hx.1
      have hsmall : rows.length + news.length ≤ 9223372036854775807 := by simp only [maxLen] at h63; omega
      subst hsz; subst hby
      rcases hown.own.2 with ⟨h, h0⟩ | ⟨g, cap0, cur, hv, hbg, hgg, hnc, hcm, hcs, htake⟩
      · have hr0 : rows = [] := List.eq_nil_of_length_eq_zero h0
        subst hr0
        injection h with ha _ hc
        subst ha; subst hc
        by_cases hm : news.length = 0
        · have hn : news = [] := List.eq_nil_of_length_eq_zero hm
          subst hn
          have hrun : (Builtin.append_ #[t, t] ty #[.slice none 0 0, .slice (some ad) 0 c]).run P w = .ok (.slice none 0 0) w := by
            simp [Builtin.append_, run_underlying E.ht, sizeOf, typeInfo, hi, Builtin.lenOf, Builtin.firstCells, loadCells, loadCellsFrom]
          simp only [List.length_nil, Nat.add_zero] at hr
          rw [hrun] at hr
          injection hr with hr hw
          injection hr with hr _ _
          refine ⟨?_, by rw [← hw]; exact Nat.le_refl _⟩
          rintro k ⟨x, rfl, _⟩; cases hr
        · have hrun := run_append_nil (P := P) w t ty e i z E.ht hi hz ad news.length c news.flatten hl hx.adds (by omega) (by omega) (by have hb := hbytes; simp only [List.length_nil, Nat.zero_add] at hb; omega)
          simp only [List.length_nil, Nat.zero_add] at hr
          rw [hrun] at hr
          injection hr with hr hw
          injection hr with hr _ _
          refine ⟨?_, by rw [← hw]; exact Nat.le_succ _⟩
          rintro k ⟨x, rfl, rfl⟩
          injection hr with hr
          subst hr
          exact .inr (Nat.le_refl _)
      · injection hv with ha _ hc
        subst ha; subst hc
        by_cases hroom : rows.length + news.length ≤ cap
        · have hfit : rows.length * i.size + news.flatten.length ≤ cur.size := by rw [hl, hcs, ← Nat.add_mul]; exact Nat.mul_le_mul_right _ hroom
          have hrun := run_append_room (P := P) w t ty e i E.ht hi g rows.length cap cur hgg ad news.length c news.flatten hl hx.adds (by intro u hu; obtain ⟨r, hr, hu⟩ := List.mem_flatten.1 hu; exact h1 r hr u hu) hroom hfit
          rw [hrun] at hr
          injection hr with hr hw
          injection hr with hr _ _
          refine ⟨?_, by rw [← hw]; exact Nat.le_refl _⟩
          rintro k ⟨x, rfl, rfl⟩
          injection hr with hr
          subst hr
          exact .inl ⟨_, rfl, rfl⟩
        · have hrun := run_append_grow (P := P) w t ty e i z E.ht hi hz ⟨g, 0, none⟩ rows.length cap rows.flatten (by rw [hown.own.1]) (hown.own.cells (g := g) rfl) ad news.length c news.flatten hl hx.adds (by omega) (by omega) (growslice_fits (by omega) hbytes)
          rw [hrun] at hr
          injection hr with hr hw
          injection hr with hr _ _
          refine ⟨?_, by rw [← hw]; exact Nat.le_succ _⟩
          rintro k ⟨x, rfl, rfl⟩
          injection hr with hr
          subst hr
          exact .inr (Nat.le_refl _)

    have hm : Mod (aBlk a) w w' := (Mod.grown hg hfr.2).weaken fun k _ hk => by
      cases a with
      | none => simp [Value.ownBlock] at hk
      | some x => simp [Value.ownBlock] at hk; exact ⟨x, rfl, hk⟩
    refine ⟨a', cap', w', hr, ⟨hlens, ?_⟩, hm, hfr.1⟩
    rw [List.length_append, List.flatten_append]; exact ho

section
variable {P : Program} {N : Nat} {L : List Oper} {Q : Exit → Env → World → Prop} {rest : List Oper} {ρ : Env} {w : World}
  {d : Nat} {ty t : TypeId} {p p' : String} {af af' : Array Edge} {x y : Operand}

theorem VL.append {B e s bytes : Nat} {z : Value} (E : ElT P t e s bytes z) {a : Option Addr} {n cap : Nat} {rows : List (List Value)} {ax : Option Addr} {m c : Nat} {news : List (List Value)}
    (hx : tm ρ x = .slice a n cap) (hn : n = rows.length) (hown : OwnSl w B e s a cap rows) (hy : tm ρ y = .slice ax m c) (hm : m = news.length) (hs : SlV w s ax news) (hax : ax = none → c = 0)
    (h1 : ∀ r ∈ news, ∀ u ∈ r, u.oneCell' = true) (hbytes : (rows.length + news.length) * bytes ≤ 140737488355328) (h63 : rows.length + news.length ≤ maxLen) (hB : B ≤ w.heap.size)
    (h : ∀ a' cap' w', OwnSl w' B e s a' cap' (rows ++ news) → Mod (aBlk a) w w' → (∀ k, aBlk a' k → aBlk a k ∨ w.heap.size ≤ k) → VL P N L Q rest (upd ρ d (.slice a' (n + m) cap')) w') :
    VL P N L Q ({ dst := some d, op := .call { callee := .builtin .append, args := #[x, y], argTypes := #[t, t] }, type := ty, pos := p, after := af, guard := none } :: rest) ρ w := by
  subst hn; subst hm
  obtain ⟨a', cap', w', hr, ho, hm, hf⟩ := run_append_any (ty := ty) E hown hs hax h1 hbytes h63 hB
  refine VL.op ?_ (h a' cap' w' ho hm hf)
  simp only [run1, execOp, resolve, invoke, builtin, Sem.run_bind, Sem.run_pure, Result.andThen_ok, List.map_toArray, List.map_cons, List.map_nil, hx, hy, hr]

theorem VL.alloc {z : Value} (hz : ∀ w, (zeroValue t).run P w = .ok z w)
    (h : ∀ b w', b = w.heap.size → Ext w w' → Blk w' b (.cells z.cells t (0, 0)) → VL P N L Q rest (upd ρ d (.pointer (some ⟨b, 0, none⟩))) w') :
    VL P N L Q ({ dst := some d, op := .alloc t, type := ty, pos := p, after := af, guard := none } :: rest) ρ w := by
  refine VL.op (v := .pointer (some ⟨w.heap.size, 0, none⟩)) (w' := w.alloc (.cells z.cells t)) ?_ (h _ _ rfl (Ext.alloc _ _) (Blk.alloc _ _))
  simp [run1, execOp, Instr.alloc, go_sem, hz, newVar, newRow]

theorem VL.box {v : Value} (hx : tm ρ x = v)
    (h : ∀ b w', b = w.heap.size → Ext w w' → Blk w' b (.cells v.cells t (0, 0)) → VL P N L Q rest (upd ρ d (.pointer (some ⟨b, 0, none⟩))) w') :
    VL P N L Q ({ dst := some d, op := .box t x, type := ty, pos := p, after := af, guard := none } :: rest) ρ w := by
  refine VL.op (v := .pointer (some ⟨w.heap.size, 0, none⟩)) (w' := w.alloc (.cells v.cells t)) ?_ (h _ _ rfl (Ext.alloc _ _) (Blk.alloc _ _))
  simp [run1, execOp, Instr.box, go_sem, newVar, newRow, hx]

/-- Cells 'vs' written from 'off' on. -/
def putCells (c : Array Value) (off : Nat) (vs : List Value) : Array Value := (c.toList.take off ++ vs ++ c.toList.drop (off + vs.length)).toArray

theorem storeVar_run {t : TypeId} {b off : Nat} {v : Value} {c : Array Value} {T : TypeId} (hsz : ∀ w, (sizeOf t).run P w = .ok v.cells.size w) (hB : Blk w b (.cells c T (0, 0))) (hfit : off + v.cells.size ≤ c.size)
    (h1 : ∀ u ∈ v.cells.toList, u.oneCell' = true) : (storeVar t ⟨b, off, none⟩ v).run P w = .ok () (w.setRow b (putCells c off v.cells.toList)) := by
  have := run_storeCells_at P b off T v.cells.toList 0 c w hB (by simpa using hfit) h1
  simp only [Nat.add_zero] at this
  unfold storeVar
  simp only [Sem.run_bind, hsz, Result.andThen_ok, ne_eq, not_true_eq_false, if_false, Sem.run_pure, this, putCells]

theorem VL.store {ad : Addr} {v : Value} {c : Array Value} {T : TypeId} {s : Nat} (hsz : ∀ w, (sizeOf t).run P w = .ok s w) (hl : v.cells.size = s) (hx : tm ρ x = .pointer (some ad)) (hsp : ad.spot = none) (hy : tm ρ y = v)
    (hB : Blk w ad.block (.cells c T (0, 0))) (hfit : Nat.ble (ad.off + v.cells.size) c.size = true) (h1 : allOne v.cells.toList = true)
    (h : ∀ w', Mod (one ad.block) w w' → w'.heap.size = w.heap.size → Blk w' ad.block (.cells (putCells c ad.off v.cells.toList) T (0, 0)) → VL P N L Q rest ρ w') :
    VL P N L Q ({ dst := none, op := .store t x y, type := ty, pos := p, after := af, guard := none } :: rest) ρ w := by
  subst hl
  obtain ⟨b, off, sp⟩ := ad
  cases hsp
  refine VL.op0 (w' := w.setRow b (putCells c off v.cells.toList)) ?_ (h _ (setRow_mod _ _ _) (by simp [World.setRow]) (setRow_heap w b c _ T _ hB))
  have := storeVar_run (P := P) (t := t) hsz hB (Nat.le_of_ble_eq_true hfit) ((allOne_iff _).1 h1)
  simp only [run1, execOp, hx, hy, Instr.storeAt, Instr.sureAddr, Sem.run_bind, Sem.run_pure, Result.andThen_ok, this]

theorem putCells_all (c : Array Value) (vs : List Value) (h : c.size = vs.length) : putCells c 0 vs = vs.toArray := by
  unfold putCells
  simp [List.drop_eq_nil_of_le (by simp [h] : c.toList.length ≤ vs.length)]

/-- A new variable and its first store. -/
theorem VL.allocSt {z v : Value} {s : Nat} (hz : ∀ w, (zeroValue t).run P w = .ok z w) (hsz : ∀ w, (sizeOf t).run P w = .ok s w) (hl : v.cells.size = s) (hzs : z.cells.size = s) (hy : tm ρ y = v) (hd : okNe d y = true)
    (h1 : allOne v.cells.toList = true) {ty' : TypeId}
    (h : ∀ b w', b = w.heap.size → Ext w w' → Blk w' b (.cells v.cells t (0, 0)) → VL P N L Q rest (upd ρ d (.pointer (some ⟨b, 0, none⟩))) w') :
    VL P N L Q ({ dst := some d, op := .alloc t, type := ty, pos := p, after := af, guard := none } :: { dst := none, op := .store t (.tmp d) y, type := ty', pos := p', after := af', guard := none } :: rest) ρ w := by
  subst hl
  refine VL.alloc hz fun b w1 hb he hB => ?_
  have hy' : tm (upd ρ d (.pointer (some ⟨b, 0, none⟩))) y = v := by
    cases y with
    | tmp s =>
      have hne : Nat.beq s d = false := by simpa [okNe] using hd
      show upd ρ d _ s = v
      unfold upd
      rw [hne]; exact hy
    | _ => exact hy
  refine VL.store (v := v) (ad := ⟨b, 0, none⟩) hsz rfl (by show upd ρ d _ d = _; unfold upd; simp) rfl hy' hB (by simp [hzs]) h1 fun w2 hm hsz2 hB2 => ?_
  refine h b w2 hb ?_ ?_
  · exact he.then hm fun k hk e => by (have e : k = b := e); omega
  · rw [putCells_all _ _ (by simpa using hzs)] at hB2
    simpa using hB2
end
end Go.Vc
