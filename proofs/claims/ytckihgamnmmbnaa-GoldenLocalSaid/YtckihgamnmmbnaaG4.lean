/- Golden: setups, records and entities; formed records. -/
import Derived.Test.YtckihgamnmmbnaaP5
import Derived.Test.YtckihgamnmmbnaaVcTurn
import Derived.Test.YtckihgamnmmbnaaVcClear
namespace Go.Proofs.Ytckihgamnmmbnaa
open Go.Vc Go.Sort

structure Key where
  src : Int
  tab : ByteArray
  rec_ : ByteArray
  deriving DecidableEq
instance : Inhabited Key := ⟨⟨0, ⟨#[]⟩, ⟨#[]⟩⟩⟩
def encKey (k : Key) : List Value := [.int .i64 k.src, .string k.tab, .string k.rec_]
structure Rec where
  key : Key
  table : Int
  since : Int
  ca : Option Addr
  cap : Nat
  cells : List Cell
instance : Inhabited Rec := ⟨⟨default, 0, 0, none, 0, []⟩⟩
def encRec (r : Rec) : List Value := encKey r.key ++ [.int .i64 r.table, .int .i64 r.since, .slice r.ca r.cells.length r.cap]
structure Attr where
  name : ByteArray
  kind : Int
  wa : Option Addr
  wn : Nat
  wc : Nat
  dflt : Val
instance : Inhabited Attr := ⟨⟨⟨#[]⟩, 0, none, 0, 0, default⟩⟩
def encAttr (t : Attr) : List Value := [.string t.name, .int .i64 t.kind, .slice t.wa t.wn t.wc] ++ encVal t.dflt
structure Tab where
  name : ByteArray
  aa : Option Addr
  acap : Nat
  attrs : List Attr
  ka : Option Addr
  kn : Nat
  kc : Nat
instance : Inhabited Tab := ⟨⟨⟨#[]⟩, none, 0, [], none, 0, 0⟩⟩
def encTab (t : Tab) : List Value := [.string t.name, .slice t.aa t.attrs.length t.acap, .slice t.ka t.kn t.kc]
structure Org where
  name : ByteArray
  trust : Int
instance : Inhabited Org := ⟨⟨⟨#[]⟩, 0⟩⟩
def encOrg (o : Org) : List Value := [.string o.name, .int .i64 o.trust]
structure Keep where
  table : Int
  col : Int
  by_ : Int
instance : Inhabited Keep := ⟨⟨0, 0, 0⟩⟩
def encKeep (k : Keep) : List Value := [.int .i64 k.table, .int .i64 k.col, .int .i64 k.by_]
/-- A slice whose elements do not matter. -/
structure Raw where
  a : Option Addr
  n : Nat
  c : Nat
def encRaw (r : Raw) : Value := .slice r.a r.n r.c
structure Set_ where
  ta : Option Addr
  tc : Nat
  tabs : List Tab
  oa : Option Addr
  oc : Nat
  orgs : List Org
  b : Raw
  m : Raw
  ka : Option Addr
  kc : Nat
  keeps : List Keep
  r : Raw
  q : Raw
def encSet (s : Set_) : List Value := [.slice s.ta s.tabs.length s.tc, .slice s.oa s.orgs.length s.oc, .slice s.b.a s.b.n s.b.c, .slice s.m.a s.m.n s.m.c, .slice s.ka s.keeps.length s.kc, .slice s.r.a s.r.n s.r.c, .slice s.q.a s.q.n s.q.c]
structure SetW (w : World) (s : Set_) : Prop where
  tabs : TSl encTab 3 w s.ta s.tabs
  attrs : ∀ t ∈ s.tabs, TSl encAttr 6 w t.aa t.attrs
  orgs : TSl encOrg 2 w s.oa s.orgs
  keeps : TSl encKeep 3 w s.ka s.keeps
theorem SetW.ext {w w' : World} {s : Set_} (h : SetW w s) (e : Ext w w') : SetW w' s := ⟨h.tabs.ext e, fun t ht => (h.attrs t ht).ext e, h.orgs.ext e, h.keeps.ext e⟩
structure RecsW (w : World) (a : Option Addr) (l : List Rec) : Prop where
  sl : TSl encRec 6 w a l
  cells : ∀ r ∈ l, TSl encCell 5 w r.ca r.cells
theorem RecsW.ext {w w' : World} {a : Option Addr} {l : List Rec} (h : RecsW w a l) (e : Ext w w') : RecsW w' a l := ⟨h.sl.ext e, fun r hr => (h.cells r hr).ext e⟩
theorem gmem {α : Type} [Inhabited α] {l : List α} {i : Nat} (hi : i < l.length) : l.getD i default ∈ l := by
  rw [show l.getD i default = l[i] by simp [List.getD, hi]]; exact List.getElem_mem _
theorem RecsW.cell {w : World} {a : Option Addr} {l : List Rec} (h : RecsW w a l) {i : Nat} (hi : i < l.length) : TSl encCell 5 w (l.getD i default).ca (l.getD i default).cells := h.cells _ (gmem hi)
structure Ent where
  s : Set_
  table : Int
  ra : Option Addr
  rc : Nat
  recs : List Rec
  ma : Option Addr
  mc : Nat
  mem : List Int
def encEnt (e : Ent) : List Value := encSet e.s ++ [.int .i64 e.table, .slice e.ra e.recs.length e.rc, .slice e.ma e.mem.length e.mc]
structure EntW (w : World) (e : Ent) : Prop where
  s : SetW w e.s
  recs : RecsW w e.ra e.recs
  mem : IntSl w e.ma e.mem
theorem EntW.ext {w w' : World} {x : Ent} (h : EntW w x) (e : Ext w w') : EntW w' x := ⟨h.s.ext e, h.recs.ext e, h.mem.ext e⟩

/-- The number of columns of a table. -/
def ncol (s : Set_) (t : Int) : Nat := (s.tabs.getD t.toNat default).attrs.length
def formedG (s : Set_) (r : Rec) : Bool := decide (0 ≤ r.table ∧ r.table < s.tabs.length ∧ r.cells.length = ncol s r.table)
set_option maxHeartbeats 4000000 in
theorem formed_spec (s : Set_) (r : Rec) (w : World) (hl : s.tabs.length ≤ 9223372036854775807) (hS : SetW w s) : RetsP Try.prog 31 #[.agg (encSet s).toArray, .agg (encRec r).toArray] w (.bool (formedG s r)) := by
  refine enter (args := [_, _]) Try.func31 rfl Try.ntmps31 (by kernel_rfl) rfl ?_
  refine V.seq (V.region (VL.box (v := .agg _) rfl fun b1 w1 hb1 e1 hX1 => VL.box (v := .agg _) rfl fun b2 w2 hb2 e2 hX2 => VL.op (R.asB rfl) (VL.nil (V.seq (V.regionQ mixed 27 (by kernel_rfl) rfl (fun w' => Ext _ w') (Ext.drawn _) (VQ.op (fun wq eq => R.fld' (o := 3) Try.runUnderlying53 rfl rfl Try.sizeOf3 rfl rfl) (VQ.op (fun wq eq => R.ld1 Try.isAgg3 rfl (((hX2.ext eq).cell _))) (VQ.op (fun wq eq => R.geq rfl rfl) (VQ.op (fun wq eq => R.mvB rfl) (VQ.andP rfl rfl (fun g1_3 => VQ.op (fun wq eq => R.fld' (o := 3) Try.runUnderlying53 rfl rfl Try.sizeOf3 rfl rfl) (VQ.gT rfl rfl (VQ.op (fun wq eq => R.ld1 Try.isAgg3 rfl (((hX2.ext eq).cell _))) (VQ.gT rfl rfl (VQ.op (fun wq eq => R.fld' (o := 0) Try.runUnderlying32 rfl rfl Try.sizeOf24 rfl rfl) (VQ.gT rfl rfl (VQ.op (fun wq eq => R.fld' (o := 0) Try.runUnderlying24 rfl rfl Try.sizeOf22 rfl rfl) (VQ.gT rfl rfl (VQ.op (fun wq eq => R.ld1 Try.isAgg22 rfl ((((hX1.ext e2).ext eq).cell _))) (VQ.gT rfl rfl (VQ.op (fun wq eq => R.lenS Try.runUnderlying22 rfl) (VQ.gT rfl rfl (VQ.op (fun wq eq => R.lss rfl rfl) (VQ.op (fun wq eq => R.pickTB rfl rfl) (VQ.op (fun wq eq => R.mvB rfl) (VQ.andP rfl rfl (fun g1_12 => VQ.op (fun wq eq => R.fld' (o := 5) Try.runUnderlying53 rfl rfl Try.sizeOf51 rfl rfl) (VQ.gT rfl rfl (VQ.op (fun wq eq => R.ld1 Try.isAgg51 rfl (((hX2.ext eq).cell _))) (VQ.gT rfl rfl (VQ.op (fun wq eq => R.lenS Try.runUnderlying51 rfl) (VQ.gT rfl rfl (VQ.op (fun wq eq => R.fld' (o := 0) Try.runUnderlying32 rfl rfl Try.sizeOf24 rfl rfl) (VQ.gT rfl rfl (VQ.op (fun wq eq => R.fld' (o := 0) Try.runUnderlying24 rfl rfl Try.sizeOf22 rfl rfl) (VQ.gT rfl rfl (VQ.op (fun wq eq => R.ld1 Try.isAgg22 rfl ((((hX1.ext e2).ext eq).cell _))) (VQ.gT rfl rfl (VQ.op (fun wq eq => R.fld' (o := 3) Try.runUnderlying53 rfl rfl Try.sizeOf3 rfl rfl) (VQ.gT rfl rfl (VQ.op (fun wq eq => R.ld1 Try.isAgg3 rfl (((hX2.ext eq).cell _))) (VQ.gT rfl rfl (VQ.op (fun wq eq => R.ixS Try.runUnderlying22 Try.sizeOf78 rfl rfl (by omega) (by omega) (hS.tabs.some (i := r.table.toNat) (by omega))) (VQ.gT rfl rfl (VQ.op (fun wq eq => R.fld' (o := 1) Try.runUnderlying78 rfl rfl Try.sizeOf76 rfl rfl) (VQ.gT rfl rfl (VQ.op (fun wq eq => R.ld1 Try.isAgg76 rfl (((((hS.ext (e1.trans (e2.trans eq))).tabs).row (i := r.table.toNat) (by omega)).cell (i := 1) rfl))) (VQ.gT rfl rfl (VQ.op (fun wq eq => R.lenS Try.runUnderlying76 rfl) (VQ.gT rfl rfl (VQ.op (fun wq eq => R.eql rfl rfl) (VQ.op (fun wq eq => R.pickTB rfl rfl) (VQ.nil fun w1q e1q => VL.op (R.asB rfl) (VL.nil (V.ret (fret1 (v := .bool _) rfl rfl rfl (⟨?_, ((e1.trans e2).trans e1q)⟩))))))))))))))))))))))))))))))) (fun g1_12 => VQ.gF rfl rfl (VQ.gF rfl rfl (VQ.gF rfl rfl (VQ.gF rfl rfl (VQ.gF rfl rfl (VQ.gF rfl rfl (VQ.gF rfl rfl (VQ.gF rfl rfl (VQ.gF rfl rfl (VQ.gF rfl rfl (VQ.gF rfl rfl (VQ.gF rfl rfl (VQ.op (fun wq eq => R.pickFB rfl rfl) (VQ.nil fun w1q e1q => VL.op (R.asB rfl) (VL.nil (V.ret (fret1 (v := .bool _) rfl rfl rfl (⟨?_, ((e1.trans e2).trans e1q)⟩)))))))))))))))))))))))))))))))))) (fun g1_3 => VQ.gF rfl rfl (VQ.gF rfl rfl (VQ.gF rfl rfl (VQ.gF rfl rfl (VQ.gF rfl rfl (VQ.gF rfl rfl (VQ.op (fun wq eq => R.pickFB rfl rfl) (VQ.op (fun wq eq => R.mvB rfl) (VQ.gF rfl rfl (VQ.gF rfl rfl (VQ.gF rfl rfl (VQ.gF rfl rfl (VQ.gF rfl rfl (VQ.gF rfl rfl (VQ.gF rfl rfl (VQ.gF rfl rfl (VQ.gF rfl rfl (VQ.gF rfl rfl (VQ.gF rfl rfl (VQ.gF rfl rfl (VQ.gF rfl rfl (VQ.op (fun wq eq => R.pickFB rfl rfl) (VQ.nil fun w1q e1q => VL.op (R.asB rfl) (VL.nil (V.ret (fret1 (v := .bool _) rfl rfl rfl (⟨?_, ((e1.trans e2).trans e1q)⟩)))))))))))))))))))))))))))))))))))))
  · have e : formedG s r = decide ((r.cells.length : Int) = ncol s r.table) := by
      unfold formedG
      exact decide_eq_decide.2 (by omega)
    rw [e]; rfl
  all_goals unfold formedG
  all_goals rw [decide_eq_false (by omega)]
set_option maxHeartbeats 4000000 in
theorem rformed_spec (s : Set_) (r : Rec) (w : World) (hl : s.tabs.length ≤ 9223372036854775807) (hS : SetW w s) : RetsP Try.prog 42 #[.agg (encSet s).toArray, .agg (encRec r).toArray] w (.bool (formedG s r)) := by
  refine enter (args := [_, _]) Try.func42 rfl Try.ntmps42 (by kernel_rfl) rfl ?_
  refine V.seq (V.region (VL.box (v := .agg _) rfl fun b1 w1 hb1 e1 hX1 => VL.box (v := .agg _) rfl fun b2 w2 hb2 e2 hX2 => VL.op (R.asB rfl) (VL.nil (V.seq (V.regionQ mixed 27 (by kernel_rfl) rfl (fun w' => Ext _ w') (Ext.drawn _) (VQ.op (fun wq eq => R.fld' (o := 3) Try.runUnderlying53 rfl rfl Try.sizeOf3 rfl rfl) (VQ.op (fun wq eq => R.ld1 Try.isAgg3 rfl (((hX2.ext eq).cell _))) (VQ.op (fun wq eq => R.geq rfl rfl) (VQ.op (fun wq eq => R.mvB rfl) (VQ.andP rfl rfl (fun g1_3 => VQ.op (fun wq eq => R.fld' (o := 3) Try.runUnderlying53 rfl rfl Try.sizeOf3 rfl rfl) (VQ.gT rfl rfl (VQ.op (fun wq eq => R.ld1 Try.isAgg3 rfl (((hX2.ext eq).cell _))) (VQ.gT rfl rfl (VQ.op (fun wq eq => R.fld' (o := 0) Try.runUnderlying32 rfl rfl Try.sizeOf24 rfl rfl) (VQ.gT rfl rfl (VQ.op (fun wq eq => R.fld' (o := 0) Try.runUnderlying24 rfl rfl Try.sizeOf22 rfl rfl) (VQ.gT rfl rfl (VQ.op (fun wq eq => R.ld1 Try.isAgg22 rfl ((((hX1.ext e2).ext eq).cell _))) (VQ.gT rfl rfl (VQ.op (fun wq eq => R.lenS Try.runUnderlying22 rfl) (VQ.gT rfl rfl (VQ.op (fun wq eq => R.lss rfl rfl) (VQ.op (fun wq eq => R.pickTB rfl rfl) (VQ.op (fun wq eq => R.mvB rfl) (VQ.andP rfl rfl (fun g1_12 => VQ.op (fun wq eq => R.fld' (o := 5) Try.runUnderlying53 rfl rfl Try.sizeOf51 rfl rfl) (VQ.gT rfl rfl (VQ.op (fun wq eq => R.ld1 Try.isAgg51 rfl (((hX2.ext eq).cell _))) (VQ.gT rfl rfl (VQ.op (fun wq eq => R.lenS Try.runUnderlying51 rfl) (VQ.gT rfl rfl (VQ.op (fun wq eq => R.fld' (o := 0) Try.runUnderlying32 rfl rfl Try.sizeOf24 rfl rfl) (VQ.gT rfl rfl (VQ.op (fun wq eq => R.fld' (o := 0) Try.runUnderlying24 rfl rfl Try.sizeOf22 rfl rfl) (VQ.gT rfl rfl (VQ.op (fun wq eq => R.ld1 Try.isAgg22 rfl ((((hX1.ext e2).ext eq).cell _))) (VQ.gT rfl rfl (VQ.op (fun wq eq => R.fld' (o := 3) Try.runUnderlying53 rfl rfl Try.sizeOf3 rfl rfl) (VQ.gT rfl rfl (VQ.op (fun wq eq => R.ld1 Try.isAgg3 rfl (((hX2.ext eq).cell _))) (VQ.gT rfl rfl (VQ.op (fun wq eq => R.ixS Try.runUnderlying22 Try.sizeOf78 rfl rfl (by omega) (by omega) (hS.tabs.some (i := r.table.toNat) (by omega))) (VQ.gT rfl rfl (VQ.op (fun wq eq => R.fld' (o := 1) Try.runUnderlying78 rfl rfl Try.sizeOf76 rfl rfl) (VQ.gT rfl rfl (VQ.op (fun wq eq => R.ld1 Try.isAgg76 rfl (((((hS.ext (e1.trans (e2.trans eq))).tabs).row (i := r.table.toNat) (by omega)).cell (i := 1) rfl))) (VQ.gT rfl rfl (VQ.op (fun wq eq => R.lenS Try.runUnderlying76 rfl) (VQ.gT rfl rfl (VQ.op (fun wq eq => R.eql rfl rfl) (VQ.op (fun wq eq => R.pickTB rfl rfl) (VQ.nil fun w1q e1q => VL.op (R.asB rfl) (VL.nil (V.ret (fret1 (v := .bool _) rfl rfl rfl (⟨?_, ((e1.trans e2).trans e1q)⟩))))))))))))))))))))))))))))))) (fun g1_12 => VQ.gF rfl rfl (VQ.gF rfl rfl (VQ.gF rfl rfl (VQ.gF rfl rfl (VQ.gF rfl rfl (VQ.gF rfl rfl (VQ.gF rfl rfl (VQ.gF rfl rfl (VQ.gF rfl rfl (VQ.gF rfl rfl (VQ.gF rfl rfl (VQ.gF rfl rfl (VQ.op (fun wq eq => R.pickFB rfl rfl) (VQ.nil fun w1q e1q => VL.op (R.asB rfl) (VL.nil (V.ret (fret1 (v := .bool _) rfl rfl rfl (⟨?_, ((e1.trans e2).trans e1q)⟩)))))))))))))))))))))))))))))))))) (fun g1_3 => VQ.gF rfl rfl (VQ.gF rfl rfl (VQ.gF rfl rfl (VQ.gF rfl rfl (VQ.gF rfl rfl (VQ.gF rfl rfl (VQ.op (fun wq eq => R.pickFB rfl rfl) (VQ.op (fun wq eq => R.mvB rfl) (VQ.gF rfl rfl (VQ.gF rfl rfl (VQ.gF rfl rfl (VQ.gF rfl rfl (VQ.gF rfl rfl (VQ.gF rfl rfl (VQ.gF rfl rfl (VQ.gF rfl rfl (VQ.gF rfl rfl (VQ.gF rfl rfl (VQ.gF rfl rfl (VQ.gF rfl rfl (VQ.gF rfl rfl (VQ.op (fun wq eq => R.pickFB rfl rfl) (VQ.nil fun w1q e1q => VL.op (R.asB rfl) (VL.nil (V.ret (fret1 (v := .bool _) rfl rfl rfl (⟨?_, ((e1.trans e2).trans e1q)⟩)))))))))))))))))))))))))))))))))))))
  · have e : formedG s r = decide ((r.cells.length : Int) = ncol s r.table) := by
      unfold formedG
      exact decide_eq_decide.2 (by omega)
    rw [e]; rfl
  all_goals unfold formedG
  all_goals rw [decide_eq_false (by omega)]
end Go.Proofs.Ytckihgamnmmbnaa

/- Golden: rules, trusts and columns. -/
namespace Go.Proofs.Ytckihgamnmmbnaa
open Go.Vc Go.Sort

def ruleG (s : Set_) (t col : Int) : Int := match s.keeps.find? fun k => decide (k.table = t ∧ k.col = col) with | some k => k.by_ | none => 3
theorem find_at {α : Type} [Inhabited α] (p : α → Bool) (l : List α) (k : Nat) (hk : k < l.length) (h0 : ∀ i, i < k → p (l.getD i default) = false) (h1 : p (l.getD k default) = true) : l.find? p = some (l.getD k default) := by
  have hg : l.getD k default = l[k] := by simp [List.getD, hk]
  rw [hg] at h1 ⊢
  rw [List.find?_eq_some_iff_getElem]
  refine ⟨h1, k, hk, rfl, fun j hj => ?_⟩
  have := h0 j hj
  simp [List.getD, show j < l.length by omega] at this
  simp [this]
theorem find_no {α : Type} [Inhabited α] (p : α → Bool) (l : List α) (h0 : ∀ i, i < l.length → p (l.getD i default) = false) : l.find? p = none := by
  rw [List.find?_eq_none]
  intro x hx
  obtain ⟨i, hi, rfl⟩ := List.getElem_of_mem hx
  have := h0 i hi
  simp [List.getD, hi] at this
  simp [this]
set_option maxHeartbeats 4000000 in
theorem rule_spec' (e : Ent) (col : Int) (w : World) (hl : e.s.keeps.length ≤ 9223372036854775807) (hE : EntW w e) : RetsP Try.prog 54 #[.agg (encEnt e).toArray, .int .i64 col] w (.int .i64 (ruleG e.s e.table col)) := by
  refine enter (args := [_, _]) Try.func54 rfl Try.ntmps54 (by kernel_rfl) rfl ?_
  refine V.seq (V.region (VL.box (v := .agg _) rfl fun b1 w1 hb1 e1 hX1 => VL.op (R.asI rfl) (VL.nil (V.seq (V.seq (V.region (VL.op (R.fld' (o := 0) Try.runUnderlying72 rfl rfl Try.sizeOf32 rfl rfl) (VL.op (R.fld' (o := 4) Try.runUnderlying32 rfl rfl Try.sizeOf28 rfl rfl) (VL.op (R.ld1 Try.isAgg28 rfl ((hX1.cell _))) (VL.op (R.lenS Try.runUnderlying28 rfl) (VL.op (R.mvI rfl) (VL.nil (V.block (?_))))))))))))))
  have hK := hE.s.keeps.ext e1
  refine V.loop [1, 2, 9, 10, 11] (fun k : Nat => [.int .i64 col, .pointer (some ⟨b1, 0, none⟩), .slice e.s.ka e.s.keeps.length e.s.kc, .int .i64 e.s.keeps.length, .int .i64 k])
    (fun k w' => k ≤ e.s.keeps.length ∧ (∀ i, i < k → decide ((e.s.keeps.getD i default).table = e.table ∧ (e.s.keeps.getD i default).col = col) = false) ∧ Ext w1 w') (fun k => e.s.keeps.length - k) 0 rfl ⟨Nat.zero_le _, fun i h => absurd h (Nat.not_lt_zero i), Mod.refl _ _⟩ ?_
  rintro ρ k w2 ⟨hk, hi, e2⟩
  refine V.seq (V.region (VL.op (R.lss rfl rfl) (VL.nil (V.seq (V.condP rfl (fun c12 => V.skip (V.seq (V.block (V.seq (V.region (VL.op (R.ixS Try.runUnderlying28 Try.sizeOf62 rfl rfl (by omega) (by omega) ((hK).some (i := k) (by omega))) (VL.op (R.ldA Try.isAgg62 Try.sizeOf62 rfl rfl ((((hK).ext e2).row (i := k) (by omega))) rfl) (VL.allocSt (v := .agg (encKeep (e.s.keeps.getD k default)).toArray) Try.zeroValue62 Try.sizeOf62 rfl rfl rfl rfl rfl fun b3_2 w3_2 hb3_2 e3_2 hB3_2 => VL.nil (V.seq (V.regionCut [15, 16, 17, 18, 19, 20, 21, 22, 23, 24, 25] 25 (.bool (decide ((e.s.keeps.getD k default).table = e.table ∧ (e.s.keeps.getD k default).col = col))) (fun w' => Ext _ w') rfl (VL.op (R.fld' (o := 0) Try.runUnderlying62 rfl rfl Try.sizeOf3 rfl rfl) (VL.op (R.ld1 Try.isAgg3 rfl ((hB3_2.cell _))) (VL.op (R.fld' (o := 7) Try.runUnderlying72 rfl rfl Try.sizeOf3 rfl rfl) (VL.op (R.ld1 Try.isAgg3 rfl (((hX1.ext (e2.trans e3_2)).cell 7))) (VL.op (R.eql rfl rfl) (VL.op (R.mvB rfl) (VL.andP rfl rfl (fun g4_5 => VL.op (R.fld' (o := 1) Try.runUnderlying62 rfl rfl Try.sizeOf3 rfl rfl) (VL.gT rfl rfl (VL.op (R.ld1 Try.isAgg3 rfl ((hB3_2.cell _))) (VL.gT rfl rfl (VL.op (R.mvI rfl) (VL.gT rfl rfl (VL.op (R.eql rfl rfl) (VL.op (R.pickTB rfl rfl) (VL.nil ⟨rfl, cutB rfl ?_, Mod.refl _ _⟩))))))))) (fun g4_5 => VL.gF rfl rfl (VL.gF rfl rfl (VL.gF rfl rfl (VL.op (R.pickFB rfl rfl) (VL.nil ⟨rfl, cutB rfl ?_, Mod.refl _ _⟩)))))))))))) (fun rg4 w4c e4c => V.condP rfl (fun c25 => V.seq (V.region (VL.op (R.fld' (o := 2) Try.runUnderlying62 rfl rfl Try.sizeOf3 rfl rfl) (VL.op (R.ld1 Try.isAgg3 rfl (((hB3_2.ext e4c).cell 2))) (VL.op (R.asI rfl) (VL.nil (V.ret (fret1 (v := .int _ _) rfl rfl rfl (⟨?_, e1.trans ((e2.trans e3_2).trans e4c)⟩))))))))) (fun c25 => V.skip (V.region (VL.op (R.add rfl rfl (by omega) (by omega)) (VL.op (R.mvI rfl) (VL.nil (⟨k + 1, rfl, ⟨by omega, ?_, ((e2.trans e3_2).trans e4c)⟩, by omega⟩))))))))))))))))) (fun c12 => V.exit (V.seq (V.region (VL.op (R.asI rfl) (VL.nil (V.ret (fret1 (v := .int _ _) rfl rfl rfl (⟨?_, e1.trans e2⟩)))))))))))))
  · exact decide_eq_decide.2 ⟨fun h => ⟨g4_5, h⟩, fun h => h.2⟩
  · exact (decide_eq_false fun h => g4_5 h.1).symm
  · have := find_at (fun k : Keep => decide (k.table = e.table ∧ k.col = col)) e.s.keeps k (by omega) hi (decide_eq_true c25)
    unfold ruleG; rw [this]
  · intro i hik
    by_cases h : i = k
    · subst h; exact decide_eq_false c25
    · exact hi i (by omega)
  · have := find_no (fun k : Keep => decide (k.table = e.table ∧ k.col = col)) e.s.keeps fun i h => hi i (by omega)
    unfold ruleG; rw [this]
set_option maxHeartbeats 4000000 in
theorem rrule_spec (s : Set_) (t col : Int) (w : World) (hl : s.keeps.length ≤ 9223372036854775807) (hS : SetW w s) : RetsP Try.prog 30 #[.agg (encSet s).toArray, .int .i64 t, .int .i64 col] w (.int .i64 (ruleG s t col)) := by
  refine enter (args := [_, _, _]) Try.func30 rfl Try.ntmps30 (by kernel_rfl) rfl ?_
  refine V.seq (V.region (VL.box (v := .agg _) rfl fun b1 w1 hb1 e1 hX1 => VL.op (R.asI rfl) (VL.nil (V.seq (V.seq (V.region (VL.op (R.asI rfl) (VL.nil (V.block (?_))))))))))
  have hK := hS.keeps.ext e1
  refine V.loop [1, 2, 3, 7] (fun k : Nat => [.int .i64 t, .int .i64 col, .pointer (some ⟨b1, 0, none⟩), .int .i64 k])
    (fun k w' => k ≤ s.keeps.length ∧ (∀ i, i < k → decide ((s.keeps.getD i default).table = t ∧ (s.keeps.getD i default).col = col) = false) ∧ Ext w1 w') (fun k => s.keeps.length - k) 0 rfl ⟨Nat.zero_le _, fun i h => absurd h (Nat.not_lt_zero i), Mod.refl _ _⟩ ?_
  rintro ρ k w2 ⟨hk, hi, e2⟩
  have hX2 := hX1.ext e2
  have hK2 := hK.ext e2
  refine V.seq (V.seq (V.region (VL.op (R.mvI rfl) (VL.op (R.fld' (o := 4) Try.runUnderlying32 rfl rfl Try.sizeOf28 rfl rfl) (VL.op (R.ld1 Try.isAgg28 rfl (((hX2.ext (Mod.refl _ _)).cell 4))) (VL.op (R.lenS Try.runUnderlying28 rfl) (VL.op (R.lss rfl rfl) (VL.nil (V.condP rfl (fun c12 => V.skip (V.seq (V.block (V.seq (V.regionCut [15, 16, 17, 18, 19, 20, 21, 22, 23, 24, 25, 26, 27, 28, 29, 30, 31, 32] 32 (.bool (decide ((s.keeps.getD k default).table = t ∧ (s.keeps.getD k default).col = col))) (fun w' => Ext _ w') rfl (VL.op (R.fld' (o := 4) Try.runUnderlying32 rfl rfl Try.sizeOf28 rfl rfl) (VL.op (R.ld1 Try.isAgg28 rfl (((hX2.ext (Mod.refl _ _)).cell 4))) (VL.op (R.mvI rfl) (VL.op (R.ixS Try.runUnderlying28 Try.sizeOf62 rfl rfl (by omega) (by omega) ((hK2).some (i := k) (by omega))) (VL.op (R.fld' (o := 0) Try.runUnderlying62 rfl rfl Try.sizeOf3 rfl rfl) (VL.op (R.ld1 Try.isAgg3 rfl (((((hK2).ext (Mod.refl _ _)).row (i := k) (by omega)).cell (i := 0) rfl))) (VL.op (R.mvI rfl) (VL.op (R.eql rfl rfl) (VL.op (R.mvB rfl) (VL.andP rfl rfl (fun g4_8 => VL.op (R.fld' (o := 4) Try.runUnderlying32 rfl rfl Try.sizeOf28 rfl rfl) (VL.gT rfl rfl (VL.op (R.ld1 Try.isAgg28 rfl (((hX2.ext (Mod.refl _ _)).cell 4))) (VL.gT rfl rfl (VL.op (R.mvI rfl) (VL.gT rfl rfl (VL.op (R.ixS Try.runUnderlying28 Try.sizeOf62 rfl rfl (by omega) (by omega) ((hK2).some (i := k) (by omega))) (VL.gT rfl rfl (VL.op (R.fld' (o := 1) Try.runUnderlying62 rfl rfl Try.sizeOf3 rfl rfl) (VL.gT rfl rfl (VL.op (R.ld1 Try.isAgg3 rfl (((((hK2).ext (Mod.refl _ _)).row (i := k) (by omega)).cell (i := 1) rfl))) (VL.gT rfl rfl (VL.op (R.mvI rfl) (VL.gT rfl rfl (VL.op (R.eql rfl rfl) (VL.op (R.pickTB rfl rfl) (VL.nil ⟨rfl, cutB rfl ?_, Mod.refl _ _⟩))))))))))))))))) (fun g4_8 => VL.gF rfl rfl (VL.gF rfl rfl (VL.gF rfl rfl (VL.gF rfl rfl (VL.gF rfl rfl (VL.gF rfl rfl (VL.gF rfl rfl (VL.op (R.pickFB rfl rfl) (VL.nil ⟨rfl, cutB rfl ?_, Mod.refl _ _⟩))))))))))))))))))) (fun rg4 w4c e4c => V.condP rfl (fun c32 => V.seq (V.region (VL.op (R.fld' (o := 4) Try.runUnderlying32 rfl rfl Try.sizeOf28 rfl rfl) (VL.op (R.ld1 Try.isAgg28 rfl (((hX2.ext e4c).cell 4))) (VL.op (R.mvI rfl) (VL.op (R.ixS Try.runUnderlying28 Try.sizeOf62 rfl rfl (by omega) (by omega) ((hK2).some (i := k) (by omega))) (VL.op (R.fld' (o := 2) Try.runUnderlying62 rfl rfl Try.sizeOf3 rfl rfl) (VL.op (R.ld1 Try.isAgg3 rfl (((((hK2).ext e4c).row (i := k) (by omega)).cell (i := 2) rfl))) (VL.op (R.asI rfl) (VL.nil (V.ret (fret1 (v := .int _ _) rfl rfl rfl (⟨?_, (e1.trans e2).trans e4c⟩))))))))))))) (fun c32 => V.skip (V.region (VL.op (R.mvI rfl) (VL.op (R.add rfl rfl (by omega) (by omega)) (VL.op (R.asI rfl) (VL.nil (⟨k + 1, rfl, ⟨by omega, ?_, e2.trans e4c⟩, by omega⟩))))))))))))) (fun c12 => V.exit (V.seq (V.region (VL.op (R.asI rfl) (VL.nil (V.ret (fret1 (v := .int _ _) rfl rfl rfl (⟨?_, (e1.trans e2).trans (Mod.refl _ _)⟩)))))))))))))))))
  · exact decide_eq_decide.2 ⟨fun h => ⟨g4_8, h⟩, fun h => h.2⟩
  · exact (decide_eq_false fun h => g4_8 h.1).symm
  · have := find_at (fun k : Keep => decide (k.table = t ∧ k.col = col)) s.keeps k (by omega) hi (decide_eq_true c32)
    unfold ruleG; rw [this]
  · intro i hik
    by_cases h : i = k
    · subst h; exact decide_eq_false c32
    · exact hi i (by omega)
  · have := find_no (fun k : Keep => decide (k.table = t ∧ k.col = col)) s.keeps fun i h => hi i (by omega)
    unfold ruleG; rw [this]
def trustG (s : Set_) (r : Rec) : Int := if 0 ≤ r.key.src ∧ r.key.src < s.orgs.length then (s.orgs.getD r.key.src.toNat default).trust else 0
theorem trust_spec (s : Set_) (r : Rec) (w : World) (hl : s.orgs.length ≤ 9223372036854775807) (hS : SetW w s) : RetsP Try.prog 43 #[.agg (encSet s).toArray, .agg (encRec r).toArray] w (.int .i64 (trustG s r)) := by
  refine enter (args := [_, _]) Try.func43 rfl Try.ntmps43 (by kernel_rfl) rfl ?_
  refine V.seq (V.region (VL.box (v := .agg _) rfl fun b1 w1 hb1 e1 hX1 => VL.box (v := .agg _) rfl fun b2 w2 hb2 e2 hX2 => VL.op (R.asI rfl) (VL.nil (V.seq (V.seq (V.region (VL.op (R.fld' (o := 0) Try.runUnderlying53 rfl rfl Try.sizeOf50 rfl rfl) (VL.op (R.fld' (o := 0) Try.runUnderlying50 rfl rfl Try.sizeOf3 rfl rfl) (VL.op (R.ld1 Try.isAgg3 rfl ((hX2.cell _))) (VL.op (R.lss rfl rfl) (VL.op (R.mvB rfl) (VL.orP rfl rfl (fun g1_4 => VL.op (R.fld' (o := 0) Try.runUnderlying53 rfl rfl Try.sizeOf50 rfl rfl) (VL.gT rfl rfl (VL.op (R.fld' (o := 0) Try.runUnderlying50 rfl rfl Try.sizeOf3 rfl rfl) (VL.gT rfl rfl (VL.op (R.ld1 Try.isAgg3 rfl ((hX2.cell _))) (VL.gT rfl rfl (VL.op (R.fld' (o := 1) Try.runUnderlying32 rfl rfl Try.sizeOf25 rfl rfl) (VL.gT rfl rfl (VL.op (R.ld1 Try.isAgg25 rfl (((hX1.ext e2).cell _))) (VL.gT rfl rfl (VL.op (R.lenS Try.runUnderlying25 rfl) (VL.gT rfl rfl (VL.op (R.geq rfl rfl) (VL.op (R.pickFB rfl rfl) (VL.nil (V.condP rfl (fun c17 => V.seq (V.region (VL.op (R.asI rfl) (VL.nil (V.ret (fret1 (v := .int _ _) rfl rfl rfl (⟨?_, (e1.trans e2)⟩))))))) (fun c17 => V.skip (V.seq (V.region (VL.op (R.fld' (o := 1) Try.runUnderlying32 rfl rfl Try.sizeOf25 rfl rfl) (VL.op (R.ld1 Try.isAgg25 rfl (((hX1.ext e2).cell _))) (VL.op (R.fld' (o := 0) Try.runUnderlying53 rfl rfl Try.sizeOf50 rfl rfl) (VL.op (R.fld' (o := 0) Try.runUnderlying50 rfl rfl Try.sizeOf3 rfl rfl) (VL.op (R.ld1 Try.isAgg3 rfl ((hX2.cell _))) (VL.op (R.ixS Try.runUnderlying25 Try.sizeOf95 rfl rfl (by omega) (by omega) (hS.orgs.some (i := r.key.src.toNat) (by omega))) (VL.op (R.fld' (o := 1) Try.runUnderlying95 rfl rfl Try.sizeOf3 rfl rfl) (VL.op (R.ld1 Try.isAgg3 rfl (((((hS.ext (e1.trans e2)).orgs).row (i := r.key.src.toNat) (by omega)).cell (i := 1) rfl))) (VL.op (R.asI rfl) (VL.nil (V.ret (fret1 (v := .int _ _) rfl rfl rfl (⟨?_, (e1.trans e2)⟩)))))))))))))))))))))))))))))))) (fun g1_4 => VL.gF rfl rfl (VL.gF rfl rfl (VL.gF rfl rfl (VL.gF rfl rfl (VL.gF rfl rfl (VL.gF rfl rfl (VL.op (R.pickTB rfl rfl) (VL.nil (V.condT rfl (V.seq (V.region (VL.op (R.asI rfl) (VL.nil (V.ret (fret1 (v := .int _ _) rfl rfl rfl (⟨?_, (e1.trans e2)⟩))))))))))))))))))))))))))))
  · unfold trustG; rw [if_neg (by omega)]
  · unfold trustG; rw [if_pos (by omega)]
  · unfold trustG; rw [if_neg (by omega)]
end Go.Proofs.Ytckihgamnmmbnaa

/- Golden: columns. -/
namespace Go.Proofs.Ytckihgamnmmbnaa
open Go.Vc Go.Sort

def colL (recs : List Rec) (mem : List Int) (col : Int) : List Cell := mem.map fun m => (recs.getD m.toNat default).cells.getD col.toNat default
def colT (s : Set_) (recs : List Rec) (mem : List Int) : List Int := mem.map fun m => trustG s (recs.getD m.toNat default)
theorem map_take {α β : Type} [Inhabited α] (f : α → β) (l : List α) (k : Nat) (hk : k < l.length) : (l.take (k + 1)).map f = (l.take k).map f ++ [f (l.getD k default)] := by
  rw [List.take_succ_eq_append_getElem hk, List.map_append]
  simp [List.getD, hk]
/-- The members are records that have the column. -/
def colOk (recs : List Rec) (mem : List Int) (col : Int) : Prop := ∀ m ∈ mem, 0 ≤ m ∧ m.toNat < recs.length ∧ col.toNat < (recs.getD m.toNat default).cells.length
/-- The column and the trusts while they are gathered. -/
structure ColJ (s : Set_) (recs : List Rec) (mem : List Int) (col : Int) (w0 : World) (k : Nat) (x : (Option Addr × Nat) × (Option Addr × Nat)) (w : World) : Prop where
  e : Ext w0 w
  l : OwnT encCell 5 57 w0.heap.size w x.1.1 x.1.2 ((mem.take k).map fun m => (recs.getD m.toNat default).cells.getD col.toNat default)
  t : OwnT encI 1 3 w0.heap.size w x.2.1 x.2.2 ((mem.take k).map fun m => trustG s (recs.getD m.toNat default))
  sep : Sep x.1.1 x.2.1
set_option maxRecDepth 100000 in
set_option maxHeartbeats 4000000 in
theorem column_spec (e : Ent) (col : Int) (w : World) (h0 : 0 ≤ col) (hm : e.mem.length ≤ 1000000) (hr : e.recs.length ≤ 1000000) (hk : e.s.keeps.length ≤ 1000000) (ho : e.s.orgs.length ≤ 1000000) (hc : ∀ r ∈ e.recs, r.cells.length ≤ 1000000) (hE : EntW w e) (hok : colOk e.recs e.mem col) :
    RetsX Try.prog 40 #[.agg (encEnt e).toArray, .int .i64 col, .func (.func 41) #[] #[]] w (fun x : (Option Addr × Nat) => .tuple #[.slice x.1 e.mem.length x.2, .int .i64 (chooseF (ruleG e.s e.table col) (colL e.recs e.mem col) (colT e.s e.recs e.mem))]) (fun x w' => OwnT encCell 5 57 w.heap.size w' x.1 x.2 (colL e.recs e.mem col)) := by
  refine enter (args := [_, _, _]) Try.func40 rfl Try.ntmps40 (by kernel_rfl) rfl ?_
  refine V.seq (V.region (VL.box (v := .agg _) rfl fun b1 w1 hb1 e1 hX1 => VL.op (R.asS rfl) (VL.op (R.asI rfl) (VL.nil (V.seq (V.region (VL.op (R.asS rfl) (VL.nil (V.seq (V.region (VL.op (R.asS rfl) (VL.nil (V.seq (V.seq (V.region (VL.op (R.fld' (o := 9) Try.runUnderlying72 rfl rfl Try.sizeOf34 rfl rfl) (VL.op (R.ld1 Try.isAgg34 rfl ((hX1.cell _))) (VL.op (R.lenS Try.runUnderlying34 rfl) (VL.op (R.mvI rfl) (VL.nil (V.block (?_))))))))))))))))))))))
  have hE1 := hE.ext e1
  refine V.loop [1, 2, 3, 8, 9, 15, 16, 17] (fun x : Nat × (Option Addr × Nat) × (Option Addr × Nat) => [.int .i64 col, .func (.func 41) #[] #[], .pointer (some ⟨b1, 0, none⟩), .slice x.2.1.1 (((e.mem.take x.1).map fun m => (e.recs.getD m.toNat default).cells.getD col.toNat default)).length x.2.1.2, .slice x.2.2.1 (((e.mem.take x.1).map fun m => trustG e.s (e.recs.getD m.toNat default))).length x.2.2.2, .slice e.ma e.mem.length e.mc, .int .i64 e.mem.length, .int .i64 (x.1 : Nat)])
    (fun x w' => x.1 ≤ e.mem.length ∧ ColJ e.s e.recs e.mem col w1 x.1 x.2 w') (fun x => e.mem.length - x.1) (0, (none, 0), (none, 0)) rfl ⟨Nat.zero_le _, Mod.refl _ _, OwnT.nil encCell 5 57 _ _, OwnT.nil encI 1 3 _ _, Sep.nil _⟩ ?_
  rintro ρ ⟨k, ⟨a, ca⟩, ⟨b, cb⟩⟩ w2 ⟨hkm, hJ⟩
  dsimp only at hkm hJ ⊢
  have hE2 := hE1.ext hJ.e
  have hX2 := hX1.ext hJ.e
  have hl1 : (((e.mem.take k).map fun m => (e.recs.getD m.toNat default).cells.getD col.toNat default)).length = k := by simp; omega
  have hl2 : (((e.mem.take k).map fun m => trustG e.s (e.recs.getD m.toNat default))).length = k := by simp; omega
  have hmk : k < e.mem.length → 0 ≤ e.mem.getD k default ∧ (e.mem.getD k default).toNat < e.recs.length ∧ col.toNat < (e.recs.getD (e.mem.getD k default).toNat default).cells.length := fun h => hok _ (gmem h)
  obtain ⟨m, hmm⟩ : ∃ m, m = e.mem.getD k default := ⟨_, rfl⟩
  refine V.seq (V.region (VL.op (R.lss rfl rfl) (VL.nil (V.seq (V.condP rfl (fun c18 => V.skip (V.seq (V.block (V.seq (V.region (VL.op (R.ixS Try.runUnderlying34 Try.sizeOf3 rfl rfl (by omega) (by omega) ((hE2.mem).some (i := k) (by omega))) (VL.op (R.ld1 Try.isAgg3 rfl (((((hE2.mem).ext (Mod.refl _ _)).row (i := k) (by omega)).cell (i := 0) rfl))) (VL.op (R.asI rfl) (VL.nil (V.seq (V.region (VL.op (R.asI rfl) (VL.nil (V.cut [1, 2, 3, 8, 9, 11, 12, 15, 16, 17] (fun _ : Unit => [.int .i64 col, .func (.func 41) #[] #[], .pointer (some ⟨b1, 0, none⟩), .slice a (((e.mem.take k).map fun m => (e.recs.getD m.toNat default).cells.getD col.toNat default)).length ca, .slice b (((e.mem.take k).map fun m => trustG e.s (e.recs.getD m.toNat default))).length cb, .int .i64 (e.mem.getD k default), .int .i64 (trustG e.s (e.recs.getD (e.mem.getD k default).toNat default)), .slice e.ma e.mem.length e.mc, .int .i64 e.mem.length, .int .i64 (k : Nat)]) (fun _ w' => w' = w2 ∧ k < e.mem.length) (V.seq (V.region (VL.op (R.fld' (o := 8) Try.runUnderlying72 rfl rfl Try.sizeOf33 rfl rfl) (VL.op (R.ld1 Try.isAgg33 rfl (((hX2.ext (Mod.refl _ _)).cell 8))) (VL.op (R.mvI rfl) (VL.op (R.ixS Try.runUnderlying33 Try.sizeOf53 rfl rfl (by have := hmk (by omega); omega) (by have := hmk (by omega); omega) (hE2.recs.sl.some (i := (e.mem.getD k default).toNat) (by have := hmk (by omega); omega))) (VL.op (R.fld' (o := 0) Try.runUnderlying53 rfl rfl Try.sizeOf50 rfl rfl) (VL.op (R.fld' (o := 0) Try.runUnderlying50 rfl rfl Try.sizeOf3 rfl rfl) (VL.op (R.ld1 Try.isAgg3 rfl ((((hE2.recs.sl.ext (Mod.refl _ _)).row (i := (e.mem.getD k default).toNat) (by have := hmk (by omega); omega)).cell (i := 0) rfl))) (VL.op (R.asI rfl) (VL.nil (V.seq (V.region (VL.op (R.mvI rfl) (VL.op (R.geq rfl rfl) (VL.op (R.mvB rfl) (VL.andP rfl rfl (fun g8_2 => VL.op (R.mvI rfl) (VL.gT rfl rfl (VL.op (R.fld' (o := 0) Try.runUnderlying72 rfl rfl Try.sizeOf32 rfl rfl) (VL.gT rfl rfl (VL.op (R.fld' (o := 1) Try.runUnderlying32 rfl rfl Try.sizeOf25 rfl rfl) (VL.gT rfl rfl (VL.op (R.ld1 Try.isAgg25 rfl (((hX2.ext (Mod.refl _ _)).cell 1))) (VL.gT rfl rfl (VL.op (R.lenS Try.runUnderlying25 rfl) (VL.gT rfl rfl (VL.op (R.lss rfl rfl) (VL.op (R.pickTB rfl rfl) (VL.nil (V.condP rfl (fun c37 => V.region (VL.op (R.fld' (o := 0) Try.runUnderlying72 rfl rfl Try.sizeOf32 rfl rfl) (VL.op (R.fld' (o := 1) Try.runUnderlying32 rfl rfl Try.sizeOf25 rfl rfl) (VL.op (R.ld1 Try.isAgg25 rfl (((hX2.ext (Mod.refl _ _)).cell 1))) (VL.op (R.mvI rfl) (VL.op (R.ixS Try.runUnderlying25 Try.sizeOf95 rfl rfl (by omega) (by omega) (hE2.s.orgs.some (i := (e.recs.getD (e.mem.getD k default).toNat default).key.src.toNat) (by omega))) (VL.op (R.fld' (o := 1) Try.runUnderlying95 rfl rfl Try.sizeOf3 rfl rfl) (VL.op (R.ld1 Try.isAgg3 rfl ((((hE2.s.orgs.ext (Mod.refl _ _)).row (i := (e.recs.getD (e.mem.getD k default).toNat default).key.src.toNat) (by omega)).cell (i := 1) rfl))) (VL.op (R.asI rfl) (VL.nil (?_))))))))))) (fun c37 => V.skip (?_)))))))))))))))) (fun g8_2 => VL.gF rfl rfl (VL.gF rfl rfl (VL.gF rfl rfl (VL.gF rfl rfl (VL.gF rfl rfl (VL.op (R.pickFB rfl rfl) (VL.nil (V.condF rfl (V.skip (?_))))))))))))))))))))))))))) (fun rgC37 xC37 wBC37 hBC37 => ?_))))))))))))))) (fun c18 => V.exit (V.seq (?_))))))))
  · refine ⟨(), ?_, rfl, by omega⟩
    unfold trustG
    rw [if_pos ⟨g8_2, c37⟩]; rfl
  · refine ⟨(), ?_, rfl, by omega⟩
    unfold trustG
    rw [if_neg (fun h => c37 h.2)]; rfl
  · refine ⟨(), ?_, rfl, by omega⟩
    unfold trustG
    rw [if_neg (fun h => g8_2 h.1)]; rfl
  · obtain ⟨hw, hkl⟩ := hBC37
    subst hw
    have n1 := map_take (fun m : Int => (e.recs.getD m.toNat default).cells.getD col.toNat default) e.mem k hkl
    have n2 := map_take (fun m : Int => trustG e.s (e.recs.getD m.toNat default)) e.mem k hkl
    have hmk := hmk hkl
    rw [← hmm] at hmk n1 n2 ⊢
    obtain ⟨hm0, hm1, hm2⟩ := hmk
    have hcl := hE2.recs.cell hm1
    have hc5 := hc _ (gmem hm1)
    have ol := hJ.l
    have ot := hJ.t
    have hsz := hJ.e.size
    obtain ⟨L, hL⟩ : ∃ L, L = (e.mem.take k).map fun m => (e.recs.getD m.toNat default).cells.getD col.toNat default := ⟨_, rfl⟩
    obtain ⟨T, hT⟩ : ∃ T, T = (e.mem.take k).map fun m => trustG e.s (e.recs.getD m.toNat default) := ⟨_, rfl⟩
    rw [← hL] at ol hl1 n1 ⊢
    rw [← hT] at ot hl2 n2 ⊢
    refine V.region (VL.op (R.mvS rfl) (VL.op (R.fld' (o := 8) Try.runUnderlying72 rfl rfl Try.sizeOf33 rfl rfl) (VL.op (R.ld1 Try.isAgg33 rfl (((hX2.ext (Mod.refl _ _)).cell 8))) (VL.op (R.mvI rfl) (VL.op (R.ixS Try.runUnderlying33 Try.sizeOf53 rfl rfl (by omega) (by omega) (hE2.recs.sl.some (i := m.toNat) (by omega))) (VL.op (R.fld' (o := 5) Try.runUnderlying53 rfl rfl Try.sizeOf51 rfl rfl) (VL.op (R.ld1 Try.isAgg51 rfl ((((hE2.recs.sl.ext (Mod.refl _ _)).row (i := m.toNat) (by omega)).cell (i := 5) rfl))) (VL.op (R.mvI rfl) (VL.op (R.ixS Try.runUnderlying51 Try.sizeOf57 rfl rfl (by omega) (by omega) (hcl.some (i := col.toNat) (by omega))) (VL.op (R.ldA Try.isAgg57 Try.sizeOf57 rfl rfl ((show RowAt _ _ _ (encCell ((e.recs.getD m.toNat default).cells.getD col.toNat default)) from ((hcl.ext (Mod.refl _ _)).row (i := col.toNat) (by omega)))) rfl) (VL.append1 el51 Try.runUnderlying51 Try.sizeOf57 Try.zeroValue57 rfl ((e.recs.getD m.toNat default).cells.getD col.toNat default) rfl rfl rfl ol rfl rfl rfl (by omega) (by unfold maxLen; omega) (by omega) fun a5 ca5 w5 vt5 ho5 m5 hf5 => VL.op (R.mvS rfl) (VL.op (R.mvI rfl) (VL.append1 el34 Try.runUnderlying34 Try.sizeOf3 Try.zeroValue3 rfl (trustG e.s (e.recs.getD m.toNat default)) rfl rfl rfl (ot.mod m5 hJ.sep.symm) rfl rfl rfl (by omega) (by unfold maxLen; omega) (by have := m5.size; omega) fun a6 ca6 w6 vt6 ho6 m6 hf6 => VL.op (R.asS rfl) (VL.op (R.asS rfl) (VL.nil (V.region (VL.op (R.add rfl rfl (by omega) (by omega)) (VL.op (R.mvI rfl) (VL.nil (?_))))))))))))))))))))
    refine ⟨(k + 1, (a5, ca5), (a6, ca6)), ?_, ⟨by dsimp only; omega, Mod.ownA (Mod.ownA hJ.e m5 ol.ge) m6 ot.ge, ?_, ?_, ?_⟩, by dsimp only; omega⟩
    · dsimp only; rw [n1, n2, List.length_append, List.length_append]; rfl
    · dsimp only; rw [n1]; exact ho5.mod m6 fun y h1 h2 => by
        rcases hf5 y h1 with h | h
        · exact hJ.sep y h h2
        · have := ot.lt y h2; omega
    · dsimp only; rw [n2]; exact ho6
    · dsimp only
      have s1 : Sep a5 b := hJ.sep.grown hf5 fun y hy => ot.lt y hy
      exact (s1.symm.grown hf6 fun y hy => ho5.lt y hy).symm
  · have hkm : k = e.mem.length := by omega
    subst hkm
    have ol := hJ.l
    have ot := hJ.t
    rw [List.take_length] at ol ot
    have hl1 : (colL e.recs e.mem col).length = e.mem.length := by simp [colL]
    have hl2 : (colT e.s e.recs e.mem).length = e.mem.length := by simp [colT]
    have ol : OwnT encCell 5 57 w1.heap.size w2 a ca (colL e.recs e.mem col) := ol
    have ot : OwnT encI 1 3 w1.heap.size w2 b cb (colT e.s e.recs e.mem) := ot
    have hsz := e1.size
    rw [List.take_length]
    rw [show ((e.mem.map fun m => (e.recs.getD m.toNat default).cells.getD col.toNat default)).length = (colL e.recs e.mem col).length from rfl, show ((e.mem.map fun m => trustG e.s (e.recs.getD m.toNat default))).length = (colT e.s e.recs e.mem).length from rfl]
    have E := e1.trans hJ.e
    refine V.region (VL.op (R.mvS rfl) (VL.op (R.mvF rfl) (VL.op (R.ldA Try.isAgg72 Try.sizeOf72 rfl rfl ((show RowAt _ _ _ (encEnt e) from (hX2.ext (Mod.refl _ _)).rowAt 0 10)) rfl) (VL.op (R.mvI rfl) (VL.callP Try.call54 rfl (rule_spec' e col _ (by omega) (hE2.ext (Mod.refl _ _))) fun w12_4 e12_4 => VL.op (R.mvS rfl) (VL.op (R.mvS rfl) (VL.callCP rfl (Try.call41) rfl (choose_spec (ruleG e.s e.table col) a b ca cb (colL e.recs e.mem col) (colT e.s e.recs e.mem) _ (by omega) (by omega) (ol.sl.ext e12_4) (ot.sl.ext e12_4)) fun w12_7 e12_7 => VL.op (R.asS rfl) (VL.op (R.asI rfl) (VL.nil (V.ret (fret2 (v := .slice _ _ _) (x := .int _ _) rfl rfl rfl rfl rfl (⟨(a, ca), by rw [hl1], (ol.weaken hsz).ext (e12_4.trans e12_7), E.trans (e12_4.trans e12_7)⟩))))))))))))
set_option maxRecDepth 100000 in
set_option maxHeartbeats 4000000 in
theorem columns_spec (e : Ent) (col : Int) (w : World) (h0 : 0 ≤ col) (hm : e.mem.length ≤ 1000000) (hr : e.recs.length ≤ 1000000) (hk : e.s.keeps.length ≤ 1000000) (ho : e.s.orgs.length ≤ 1000000) (hc : ∀ r ∈ e.recs, r.cells.length ≤ 1000000) (hE : EntW w e) (hok : colOk e.recs e.mem col) :
    RetsX Try.prog 48 #[.agg (encEnt e).toArray, .int .i64 col, .func (.func 49) #[] #[]] w (fun x : (Option Addr × Nat) × (Option Addr × Nat) => .tuple #[.slice x.1.1 e.mem.length x.1.2, .slice x.2.1 (othersF (ruleG e.s e.table col) (colL e.recs e.mem col) (colT e.s e.recs e.mem)).length x.2.2]) (fun x w' => OwnT encCell 5 57 w.heap.size w' x.1.1 x.1.2 (colL e.recs e.mem col) ∧ OwnT encI 1 3 w.heap.size w' x.2.1 x.2.2 (othersF (ruleG e.s e.table col) (colL e.recs e.mem col) (colT e.s e.recs e.mem))) := by
  refine enter (args := [_, _, _]) Try.func48 rfl Try.ntmps48 (by kernel_rfl) rfl ?_
  refine V.seq (V.region (VL.box (v := .agg _) rfl fun b1 w1 hb1 e1 hX1 => VL.op (R.asS rfl) (VL.op (R.asS rfl) (VL.nil (V.seq (V.region (VL.op (R.asS rfl) (VL.nil (V.seq (V.region (VL.op (R.asS rfl) (VL.nil (V.seq (V.seq (V.region (VL.op (R.fld' (o := 9) Try.runUnderlying72 rfl rfl Try.sizeOf34 rfl rfl) (VL.op (R.ld1 Try.isAgg34 rfl ((hX1.cell _))) (VL.op (R.lenS Try.runUnderlying34 rfl) (VL.op (R.mvI rfl) (VL.nil (V.block (?_))))))))))))))))))))))
  have hE1 := hE.ext e1
  refine V.loop [1, 2, 3, 8, 9, 15, 16, 17] (fun x : Nat × (Option Addr × Nat) × (Option Addr × Nat) => [.int .i64 col, .func (.func 49) #[] #[], .pointer (some ⟨b1, 0, none⟩), .slice x.2.1.1 (((e.mem.take x.1).map fun m => (e.recs.getD m.toNat default).cells.getD col.toNat default)).length x.2.1.2, .slice x.2.2.1 (((e.mem.take x.1).map fun m => trustG e.s (e.recs.getD m.toNat default))).length x.2.2.2, .slice e.ma e.mem.length e.mc, .int .i64 e.mem.length, .int .i64 (x.1 : Nat)])
    (fun x w' => x.1 ≤ e.mem.length ∧ ColJ e.s e.recs e.mem col w1 x.1 x.2 w') (fun x => e.mem.length - x.1) (0, (none, 0), (none, 0)) rfl ⟨Nat.zero_le _, Mod.refl _ _, OwnT.nil encCell 5 57 _ _, OwnT.nil encI 1 3 _ _, Sep.nil _⟩ ?_
  rintro ρ ⟨k, ⟨a, ca⟩, ⟨b, cb⟩⟩ w2 ⟨hkm, hJ⟩
  dsimp only at hkm hJ ⊢
  have hE2 := hE1.ext hJ.e
  have hX2 := hX1.ext hJ.e
  have hl1 : (((e.mem.take k).map fun m => (e.recs.getD m.toNat default).cells.getD col.toNat default)).length = k := by simp; omega
  have hl2 : (((e.mem.take k).map fun m => trustG e.s (e.recs.getD m.toNat default))).length = k := by simp; omega
  have hmk : k < e.mem.length → 0 ≤ e.mem.getD k default ∧ (e.mem.getD k default).toNat < e.recs.length ∧ col.toNat < (e.recs.getD (e.mem.getD k default).toNat default).cells.length := fun h => hok _ (gmem h)
  obtain ⟨m, hmm⟩ : ∃ m, m = e.mem.getD k default := ⟨_, rfl⟩
  refine V.seq (V.region (VL.op (R.lss rfl rfl) (VL.nil (V.seq (V.condP rfl (fun c18 => V.skip (V.seq (V.block (V.seq (V.region (VL.op (R.ixS Try.runUnderlying34 Try.sizeOf3 rfl rfl (by omega) (by omega) ((hE2.mem).some (i := k) (by omega))) (VL.op (R.ld1 Try.isAgg3 rfl (((((hE2.mem).ext (Mod.refl _ _)).row (i := k) (by omega)).cell (i := 0) rfl))) (VL.op (R.asI rfl) (VL.nil (V.seq (V.region (VL.op (R.asI rfl) (VL.nil (V.cut [1, 2, 3, 8, 9, 11, 12, 15, 16, 17] (fun _ : Unit => [.int .i64 col, .func (.func 49) #[] #[], .pointer (some ⟨b1, 0, none⟩), .slice a (((e.mem.take k).map fun m => (e.recs.getD m.toNat default).cells.getD col.toNat default)).length ca, .slice b (((e.mem.take k).map fun m => trustG e.s (e.recs.getD m.toNat default))).length cb, .int .i64 (e.mem.getD k default), .int .i64 (trustG e.s (e.recs.getD (e.mem.getD k default).toNat default)), .slice e.ma e.mem.length e.mc, .int .i64 e.mem.length, .int .i64 (k : Nat)]) (fun _ w' => w' = w2 ∧ k < e.mem.length) (V.seq (V.region (VL.op (R.fld' (o := 8) Try.runUnderlying72 rfl rfl Try.sizeOf33 rfl rfl) (VL.op (R.ld1 Try.isAgg33 rfl (((hX2.ext (Mod.refl _ _)).cell 8))) (VL.op (R.mvI rfl) (VL.op (R.ixS Try.runUnderlying33 Try.sizeOf53 rfl rfl (by have := hmk (by omega); omega) (by have := hmk (by omega); omega) (hE2.recs.sl.some (i := (e.mem.getD k default).toNat) (by have := hmk (by omega); omega))) (VL.op (R.fld' (o := 0) Try.runUnderlying53 rfl rfl Try.sizeOf50 rfl rfl) (VL.op (R.fld' (o := 0) Try.runUnderlying50 rfl rfl Try.sizeOf3 rfl rfl) (VL.op (R.ld1 Try.isAgg3 rfl ((((hE2.recs.sl.ext (Mod.refl _ _)).row (i := (e.mem.getD k default).toNat) (by have := hmk (by omega); omega)).cell (i := 0) rfl))) (VL.op (R.asI rfl) (VL.nil (V.seq (V.region (VL.op (R.mvI rfl) (VL.op (R.geq rfl rfl) (VL.op (R.mvB rfl) (VL.andP rfl rfl (fun g8_2 => VL.op (R.mvI rfl) (VL.gT rfl rfl (VL.op (R.fld' (o := 0) Try.runUnderlying72 rfl rfl Try.sizeOf32 rfl rfl) (VL.gT rfl rfl (VL.op (R.fld' (o := 1) Try.runUnderlying32 rfl rfl Try.sizeOf25 rfl rfl) (VL.gT rfl rfl (VL.op (R.ld1 Try.isAgg25 rfl (((hX2.ext (Mod.refl _ _)).cell 1))) (VL.gT rfl rfl (VL.op (R.lenS Try.runUnderlying25 rfl) (VL.gT rfl rfl (VL.op (R.lss rfl rfl) (VL.op (R.pickTB rfl rfl) (VL.nil (V.condP rfl (fun c37 => V.region (VL.op (R.fld' (o := 0) Try.runUnderlying72 rfl rfl Try.sizeOf32 rfl rfl) (VL.op (R.fld' (o := 1) Try.runUnderlying32 rfl rfl Try.sizeOf25 rfl rfl) (VL.op (R.ld1 Try.isAgg25 rfl (((hX2.ext (Mod.refl _ _)).cell 1))) (VL.op (R.mvI rfl) (VL.op (R.ixS Try.runUnderlying25 Try.sizeOf95 rfl rfl (by omega) (by omega) (hE2.s.orgs.some (i := (e.recs.getD (e.mem.getD k default).toNat default).key.src.toNat) (by omega))) (VL.op (R.fld' (o := 1) Try.runUnderlying95 rfl rfl Try.sizeOf3 rfl rfl) (VL.op (R.ld1 Try.isAgg3 rfl ((((hE2.s.orgs.ext (Mod.refl _ _)).row (i := (e.recs.getD (e.mem.getD k default).toNat default).key.src.toNat) (by omega)).cell (i := 1) rfl))) (VL.op (R.asI rfl) (VL.nil (?_))))))))))) (fun c37 => V.skip (?_)))))))))))))))) (fun g8_2 => VL.gF rfl rfl (VL.gF rfl rfl (VL.gF rfl rfl (VL.gF rfl rfl (VL.gF rfl rfl (VL.op (R.pickFB rfl rfl) (VL.nil (V.condF rfl (V.skip (?_))))))))))))))))))))))))))) (fun rgC37 xC37 wBC37 hBC37 => ?_))))))))))))))) (fun c18 => V.exit (V.seq (?_))))))))
  · refine ⟨(), ?_, rfl, by omega⟩
    unfold trustG
    rw [if_pos ⟨g8_2, c37⟩]; rfl
  · refine ⟨(), ?_, rfl, by omega⟩
    unfold trustG
    rw [if_neg (fun h => c37 h.2)]; rfl
  · refine ⟨(), ?_, rfl, by omega⟩
    unfold trustG
    rw [if_neg (fun h => g8_2 h.1)]; rfl
  · obtain ⟨hw, hkl⟩ := hBC37
    subst hw
    have n1 := map_take (fun m : Int => (e.recs.getD m.toNat default).cells.getD col.toNat default) e.mem k hkl
    have n2 := map_take (fun m : Int => trustG e.s (e.recs.getD m.toNat default)) e.mem k hkl
    have hmk := hmk hkl
    rw [← hmm] at hmk n1 n2 ⊢
    obtain ⟨hm0, hm1, hm2⟩ := hmk
    have hcl := hE2.recs.cell hm1
    have hc5 := hc _ (gmem hm1)
    have ol := hJ.l
    have ot := hJ.t
    have hsz := hJ.e.size
    obtain ⟨L, hL⟩ : ∃ L, L = (e.mem.take k).map fun m => (e.recs.getD m.toNat default).cells.getD col.toNat default := ⟨_, rfl⟩
    obtain ⟨T, hT⟩ : ∃ T, T = (e.mem.take k).map fun m => trustG e.s (e.recs.getD m.toNat default) := ⟨_, rfl⟩
    rw [← hL] at ol hl1 n1 ⊢
    rw [← hT] at ot hl2 n2 ⊢
    refine V.region (VL.op (R.mvS rfl) (VL.op (R.fld' (o := 8) Try.runUnderlying72 rfl rfl Try.sizeOf33 rfl rfl) (VL.op (R.ld1 Try.isAgg33 rfl (((hX2.ext (Mod.refl _ _)).cell 8))) (VL.op (R.mvI rfl) (VL.op (R.ixS Try.runUnderlying33 Try.sizeOf53 rfl rfl (by omega) (by omega) (hE2.recs.sl.some (i := m.toNat) (by omega))) (VL.op (R.fld' (o := 5) Try.runUnderlying53 rfl rfl Try.sizeOf51 rfl rfl) (VL.op (R.ld1 Try.isAgg51 rfl ((((hE2.recs.sl.ext (Mod.refl _ _)).row (i := m.toNat) (by omega)).cell (i := 5) rfl))) (VL.op (R.mvI rfl) (VL.op (R.ixS Try.runUnderlying51 Try.sizeOf57 rfl rfl (by omega) (by omega) (hcl.some (i := col.toNat) (by omega))) (VL.op (R.ldA Try.isAgg57 Try.sizeOf57 rfl rfl ((show RowAt _ _ _ (encCell ((e.recs.getD m.toNat default).cells.getD col.toNat default)) from ((hcl.ext (Mod.refl _ _)).row (i := col.toNat) (by omega)))) rfl) (VL.append1 el51 Try.runUnderlying51 Try.sizeOf57 Try.zeroValue57 rfl ((e.recs.getD m.toNat default).cells.getD col.toNat default) rfl rfl rfl ol rfl rfl rfl (by omega) (by unfold maxLen; omega) (by omega) fun a5 ca5 w5 vt5 ho5 m5 hf5 => VL.op (R.mvS rfl) (VL.op (R.mvI rfl) (VL.append1 el34 Try.runUnderlying34 Try.sizeOf3 Try.zeroValue3 rfl (trustG e.s (e.recs.getD m.toNat default)) rfl rfl rfl (ot.mod m5 hJ.sep.symm) rfl rfl rfl (by omega) (by unfold maxLen; omega) (by have := m5.size; omega) fun a6 ca6 w6 vt6 ho6 m6 hf6 => VL.op (R.asS rfl) (VL.op (R.asS rfl) (VL.nil (V.region (VL.op (R.add rfl rfl (by omega) (by omega)) (VL.op (R.mvI rfl) (VL.nil (?_))))))))))))))))))))
    refine ⟨(k + 1, (a5, ca5), (a6, ca6)), ?_, ⟨by dsimp only; omega, Mod.ownA (Mod.ownA hJ.e m5 ol.ge) m6 ot.ge, ?_, ?_, ?_⟩, by dsimp only; omega⟩
    · dsimp only; rw [n1, n2, List.length_append, List.length_append]; rfl
    · dsimp only; rw [n1]; exact ho5.mod m6 fun y h1 h2 => by
        rcases hf5 y h1 with h | h
        · exact hJ.sep y h h2
        · have := ot.lt y h2; omega
    · dsimp only; rw [n2]; exact ho6
    · dsimp only
      have s1 : Sep a5 b := hJ.sep.grown hf5 fun y hy => ot.lt y hy
      exact (s1.symm.grown hf6 fun y hy => ho5.lt y hy).symm
  · have hkm : k = e.mem.length := by omega
    subst hkm
    have ol := hJ.l
    have ot := hJ.t
    rw [List.take_length] at ol ot
    have hl1 : (colL e.recs e.mem col).length = e.mem.length := by simp [colL]
    have hl2 : (colT e.s e.recs e.mem).length = e.mem.length := by simp [colT]
    have ol : OwnT encCell 5 57 w1.heap.size w2 a ca (colL e.recs e.mem col) := ol
    have ot : OwnT encI 1 3 w1.heap.size w2 b cb (colT e.s e.recs e.mem) := ot
    have hsz := e1.size
    rw [List.take_length]
    rw [show ((e.mem.map fun m => (e.recs.getD m.toNat default).cells.getD col.toNat default)).length = (colL e.recs e.mem col).length from rfl, show ((e.mem.map fun m => trustG e.s (e.recs.getD m.toNat default))).length = (colT e.s e.recs e.mem).length from rfl]
    have E := e1.trans hJ.e
    refine V.region (VL.op (R.mvS rfl) (VL.op (R.mvF rfl) (VL.op (R.ldA Try.isAgg72 Try.sizeOf72 rfl rfl ((show RowAt _ _ _ (encEnt e) from (hX2.ext (Mod.refl _ _)).rowAt 0 10)) rfl) (VL.op (R.mvI rfl) (VL.callP Try.call54 rfl (rule_spec' e col _ (by omega) (hE2.ext (Mod.refl _ _))) fun w12_4 e12_4 => VL.op (R.mvS rfl) (VL.op (R.mvS rfl) (VL.callCY rfl (Try.call49) rfl (others_spec (ruleG e.s e.table col) a b ca cb (colL e.recs e.mem col) (colT e.s e.recs e.mem) _ (by omega) (by omega) (ol.sl.ext e12_4) (ot.sl.ext e12_4)) fun y w7 ⟨hy, e7⟩ => VL.op (R.asS rfl) (VL.op (R.asS rfl) (VL.nil (V.ret (fret2 (v := .slice _ _ _) (x := .slice _ _ _) rfl rfl rfl rfl rfl (⟨((a, ca), y), by rw [hl1], ⟨(ol.weaken hsz).ext (e12_4.trans e7), hy.weaken (by have := hJ.e.size; have := e12_4.size; omega)⟩, E.trans (e12_4.trans e7)⟩))))))))))))
end Go.Proofs.Ytckihgamnmmbnaa

/- Golden: the reference's columns. -/
namespace Go.Proofs.Ytckihgamnmmbnaa
open Go.Vc Go.Sort
set_option maxRecDepth 100000 in
set_option maxHeartbeats 4000000 in
theorem rcolumn_spec (s : Set_) (recs : List Rec) (mem : List Int) (col : Int) (ra ma : Option Addr) (rc mc : Nat) (w : World) (h0 : 0 ≤ col) (hm : mem.length ≤ 1000000) (hr : recs.length ≤ 1000000) (ho : s.orgs.length ≤ 1000000) (hc : ∀ r ∈ recs, r.cells.length ≤ 1000000) (hS : SetW w s) (hR : RecsW w ra recs) (hM : IntSl w ma mem) (hok : colOk recs mem col) :
    RetsX Try.prog 28 #[.agg (encSet s).toArray, .slice ra recs.length rc, .slice ma mem.length mc, .int .i64 col] w (fun x : (Option Addr × Nat) × (Option Addr × Nat) => .tuple #[.slice x.1.1 (colL recs mem col).length x.1.2, .slice x.2.1 (colT s recs mem).length x.2.2])
      (fun x w' => CellSl w' x.1.1 (colL recs mem col) ∧ IntSl w' x.2.1 (colT s recs mem) ∧ ∀ k, aBlk x.1.1 k → w.heap.size ≤ k) := by
  refine enter (args := [_, _, _, _]) Try.func28 rfl Try.ntmps28 (by kernel_rfl) rfl ?_
  refine V.seq (V.region (VL.box (v := .agg _) rfl fun b1 w1 hb1 e1 hX1 => VL.op (R.asS rfl) (VL.op (R.asS rfl) (VL.nil (V.seq (V.region (VL.op (R.asS rfl) (VL.nil (V.seq (V.region (VL.op (R.asS rfl) (VL.nil (V.seq (V.seq (V.region (VL.op (R.asI rfl) (VL.nil (V.block (?_)))))))))))))))))))
  have hS1 := hS.ext e1
  have hR1 := hR.ext e1
  have hM1 := hM.ext e1
  refine V.loop [1, 2, 3, 4, 10, 11, 12] (fun x : Nat × (Option Addr × Nat) × (Option Addr × Nat) => [.slice ra recs.length rc, .slice ma mem.length mc, .int .i64 col, .pointer (some ⟨b1, 0, none⟩), .slice x.2.1.1 ((mem.take x.1).map fun m => (recs.getD m.toNat default).cells.getD col.toNat default).length x.2.1.2, .slice x.2.2.1 ((mem.take x.1).map fun m => trustG s (recs.getD m.toNat default)).length x.2.2.2, .int .i64 (x.1 : Nat)])
    (fun x w' => x.1 ≤ mem.length ∧ ColJ s recs mem col w1 x.1 x.2 w') (fun x => mem.length - x.1) (0, (none, 0), (none, 0)) rfl ⟨Nat.zero_le _, Mod.refl _ _, OwnT.nil encCell 5 57 _ _, OwnT.nil encI 1 3 _ _, Sep.nil _⟩ ?_
  rintro ρ ⟨k, ⟨a, ca⟩, ⟨b, cb⟩⟩ w2 ⟨hkm, hJ⟩
  dsimp only at hkm hJ ⊢
  have hS2 := hS1.ext hJ.e
  have hR2 := hR1.ext hJ.e
  have hM2 := hM1.ext hJ.e
  have hX2 := hX1.ext hJ.e
  have hl1 : ((mem.take k).map fun m => (recs.getD m.toNat default).cells.getD col.toNat default).length = k := by simp; omega
  have hl2 : ((mem.take k).map fun m => trustG s (recs.getD m.toNat default)).length = k := by simp; omega
  refine V.seq (V.seq (V.region (VL.op (R.mvI rfl) (VL.op (R.mvS rfl) (VL.op (R.lenS Try.runUnderlying34 rfl) (VL.op (R.lss rfl rfl) (VL.nil (V.condP rfl (fun c16 => V.skip (V.seq (V.block (V.seq (?_))))) (fun c16 => V.exit (V.seq (V.region (VL.op (R.mvS rfl) (VL.op (R.mvS rfl) (VL.op (R.asS rfl) (VL.op (R.asS rfl) (VL.nil (V.ret (fret2 (v := .slice _ _ _) (x := .slice _ _ _) rfl rfl rfl rfl rfl (?_)))))))))))))))))))
  · have hkl : k < mem.length := by omega
    have n1 := map_take (fun m : Int => (recs.getD m.toNat default).cells.getD col.toNat default) mem k hkl
    have n2 := map_take (fun m : Int => trustG s (recs.getD m.toNat default)) mem k hkl
    have hmk := hok _ (gmem hkl)
    obtain ⟨hm0, hm1, hm2⟩ := hmk
    have hcl := hR2.cell hm1
    have hc5 := hc _ (gmem hm1)
    have ol := hJ.l
    have ot := hJ.t
    have hsz := hJ.e.size
    obtain ⟨L, hL⟩ : ∃ L, L = (mem.take k).map fun m => (recs.getD m.toNat default).cells.getD col.toNat default := ⟨_, rfl⟩
    obtain ⟨T, hT⟩ : ∃ T, T = (mem.take k).map fun m => trustG s (recs.getD m.toNat default) := ⟨_, rfl⟩
    rw [← hL] at ol hl1 n1 ⊢
    rw [← hT] at ot hl2 n2 ⊢
    refine V.region (VL.op (R.mvS rfl) (VL.op (R.mvS rfl) (VL.op (R.mvS rfl) (VL.op (R.mvI rfl) (VL.op (R.ixS Try.runUnderlying34 Try.sizeOf3 rfl rfl (by omega) (by omega) ((hM2).some (i := k) (by omega))) (VL.op (R.ld1 Try.isAgg3 rfl (((((hM2).ext (Mod.refl _ _)).row (i := k) (by omega)).cell (i := 0) rfl))) (VL.op (R.ixS Try.runUnderlying33 Try.sizeOf53 rfl rfl (by omega) (by omega) (hR2.sl.some (i := (mem.getD k default).toNat) (by omega))) (VL.op (R.fld' (o := 5) Try.runUnderlying53 rfl rfl Try.sizeOf51 rfl rfl) (VL.op (R.ld1 Try.isAgg51 rfl ((((hR2.sl.ext (Mod.refl _ _)).row (i := (mem.getD k default).toNat) (by omega)).cell (i := 5) rfl))) (VL.op (R.mvI rfl) (VL.op (R.ixS Try.runUnderlying51 Try.sizeOf57 rfl rfl (by omega) (by omega) (hcl.some (i := col.toNat) (by omega))) (VL.op (R.ldA Try.isAgg57 Try.sizeOf57 rfl rfl ((show RowAt _ _ _ (encCell ((recs.getD (mem.getD k default).toNat default).cells.getD col.toNat default)) from ((hcl.ext (Mod.refl _ _)).row (i := col.toNat) (by omega)))) rfl) (VL.append1 el51 Try.runUnderlying51 Try.sizeOf57 Try.zeroValue57 rfl ((recs.getD (mem.getD k default).toNat default).cells.getD col.toNat default) rfl rfl rfl ol rfl rfl rfl (by omega) (by unfold maxLen; omega) (by omega) fun a5 ca5 w5 vt5 ho5 m5 hf5 => VL.op (R.asS rfl) (VL.nil (?_)))))))))))))))
    have E5 : Ext w1 w5 := Mod.ownA hJ.e m5 ol.ge
    have hX5 := hX1.ext E5
    have hR5 := hR1.ext E5
    have hS5 := hS1.ext E5
    have ot5 := ot.mod m5 hJ.sep.symm
    refine V.regionB1 mixed 10 (by kernel_rfl) rfl Try.runUnderlying34 Try.sizeOf3 Try.zeroValue3 rfl rfl rfl (trustG s (recs.getD (mem.getD k default).toNat default)) rfl rfl rfl (VN.op (fun wq eq => R.mvS rfl) (VN.op (fun wq eq => R.ldA Try.isAgg32 Try.sizeOf32 rfl rfl ((show RowAt _ _ _ (encSet s) from (hX5.ext eq).rowAt 0 7)) rfl) (VN.op (fun wq eq => R.mvS rfl) (VN.op (fun wq eq => R.mvS rfl) (VN.op (fun wq eq => R.mvI rfl) (VN.op (fun wq eq => R.ixS Try.runUnderlying34 Try.sizeOf3 rfl rfl (by omega) (by omega) ((hM1.ext E5).some (i := k) (by omega))) (VN.op (fun wq eq => R.ld1 Try.isAgg3 rfl (((((hM1.ext E5).ext eq).row (i := k) (by omega)).cell (i := 0) rfl))) (VN.op (fun wq eq => R.ixS Try.runUnderlying33 Try.sizeOf53 rfl rfl (by omega) (by omega) (hR5.sl.some (i := (mem.getD k default).toNat) (by omega))) (VN.op (fun wq eq => R.ldA Try.isAgg53 Try.sizeOf53 rfl rfl ((show RowAt _ _ _ (encRec (recs.getD (mem.getD k default).toNat default)) from ((hR5.sl.ext eq).row (i := (mem.getD k default).toNat) (by omega)))) rfl) (VN.callP Try.call43 rfl (fun wq eq => trust_spec s (recs.getD (mem.getD k default).toNat default) _ (by omega) (hS5.ext eq)) (VN.nil ⟨rfl, fun b8 w8 e8 hO8 => VL.appendT el34 (fun _ => rfl) rfl (rfl) ((ot5.ext e8)) rfl ( (show 1 = [trustG s (recs.getD (mem.getD k default).toNat default)].length from rfl)) ((OwnT.sl hO8)) ((fun h => by cases h)) (by simp; omega) (by simp [maxLen]; omega) (by have := E5.size; have := e8.size; omega) rfl fun a9 ca9 w9 ho9 m9 hf9 => VL.op (R.asS rfl) (VL.nil (V.region (VL.op (R.mvI rfl) (VL.op (R.add rfl rfl (by omega) (by omega)) (VL.op (R.asI rfl) (VL.nil (?_)))))))⟩)))))))))))
    refine ⟨(k + 1, (a5, ca5), (a9, ca9)), ?_, ⟨by dsimp only; omega, Mod.ownA (E5.trans e8) m9 ot5.ge, ?_, ?_, ?_⟩, by dsimp only; omega⟩
    · dsimp only; rw [n1, n2, List.length_append, List.length_append]; rfl
    · dsimp only; rw [n1]; exact (ho5.ext e8).mod m9 fun y h1 h2 => by
        rcases hf5 y h1 with h | h
        · exact hJ.sep y h h2
        · have := ot.lt y h2; omega
    · dsimp only; rw [n2]; exact ho9
    · dsimp only
      have s1 : Sep a5 b := hJ.sep.grown hf5 fun y hy => ot.lt y hy
      exact (s1.symm.grown hf9 fun y hy => (ho5.ext e8).lt y hy).symm
  · have hkm : k = mem.length := by omega
    subst hkm
    have ol := hJ.l
    have ot := hJ.t
    rw [List.take_length] at ol ot
    exact ⟨((a, ca), (b, cb)), by rw [List.take_length]; rfl, ⟨ol.sl, ot.sl, fun q hq => by have := ol.ge q hq; have := e1.size; omega⟩, e1.trans hJ.e⟩
end Go.Proofs.Ytckihgamnmmbnaa
