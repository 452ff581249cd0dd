/- Own library: what becomes of the world; rows of cells; slices that are read. -/
import Derived.Test.YtbckofoibdljgaaVcAny
namespace Go.Vc

/-- Blocks outside 'S' are as they were; none has gone. -/
structure Mod (S : Nat → Prop) (w w' : World) : Prop where
  os : w'.os = w.os
  tape : w'.tape = w.tape
  output : w'.output = w.output
  drawn : w.drawn ≤ w'.drawn
  size : w.heap.size ≤ w'.heap.size
  blk : ∀ b, b < w.heap.size → ¬ S b → w'.heap[b]? = w.heap[b]?
def nob : Nat → Prop := fun _ => False
def one (b : Nat) : Nat → Prop := fun k => k = b
abbrev Ext (w w' : World) : Prop := Mod nob w w'

theorem Mod.refl (S : Nat → Prop) (w : World) : Mod S w w := ⟨rfl, rfl, rfl, Nat.le_refl _, Nat.le_refl _, fun _ _ _ => rfl⟩
/-- What the second step touches of the first world's blocks is let. -/
theorem Mod.then {S T : Nat → Prop} {a b c : World} (h : Mod S a b) (k : Mod T b c) (hT : ∀ x, x < a.heap.size → T x → S x) : Mod S a c :=
  ⟨k.os.trans h.os, k.tape.trans h.tape, k.output.trans h.output, Nat.le_trans h.drawn k.drawn, Nat.le_trans h.size k.size,
    fun x hx hS => (k.blk x (Nat.lt_of_lt_of_le hx h.size) fun ht => hS (hT x hx ht)).trans (h.blk x hx hS)⟩
theorem Mod.trans {S : Nat → Prop} {a b c : World} (h : Mod S a b) (k : Mod S b c) : Mod S a c := h.then k fun _ _ h => h
theorem Mod.ext {S : Nat → Prop} {a b c : World} (h : Mod S a b) (k : Ext b c) : Mod S a c := h.then k fun _ _ h => h.elim
/-- A step that writes into one block of the call's own. -/
theorem Mod.own {S : Nat → Prop} {a b c : World} {x : Nat} (h : Mod S a b) (k : Mod (one x) b c) (hx : a.heap.size ≤ x) : Mod S a c :=
  h.then k fun y hy e => by unfold one at e; omega
/-- A step that writes into a row of the call's own. -/
theorem Mod.ownA {S T : Nat → Prop} {a b c : World} (h : Mod S a b) (k : Mod T b c) (hT : ∀ x, T x → a.heap.size ≤ x) : Mod S a c :=
  h.then k fun y hy e => by have := hT y e; omega
theorem Mod.weaken {S T : Nat → Prop} {a b : World} (h : Mod S a b) (hT : ∀ x, x < a.heap.size → S x → T x) : Mod T a b :=
  ⟨h.os, h.tape, h.output, h.drawn, h.size, fun x hx hn => h.blk x hx fun hs => hn (hT x hx hs)⟩
theorem Ext.mod {S : Nat → Prop} {a b : World} (h : Ext a b) : Mod S a b := h.weaken fun _ _ e => e.elim
theorem Ext.drawn (w : World) : Ext w { w with drawn := w.drawn + 1 } := ⟨rfl, rfl, rfl, Nat.le_succ _, Nat.le_refl _, fun _ _ _ => rfl⟩
theorem Ext.alloc (w : World) (o : Obj) : Ext w (w.alloc o) :=
  ⟨rfl, rfl, rfl, Nat.le_refl _, by simp, fun b hb _ => by show (w.heap.push o)[b]? = _; rw [Array.getElem?_push, if_neg (by omega)]⟩
theorem Ext.below {a b : World} (h : Ext a b) : Go.RowKit.Below a.heap.size a b := ⟨h.os, h.tape, h.output, h.size, fun k hk => h.blk k hk fun e => e⟩
theorem Mod.below {S : Nat → Prop} {a b : World} {B : Nat} (h : Mod S a b) (hB : B ≤ a.heap.size) (hS : ∀ x, x < B → ¬ S x) : Go.RowKit.Below B a b :=
  ⟨h.os, h.tape, h.output, h.size, fun k hk => h.blk k (by omega) (hS k hk)⟩

/-- The block 'b' of the world is this. -/
def Blk (w : World) (b : Nat) (o : Obj) : Prop := w.heap[b]? = some o
theorem Blk.lt {w : World} {b : Nat} {o : Obj} (h : Blk w b o) : b < w.heap.size := (Array.getElem?_eq_some_iff.1 h).1
theorem Blk.mod {S : Nat → Prop} {w w' : World} {b : Nat} {o : Obj} (h : Blk w b o) (m : Mod S w w') (hb : ¬ S b) : Blk w' b o := (m.blk b h.lt hb).trans h
theorem Blk.ext {w w' : World} {b : Nat} {o : Obj} (h : Blk w b o) (m : Ext w w') : Blk w' b o := h.mod m fun e => e
theorem Blk.ne {w w' : World} {b x : Nat} {o : Obj} (h : Blk w b o) (m : Mod (one x) w w') (hb : b ≠ x) : Blk w' b o := h.mod m hb
theorem Blk.cell {w : World} {b : Nat} {c : Array Value} {T : TypeId} {fr : Nat × Nat} (h : Blk w b (.cells c T fr)) (i : Nat) : w.cell? ⟨b, i, none⟩ = c[i]? := by
  unfold Blk at h; simp [World.cell?, h]
theorem Blk.alloc (w : World) (o : Obj) : Blk (w.alloc o) w.heap.size o := by
  show (w.heap.push o)[w.heap.size]? = _; simp

/-- From 'off' on the block holds these cells. -/
def RowAt (w : World) (b off : Nat) (cs : List Value) : Prop := ∃ c T fr, Blk w b (.cells c T fr) ∧ ∀ i, i < cs.length → c[off + i]? = cs[i]?
theorem RowAt.mod {S : Nat → Prop} {w w' : World} {b off : Nat} {cs : List Value} (h : RowAt w b off cs) (m : Mod S w w') (hb : ¬ S b) : RowAt w' b off cs :=
  let ⟨c, T, fr, hB, hc⟩ := h; ⟨c, T, fr, hB.mod m hb, hc⟩
theorem RowAt.ext {w w' : World} {b off : Nat} {cs : List Value} (h : RowAt w b off cs) (m : Ext w w') : RowAt w' b off cs := h.mod m fun e => e
theorem RowAt.cell {w : World} {b off : Nat} {cs : List Value} (h : RowAt w b off cs) {i : Nat} {v : Value} (hi : cs[i]? = some v) : w.cell? ⟨b, off + i, none⟩ = some v := by
  obtain ⟨c, T, fr, hB, hc⟩ := h
  rw [hB.cell, hc i (List.getElem?_eq_some_iff.1 hi).1, hi]
theorem RowAt.part {w : World} {b off : Nat} {cs : List Value} (h : RowAt w b off cs) {k : Nat} {ds : List Value} (hd : ∀ i, i < ds.length → cs[k + i]? = ds[i]?) (hl : k + ds.length ≤ cs.length) : RowAt w b (off + k) ds := by
  obtain ⟨c, T, fr, hB, hc⟩ := h
  refine ⟨c, T, fr, hB, fun i hi => ?_⟩
  rw [Nat.add_assoc, hc (k + i) (by omega), hd i hi]
theorem Blk.row {w : World} {b : Nat} {c : Array Value} {T : TypeId} {fr : Nat × Nat} (h : Blk w b (.cells c T fr)) : RowAt w b 0 c.toList := ⟨c, T, fr, h, fun i _ => by simp⟩

/-- 's' cells of a block from 'off' on. -/
theorem Blk.rowAt {w : World} {b : Nat} {c : Array Value} {T : TypeId} {fr : Nat × Nat} (h : Blk w b (.cells c T fr)) (off s : Nat) : RowAt w b off ((c.toList.drop off).take s) := by
  refine ⟨c, T, fr, h, fun i hi => ?_⟩
  have hi' : i < s := by simp at hi; omega
  rw [List.getElem?_take, if_pos hi', List.getElem?_drop]; simp

/-- Part of a row. -/
theorem RowAt.sub {w : World} {b off : Nat} {cs : List Value} (h : RowAt w b off cs) (k s : Nat) (hks : Nat.ble (k + s) cs.length = true) : RowAt w b (off + k) ((cs.drop k).take s) := by
  have := Nat.le_of_ble_eq_true hks
  refine h.part (fun i hi => ?_) (by simp; omega)
  have hi' : i < s := by simp at hi; omega
  rw [List.getElem?_take, if_pos hi', List.getElem?_drop]
def abk : Option Addr → Nat | some ad => ad.block | none => 0
def aoff : Option Addr → Nat | some ad => ad.off | none => 0
/-- The address of an element. -/
def eAddr (a : Option Addr) (s i : Nat) : Addr := ⟨abk a, aoff a + i * s, none⟩
/-- A slice that begins at 'a' and whose elements are these rows of 's' cells. -/
def SlV (w : World) (s : Nat) (a : Option Addr) (rows : List (List Value)) : Prop :=
  (∀ r ∈ rows, r.length = s) ∧ (rows = [] ∨ ∃ b off, a = some ⟨b, off, none⟩ ∧ RowAt w b off rows.flatten)
/-- The blocks outside which a slice does not lie. -/
def aBlk (a : Option Addr) : Nat → Prop := fun k => ∃ ad, a = some ad ∧ ad.block = k
theorem SlV.mod {S : Nat → Prop} {w w' : World} {s : Nat} {a : Option Addr} {rows : List (List Value)} (h : SlV w s a rows) (m : Mod S w w') (hb : ∀ ad, a = some ad → ¬ S ad.block) : SlV w' s a rows := by
  refine ⟨h.1, h.2.imp id ?_⟩
  rintro ⟨b, off, rfl, hr⟩
  exact ⟨b, off, rfl, hr.mod m (hb _ rfl)⟩
theorem SlV.ext {w w' : World} {s : Nat} {a : Option Addr} {rows : List (List Value)} (h : SlV w s a rows) (m : Ext w w') : SlV w' s a rows := h.mod m fun _ _ e => e
theorem SlV.nil (w : World) (s : Nat) (a : Option Addr) : SlV w s a [] := ⟨by simp, .inl rfl⟩

theorem flatten_get (rows : List (List Value)) (s : Nat) (hs : ∀ r ∈ rows, r.length = s) (i : Nat) (r : List Value) (hr : rows[i]? = some r) (j : Nat) (hj : j < s) :
    rows.flatten[i * s + j]? = r[j]? := by
  induction rows generalizing i with
  | nil => simp at hr
  | cons x rows ih =>
    have hx : x.length = s := hs x (by simp)
    cases i with
    | zero =>
      simp at hr; subst hr
      rw [List.flatten_cons, List.getElem?_append_left (by omega)]; simp
    | succ i =>
      rw [List.flatten_cons, List.getElem?_append_right (by rw [hx, Nat.succ_mul]; omega), hx]
      rw [show (i + 1) * s + j - s = i * s + j from by rw [Nat.succ_mul]; omega]
      exact ih (fun r h => hs r (by simp [h])) i (by simpa using hr)
theorem flatten_len (rows : List (List Value)) (s : Nat) (hs : ∀ r ∈ rows, r.length = s) : rows.flatten.length = rows.length * s := by
  induction rows with
  | nil => simp
  | cons x rows ih =>
    rw [List.flatten_cons, List.length_append, hs x (by simp), ih fun r h => hs r (by simp [h]), List.length_cons, Nat.succ_mul]; omega

theorem SlV.row {w : World} {s : Nat} {a : Option Addr} {rows : List (List Value)} (h : SlV w s a rows) {i : Nat} {r : List Value} (hr : rows[i]? = some r) :
    ∃ b off, a = some ⟨b, off, none⟩ ∧ RowAt w b (off + i * s) r := by
  obtain ⟨h1, h2⟩ := h
  rcases h2 with rfl | ⟨b, off, rfl, hrow⟩
  · simp at hr
  · have hl := h1 r (List.mem_of_getElem? hr)
    have hi := (List.getElem?_eq_some_iff.1 hr).1
    refine ⟨b, off, rfl, hrow.part (fun j hj => flatten_get rows s h1 i r hr j (by omega)) ?_⟩
    rw [flatten_len rows s h1, hl]
    calc i * s + s = (i + 1) * s := by rw [Nat.succ_mul]
      _ ≤ rows.length * s := Nat.mul_le_mul_right _ (by omega)
theorem SlV.at {w : World} {s : Nat} {a : Option Addr} {rows : List (List Value)} (h : SlV w s a rows) {i : Nat} {r : List Value} (hr : rows[i]? = some r) :
    RowAt w (eAddr a s i).block (eAddr a s i).off r := by
  obtain ⟨b, off, rfl, hrow⟩ := h.row hr
  exact hrow

/-- A slice of things that take 's' cells each. -/
def TSl {α : Type} (enc : α → List Value) (s : Nat) (w : World) (a : Option Addr) (l : List α) : Prop := SlV w s a (l.map enc)
section
variable {α : Type} {enc : α → List Value} {s : Nat} {w w' : World} {a : Option Addr} {l : List α}
theorem TSl.ext (h : TSl enc s w a l) (m : Ext w w') : TSl enc s w' a l := SlV.ext h m
theorem TSl.mod {S : Nat → Prop} (h : TSl enc s w a l) (m : Mod S w w') (hb : ∀ ad, a = some ad → ¬ S ad.block) : TSl enc s w' a l := SlV.mod h m hb
theorem TSl.nil (enc : α → List Value) (s : Nat) (w : World) (a : Option Addr) : TSl enc s w a [] := SlV.nil w s a
theorem TSl.row [Inhabited α] (h : TSl enc s w a l) {i : Nat} (hi : i < l.length) : RowAt w (eAddr a s i).block (eAddr a s i).off (enc (l.getD i default)) := by
  have hr : (l.map enc)[i]? = some (enc (l.getD i default)) := by simp [hi]
  obtain ⟨b, off, rfl, hrow⟩ := SlV.row h hr
  exact hrow
theorem TSl.some (h : TSl enc s w a l) {i : Nat} (hi : i < l.length) : ∃ b off, a = some ⟨b, off, none⟩ := by
  rcases h.2 with h | ⟨b, off, h, _⟩
  · simp at h; subst h; simp at hi
  · exact ⟨b, off, h⟩
theorem TSl.lt (h : TSl enc s w a l) {i : Nat} (hi : i < l.length) : abk a < w.heap.size := by
  rcases h.2 with h | ⟨b, off, rfl, c, T, fr, hB, _⟩
  · simp at h; subst h; simp at hi
  · exact hB.lt
end
def encI (n : Int) : List Value := [.int .i64 n]
/-- A slice of ints. -/
abbrev IntSl (w : World) (a : Option Addr) (l : List Int) : Prop := TSl encI 1 w a l
theorem IntSl.cell {w : World} {a : Option Addr} {l : List Int} (h : IntSl w a l) {i : Nat} (hi : i < l.length) : w.cell? (eAddr a 1 i) = some (.int .i64 (l.getD i 0)) := by
  have := (TSl.row h hi).cell (i := 0) (v := .int .i64 (l.getD i 0)) rfl
  exact this
end Go.Vc
