/- Cluster: pairs, edges, keys; ordered, valid, linked, paired. -/
import Derived.Test.YtglaigeellpikaaXTy
import Derived.Test.YtglaigeellpikaaXVcTMap
namespace Go.Proofs.Ytglaigeellpikaa
open Go.Vc

/-- An edge of the evidence. -/
structure Ed where
  a : Int
  b : Int
  w : Int
  deriving DecidableEq
instance : Inhabited Ed := ⟨⟨0, 0, 0⟩⟩
def encEd (e : Ed) : List Value := [.int .i64 e.a, .int .i64 e.b, .int .i64 e.w]
def encPr (p : Int × Int) : List Value := [.int .i64 p.1, .int .i64 p.2]
def encP (p : Int × Int) : Value := .agg (encPr p).toArray
def vI (x : Int) : Value := .int .i64 x
def vB (x : Bool) : Value := .bool x
abbrev EdSl (w : World) (a : Option Addr) (l : List Ed) : Prop := TSl encEd 3 w a l
abbrev PrSl (w : World) (a : Option Addr) (l : List (Int × Int)) : Prop := TSl encPr 2 w a l
theorem key3 : KeyT Try.prog 3 vI where
  td := ⟨_, Try.underlying3, fun a b => .inr (by by_cases e : a = b <;> simp [Instr.sameNow, vI, e])⟩
  eq := by
    intro a b w
    show (Op.equalIn (9999 + 1) 3 _ _).run Try.prog w = _
    unfold Op.equalIn
    by_cases e : a = b <;> simp [go_sem, vI, e]
  chk := fun e a w => chkI (P := Try.prog) (T := 3) (n := 9999) (e := e) (k := .i64) (x := a) Try.runUnderlying3 w
  stay := by
    intro a
    show Instr.sameBits (9999 + 1) _ _ = true
    simp [vI, Instr.sameBits]
theorem key42 : KeyT Try.prog 42 encP where
  td := ⟨_, Try.underlying42, fun a b => .inl rfl⟩
  eq := by
    rintro ⟨a, b⟩ ⟨a', b'⟩ w
    show (Op.equalIn (9999 + 1) 42 _ _).run Try.prog w = _
    unfold Op.equalIn
    have hr : List.range' 0 2 = [0, 1] := rfl
    simp [go_sem, encP, encPr, hr]
    (repeat' split) <;> simp_all
  chk := by
    rintro e ⟨a, b⟩ w
    have h1 := chkI (P := Try.prog) (T := 3) (n := 9998) (e := e) (k := .i64) (x := a) Try.runUnderlying3
    have h2 := chkI (P := Try.prog) (T := 3) (n := 9998) (e := e) (k := .i64) (x := b) Try.runUnderlying3
    show (Instr.checkKey e (9999 + 1) 42 _).run Try.prog w = _
    unfold Instr.checkKey
    have hr : List.range' 0 2 = [0, 1] := rfl
    simp [go_sem, encP, encPr, h1, h2, hr]
  stay := by
    rintro ⟨a, b⟩
    show Instr.sameBits (9999 + 1) _ _ = true
    simp [encP, encPr, Instr.sameBits]
def ordF (a b : Int) : Int × Int := (min a b, max a b)
theorem ordered_spec (a b : Int) (w : World) : RetsP Try.prog 50 #[.int .i64 a, .int .i64 b] w (encP (ordF a b)) := by
  refine enter (args := [_, _]) Try.func50 rfl Try.ntmps50 (by kernel_rfl) rfl ?_
  refine V.seq (V.region (VL.alloc Try.zeroValue42 fun b0_0 w0_0 hb0_0 e0_0 hB0_0 => VL.nil (V.seq (V.region (VL.op (R.mvI rfl) (VL.op (R.mvI rfl) (VL.op (R.min rfl rfl) (VL.op (R.mvI rfl) (VL.op (R.mvI rfl) (VL.op (R.max rfl rfl) (VL.op (R.buildArr Try.zeroValue42 Try.runUnderlying42 Try.sizeOf3 rfl) (VL.store (v := .agg _) Try.sizeOf42 rfl rfl rfl rfl hB0_0 rfl rfl fun w1_7 m1_7 hs1_7 hB1_7 => VL.nil (V.ret (fretC rfl rfl rfl Try.isAgg42 Try.sizeOf42 rfl (hB1_7.rowAt 0 2) rfl (⟨rfl, (Mod.own e0_0 m1_7 (Nat.le_of_eq (Eq.symm hb0_0)))⟩)))))))))))))))
/-- A list of classes, or of entities, is valid. -/
def okAt (l : List Int) (i : Nat) : Bool := decide (0 ≤ l.getD i default) && decide (l.getD i default ≤ i) && decide (l.getD (l.getD i default).toNat default = l.getD i default)
def validB (l : List Int) : Bool := (List.range l.length).all (okAt l) && decide (l.length ≤ 2000)
theorem validB_at {l : List Int} {i : Nat} (hi : i < l.length) (h : okAt l i = false) : validB l = false := by
  unfold validB
  rw [Bool.and_eq_false_iff]; left
  rw [← Bool.not_eq_true, List.all_eq_true]
  intro e
  rw [e i (by simpa using hi)] at h; cases h
theorem validB_all {l : List Int} (h : ∀ i, i < l.length → okAt l i = true) : validB l = decide (l.length ≤ 2000) := by
  unfold validB
  have : (List.range l.length).all (okAt l) = true := by rw [List.all_eq_true]; intro i hi; exact h i (by simpa using hi)
  rw [this, Bool.true_and]
theorem okAt_iff {l : List Int} {i : Nat} : okAt l i = true ↔ 0 ≤ l.getD i default ∧ l.getD i default ≤ i ∧ l.getD (l.getD i default).toNat default = l.getD i default := by
  unfold okAt; simp [and_assoc]
theorem valid_spec (a : Option Addr) (ca : Nat) (l : List Int) (w : World) (hm : l.length ≤ 1000000) (hS : IntSl w a l) :
    RetsP Try.prog 25 #[.slice a l.length ca] w (.bool (validB l)) := by
  refine enter (args := [_]) Try.func25 rfl Try.ntmps25 (by kernel_rfl) rfl ?_
  refine V.seq (V.region (VL.op (R.asB rfl) (VL.nil (V.seq (V.seq (V.region (VL.op (R.mvS rfl) (VL.op (R.lenS Try.runUnderlying23 rfl) (VL.op (R.mvI rfl) (VL.nil (V.block (?_))))))))))))
  refine V.loop [0, 5, 6, 7] (fun k : Nat => [.slice a l.length ca, .slice a l.length ca, .int .i64 l.length, .int .i64 k]) (fun k w' => k ≤ l.length ∧ (∀ i, i < k → okAt l i = true) ∧ Ext w w') (fun k => l.length - k) 0 rfl ⟨by omega, by intro i hi; omega, Mod.refl _ _⟩ ?_
  rintro ρ k w1 ⟨hk, hi, e⟩
  refine V.seq (V.region (VL.op (R.lss rfl rfl) (VL.nil (V.seq (V.condP rfl (fun c8 => V.skip (V.seq (V.block (V.seq (V.region (VL.op (R.mvI rfl) (VL.op (R.ixS Try.runUnderlying23 Try.sizeOf3 rfl rfl (by omega) (by omega) ((hS).some (i := k) (by omega))) (VL.op (R.ld1 Try.isAgg3 rfl (((((hS).ext e).row (i := k) (by omega)).cell (i := 0) rfl))) (VL.op (R.asI rfl) (VL.op (R.asI rfl) (VL.nil (V.seq (V.region (VL.op (R.mvI rfl) (VL.op (R.lss rfl rfl) (VL.op (R.mvB rfl) (VL.orP rfl rfl (fun g4_2 => VL.op (R.mvI rfl) (VL.gT rfl rfl (VL.op (R.mvI rfl) (VL.gT rfl rfl (VL.op (R.gtr rfl rfl) (VL.op (R.pickFB rfl rfl) (VL.op (R.mvB rfl) (VL.orP rfl rfl (fun g4_7 => VL.op (R.mvS rfl) (VL.gT rfl rfl (VL.op (R.mvI rfl) (VL.gT rfl rfl (VL.op (R.ixS Try.runUnderlying23 Try.sizeOf3 rfl rfl (by omega) (by omega) ((hS).some (i := (l.getD k default).toNat) (by omega))) (VL.gT rfl rfl (VL.op (R.ld1 Try.isAgg3 rfl (((((hS).ext e).row (i := (l.getD k default).toNat) (by omega)).cell (i := 0) rfl))) (VL.gT rfl rfl (VL.op (R.mvI rfl) (VL.gT rfl rfl (VL.op (R.neq rfl rfl) (VL.op (R.pickFB rfl rfl) (VL.nil (V.condP rfl (fun c26 => V.seq (V.region (VL.op (R.asB rfl) (VL.nil (V.ret (fret1 (v := .bool _) rfl rfl rfl (⟨?_, e⟩))))))) (fun c26 => V.skip (V.region (VL.op (R.add rfl rfl (by omega) (by omega)) (VL.op (R.mvI rfl) (VL.nil (⟨k + 1, rfl, ⟨by omega, ?_, e⟩, by omega⟩)))))))))))))))))))) (fun g4_7 => VL.gF rfl rfl (VL.gF rfl rfl (VL.gF rfl rfl (VL.gF rfl rfl (VL.gF rfl rfl (VL.op (R.pickTB rfl rfl) (VL.nil (V.condT rfl (V.seq (V.region (VL.op (R.asB rfl) (VL.nil (V.ret (fret1 (v := .bool _) rfl rfl rfl (⟨?_, e⟩))))))))))))))))))))))) (fun g4_2 => VL.gF rfl rfl (VL.gF rfl rfl (VL.op (R.pickTB rfl rfl) (VL.op (R.mvB rfl) (VL.gF rfl rfl (VL.gF rfl rfl (VL.gF rfl rfl (VL.gF rfl rfl (VL.gF rfl rfl (VL.gF rfl rfl (VL.op (R.pickTB rfl rfl) (VL.nil (V.condT rfl (V.seq (V.region (VL.op (R.asB rfl) (VL.nil (V.ret (fret1 (v := .bool _) rfl rfl rfl (⟨?_, e⟩))))))))))))))))))))))))))))))))))))) (fun c8 => V.exit (V.seq (?_))))))))
  · rw [validB_at (i := k) (by omega) (Bool.eq_false_iff.2 fun h => c26 (okAt_iff.1 h).2.2)]
  · intro i hik
    by_cases h : i = k
    · subst h; exact okAt_iff.2 ⟨by omega, by omega, Classical.not_not.1 c26⟩
    · exact hi i (by omega)
  · rw [validB_at (i := k) (by omega) (Bool.eq_false_iff.2 fun h => by have := (okAt_iff.1 h).2.1; omega)]
  · rw [validB_at (i := k) (by omega) (Bool.eq_false_iff.2 fun h => by have := (okAt_iff.1 h).1; omega)]
  · have hv := validB_all (l := l) fun i hi' => hi i (by omega)
    refine V.region (VL.op (R.mvS rfl) (VL.op (R.lenS Try.runUnderlying23 rfl) (VL.op (R.leq rfl rfl) (VL.op (R.asB rfl) (VL.nil (V.ret (fret1 (v := .bool _) rfl rfl rfl (⟨?_, e.trans (Mod.refl _ _)⟩))))))))
    rw [hv]
    exact congrArg Value.bool (decide_eq_decide.2 (by omega))

/-- Edges are valid for n records. -/
def edB (n : Int) (e : Ed) : Bool := decide (0 ≤ e.a) && decide (0 ≤ e.b) && decide (e.a < n) && decide (e.b < n) && decide (e.a ≠ e.b) && decide (-1000000000 ≤ e.w) && decide (e.w ≤ 1000000000)
def linkB (n : Int) (l : List Ed) : Bool := decide (l.length ≤ 20000) && l.all (edB n)
def prB (n : Int) (p : Int × Int) : Bool := decide (0 ≤ p.1) && decide (0 ≤ p.2) && decide (p.1 < n) && decide (p.2 < n)
def pairB (n : Int) (l : List (Int × Int)) : Bool := l.all (prB n)
theorem linked1_spec (e : Ed) (n : Int) (cb : Nat) (w : World) (hc : Blk w cb (.cells #[.int .i64 n] 3 (0, 0))) :
    RetsP Try.prog 48 ([Value.agg (encEd e).toArray] ++ [Value.pointer (some ⟨cb, 0, none⟩)]).toArray w (.bool (!edB n e)) := by
  refine enter (args := [_, _]) Try.func48 rfl Try.ntmps48 (by kernel_rfl) rfl ?_
  refine V.seq (V.region (VL.box (v := .agg _) rfl fun b0_0 w0_0 hb0_0 e0_0 hB0_0 => VL.op (R.asB rfl) (VL.nil (V.seq (V.region (VL.op (R.fld' (o := 0) Try.runUnderlying40 rfl rfl Try.sizeOf3 rfl rfl) (VL.op (R.ld1 Try.isAgg3 rfl ((hB0_0.cell _))) (VL.op (R.fld' (o := 1) Try.runUnderlying40 rfl rfl Try.sizeOf3 rfl rfl) (VL.op (R.ld1 Try.isAgg3 rfl ((hB0_0.cell _))) (VL.op (R.min rfl rfl) (VL.op (R.lss rfl rfl) (VL.op (R.mvB rfl) (VL.orP rfl rfl (fun g1_6 => VL.op (R.fld' (o := 0) Try.runUnderlying40 rfl rfl Try.sizeOf3 rfl rfl) (VL.gT rfl rfl (VL.op (R.ld1 Try.isAgg3 rfl ((hB0_0.cell _))) (VL.gT rfl rfl (VL.op (R.fld' (o := 1) Try.runUnderlying40 rfl rfl Try.sizeOf3 rfl rfl) (VL.gT rfl rfl (VL.op (R.ld1 Try.isAgg3 rfl ((hB0_0.cell _))) (VL.gT rfl rfl (VL.op (R.max rfl rfl) (VL.gT rfl rfl (VL.op (R.ld1 Try.isAgg3 rfl ((hc.ext e0_0).cell 0)) (VL.gT rfl rfl (VL.op (R.geq rfl rfl) (VL.op (R.pickFB rfl rfl) (VL.op (R.mvB rfl) (VL.orP rfl rfl (fun g1_15 => VL.op (R.fld' (o := 0) Try.runUnderlying40 rfl rfl Try.sizeOf3 rfl rfl) (VL.gT rfl rfl (VL.op (R.ld1 Try.isAgg3 rfl ((hB0_0.cell _))) (VL.gT rfl rfl (VL.op (R.fld' (o := 1) Try.runUnderlying40 rfl rfl Try.sizeOf3 rfl rfl) (VL.gT rfl rfl (VL.op (R.ld1 Try.isAgg3 rfl ((hB0_0.cell _))) (VL.gT rfl rfl (VL.op (R.eql rfl rfl) (VL.op (R.pickFB rfl rfl) (VL.op (R.mvB rfl) (VL.orP rfl rfl (fun g1_22 => VL.op (R.fld' (o := 2) Try.runUnderlying40 rfl rfl Try.sizeOf3 rfl rfl) (VL.gT rfl rfl (VL.op (R.ld1 Try.isAgg3 rfl ((hB0_0.cell _))) (VL.gT rfl rfl (VL.op (R.lss rfl rfl) (VL.op (R.pickFB rfl rfl) (VL.op (R.mvB rfl) (VL.orP rfl rfl (fun g1_27 => VL.op (R.fld' (o := 2) Try.runUnderlying40 rfl rfl Try.sizeOf3 rfl rfl) (VL.gT rfl rfl (VL.op (R.ld1 Try.isAgg3 rfl ((hB0_0.cell _))) (VL.gT rfl rfl (VL.op (R.gtr rfl rfl) (VL.op (R.pickFB rfl rfl) (VL.op (R.asB rfl) (VL.nil (V.ret (fret1 (v := .bool _) rfl rfl rfl (⟨?_, e0_0⟩))))))))))) (fun g1_27 => VL.gF rfl rfl (VL.gF rfl rfl (VL.op (R.pickTB rfl rfl) (VL.op (R.asB rfl) (VL.nil (V.ret (fret1 (v := .bool _) rfl rfl rfl (⟨?_, e0_0⟩)))))))))))))))) (fun g1_22 => VL.gF rfl rfl (VL.gF rfl rfl (VL.op (R.pickTB rfl rfl) (VL.op (R.mvB rfl) (VL.gF rfl rfl (VL.gF rfl rfl (VL.gF rfl rfl (VL.op (R.pickTB rfl rfl) (VL.op (R.asB rfl) (VL.nil (V.ret (fret1 (v := .bool _) rfl rfl rfl (⟨?_, e0_0⟩))))))))))))))))))))))))) (fun g1_15 => VL.gF rfl rfl (VL.gF rfl rfl (VL.gF rfl rfl (VL.gF rfl rfl (VL.op (R.pickTB rfl rfl) (VL.op (R.mvB rfl) (VL.gF rfl rfl (VL.gF rfl rfl (VL.gF rfl rfl (VL.op (R.pickTB rfl rfl) (VL.op (R.mvB rfl) (VL.gF rfl rfl (VL.gF rfl rfl (VL.gF rfl rfl (VL.op (R.pickTB rfl rfl) (VL.op (R.asB rfl) (VL.nil (V.ret (fret1 (v := .bool _) rfl rfl rfl (⟨?_, e0_0⟩)))))))))))))))))))))))))))))))))))) (fun g1_6 => VL.gF rfl rfl (VL.gF rfl rfl (VL.gF rfl rfl (VL.gF rfl rfl (VL.gF rfl rfl (VL.gF rfl rfl (VL.op (R.pickTB rfl rfl) (VL.op (R.mvB rfl) (VL.gF rfl rfl (VL.gF rfl rfl (VL.gF rfl rfl (VL.gF rfl rfl (VL.gF rfl rfl (VL.op (R.pickTB rfl rfl) (VL.op (R.mvB rfl) (VL.gF rfl rfl (VL.gF rfl rfl (VL.gF rfl rfl (VL.op (R.pickTB rfl rfl) (VL.op (R.mvB rfl) (VL.gF rfl rfl (VL.gF rfl rfl (VL.gF rfl rfl (VL.op (R.pickTB rfl rfl) (VL.op (R.asB rfl) (VL.nil (V.ret (fret1 (v := .bool _) rfl rfl rfl (⟨?_, e0_0⟩))))))))))))))))))))))))))))))))))))))))))
  all_goals
    refine congrArg Value.bool ?_
    rw [Bool.eq_iff_iff]
    simp [edB] at *
    omega
theorem paired1_spec (p : Int × Int) (n : Int) (cb : Nat) (w : World) (hc : Blk w cb (.cells #[.int .i64 n] 3 (0, 0))) :
    RetsP Try.prog 49 ([Value.agg (encPr p).toArray] ++ [Value.pointer (some ⟨cb, 0, none⟩)]).toArray w (.bool (!prB n p)) := by
  refine enter (args := [_, _]) Try.func49 rfl Try.ntmps49 (by kernel_rfl) rfl ?_
  refine V.seq (V.region (VL.box (v := .agg _) rfl fun b0_0 w0_0 hb0_0 e0_0 hB0_0 => VL.op (R.asB rfl) (VL.nil (V.seq (V.region (VL.op (R.ixA Try.runUnderlying42 Try.sizeOf3 rfl rfl (by decide) (by decide)) (VL.op (R.ld1 Try.isAgg3 rfl ((hB0_0.cell _))) (VL.op (R.ixA Try.runUnderlying42 Try.sizeOf3 rfl rfl (by decide) (by decide)) (VL.op (R.ld1 Try.isAgg3 rfl ((hB0_0.cell _))) (VL.op (R.min rfl rfl) (VL.op (R.lss rfl rfl) (VL.op (R.mvB rfl) (VL.orP rfl rfl (fun g1_6 => VL.op (R.ixA Try.runUnderlying42 Try.sizeOf3 rfl rfl (by decide) (by decide)) (VL.gT rfl rfl (VL.op (R.ld1 Try.isAgg3 rfl ((hB0_0.cell _))) (VL.gT rfl rfl (VL.op (R.ixA Try.runUnderlying42 Try.sizeOf3 rfl rfl (by decide) (by decide)) (VL.gT rfl rfl (VL.op (R.ld1 Try.isAgg3 rfl ((hB0_0.cell _))) (VL.gT rfl rfl (VL.op (R.max rfl rfl) (VL.gT rfl rfl (VL.op (R.ld1 Try.isAgg3 rfl ((hc.ext e0_0).cell 0)) (VL.gT rfl rfl (VL.op (R.geq rfl rfl) (VL.op (R.pickFB rfl rfl) (VL.op (R.asB rfl) (VL.nil (V.ret (fret1 (v := .bool _) rfl rfl rfl (⟨?_, e0_0⟩))))))))))))))))))) (fun g1_6 => VL.gF rfl rfl (VL.gF rfl rfl (VL.gF rfl rfl (VL.gF rfl rfl (VL.gF rfl rfl (VL.gF rfl rfl (VL.op (R.pickTB rfl rfl) (VL.op (R.asB rfl) (VL.nil (V.ret (fret1 (v := .bool _) rfl rfl rfl (⟨?_, e0_0⟩)))))))))))))))))))))))))
  all_goals
    refine congrArg Value.bool ?_
    rw [Bool.eq_iff_iff]
    simp [prB] at *
    omega
theorem findIdx_at {α : Type} [Inhabited α] (p : α → Bool) (l : List α) (k : Nat) (hk : k < l.length) (h0 : ∀ i, i < k → p (l.getD i default) = false) (h1 : p (l.getD k default) = true) : l.findIdx? p = some k := by
  rw [List.findIdx?_eq_some_iff_getElem]
  refine ⟨hk, by simpa [List.getD, hk] using h1, fun j hj => ?_⟩
  have := h0 j hj
  simp [List.getD, show j < l.length by omega] at this
  simp [this]
theorem findIdx_none {α : Type} [Inhabited α] (p : α → Bool) (l : List α) (h0 : ∀ i, i < l.length → p (l.getD i default) = false) : l.findIdx? p = none := by
  rw [List.findIdx?_eq_none_iff]
  intro x hx
  obtain ⟨i, hi, rfl⟩ := List.getElem_of_mem hx
  have := h0 i hi
  simpa [List.getD, hi] using this
theorem all_not {α : Type} (f : α → Bool) (l : List α) : l.all f = !l.any fun x => !f x := by
  induction l with
  | nil => rfl
  | cons x l ih => rw [List.all_cons, List.any_cons, ih]; cases f x <;> rfl
theorem any_find {α : Type} (f : α → Bool) (l : List α) : (l.any f) = decide ((match l.findIdx? f with | some i => (i : Int) | none => -1) ≥ 0) := by
  cases h : l.findIdx? f with
  | none =>
    rw [List.findIdx?_eq_none_iff] at h
    have : l.any f = false := by rw [← Bool.not_eq_true, List.any_eq_true]; rintro ⟨x, hx, hf⟩; rw [h x hx] at hf; cases hf
    rw [this]; rfl
  | some i =>
    obtain ⟨hi, h1, _⟩ := List.findIdx?_eq_some_iff_getElem.1 h
    rw [List.any_eq_true.2 ⟨l[i], List.getElem_mem _, h1⟩]
    exact (decide_eq_true (by show (0 : Int) ≤ (i : Nat); omega)).symm
/-- The first with a property: the test is a closure that reads what has been caught. -/
theorem indexP_spec (g : FuncId) (Cv : List Value) (f : Int × Int → Bool) (a : Option Addr) (ca : Nat) (l : List (Int × Int)) (w : World) (hfn : IsFn Try.prog g)
    (hdo : ∀ w' p, p ∈ l → Ext w w' → RetsP Try.prog g ([Value.agg (encPr p).toArray] ++ Cv).toArray w' (.bool (f p))) (hL : PrSl w a l) (hm : l.length ≤ 1000000) :
    RetsP Try.prog 61 #[.slice a l.length ca, .func (.func g) #[] Cv.toArray] w (.int .i64 (match l.findIdx? f with | some i => (i : Int) | none => -1)) := by
  refine enter (args := [_, _]) Try.func61 rfl Try.ntmps61 (by kernel_rfl) rfl ?_
  refine V.seq (V.region (VL.op (R.asI rfl) (VL.nil (V.seq (V.seq (V.region (VL.op (R.mvS rfl) (VL.op (R.lenS Try.runUnderlying24 rfl) (VL.op (R.mvI rfl) (VL.nil (V.block (?_))))))))))))
  refine V.loop [0, 1, 7, 8] (fun k : Nat => [.slice a l.length ca, .func (.func g) #[] Cv.toArray, .int .i64 l.length, .int .i64 (k : Nat)])
    (fun k w' => k ≤ l.length ∧ Ext w w' ∧ ∀ i, i < k → f (l.getD i default) = false) (fun k => l.length - k) 0 rfl ⟨Nat.zero_le _, Mod.refl _ _, fun i h => absurd h (Nat.not_lt_zero i)⟩ ?_
  rintro ρ k w2 ⟨hk, e, hf⟩
  have hmem : k < l.length → l.getD k default ∈ l := fun h => by rw [show l.getD k default = l[k] by simp [List.getD, h]]; exact List.getElem_mem _
  refine V.seq (V.region (VL.op (R.lss rfl rfl) (VL.nil (V.seq (V.condP rfl (fun c9 => V.skip (V.seq (V.block (V.seq (V.region (VL.op (R.mvI rfl) (VL.op (R.asI rfl) (VL.nil (V.seq (V.region (VL.op (R.mvF rfl) (VL.op (R.mvS rfl) (VL.op (R.mvI rfl) (VL.op (R.ixS Try.runUnderlying24 Try.sizeOf42 rfl rfl (by omega) (by omega) ((hL).some (i := k) (by omega))) (VL.op (R.ldA Try.isAgg42 Try.sizeOf42 rfl rfl ((show RowAt _ _ _ (encPr (l.getD k default)) from (((hL).ext e).row (i := k) (by omega)))) rfl) (VL.callCP rfl (hfn) rfl (hdo _ (l.getD k default) (hmem (by omega)) e) fun w4_5 e4_5 => VL.nil (V.cond rfl (fun c16 => V.seq (V.region (VL.op (R.mvI rfl) (VL.op (R.asI rfl) (VL.nil (V.ret (fret1 (v := .int _ _) rfl rfl rfl (⟨?_, (e.trans e4_5)⟩)))))))) (fun c16 => V.skip (V.region (VL.op (R.add rfl rfl (by omega) (by omega)) (VL.op (R.mvI rfl) (VL.nil (⟨k + 1, rfl, ⟨by omega, (e.trans e4_5), ?_⟩, by omega⟩))))))))))))))))))))))) (fun c9 => V.exit (V.seq (V.region (VL.op (R.asI rfl) (VL.nil (V.ret (fret1 (v := .int _ _) rfl rfl rfl (⟨?_, e⟩)))))))))))))
  · rw [findIdx_at f l k (by omega) hf (by assumption)]
  · intro i hi
    by_cases h : i = k
    · subst h; assumption
    · exact hf i (by omega)
  · rw [findIdx_none f l fun i hi => hf i (by omega)]
theorem indexE_spec (g : FuncId) (Cv : List Value) (f : Ed → Bool) (a : Option Addr) (ca : Nat) (l : List (Ed)) (w : World) (hfn : IsFn Try.prog g)
    (hdo : ∀ w' p, p ∈ l → Ext w w' → RetsP Try.prog g ([Value.agg (encEd p).toArray] ++ Cv).toArray w' (.bool (f p))) (hL : EdSl w a l) (hm : l.length ≤ 1000000) :
    RetsP Try.prog 62 #[.slice a l.length ca, .func (.func g) #[] Cv.toArray] w (.int .i64 (match l.findIdx? f with | some i => (i : Int) | none => -1)) := by
  refine enter (args := [_, _]) Try.func62 rfl Try.ntmps62 (by kernel_rfl) rfl ?_
  refine V.seq (V.region (VL.op (R.asI rfl) (VL.nil (V.seq (V.seq (V.region (VL.op (R.mvS rfl) (VL.op (R.lenS Try.runUnderlying22 rfl) (VL.op (R.mvI rfl) (VL.nil (V.block (?_))))))))))))
  refine V.loop [0, 1, 7, 8] (fun k : Nat => [.slice a l.length ca, .func (.func g) #[] Cv.toArray, .int .i64 l.length, .int .i64 (k : Nat)])
    (fun k w' => k ≤ l.length ∧ Ext w w' ∧ ∀ i, i < k → f (l.getD i default) = false) (fun k => l.length - k) 0 rfl ⟨Nat.zero_le _, Mod.refl _ _, fun i h => absurd h (Nat.not_lt_zero i)⟩ ?_
  rintro ρ k w2 ⟨hk, e, hf⟩
  have hmem : k < l.length → l.getD k default ∈ l := fun h => by rw [show l.getD k default = l[k] by simp [List.getD, h]]; exact List.getElem_mem _
  refine V.seq (V.region (VL.op (R.lss rfl rfl) (VL.nil (V.seq (V.condP rfl (fun c9 => V.skip (V.seq (V.block (V.seq (V.region (VL.op (R.mvI rfl) (VL.op (R.asI rfl) (VL.nil (V.seq (V.region (VL.op (R.mvF rfl) (VL.op (R.mvS rfl) (VL.op (R.mvI rfl) (VL.op (R.ixS Try.runUnderlying22 Try.sizeOf40 rfl rfl (by omega) (by omega) ((hL).some (i := k) (by omega))) (VL.op (R.ldA Try.isAgg40 Try.sizeOf40 rfl rfl ((show RowAt _ _ _ (encEd (l.getD k default)) from (((hL).ext e).row (i := k) (by omega)))) rfl) (VL.callCP rfl (hfn) rfl (hdo _ (l.getD k default) (hmem (by omega)) e) fun w4_5 e4_5 => VL.nil (V.cond rfl (fun c16 => V.seq (V.region (VL.op (R.mvI rfl) (VL.op (R.asI rfl) (VL.nil (V.ret (fret1 (v := .int _ _) rfl rfl rfl (⟨?_, (e.trans e4_5)⟩)))))))) (fun c16 => V.skip (V.region (VL.op (R.add rfl rfl (by omega) (by omega)) (VL.op (R.mvI rfl) (VL.nil (⟨k + 1, rfl, ⟨by omega, (e.trans e4_5), ?_⟩, by omega⟩))))))))))))))))))))))) (fun c9 => V.exit (V.seq (V.region (VL.op (R.asI rfl) (VL.nil (V.ret (fret1 (v := .int _ _) rfl rfl rfl (⟨?_, e⟩)))))))))))))
  · rw [findIdx_at f l k (by omega) hf (by assumption)]
  · intro i hi
    by_cases h : i = k
    · subst h; assumption
    · exact hf i (by omega)
  · rw [findIdx_none f l fun i hi => hf i (by omega)]
theorem contP_spec (g : FuncId) (Cv : List Value) (f : Int × Int → Bool) (a : Option Addr) (ca : Nat) (l : List (Int × Int)) (w : World) (hfn : IsFn Try.prog g)
    (hdo : ∀ w' p, p ∈ l → Ext w w' → RetsP Try.prog g ([Value.agg (encPr p).toArray] ++ Cv).toArray w' (.bool (f p))) (hL : PrSl w a l) (hm : l.length ≤ 1000000) :
    RetsP Try.prog 44 #[.slice a l.length ca, .func (.func g) #[] Cv.toArray] w (.bool (l.any f)) := by
  refine enter (args := [_, _]) Try.func44 rfl Try.ntmps44 (by kernel_rfl) rfl ?_
  refine V.seq (V.region (VL.op (R.asB rfl) (VL.nil (V.seq (V.region (VL.op (R.mvS rfl) (VL.op (R.mvF rfl) (VL.callP Try.call61 rfl (indexP_spec g Cv f a ca l w hfn hdo hL hm) fun w1_2 e1_2 => VL.op (R.geq rfl rfl) (VL.op (R.asB rfl) (VL.nil (V.ret (fret1 (v := .bool _) rfl rfl rfl (⟨?_, e1_2⟩)))))))))))))
  rw [any_find]
theorem contE_spec (g : FuncId) (Cv : List Value) (f : Ed → Bool) (a : Option Addr) (ca : Nat) (l : List (Ed)) (w : World) (hfn : IsFn Try.prog g)
    (hdo : ∀ w' p, p ∈ l → Ext w w' → RetsP Try.prog g ([Value.agg (encEd p).toArray] ++ Cv).toArray w' (.bool (f p))) (hL : EdSl w a l) (hm : l.length ≤ 1000000) :
    RetsP Try.prog 47 #[.slice a l.length ca, .func (.func g) #[] Cv.toArray] w (.bool (l.any f)) := by
  refine enter (args := [_, _]) Try.func47 rfl Try.ntmps47 (by kernel_rfl) rfl ?_
  refine V.seq (V.region (VL.op (R.asB rfl) (VL.nil (V.seq (V.region (VL.op (R.mvS rfl) (VL.op (R.mvF rfl) (VL.callP Try.call62 rfl (indexE_spec g Cv f a ca l w hfn hdo hL hm) fun w1_2 e1_2 => VL.op (R.geq rfl rfl) (VL.op (R.asB rfl) (VL.nil (V.ret (fret1 (v := .bool _) rfl rfl rfl (⟨?_, e1_2⟩)))))))))))))
  rw [any_find]
theorem linked_spec (n : Int) (a : Option Addr) (ca : Nat) (l : List Ed) (w : World) (hL : EdSl w a l) (hm : l.length ≤ 1000000) :
    RetsP Try.prog 26 #[.int .i64 n, .slice a l.length ca] w (.bool (linkB n l)) := by
  refine enter (args := [_, _]) Try.func26 rfl Try.ntmps26 (by kernel_rfl) rfl ?_
  refine V.seq (V.region (VL.box (v := .int _ _) rfl fun b1 w1 hb1 e1 hB1 => VL.op (R.asB rfl) (VL.nil (V.seq (V.region (VL.op (R.mvS rfl) (VL.op (R.lenS Try.runUnderlying22 rfl) (VL.op (R.leq rfl rfl) (VL.op (R.mvB rfl) (VL.andP rfl rfl (fun g1_3 => VL.op (R.mvS rfl) (VL.gT rfl rfl (VL.op (R.mkFn rfl rfl) (VL.gT rfl rfl (?_))))) (fun g1_3 => VL.gF rfl rfl (VL.gF rfl rfl (VL.gF rfl rfl (VL.op (R.pickFB rfl rfl) (VL.op (R.asB rfl) (VL.nil (V.ret (fret1 (v := .bool _) rfl rfl rfl (⟨?_, e1⟩)))))))))))))))))))
  refine VL.callP Try.call47 rfl (contE_spec 48 [.pointer (some ⟨b1, 0, none⟩)] (fun e => !edB n e) a ca l _ Try.call48 (fun w' p _ ew => linked1_spec p n b1 w' (hB1.ext ew)) (hL.ext e1) hm) fun w1_6 e1_6 => VL.gT rfl rfl (VL.op (R.not rfl) (VL.op (R.pickTB rfl rfl) (VL.op (R.asB rfl) (VL.nil (V.ret (fret1 (v := .bool _) rfl rfl rfl (⟨?_, (e1.trans e1_6)⟩)))))))
  · rw [linkB, all_not, decide_eq_true (by omega : l.length ≤ 20000), Bool.true_and]
  · rw [linkB, decide_eq_false (by omega : ¬ l.length ≤ 20000), Bool.false_and]
theorem paired_spec (n : Int) (a : Option Addr) (ca : Nat) (l : List (Int × Int)) (w : World) (hL : PrSl w a l) (hm : l.length ≤ 1000000) :
    RetsP Try.prog 27 #[.int .i64 n, .slice a l.length ca] w (.bool (pairB n l)) := by
  refine enter (args := [_, _]) Try.func27 rfl Try.ntmps27 (by kernel_rfl) rfl ?_
  refine V.seq (V.region (VL.box (v := .int _ _) rfl fun b1 w1 hb1 e1 hB1 => VL.op (R.asB rfl) (VL.nil (V.seq (V.region (VL.op (R.mvS rfl) (VL.op (R.mkFn rfl rfl) (?_))))))))
  refine VL.callP Try.call44 rfl (contP_spec 49 [.pointer (some ⟨b1, 0, none⟩)] (fun e => !prB n e) a ca l _ Try.call49 (fun w' p _ ew => paired1_spec p n b1 w' (hB1.ext ew)) (hL.ext e1) hm) fun w1_2 e1_2 => VL.op (R.not rfl) (VL.op (R.asB rfl) (VL.nil (V.ret (fret1 (v := .bool _) rfl rfl rfl (⟨?_, (e1.trans e1_2)⟩)))))
  · rw [pairB, all_not]
end Go.Proofs.Ytglaigeellpikaa

/- Cluster: Allowed and Cost. -/
namespace Go.Proofs.Ytglaigeellpikaa
open Go.Vc

/-- An entity keeps the classes together, and no pair of different classes. -/
def togAt (same ent : List Int) (i : Nat) : Bool := decide (ent.getD i default = ent.getD (same.getD i default).toNat default)
def at_ (l : List Int) (x : Int) : Int := l.getD x.toNat default
def badP (same ent : List Int) (p : Int × Int) : Bool := decide (at_ same p.1 ≠ at_ same p.2) && decide (at_ ent p.1 = at_ ent p.2)
def allowB (same : List Int) (other : List (Int × Int)) (ent : List Int) : Bool :=
  validB same && pairB same.length other && decide (ent.length = same.length) && validB ent && (List.range same.length).all (togAt same ent) && !other.any (badP same ent)
theorem validB_iff {l : List Int} : validB l = true ↔ (∀ i, i < l.length → 0 ≤ l.getD i default ∧ l.getD i default ≤ i ∧ l.getD (l.getD i default).toNat default = l.getD i default) ∧ l.length ≤ 2000 := by
  unfold validB
  rw [Bool.and_eq_true, List.all_eq_true, decide_eq_true_eq]
  exact and_congr_left fun _ => ⟨fun h i hi => okAt_iff.1 (h i (by simpa using hi)), fun h i hi => okAt_iff.2 (h i (by simpa using hi))⟩
theorem prB_iff {n : Int} {p : Int × Int} : prB n p = true ↔ 0 ≤ p.1 ∧ 0 ≤ p.2 ∧ p.1 < n ∧ p.2 < n := by unfold prB; simp [and_assoc]
theorem edB_iff {n : Int} {e : Ed} : edB n e = true ↔ 0 ≤ e.a ∧ 0 ≤ e.b ∧ e.a < n ∧ e.b < n ∧ e.a ≠ e.b ∧ -1000000000 ≤ e.w ∧ e.w ≤ 1000000000 := by unfold edB; simp [and_assoc]
theorem pairB_iff {n : Int} {l : List (Int × Int)} : pairB n l = true ↔ ∀ p ∈ l, 0 ≤ p.1 ∧ 0 ≤ p.2 ∧ p.1 < n ∧ p.2 < n := by
  unfold pairB; rw [List.all_eq_true]; exact ⟨fun h p hp => prB_iff.1 (h p hp), fun h p hp => prB_iff.2 (h p hp)⟩
theorem linkB_iff {n : Int} {l : List Ed} : linkB n l = true ↔ l.length ≤ 20000 ∧ ∀ e ∈ l, 0 ≤ e.a ∧ 0 ≤ e.b ∧ e.a < n ∧ e.b < n ∧ e.a ≠ e.b ∧ -1000000000 ≤ e.w ∧ e.w ≤ 1000000000 := by
  unfold linkB; rw [Bool.and_eq_true, decide_eq_true_eq, List.all_eq_true]; exact and_congr_right fun _ => ⟨fun h p hp => edB_iff.1 (h p hp), fun h p hp => edB_iff.2 (h p hp)⟩
theorem allowed1_spec (same ent : List Int) (sa ea : Option Addr) (cs ce : Nat) (bs be : Nat) (p : Int × Int) (w : World) (hbs : Blk w bs (.cells #[.slice sa same.length cs] 23 (0, 0))) (hbe : Blk w be (.cells #[.slice ea ent.length ce] 23 (0, 0)))
    (hS : IntSl w sa same) (hE : IntSl w ea ent) (hp1 : 0 ≤ p.1 ∧ p.1 < same.length ∧ p.1 < ent.length) (hp2 : 0 ≤ p.2 ∧ p.2 < same.length ∧ p.2 < ent.length) :
    RetsP Try.prog 45 ([Value.agg (encPr p).toArray] ++ [Value.pointer (some ⟨bs, 0, none⟩), Value.pointer (some ⟨be, 0, none⟩)]).toArray w (.bool (badP same ent p)) := by
  refine enter (args := [_, _, _]) Try.func45 rfl Try.ntmps45 (by kernel_rfl) rfl ?_
  refine V.seq (V.region (VL.box (v := .agg _) rfl fun b0_0 w0_0 hb0_0 e0_0 hB0_0 => VL.op (R.asB rfl) (VL.nil (V.seq (V.regionQ mixed 25 (by kernel_rfl) rfl (fun w' => Ext _ w') (Ext.drawn _) (VQ.op (fun wq eq => R.ld1 Try.isAgg23 rfl ((hbs.ext (e0_0.trans eq)).cell 0)) (VQ.op (fun wq eq => R.ixA Try.runUnderlying42 Try.sizeOf3 rfl rfl (by decide) (by decide)) (VQ.op (fun wq eq => R.ld1 Try.isAgg3 rfl (((hB0_0.ext eq).cell _))) (VQ.op (fun wq eq => R.ixS Try.runUnderlying23 Try.sizeOf3 rfl rfl (by omega) (by omega) ((hS.ext (e0_0.trans eq)).some (i := p.1.toNat) (by omega))) (VQ.op (fun wq eq => R.ld1 Try.isAgg3 rfl ((((hS.ext (e0_0.trans eq)).row (i := p.1.toNat) (by omega)).cell (i := 0) rfl))) (VQ.op (fun wq eq => R.ld1 Try.isAgg23 rfl ((hbs.ext (e0_0.trans eq)).cell 0)) (VQ.op (fun wq eq => R.ixA Try.runUnderlying42 Try.sizeOf3 rfl rfl (by decide) (by decide)) (VQ.op (fun wq eq => R.ld1 Try.isAgg3 rfl (((hB0_0.ext eq).cell _))) (VQ.op (fun wq eq => R.ixS Try.runUnderlying23 Try.sizeOf3 rfl rfl (by omega) (by omega) ((hS.ext (e0_0.trans eq)).some (i := p.2.toNat) (by omega))) (VQ.op (fun wq eq => R.ld1 Try.isAgg3 rfl ((((hS.ext (e0_0.trans eq)).row (i := p.2.toNat) (by omega)).cell (i := 0) rfl))) (VQ.op (fun wq eq => R.neq rfl rfl) (VQ.op (fun wq eq => R.mvB rfl) (VQ.andP rfl rfl (fun g1_11 => VQ.op (fun wq eq => R.ld1 Try.isAgg23 rfl ((hbe.ext (e0_0.trans eq)).cell 0)) (VQ.gT rfl rfl (VQ.op (fun wq eq => R.ixA Try.runUnderlying42 Try.sizeOf3 rfl rfl (by decide) (by decide)) (VQ.gT rfl rfl (VQ.op (fun wq eq => R.ld1 Try.isAgg3 rfl (((hB0_0.ext eq).cell _))) (VQ.gT rfl rfl (VQ.op (fun wq eq => R.ixS Try.runUnderlying23 Try.sizeOf3 rfl rfl (by omega) (by omega) ((hE.ext (e0_0.trans eq)).some (i := p.1.toNat) (by omega))) (VQ.gT rfl rfl (VQ.op (fun wq eq => R.ld1 Try.isAgg3 rfl ((((hE.ext (e0_0.trans eq)).row (i := p.1.toNat) (by omega)).cell (i := 0) rfl))) (VQ.gT rfl rfl (VQ.op (fun wq eq => R.ld1 Try.isAgg23 rfl ((hbe.ext (e0_0.trans eq)).cell 0)) (VQ.gT rfl rfl (VQ.op (fun wq eq => R.ixA Try.runUnderlying42 Try.sizeOf3 rfl rfl (by decide) (by decide)) (VQ.gT rfl rfl (VQ.op (fun wq eq => R.ld1 Try.isAgg3 rfl (((hB0_0.ext eq).cell _))) (VQ.gT rfl rfl (VQ.op (fun wq eq => R.ixS Try.runUnderlying23 Try.sizeOf3 rfl rfl (by omega) (by omega) ((hE.ext (e0_0.trans eq)).some (i := p.2.toNat) (by omega))) (VQ.gT rfl rfl (VQ.op (fun wq eq => R.ld1 Try.isAgg3 rfl ((((hE.ext (e0_0.trans eq)).row (i := p.2.toNat) (by omega)).cell (i := 0) rfl))) (VQ.gT rfl rfl (VQ.op (fun wq eq => R.eql rfl rfl) (VQ.op (fun wq eq => R.pickTB rfl rfl) (VQ.op (fun wq eq => R.asB rfl) (VQ.nil fun w1q e1q => VL.nil (V.ret (fret1 (v := .bool _) rfl rfl rfl (⟨?_, (e0_0.trans e1q)⟩))))))))))))))))))))))))))) (fun g1_11 => VQ.gF rfl rfl (VQ.gF rfl rfl (VQ.gF rfl rfl (VQ.gF rfl rfl (VQ.gF rfl rfl (VQ.gF rfl rfl (VQ.gF rfl rfl (VQ.gF rfl rfl (VQ.gF rfl rfl (VQ.gF rfl rfl (VQ.op (fun wq eq => R.pickFB rfl rfl) (VQ.op (fun wq eq => R.asB rfl) (VQ.nil fun w1q e1q => VL.nil (V.ret (fret1 (v := .bool _) rfl rfl rfl (⟨?_, (e0_0.trans e1q)⟩))))))))))))))))))))))))))))))))))
  · unfold badP at_; rw [decide_eq_true g1_11, Bool.true_and]
  · unfold badP at_; rw [decide_eq_false g1_11, Bool.false_and]
set_option maxHeartbeats 1000000 in
theorem allowed_spec (sa ea oa : Option Addr) (cs ce co : Nat) (same ent : List Int) (other : List (Int × Int)) (w : World) (hm : same.length ≤ 1000000) (hmo : other.length ≤ 1000000) (_hme : ent.length ≤ 9223372036854775807) (hS : IntSl w sa same) (hE : IntSl w ea ent) (hO : PrSl w oa other) :
    RetsP Try.prog 17 #[.slice sa same.length cs, .slice oa other.length co, .slice ea ent.length ce] w (.bool (allowB same other ent)) := by
  refine enter (args := [_, _, _]) Try.func17 rfl Try.ntmps17 (by kernel_rfl) rfl ?_
  refine V.seq (V.region (VL.box (v := .slice _ _ _) rfl fun b1 w1 hb1 e1 hB1 => VL.box (v := .slice _ _ _) rfl fun b2 w2 hb2 e2 hB2 => VL.op (R.asB rfl) (VL.nil (V.seq (V.seq (V.region (VL.op (R.ld1 Try.isAgg23 rfl (((hB1.ext e2).cell _))) (VL.callP Try.call25 rfl (valid_spec sa cs same _ hm (hS.ext (e1.trans e2))) fun w1_1 e1_1 => VL.op (R.not rfl) (VL.op (R.mvB rfl) (VL.or rfl rfl (fun g1_3 => VL.op (R.ld1 Try.isAgg23 rfl ((((hB1.ext e2).ext e1_1).cell _))) (VL.gT rfl rfl (VL.op (R.lenS Try.runUnderlying23 rfl) (VL.gT rfl rfl (VL.op (R.mvS rfl) (VL.gT rfl rfl (VL.callP Try.call27 rfl (paired_spec _ oa co other _ (hO.ext ((e1.trans e2).trans e1_1)) hmo) fun w1_7 e1_7 => VL.gT rfl rfl (VL.op (R.not rfl) (VL.op (R.pickFB rfl rfl) (VL.op (R.mvB rfl) (VL.or rfl rfl (fun g1_10 => VL.op (R.ld1 Try.isAgg23 rfl ((((hB2.ext e1_1).ext e1_7).cell _))) (VL.gT rfl rfl (VL.op (R.lenS Try.runUnderlying23 rfl) (VL.gT rfl rfl (VL.op (R.ld1 Try.isAgg23 rfl (((((hB1.ext e2).ext e1_1).ext e1_7).cell _))) (VL.gT rfl rfl (VL.op (R.lenS Try.runUnderlying23 rfl) (VL.gT rfl rfl (VL.op (R.neq rfl rfl) (VL.op (R.pickFB rfl rfl) (VL.op (R.mvB rfl) (VL.orP rfl rfl (fun g1_17 => VL.op (R.ld1 Try.isAgg23 rfl ((((hB2.ext e1_1).ext e1_7).cell _))) (VL.gT rfl rfl (VL.callP Try.call25 rfl (valid_spec ea ce ent _ (by omega) (hE.ext (((e1.trans e2).trans e1_1).trans e1_7))) fun w1_19 e1_19 => VL.gT rfl rfl (VL.op (R.not rfl) (VL.op (R.pickFB rfl rfl) (VL.nil (V.cond rfl (fun c30 => V.seq (V.region (VL.op (R.asB rfl) (VL.nil (V.ret (fret1 (v := .bool _) rfl rfl rfl (⟨?_, ((((e1.trans e2).trans e1_1).trans e1_7).trans e1_19)⟩))))))) (fun c30 => V.skip (V.seq (V.seq (?_))))))))))) (fun g1_17 => VL.gF rfl rfl (VL.gF rfl rfl (VL.op (R.pickTB rfl rfl) (VL.nil (V.condT rfl (V.seq (V.region (VL.op (R.asB rfl) (VL.nil (V.ret (fret1 (v := .bool _) rfl rfl rfl (⟨?_, (((e1.trans e2).trans e1_1).trans e1_7)⟩)))))))))))))))))))))))) (fun g1_10 => VL.gF rfl rfl (VL.gF rfl rfl (VL.gF rfl rfl (VL.gF rfl rfl (VL.op (R.pickTB rfl rfl) (VL.op (R.mvB rfl) (VL.gF rfl rfl (VL.gF rfl rfl (VL.gF rfl rfl (VL.op (R.pickTB rfl rfl) (VL.nil (V.condT rfl (V.seq (V.region (VL.op (R.asB rfl) (VL.nil (V.ret (fret1 (v := .bool _) rfl rfl rfl (⟨?_, (((e1.trans e2).trans e1_1).trans e1_7)⟩)))))))))))))))))))))))))))))) (fun g1_3 => VL.gF rfl rfl (VL.gF rfl rfl (VL.gF rfl rfl (VL.gF rfl rfl (VL.op (R.pickTB rfl rfl) (VL.op (R.mvB rfl) (VL.gF rfl rfl (VL.gF rfl rfl (VL.gF rfl rfl (VL.gF rfl rfl (VL.gF rfl rfl (VL.op (R.pickTB rfl rfl) (VL.op (R.mvB rfl) (VL.gF rfl rfl (VL.gF rfl rfl (VL.gF rfl rfl (VL.op (R.pickTB rfl rfl) (VL.nil (V.condT rfl (V.seq (V.region (VL.op (R.asB rfl) (VL.nil (V.ret (fret1 (v := .bool _) rfl rfl rfl (⟨?_, ((e1.trans e2).trans e1_1)⟩))))))))))))))))))))))))))))))))))))
  · unfold allowB; rw [show validB ent = false by simpa using c30]; simp
  rotate_left
  · unfold allowB; rw [decide_eq_false (by omega : ¬ ent.length = same.length)]; simp
  · unfold allowB; rw [show pairB (↑same.length) other = false by simpa using g1_10]; simp
  · unfold allowB; rw [show validB same = false by simpa using g1_3]; simp
  have v1 : validB same = true := by simpa using g1_3
  have v2 : pairB (same.length : Int) other = true := by simpa using g1_10
  have v3 : ent.length = same.length := by omega
  have v4 : validB ent = true := by simpa using c30
  have hv : ∀ i, i < same.length → 0 ≤ same.getD i default ∧ same.getD i default ≤ i := fun i hi => ⟨((validB_iff.1 v1).1 i hi).1, ((validB_iff.1 v1).1 i hi).2.1⟩
  have hall : allowB same other ent = ((List.range same.length).all (togAt same ent) && !other.any (badP same ent)) := by
    unfold allowB; rw [v1, v2, v4, decide_eq_true v3]; simp
  rw [hall]
  have hB1 : Blk w1 b1 (.cells #[.slice sa same.length cs] 23 (0, 0)) := hB1
  have hB2 : Blk w2 b2 (.cells #[.slice ea ent.length ce] 23 (0, 0)) := hB2
  have E1 := e1_1.trans (e1_7.trans e1_19)
  replace hB1 := hB1.ext (e2.trans E1)
  replace hB2 := hB2.ext E1
  replace hS := hS.ext (e1.trans (e2.trans E1))
  replace hE := hE.ext (e1.trans (e2.trans E1))
  replace hO := hO.ext (e1.trans (e2.trans E1))
  have E2 := e1.trans (e2.trans E1)
  refine V.region (VL.op (R.ld1 Try.isAgg23 rfl (hB1.cell 0)) (VL.op (R.lenS Try.runUnderlying23 rfl) (VL.op (R.mvI rfl) (VL.nil (V.block (?_))))))
  refine V.loop [3, 5, 1, 31, 32, 33] (fun k : Nat => [.pointer (some ⟨b1, 0, none⟩), .pointer (some ⟨b2, 0, none⟩), .slice oa other.length co, .slice sa same.length cs, .int .i64 same.length, .int .i64 k])
    (fun k w' => k ≤ same.length ∧ (∀ i, i < k → togAt same ent i = true) ∧ Ext w1_19 w') (fun k => same.length - k) 0 rfl ⟨by omega, by intro i hi; omega, Mod.refl _ _⟩ ?_
  rintro ρ k w3 ⟨hk, hi, e⟩
  refine V.seq (V.region (VL.op (R.lss rfl rfl) (VL.nil (V.seq (V.condP rfl (fun c34 => V.skip (V.seq (V.block (V.seq (V.region (VL.op (R.mvI rfl) (VL.op (R.ixS Try.runUnderlying23 Try.sizeOf3 rfl rfl (by have := hv k (by omega); omega) (by have := hv k (by omega); omega) ((hS.ext e).some (i := k) (by have := hv k (by omega); omega))) (VL.op (R.ld1 Try.isAgg3 rfl ((((hS.ext e).row (i := k) (by have := hv k (by omega); omega)).cell (i := 0) rfl))) (VL.op (R.asI rfl) (VL.op (R.asI rfl) (VL.nil (V.seq (V.regionQ mixed 9 (by kernel_rfl) rfl (fun w' => Ext _ w') (Ext.drawn _) (VQ.op (fun wq eq => R.ld1 Try.isAgg23 rfl ((hB2.ext (e.trans eq)).cell 0)) (VQ.op (fun wq eq => R.mvI rfl) (VQ.op (fun wq eq => R.ixS Try.runUnderlying23 Try.sizeOf3 rfl rfl (by have := hv k (by omega); omega) (by have := hv k (by omega); omega) ((hE.ext (e.trans eq)).some (i := k) (by have := hv k (by omega); omega))) (VQ.op (fun wq eq => R.ld1 Try.isAgg3 rfl ((((hE.ext (e.trans eq)).row (i := k) (by have := hv k (by omega); omega)).cell (i := 0) rfl))) (VQ.op (fun wq eq => R.ld1 Try.isAgg23 rfl ((hB2.ext (e.trans eq)).cell 0)) (VQ.op (fun wq eq => R.mvI rfl) (VQ.op (fun wq eq => R.ixS Try.runUnderlying23 Try.sizeOf3 rfl rfl (by have := hv k (by omega); omega) (by have := hv k (by omega); omega) ((hE.ext (e.trans eq)).some (i := (same.getD k default).toNat) (by have := hv k (by omega); omega))) (VQ.op (fun wq eq => R.ld1 Try.isAgg3 rfl ((((hE.ext (e.trans eq)).row (i := (same.getD k default).toNat) (by have := hv k (by omega); omega)).cell (i := 0) rfl))) (VQ.op (fun wq eq => R.neq rfl rfl) (VQ.nil fun w6q e6q => VL.nil (V.condP rfl (fun c46 => V.seq (V.region (VL.op (R.asB rfl) (VL.nil (V.ret (fret1 (v := .bool _) rfl rfl rfl (⟨?_, E2.trans (e.trans e6q)⟩))))))) (fun c46 => V.skip (V.region (VL.op (R.add rfl rfl (by omega) (by omega)) (VL.op (R.mvI rfl) (VL.nil (⟨k + 1, rfl, ⟨by omega, ?_, (e.trans e6q)⟩, by omega⟩)))))))))))))))))))))))))))))) (fun c34 => V.exit (V.seq (?_))))))))
  · have : (List.range same.length).all (togAt same ent) = false := by
      rw [← Bool.not_eq_true, List.all_eq_true]
      intro h
      have := h k (by simp; omega)
      exact c46 (of_decide_eq_true this)
    rw [this, Bool.false_and]
  · intro i hik
    by_cases h : i = k
    · subst h; exact decide_eq_true (Classical.not_not.1 c46)
    · exact hi i (by omega)
  · have hr : (List.range same.length).all (togAt same ent) = true := by
      rw [List.all_eq_true]; intro i hi'; exact hi i (by simp at hi'; omega)
    rw [hr, Bool.true_and]
    have hp := pairB_iff.1 v2
    refine V.region (VL.op (R.mvS rfl) (VL.op (R.mkFn rfl rfl) (?_)))
    refine VL.callP Try.call44 rfl (contP_spec 45 [.pointer (some ⟨b1, 0, none⟩), .pointer (some ⟨b2, 0, none⟩)] (badP same ent) oa co other _ Try.call45 (fun w' p hp' ew => allowed1_spec same ent sa ea cs ce b1 b2 p w' (hB1.ext (e.trans ew)) (hB2.ext (e.trans ew)) (hS.ext (e.trans ew)) (hE.ext (e.trans ew)) (by have := hp p hp'; omega) (by have := hp p hp'; omega)) (hO.ext e) hmo) fun w9_2 e9_2 => VL.op (R.not rfl) (VL.op (R.asB rfl) (VL.nil (V.ret (fret1 (v := .bool _) rfl rfl rfl (⟨?_, E2.trans (e.trans e9_2)⟩)))))
    rfl

/-- The cost of a clustering. -/
def costS (s : Int) (ent : List Int) (e : Ed) : Int :=
  if 0 ≤ e.a ∧ 0 ≤ e.b ∧ e.a < ent.length ∧ e.b < ent.length then
    (if e.w > 0 ∧ at_ ent e.a ≠ at_ ent e.b then IntKind.i64.wrap (s + e.w) else if e.w < 0 ∧ at_ ent e.a = at_ ent e.b then IntKind.i64.wrap (s - e.w) else s)
  else s
def costW (edges : List Ed) (ent : List Int) : Int := edges.foldl (fun s e => costS s ent e) 0
theorem costW_succ {edges : List Ed} {ent : List Int} {k : Nat} (hk : k < edges.length) : costW (edges.take (k + 1)) ent = costS (costW (edges.take k) ent) ent (edges.getD k default) := by
  unfold costW
  rw [List.take_succ_eq_append_getElem hk, List.foldl_append]
  simp [List.getD, hk]
set_option maxHeartbeats 1000000 in
theorem cost_spec (a ea : Option Addr) (c ce : Nat) (edges : List Ed) (ent : List Int) (w : World) (hm : edges.length ≤ 1000000) (_hme : ent.length ≤ 1000000) (hS : EdSl w a edges) (hE : IntSl w ea ent) :
    RetsP Try.prog 15 #[.slice a edges.length c, .slice ea ent.length ce] w (.int .i64 (costW edges ent)) := by
  refine enter (args := [_, _]) Try.func15 rfl Try.ntmps15 (by kernel_rfl) rfl ?_
  refine V.seq (V.region (VL.op (R.asI rfl) (VL.nil (V.seq (V.region (VL.op (R.asI rfl) (VL.nil (V.seq (V.seq (V.region (VL.op (R.mvS rfl) (VL.op (R.lenS Try.runUnderlying22 rfl) (VL.op (R.mvI rfl) (VL.nil (V.block (?_))))))))))))))))
  refine V.loop [1, 5, 9, 10, 11] (fun x : Nat × Int => [.slice ea ent.length ce, .int .i64 x.2, .slice a edges.length c, .int .i64 edges.length, .int .i64 x.1])
    (fun x w' => x.1 ≤ edges.length ∧ x.2 = costW (edges.take x.1) ent ∧ Ext w w') (fun x => edges.length - x.1) (0, 0) rfl ⟨by dsimp only; omega, rfl, Mod.refl _ _⟩ ?_
  rintro ρ ⟨k, s⟩ w3 ⟨hk, hs, e⟩
  dsimp only at hk hs e ⊢
  refine V.seq (V.region (VL.op (R.lss rfl rfl) (VL.nil (V.seq (V.condP rfl (fun c12 => V.skip (V.seq (V.block (V.seq (V.region (VL.op (R.ixS Try.runUnderlying22 Try.sizeOf40 rfl rfl (by omega) (by omega) ((hS).some (i := k) (by omega))) (VL.op (R.ldA Try.isAgg40 Try.sizeOf40 rfl rfl ((show RowAt _ _ _ (encEd (edges.getD k default)) from (((hS).ext e).row (i := k) (by omega)))) rfl) (VL.allocSt (v := .agg (encEd (edges.getD k default)).toArray) Try.zeroValue40 Try.sizeOf40 rfl rfl rfl rfl rfl fun b4_2 w4_2 hb4_2 e4_2 hB4_2 => VL.nil (V.seq (V.seq (V.region (VL.op (R.fld' (o := 0) Try.runUnderlying40 rfl rfl Try.sizeOf3 rfl rfl) (VL.op (R.ld1 Try.isAgg3 rfl ((hB4_2.cell _))) (VL.op (R.fld' (o := 1) Try.runUnderlying40 rfl rfl Try.sizeOf3 rfl rfl) (VL.op (R.ld1 Try.isAgg3 rfl ((hB4_2.cell _))) (VL.op (R.min rfl rfl) (VL.op (R.lss rfl rfl) (VL.op (R.mvB rfl) (VL.orP rfl rfl (fun g5_6 => VL.op (R.fld' (o := 0) Try.runUnderlying40 rfl rfl Try.sizeOf3 rfl rfl) (VL.gT rfl rfl (VL.op (R.ld1 Try.isAgg3 rfl ((hB4_2.cell _))) (VL.gT rfl rfl (VL.op (R.fld' (o := 1) Try.runUnderlying40 rfl rfl Try.sizeOf3 rfl rfl) (VL.gT rfl rfl (VL.op (R.ld1 Try.isAgg3 rfl ((hB4_2.cell _))) (VL.gT rfl rfl (VL.op (R.max rfl rfl) (VL.gT rfl rfl (VL.op (R.mvS rfl) (VL.gT rfl rfl (VL.op (R.lenS Try.runUnderlying23 rfl) (VL.gT rfl rfl (VL.op (R.geq rfl rfl) (VL.op (R.pickFB rfl rfl) (VL.nil (V.condP rfl (fun c30 => V.exit (V.region (VL.op (R.add rfl rfl (by omega) (by omega)) (VL.op (R.mvI rfl) (VL.nil (⟨(k + 1, _), rfl, ⟨by dsimp only; omega, ?_, (e.trans e4_2)⟩, by dsimp only; omega⟩)))))) (fun c30 => V.skip (V.seq (V.regionQCut mixed 12 (by kernel_rfl) rfl (fun w' => Ext _ w') (Ext.drawn _) [8, 31, 32, 33, 34, 35, 36, 37, 38, 39, 40, 41] 8 (.bool (decide (at_ ent (edges.getD k default).a = at_ ent (edges.getD k default).b))) rfl (VQ.op (fun wq eq => R.mvS rfl) (VQ.op (fun wq eq => R.fld' (o := 0) Try.runUnderlying40 rfl rfl Try.sizeOf3 rfl rfl) (VQ.op (fun wq eq => R.ld1 Try.isAgg3 rfl (((hB4_2.ext eq).cell _))) (VQ.op (fun wq eq => R.ixS Try.runUnderlying23 Try.sizeOf3 rfl rfl (by omega) (by omega) ((hE).some (i := (edges.getD k default).a.toNat) (by omega))) (VQ.op (fun wq eq => R.ld1 Try.isAgg3 rfl (((((hE).ext ((e.trans e4_2).trans eq)).row (i := (edges.getD k default).a.toNat) (by omega)).cell (i := 0) rfl))) (VQ.op (fun wq eq => R.mvS rfl) (VQ.op (fun wq eq => R.fld' (o := 1) Try.runUnderlying40 rfl rfl Try.sizeOf3 rfl rfl) (VQ.op (fun wq eq => R.ld1 Try.isAgg3 rfl (((hB4_2.ext eq).cell _))) (VQ.op (fun wq eq => R.ixS Try.runUnderlying23 Try.sizeOf3 rfl rfl (by omega) (by omega) ((hE).some (i := (edges.getD k default).b.toNat) (by omega))) (VQ.op (fun wq eq => R.ld1 Try.isAgg3 rfl (((((hE).ext ((e.trans e4_2).trans eq)).row (i := (edges.getD k default).b.toNat) (by omega)).cell (i := 0) rfl))) (VQ.op (fun wq eq => R.eql rfl rfl) (VQ.op (fun wq eq => R.asB rfl) (VQ.nil (cutB rfl ?_)))))))))))))) (fun rg6 w6c e6c => V.block (V.seq (V.region (VL.op (R.fld' (o := 2) Try.runUnderlying40 rfl rfl Try.sizeOf3 rfl rfl) (VL.op (R.ld1 Try.isAgg3 rfl (((hB4_2.ext e6c).cell _))) (VL.op (R.gtr rfl rfl) (VL.op (R.mvB rfl) (VL.andP rfl rfl (fun g7_3 => VL.op (R.mvB rfl) (VL.gT rfl rfl (VL.op (R.notD rfl) (VL.op (R.pickTB rfl rfl) (VL.op (R.asB rfl) (VL.nil (V.condP rfl (fun c42 => V.region (VL.op (R.mvI rfl) (VL.op (R.fld' (o := 2) Try.runUnderlying40 rfl rfl Try.sizeOf3 rfl rfl) (VL.op (R.ld1 Try.isAgg3 rfl (((hB4_2.ext e6c).cell _))) (VL.op (R.addw rfl rfl) (VL.op (R.asI rfl) (VL.nil (V.region (VL.op (R.add rfl rfl (by omega) (by omega)) (VL.op (R.mvI rfl) (VL.nil (⟨(k + 1, _), rfl, ⟨by dsimp only; omega, ?_, ((e.trans e4_2).trans e6c)⟩, by dsimp only; omega⟩)))))))))))) (fun c42 => V.seq (V.region (VL.op (R.fld' (o := 2) Try.runUnderlying40 rfl rfl Try.sizeOf3 rfl rfl) (VL.op (R.ld1 Try.isAgg3 rfl (((hB4_2.ext e6c).cell _))) (VL.op (R.lss rfl rfl) (VL.op (R.mvB rfl) (VL.andP rfl rfl (fun g9_3 => VL.op (R.mvB rfl) (VL.op (R.pickTB rfl rfl) (VL.op (R.asB rfl) (VL.nil (V.condP rfl (fun c54 => V.region (VL.op (R.mvI rfl) (VL.op (R.fld' (o := 2) Try.runUnderlying40 rfl rfl Try.sizeOf3 rfl rfl) (VL.op (R.ld1 Try.isAgg3 rfl (((hB4_2.ext e6c).cell _))) (VL.op (R.subw rfl rfl) (VL.op (R.asI rfl) (VL.nil (V.region (VL.op (R.add rfl rfl (by omega) (by omega)) (VL.op (R.mvI rfl) (VL.nil (⟨(k + 1, _), rfl, ⟨by dsimp only; omega, ?_, ((e.trans e4_2).trans e6c)⟩, by dsimp only; omega⟩)))))))))))) (fun c54 => V.skip (V.region (VL.op (R.add rfl rfl (by omega) (by omega)) (VL.op (R.mvI rfl) (VL.nil (⟨(k + 1, _), rfl, ⟨by dsimp only; omega, ?_, ((e.trans e4_2).trans e6c)⟩, by dsimp only; omega⟩))))))))))) (fun g9_3 => VL.op (R.pickFB rfl rfl) (VL.op (R.asB rfl) (VL.nil (V.condF rfl (V.skip (V.region (VL.op (R.add rfl rfl (by omega) (by omega)) (VL.op (R.mvI rfl) (VL.nil (⟨(k + 1, _), rfl, ⟨by dsimp only; omega, ?_, ((e.trans e4_2).trans e6c)⟩, by dsimp only; omega⟩)))))))))))))))))))))))) (fun g7_3 => VL.gF rfl rfl (VL.op (R.pickFB rfl rfl) (VL.op (R.asB rfl) (VL.nil (V.condF rfl (V.seq (V.region (VL.op (R.fld' (o := 2) Try.runUnderlying40 rfl rfl Try.sizeOf3 rfl rfl) (VL.op (R.ld1 Try.isAgg3 rfl (((hB4_2.ext e6c).cell _))) (VL.op (R.lss rfl rfl) (VL.op (R.mvB rfl) (VL.andP rfl rfl (fun g9_3 => VL.op (R.mvB rfl) (VL.op (R.pickTB rfl rfl) (VL.op (R.asB rfl) (VL.nil (V.condP rfl (fun c54 => V.region (VL.op (R.mvI rfl) (VL.op (R.fld' (o := 2) Try.runUnderlying40 rfl rfl Try.sizeOf3 rfl rfl) (VL.op (R.ld1 Try.isAgg3 rfl (((hB4_2.ext e6c).cell _))) (VL.op (R.subw rfl rfl) (VL.op (R.asI rfl) (VL.nil (V.region (VL.op (R.add rfl rfl (by omega) (by omega)) (VL.op (R.mvI rfl) (VL.nil (⟨(k + 1, _), rfl, ⟨by dsimp only; omega, ?_, ((e.trans e4_2).trans e6c)⟩, by dsimp only; omega⟩)))))))))))) (fun c54 => V.skip (V.region (VL.op (R.add rfl rfl (by omega) (by omega)) (VL.op (R.mvI rfl) (VL.nil (⟨(k + 1, _), rfl, ⟨by dsimp only; omega, ?_, ((e.trans e4_2).trans e6c)⟩, by dsimp only; omega⟩))))))))))) (fun g9_3 => VL.op (R.pickFB rfl rfl) (VL.op (R.asB rfl) (VL.nil (V.condF rfl (V.skip (V.region (VL.op (R.add rfl rfl (by omega) (by omega)) (VL.op (R.mvI rfl) (VL.nil (⟨(k + 1, _), rfl, ⟨by dsimp only; omega, ?_, ((e.trans e4_2).trans e6c)⟩, by dsimp only; omega⟩))))))))))))))))))))))))))))))))))))))))))))))))))) (fun g5_6 => VL.gF rfl rfl (VL.gF rfl rfl (VL.gF rfl rfl (VL.gF rfl rfl (VL.gF rfl rfl (VL.gF rfl rfl (VL.gF rfl rfl (VL.op (R.pickTB rfl rfl) (VL.nil (V.condT rfl (V.exit (V.region (VL.op (R.add rfl rfl (by omega) (by omega)) (VL.op (R.mvI rfl) (VL.nil (⟨(k + 1, _), rfl, ⟨by dsimp only; omega, ?_, (e.trans e4_2)⟩, by dsimp only; omega⟩))))))))))))))))))))))))))))))))))) (fun c12 => V.exit (V.seq (?_))))))))
  · dsimp only; rw [costW_succ (by omega), ← hs]; unfold costS; rw [if_neg (by omega)]
  · rfl
  iterate 7
    · dsimp only
      rw [costW_succ (by omega), ← hs]; unfold costS; rw [if_pos (by omega)]
      first
        | (exfalso; omega)
        | (rw [if_pos (by refine ⟨by omega, by assumption⟩)]; rfl)
        | (rw [if_neg (fun h => by first | omega | exact absurd h.2 (by assumption)), if_pos (by refine ⟨by omega, by assumption⟩)]; rfl)
        | (rw [if_neg (fun h => by first | omega | exact absurd h.2 (by assumption)), if_neg (fun h => by first | omega | exact absurd h.2 (by assumption))]; done)
  · dsimp only; rw [costW_succ (by omega), ← hs]; unfold costS; rw [if_neg (by omega)]
  · have hkl : k = edges.length := by omega
    subst hkl
    refine V.region (VL.op (R.mvI rfl) (VL.op (R.asI rfl) (VL.nil (V.ret (fret1 (v := .int _ _) rfl rfl rfl (⟨?_, e.trans (Mod.refl _ _)⟩))))))
    rw [hs, List.take_length]
end Go.Proofs.Ytglaigeellpikaa
