/- Bond: sorted; classes as plain mathematics. -/
import Derived.Test.YtlefkkelohhnkaaB9
namespace Go.Proofs.Ytlefkkelohhnkaa
open Go.Vc Go.Sort

theorem compact_nil (a : Option Addr) (cap : Nat) (w : World) : RetsP Try.prog 44 #[.slice a 0 cap] w (.slice a 0 cap) := by
  refine enter (args := [_]) Try.func44 rfl Try.ntmps44 (by kernel_rfl) rfl ?_
  refine V.seq (V.region (VL.op (R.asS rfl) (VL.nil (V.seq (V.seq (V.region (VL.op (R.mvS rfl) (VL.op (R.lenS Try.runUnderlying27 rfl) (VL.op (R.lss rfl rfl) (VL.nil (V.condP rfl (fun c8 => V.seq (V.region (VL.op (R.mvS rfl) (VL.op (R.asS rfl) (VL.nil (V.ret (fret1 (v := .slice _ _ _) rfl rfl rfl (⟨rfl, (Mod.refl _ _)⟩)))))))) (fun c8 => V.skip (V.seq (V.seq (?_)))))))))))))))
  exfalso; omega
theorem sorted_nil (a : Option Addr) (cap : Nat) (w : World) : RetsP Try.prog 28 #[.slice a 0 cap] w (.slice a 0 cap) := by
  refine enter (args := [_]) Try.func28 rfl Try.ntmps28 (by kernel_rfl) rfl ?_
  refine V.seq (V.region (VL.op (R.asS rfl) (VL.nil (V.seq (V.region (VL.op (R.mvS rfl) (VL.callP Try.call41 rfl (SrtP.sortF_nil (a := a) (g := 42) (cb := []) cap _) fun w1_1 e1_1 => VL.nil (V.seq (V.region (VL.op (R.mvS rfl) (VL.callP Try.call44 rfl (compact_nil a cap _) fun w2_1 e2_1 => VL.op (R.asS rfl) (VL.nil (V.ret (fret1 (v := .slice _ _ _) rfl rfl rfl (⟨rfl, (e1_1.trans e2_1)⟩)))))))))))))))
theorem sorted_spec (a : Option Addr) (cap : Nat) (d : Array (Int × Int)) (w0 w : World) (hs : Srt encPr 2 w0 a d w) (ha : abk a < w0.heap.size) (h0 : 0 < d.size) (hcap : d.size ≤ cap) (hm : d.size ≤ 1000000) :
    RetsY Try.prog 28 #[.slice a d.size cap] w (fun _ : Array (Int × Int) => .slice a (setP d.toList).length cap) (fun d' w' => Srt encPr 2 w0 a d' w' ∧ d'.toList = setP d.toList) := by
  have hC : SrtP.CmpOk encPr a w0 42 [] cmpPr := ⟨eltPr, Try.call42, fun w' m' x y => prOrder_spec x y w'⟩
  refine enter (args := [_]) Try.func28 rfl Try.ntmps28 (by kernel_rfl) rfl ?_
  refine V.seq (V.region (VL.op (R.asS rfl) (VL.nil (V.seq (V.region (VL.op (R.mvS rfl) (VL.callY Try.call41 rfl (SrtP.sortF_spec hC swoP ha cap d.size (by omega) d _ (hs.ext (Mod.refl _ _)) rfl) fun d2 w2 ⟨q1, q2, hs2⟩ => VL.nil (V.seq (?_)))))))))
  have hz : d2.size = d.size := q1.1
  have hset : cpF d2.toList = setP d.toList := setP_cp (l := d.toList) (d := d2) (by simpa using q1) (by simpa using q2)
  have hc := compact_spec a cap d2 w0 w2 hs2 (by omega) (by omega) (by omega)
  rw [hset, hz] at hc
  refine V.region (VL.op (R.mvS rfl) (VL.callY Try.call44 rfl (hc) fun d3 w3 ⟨hs3, h3⟩ => VL.op (R.asS rfl) (VL.nil (V.ret (fret1 (v := .slice _ _ _) rfl rfl rfl (⟨d3, rfl, hs3, h3⟩))))))

/-! ### Classes -/
def par (c : List Int) (i : Nat) : Nat := (c.getD i default).toNat
/-- For each record an earlier one, or itself. -/
def Cls (c : List Int) : Prop := ∀ i, i < c.length → 0 ≤ c.getD i default ∧ c.getD i default ≤ (i : Int)
theorem Cls.par {c : List Int} (h : Cls c) {i : Nat} (hi : i < c.length) : c.getD i default = (par c i : Int) ∧ par c i ≤ i := by
  have := h i hi
  unfold Go.Proofs.Ytlefkkelohhnkaa.par
  omega
def rootN (c : List Int) : Nat → Nat → Nat
  | 0, i => i
  | f + 1, i => if par c i = i then i else rootN c f (par c i)
def rootF (c : List Int) (i : Nat) : Nat := rootN c i i
theorem rootN_fuel {c : List Int} (h : Cls c) : ∀ (i f g : Nat), i < c.length → i ≤ f → i ≤ g → rootN c f i = rootN c g i := by
  intro i
  induction i using Nat.strongRecOn with
  | _ i ih =>
    intro f g hi hf hg
    have hp := (h.par hi).2
    cases f with
    | zero =>
      have : i = 0 := by omega
      subst this
      cases g with
      | zero => rfl
      | succ g => rw [rootN, rootN, if_pos (by omega)]
    | succ f =>
      cases g with
      | zero =>
        have : i = 0 := by omega
        subst this
        rw [rootN, rootN, if_pos (by omega)]
      | succ g =>
        rw [rootN, rootN]
        by_cases e : Go.Proofs.Ytlefkkelohhnkaa.par c i = i
        · rw [if_pos e, if_pos e]
        · rw [if_neg e, if_neg e]
          exact ih _ (by omega) f g (by omega) (by omega) (by omega)
theorem rootF_eq {c : List Int} (h : Cls c) {i : Nat} (hi : i < c.length) : rootF c i = if par c i = i then i else rootF c (par c i) := by
  have hp := (h.par hi).2
  unfold rootF
  cases i with
  | zero => rw [rootN, if_pos (by omega)]
  | succ i =>
    rw [rootN]
    by_cases e : Go.Proofs.Ytlefkkelohhnkaa.par c (i + 1) = i + 1
    · rw [if_pos e, if_pos e]
    · rw [if_neg e, if_neg e]
      exact rootN_fuel h _ _ _ (by omega) (by omega) (Nat.le_refl _)
theorem rootF_unique {c : List Int} (h : Cls c) (f : Nat → Nat) (hf : ∀ i, i < c.length → f i = if par c i = i then i else f (par c i)) : ∀ i, i < c.length → f i = rootF c i := by
  intro i
  induction i using Nat.strongRecOn with
  | _ i ih =>
    intro hi
    have hp := (h.par hi).2
    rw [hf i hi, rootF_eq h hi]
    by_cases e : Go.Proofs.Ytlefkkelohhnkaa.par c i = i
    · rw [if_pos e, if_pos e]
    · rw [if_neg e, if_neg e]
      exact ih _ (by omega) (by omega)
theorem rootF_le {c : List Int} (h : Cls c) : ∀ i, i < c.length → rootF c i ≤ i := by
  intro i
  induction i using Nat.strongRecOn with
  | _ i ih =>
    intro hi
    have hp := (h.par hi).2
    rw [rootF_eq h hi]
    split
    · omega
    · have := ih (Go.Proofs.Ytlefkkelohhnkaa.par c i) (by omega) (by omega); omega
theorem rootF_par {c : List Int} (h : Cls c) : ∀ i, i < c.length → par c (rootF c i) = rootF c i := by
  intro i
  induction i using Nat.strongRecOn with
  | _ i ih =>
    intro hi
    have hp := (h.par hi).2
    rw [rootF_eq h hi]
    split
    · assumption
    · exact ih _ (by omega) (by omega)
theorem rootF_self {c : List Int} (h : Cls c) {i : Nat} (hi : i < c.length) (e : par c i = i) : rootF c i = i := by rw [rootF_eq h hi, if_pos e]
theorem rootF_idem {c : List Int} (h : Cls c) {i : Nat} (hi : i < c.length) : rootF c (rootF c i) = rootF c i :=
  rootF_self h (by have := rootF_le h i hi; omega) (rootF_par h i hi)
theorem par_set {c : List Int} {i : Nat} (hi : i < c.length) (v : Nat) (j : Nat) : par (c.set i (v : Int)) j = if j = i then v else par c j := by
  unfold par
  by_cases h : j = i
  · subst h; simp [List.getD, hi]
  · rw [if_neg h]; simp [List.getD, List.getElem?_set, Ne.symm h]
theorem Cls.set {c : List Int} (h : Cls c) {i v : Nat} (hi : i < c.length) (hv : v ≤ i) : Cls (c.set i (v : Int)) := by
  intro j hj
  rw [List.length_set] at hj
  by_cases e : j = i
  · subst e; simp [List.getD, hi]; omega
  · have := h j hj
    have e2 : (c.set i (v : Int)).getD j default = c.getD j default := by simp [List.getD, List.getElem?_set, Ne.symm e]
    rw [e2]; exact this
/-- Classes that bind alike. -/
structure Alike (c c' : List Int) : Prop where
  len : c'.length = c.length
  cls : Cls c'
  root : ∀ j, j < c.length → rootF c' j = rootF c j
theorem Alike.refl {c : List Int} (h : Cls c) : Alike c c := ⟨rfl, h, fun _ _ => rfl⟩
theorem Alike.trans {c d e : List Int} (h : Alike c d) (k : Alike d e) : Alike c e := ⟨k.len.trans h.len, k.cls, fun j hj => (k.root j (by rw [h.len]; exact hj)).trans (h.root j hj)⟩
/-- A step on the way to the head. -/
theorem Alike.halve {c : List Int} (h : Cls c) {i : Nat} (hi : i < c.length) : Alike c (c.set i ((par c (par c i) : Nat) : Int)) := by
  have hp := (h.par hi).2
  have hp2 := (h.par (i := Go.Proofs.Ytlefkkelohhnkaa.par c i) (by omega)).2
  have hc := h.set hi (v := Go.Proofs.Ytlefkkelohhnkaa.par c (Go.Proofs.Ytlefkkelohhnkaa.par c i)) (by omega)
  refine ⟨by simp, hc, fun j hj => ?_⟩
  refine (rootF_unique hc (rootF c) (fun k hk => ?_) j (by simpa using hj)).symm
  rw [List.length_set] at hk
  rw [par_set hi]
  by_cases e : k = i
  · subst e
    rw [if_pos rfl]
    by_cases e1 : Go.Proofs.Ytlefkkelohhnkaa.par c k = k
    · rw [e1, e1, if_pos rfl]; exact rootF_self h hk e1
    · rw [if_neg (by omega), rootF_eq h hk, if_neg e1]
      rw [rootF_eq h (i := Go.Proofs.Ytlefkkelohhnkaa.par c k) (by omega)]
      by_cases e2 : Go.Proofs.Ytlefkkelohhnkaa.par c (Go.Proofs.Ytlefkkelohhnkaa.par c k) = Go.Proofs.Ytlefkkelohhnkaa.par c k
      · rw [if_pos e2, e2]; exact (rootF_self h (by omega) e2).symm
      · rw [if_neg e2]
  · rw [if_neg e]; exact rootF_eq h hk
/-- Two classes become one. -/
theorem root_join {c : List Int} (h : Cls c) {m n : Nat} (hn : n < c.length) (hmn : m ≤ n) (hrm : par c m = m) (hrn : par c n = n) : Cls (c.set n (m : Int)) ∧ ∀ j, j < c.length → rootF (c.set n (m : Int)) j = if rootF c j = n then m else rootF c j := by
  have hc := h.set hn hmn
  refine ⟨hc, fun j hj => ?_⟩
  refine (rootF_unique hc (fun k => if rootF c k = n then m else rootF c k) (fun k hk => ?_) j (by simpa using hj)).symm
  rw [List.length_set] at hk
  rw [par_set hn]
  by_cases e : k = n
  · subst e
    rw [if_pos rfl, rootF_self h hk hrn, if_pos rfl, rootF_self h (show m < c.length by omega) hrm]
    by_cases e2 : m = k
    · rw [if_pos e2]; exact e2
    · rw [if_neg e2, if_neg e2]
  · rw [if_neg e]
    by_cases e2 : Go.Proofs.Ytlefkkelohhnkaa.par c k = k
    · rw [if_pos e2, rootF_self h hk e2, if_neg e]
    · rw [if_neg e2, rootF_eq h hk, if_neg e2]
end Go.Proofs.Ytlefkkelohhnkaa
