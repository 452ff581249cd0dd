/- Own library: what single operations do. 'v' behind a rule's name stands for the frame's value. -/
import Derived.Test.YtbckofoibdljgaaVcMem
namespace Go.Vc
section
variable {P : Program} {ρ : Env} {w : World} {ty t : TypeId} {x y : Operand}

namespace R
theorem mv {v : Value} (hx : tm ρ x = v) : run1 P ρ (.move x) ty w = .ok (.value v) w := by subst hx; rfl
theorem as {v : Value} (hx : tm ρ x = v) : run1 P ρ (.assign x) ty w = .ok (.value v) w := by subst hx; rfl
-- the forms that bring the value to its constructor
theorem mvI {k : IntKind} {a : Int} (hx : tm ρ x = .int k a) : run1 P ρ (.move x) ty w = .ok (.value (.int k a)) w := mv hx
theorem mvB {a : Bool} (hx : tm ρ x = .bool a) : run1 P ρ (.move x) ty w = .ok (.value (.bool a)) w := mv hx
theorem mvS {a : Option Addr} {n c : Nat} (hx : tm ρ x = .slice a n c) : run1 P ρ (.move x) ty w = .ok (.value (.slice a n c)) w := mv hx
theorem mvP {a : Option Addr} (hx : tm ρ x = .pointer a) : run1 P ρ (.move x) ty w = .ok (.value (.pointer a)) w := mv hx
theorem mvM {a : Option Nat} (hx : tm ρ x = .map a) : run1 P ρ (.move x) ty w = .ok (.value (.map a)) w := mv hx
theorem mvG {a : ByteArray} (hx : tm ρ x = .string a) : run1 P ρ (.move x) ty w = .ok (.value (.string a)) w := mv hx
theorem mvA {a : Array Value} (hx : tm ρ x = .agg a) : run1 P ρ (.move x) ty w = .ok (.value (.agg a)) w := mv hx
theorem mvT {a : Array Value} (hx : tm ρ x = .tuple a) : run1 P ρ (.move x) ty w = .ok (.value (.tuple a)) w := mv hx
theorem mvF {f : Fn} {a b : Array Value} (hx : tm ρ x = .func f a b) : run1 P ρ (.move x) ty w = .ok (.value (.func f a b)) w := mv hx
theorem asI {k : IntKind} {a : Int} (hx : tm ρ x = .int k a) : run1 P ρ (.assign x) ty w = .ok (.value (.int k a)) w := as hx
theorem asB {a : Bool} (hx : tm ρ x = .bool a) : run1 P ρ (.assign x) ty w = .ok (.value (.bool a)) w := as hx
theorem asS {a : Option Addr} {n c : Nat} (hx : tm ρ x = .slice a n c) : run1 P ρ (.assign x) ty w = .ok (.value (.slice a n c)) w := as hx
theorem asP {a : Option Addr} (hx : tm ρ x = .pointer a) : run1 P ρ (.assign x) ty w = .ok (.value (.pointer a)) w := as hx
theorem asM {a : Option Nat} (hx : tm ρ x = .map a) : run1 P ρ (.assign x) ty w = .ok (.value (.map a)) w := as hx
theorem asG {a : ByteArray} (hx : tm ρ x = .string a) : run1 P ρ (.assign x) ty w = .ok (.value (.string a)) w := as hx
theorem asA {a : Array Value} (hx : tm ρ x = .agg a) : run1 P ρ (.assign x) ty w = .ok (.value (.agg a)) w := as hx
theorem asT {a : Array Value} (hx : tm ρ x = .tuple a) : run1 P ρ (.assign x) ty w = .ok (.value (.tuple a)) w := as hx
theorem asF {f : Fn} {a b : Array Value} (hx : tm ρ x = .func f a b) : run1 P ρ (.assign x) ty w = .ok (.value (.func f a b)) w := as hx
theorem pickT {a b c : Operand} {v : Value} (hc : tm ρ c = .bool true) (ha : tm ρ a = v) : run1 P ρ (.pick c a b) ty w = .ok (.value v) w := by
  simp [run1, execOp, hc, ha, asBool, bind, Sem.bind, Sem.run, pure]
theorem pickF {a b c : Operand} {v : Value} (hc : tm ρ c = .bool false) (hb : tm ρ b = v) : run1 P ρ (.pick c a b) ty w = .ok (.value v) w := by
  simp [run1, execOp, hc, hb, asBool, bind, Sem.bind, Sem.run, pure]
theorem pickTB {a b c : Operand} {v : Bool} (hc : tm ρ c = .bool true) (ha : tm ρ a = .bool v) : run1 P ρ (.pick c a b) ty w = .ok (.value (.bool v)) w := pickT hc ha
theorem pickFB {a b c : Operand} {v : Bool} (hc : tm ρ c = .bool false) (hb : tm ρ b = .bool v) : run1 P ρ (.pick c a b) ty w = .ok (.value (.bool v)) w := pickF hc hb
end R

/-! ### integers -/
theorem wrap_i64 {n : Int} (h1 : -9223372036854775808 ≤ n) (h2 : n ≤ 9223372036854775807) : IntKind.i64.wrap n = n := by
  exact IntWalk.i64_in _ ⟨h1, h2⟩

namespace R
section
variable {k : IntKind} {a b : Int} {ty2 : TypeId}
theorem lss (hx : tm ρ x = .int k a) (hy : tm ρ y = .int k b) : run1 P ρ (.binOp .lss t x y ty2) ty w = .ok (.value (.bool (decide (a < b)))) w := by
  simp [run1, execOp, hx, hy, eqGuard, binOp, Op.intCmp, bind, Sem.bind, Sem.run, pure]
theorem leq (hx : tm ρ x = .int k a) (hy : tm ρ y = .int k b) : run1 P ρ (.binOp .leq t x y ty2) ty w = .ok (.value (.bool (decide (a ≤ b)))) w := by
  simp [run1, execOp, hx, hy, eqGuard, binOp, Op.intCmp, bind, Sem.bind, Sem.run, pure]
theorem gtr (hx : tm ρ x = .int k a) (hy : tm ρ y = .int k b) : run1 P ρ (.binOp .gtr t x y ty2) ty w = .ok (.value (.bool (decide (b < a)))) w := by
  simp [run1, execOp, hx, hy, eqGuard, binOp, Op.intCmp, bind, Sem.bind, Sem.run, pure]
theorem geq (hx : tm ρ x = .int k a) (hy : tm ρ y = .int k b) : run1 P ρ (.binOp .geq t x y ty2) ty w = .ok (.value (.bool (decide (b ≤ a)))) w := by
  simp [run1, execOp, hx, hy, eqGuard, binOp, Op.intCmp, bind, Sem.bind, Sem.run, pure]
theorem eql (hx : tm ρ x = .int k a) (hy : tm ρ y = .int k b) : run1 P ρ (.binOp .eql t x y ty2) ty w = .ok (.value (.bool (decide (a = b)))) w := by
  have : (a == b) = decide (a = b) := rfl
  simp [run1, execOp, hx, hy, eqGuard, binOp, Op.intCmp, bind, Sem.bind, Sem.run, pure, this]
theorem neq (hx : tm ρ x = .int k a) (hy : tm ρ y = .int k b) : run1 P ρ (.binOp .neq t x y ty2) ty w = .ok (.value (.bool (decide (a ≠ b)))) w := by
  have : (a != b) = decide (a ≠ b) := by by_cases h : a = b <;> simp [h]
  simp [run1, execOp, hx, hy, eqGuard, binOp, Op.intCmp, bind, Sem.bind, Sem.run, pure, this]
theorem addw (hx : tm ρ x = .int k a) (hy : tm ρ y = .int k b) : run1 P ρ (.binOp .add t x y ty2) ty w = .ok (.value (.int k (k.wrap (a + b)))) w := by
  simp [run1, execOp, hx, hy, eqGuard, binOp, Op.intArith, bind, Sem.bind, Sem.run, pure]
theorem subw (hx : tm ρ x = .int k a) (hy : tm ρ y = .int k b) : run1 P ρ (.binOp .sub t x y ty2) ty w = .ok (.value (.int k (k.wrap (a - b)))) w := by
  simp [run1, execOp, hx, hy, eqGuard, binOp, Op.intArith, bind, Sem.bind, Sem.run, pure]
theorem mulw (hx : tm ρ x = .int k a) (hy : tm ρ y = .int k b) : run1 P ρ (.binOp .mul t x y ty2) ty w = .ok (.value (.int k (k.wrap (a * b)))) w := by
  simp [run1, execOp, hx, hy, eqGuard, binOp, Op.intArith, bind, Sem.bind, Sem.run, pure]
theorem add (hx : tm ρ x = .int .i64 a) (hy : tm ρ y = .int .i64 b) (h1 : -9223372036854775808 ≤ a + b) (h2 : a + b ≤ 9223372036854775807) :
    run1 P ρ (.binOp .add t x y ty2) ty w = .ok (.value (.int .i64 (a + b))) w := by rw [addw hx hy, wrap_i64 h1 h2]
theorem sub (hx : tm ρ x = .int .i64 a) (hy : tm ρ y = .int .i64 b) (h1 : -9223372036854775808 ≤ a - b) (h2 : a - b ≤ 9223372036854775807) :
    run1 P ρ (.binOp .sub t x y ty2) ty w = .ok (.value (.int .i64 (a - b))) w := by rw [subw hx hy, wrap_i64 h1 h2]
theorem mul (hx : tm ρ x = .int .i64 a) (hy : tm ρ y = .int .i64 b) (h1 : -9223372036854775808 ≤ a * b) (h2 : a * b ≤ 9223372036854775807) :
    run1 P ρ (.binOp .mul t x y ty2) ty w = .ok (.value (.int .i64 (a * b))) w := by rw [mulw hx hy, wrap_i64 h1 h2]
theorem rem (hx : tm ρ x = .int k a) (hy : tm ρ y = .int k b) (h1 : 0 ≤ a) (h2 : 0 < b) :
    run1 P ρ (.binOp .rem t x y ty2) ty w = .ok (.value (.int k (a % b))) w := by
  have hb : ¬ b = 0 := by omega
  have : a.tmod b = a % b := Int.tmod_eq_emod_of_nonneg h1
  simp [run1, execOp, hx, hy, eqGuard, binOp, Op.intDiv, bind, Sem.bind, Sem.run, pure, hb, this]
theorem quo (hx : tm ρ x = .int .i64 a) (hy : tm ρ y = .int .i64 b) (h1 : 0 ≤ a) (h2 : 0 < b) (h3 : a ≤ 9223372036854775807) :
    run1 P ρ (.binOp .quo t x y ty2) ty w = .ok (.value (.int .i64 (a / b))) w := by
  have hb : ¬ b = 0 := by omega
  have e : a.tdiv b = a / b := Int.tdiv_eq_ediv_of_nonneg h1
  have h4 : 0 ≤ a / b := Int.ediv_nonneg h1 (by omega)
  have h5 : a / b ≤ a := Int.ediv_le_self _ h1
  have hw : IntKind.i64.wrap (a / b) = a / b := wrap_i64 (by omega) (by omega)
  simp [run1, execOp, hx, hy, eqGuard, binOp, Op.intDiv, bind, Sem.bind, Sem.run, pure, hb, e, hw]
theorem neg (hx : tm ρ x = .int .i64 a) (h1 : -9223372036854775808 < a) (h2 : a ≤ 9223372036854775807) :
    run1 P ρ (.unOp .neg t x) ty w = .ok (.value (.int .i64 (-a))) w := by
  have : IntKind.i64.wrap (0 - a) = -a := by rw [wrap_i64 (by omega) (by omega)]; omega
  simp only [run1, execOp, hx, Op.unary, Op.intArith, bind, Sem.bind, Sem.run, pure, this]
theorem not {b : Bool} (hx : tm ρ x = .bool b) : run1 P ρ (.unOp .not t x) ty w = .ok (.value (.bool (!b))) w := by
  simp [run1, execOp, hx, Op.unary, bind, Sem.bind, Sem.run, pure]
theorem notD {b : Prop} [Decidable b] (hx : tm ρ x = .bool (decide b)) : run1 P ρ (.unOp .not t x) ty w = .ok (.value (.bool (decide (¬ b)))) w := by
  have e : (!decide b) = decide (¬ b) := by simp
  rw [not hx, e]
theorem max {ts : Array TypeId} (hx : tm ρ x = .int k a) (hy : tm ρ y = .int k b) :
    run1 P ρ (.call { callee := .builtin .max, args := #[x, y], argTypes := ts }) ty w = .ok (.value (.int k (Max.max a b))) w := by
  have e : (if a < b then b else a) = Max.max a b := by omega
  simp [run1, execOp, hx, hy, resolve, invoke, builtin, Builtin.max_, Builtin.max2, bind, Sem.bind, Sem.run, pure, e]
theorem min {ts : Array TypeId} (hx : tm ρ x = .int k a) (hy : tm ρ y = .int k b) :
    run1 P ρ (.call { callee := .builtin .min, args := #[x, y], argTypes := ts }) ty w = .ok (.value (.int k (Min.min a b))) w := by
  have e : (if b < a then b else a) = Min.min a b := by omega
  simp [run1, execOp, hx, hy, resolve, invoke, builtin, Builtin.min_, Builtin.min2, bind, Sem.bind, Sem.run, pure, e]
end

/-! ### slices, fields -/
theorem lenS {a : Option Addr} {n c e T : Nat} (hu : ∀ w, (underlying T).run P w = .ok (.slice e) w) (hx : tm ρ x = .slice a n c) :
    run1 P ρ (.call { callee := .builtin .len, args := #[x], argTypes := #[T] }) ty w = .ok (.value (.int .i64 (n : Nat))) w := by
  simp [run1, go_sem, hx, hu, Builtin.len_, goInt]
theorem ixS {a : Option Addr} {n c e T s : Nat} {k : IntKind} {j : Int} (hu : ∀ w, (underlying T).run P w = .ok (.slice e) w) (hs : ∀ w, (sizeOf e).run P w = .ok s w)
    (hx : tm ρ x = .slice a n c) (hy : tm ρ y = .int k j) (h0 : 0 ≤ j) (h1 : j < n) (ha : ∃ b off, a = some ⟨b, off, none⟩) :
    run1 P ρ (.indexAddr T x y) ty w = .ok (.value (.pointer (some (eAddr a s j.toNat)))) w := by
  obtain ⟨b, off, rfl⟩ := ha
  simp [run1, go_sem, hx, hy, hu, hs, Instr.indexAt, h0, h1, eAddr, abk, aoff]
/-- An array's variable. -/
theorem ixA {b off n e T s : Nat} {k : IntKind} {j : Int} (hu : ∀ w, (underlying T).run P w = .ok (.array n e) w) (hs : ∀ w, (sizeOf e).run P w = .ok s w)
    (hx : tm ρ x = .pointer (some ⟨b, off, none⟩)) (hy : tm ρ y = .int k j) (h0 : 0 ≤ j) (h1 : j < n) :
    run1 P ρ (.indexAddr T x y) ty w = .ok (.value (.pointer (some ⟨b, off + j.toNat * s, none⟩))) w := by
  simp [run1, go_sem, hx, hy, hu, hs, Instr.indexAt, h0, h1]
theorem fld {ad : Addr} {T s i : Nat} {fs : Array Field} {f : Field} (hu : ∀ w, (underlying T).run P w = .ok (.struct fs) w) (hf : fs[i]? = some f)
    (hs : ∀ w, (sizeOf f.type).run P w = .ok (s + 1) w) (hx : tm ρ x = .pointer (some ad)) (hsp : ad.spot = none) :
    run1 P ρ (.fieldAddr T x i) ty w = .ok (.value (.pointer (some ⟨ad.block, ad.off + f.offset, none⟩))) w := by
  obtain ⟨b, off, sp⟩ := ad
  cases hsp
  simp [run1, go_sem, hx, hu, hs, Instr.fieldAt, hf, fieldPlace]
theorem fld' {ad : Addr} {T s i o : Nat} {fs : Array Field} {f : Field} (hu : ∀ w, (underlying T).run P w = .ok (.struct fs) w) (hf : fs[i]? = some f) (ho : f.offset = o)
    (hs : ∀ w, (sizeOf f.type).run P w = .ok (s + 1) w) (hx : tm ρ x = .pointer (some ad)) (hsp : ad.spot = none) :
    run1 P ρ (.fieldAddr T x i) ty w = .ok (.value (.pointer (some ⟨ad.block, ad.off + o, none⟩))) w := by subst ho; exact fld hu hf hs hx hsp
theorem ld1 {ad : Addr} {v : Value} (hg : ∀ w, (isAgg t).run P w = .ok false w) (hx : tm ρ x = .pointer (some ad)) (hc : w.cell? ad = some v) :
    run1 P ρ (.load t x) ty w = .ok (.value v) w := by
  simp [run1, go_sem, hx, Instr.loadAt, loadVar, hg, hc]
end R

theorem loadCellsFrom_run {P : Program} (b off : Nat) (w : World) : ∀ (cs : List Value) (i : Nat) (acc : Array Value), (∀ j v, cs[j]? = some v → w.cell? ⟨b, off + (i + j), none⟩ = some v) →
    (loadCellsFrom ⟨b, off, none⟩ i cs.length acc).run P w = .ok (acc ++ cs.toArray) w := by
  intro cs
  induction cs with
  | nil => intro i acc _; simp [loadCellsFrom, go_sem]
  | cons c cs ih =>
    intro i acc h
    have h0 := h 0 c (by simp)
    have := ih (i + 1) (acc.push c) (fun j v hj => by have := h (j + 1) v (by simpa using hj); rw [show i + 1 + j = i + (j + 1) from by omega]; exact this)
    simp only [List.length_cons, loadCellsFrom]
    rw [Nat.add_zero] at h0
    simp [go_sem, h0, this]

theorem loadVar_agg {P : Program} {t : TypeId} {ad : Addr} {cs : List Value} {w : World} (hg : ∀ w, (isAgg t).run P w = .ok true w) (hs : ∀ w, (sizeOf t).run P w = .ok cs.length w) (hsp : ad.spot = none) (hr : RowAt w ad.block ad.off cs) :
    (loadVar t ad).run P w = .ok (.agg cs.toArray) w := by
  obtain ⟨b, off, sp⟩ := ad
  cases hsp
  have h := loadCellsFrom_run (P := P) b off w cs 0 #[] (fun j v hj => by rw [Nat.zero_add]; exact hr.cell hj)
  unfold loadVar
  simp [go_sem, hg, hs, loadCells, h]

namespace R
theorem ldA {ad : Addr} {s : Nat} {cs : List Value} (hg : ∀ w, (isAgg t).run P w = .ok true w) (hs : ∀ w, (sizeOf t).run P w = .ok s w)
    (hx : tm ρ x = .pointer (some ad)) (hsp : ad.spot = none) (hr : RowAt w ad.block ad.off cs) (hl : cs.length = s) :
    run1 P ρ (.load t x) ty w = .ok (.value (.agg cs.toArray)) w := by
  subst hl
  have := loadVar_agg (P := P) hg hs hsp hr
  simp only [run1, execOp, hx, Instr.loadAt, Instr.sureAddr, Sem.run_bind, Sem.run_pure, Result.andThen_ok, this]
theorem extr {i : Nat} {vs : Array Value} {v : Value} (hx : tm ρ x = .tuple vs) (hv : vs[i]? = some v) : run1 P ρ (.extract x i) ty w = .ok (.value v) w := by
  simp [run1, go_sem, hx, Instr.extract, hv]
theorem mkF {f : Go.Fn} {a b : Array Operand} {a' b' : Array Value} (ha : a.map (tm ρ) = a') (hb : b.map (tm ρ) = b') : run1 P ρ (.makeFunc f a b) ty w = .ok (.value (.func f a' b')) w := by
  subst ha; subst hb; rfl
end R
end
theorem ba_toList (x : ByteArray) : x.toList = x.data.toList := by
  exact ByteArray.toList_eq x
theorem ba_inj {x y : ByteArray} (h : x.toList = y.toList) : x = y := by
  rw [ba_toList, ba_toList] at h
  cases x; cases y
  simp only [ByteArray.mk.injEq]
  exact Array.toList_inj.1 h
section
variable {P : Program} {ρ : Env} {w : World} {ty t ty2 : TypeId} {x y : Operand} {a b : ByteArray}
def sLt (x y : ByteArray) : Bool := Op.bytesLess x.toList y.toList
theorem sEq_iff (a b : ByteArray) : (a.toList == b.toList) = decide (a = b) := by
  by_cases h : a = b
  · simp [h]
  · have : a.toList ≠ b.toList := fun e => h (ba_inj e)
    simp [h, this]
namespace R
theorem eqlG (hx : tm ρ x = .string a) (hy : tm ρ y = .string b) : run1 P ρ (.binOp .eql t x y ty2) ty w = .ok (.value (.bool (decide (a = b)))) w := by
  have := sEq_iff a b
  simp only [run1, execOp, hx, hy, eqGuard, binOp, Op.stringOp, bind, Sem.bind, Sem.run, pure, this]
  rfl
theorem neqG (hx : tm ρ x = .string a) (hy : tm ρ y = .string b) : run1 P ρ (.binOp .neq t x y ty2) ty w = .ok (.value (.bool (decide (a ≠ b)))) w := by
  have : (!(a.toList == b.toList)) = decide (a ≠ b) := by rw [sEq_iff]; simp
  have h2 : (a.toList != b.toList) = decide (a ≠ b) := this
  simp only [run1, execOp, hx, hy, eqGuard, binOp, Op.stringOp, bind, Sem.bind, Sem.run, pure, this]
  rfl
theorem lssG (hx : tm ρ x = .string a) (hy : tm ρ y = .string b) : run1 P ρ (.binOp .lss t x y ty2) ty w = .ok (.value (.bool (sLt a b))) w := by
  simp only [run1, execOp, hx, hy, eqGuard, binOp, Op.stringOp, bind, Sem.bind, Sem.run, pure]; rfl
theorem gtrG (hx : tm ρ x = .string a) (hy : tm ρ y = .string b) : run1 P ρ (.binOp .gtr t x y ty2) ty w = .ok (.value (.bool (!(sLt a b || decide (a = b))))) w := by
  have := sEq_iff a b
  simp only [run1, execOp, hx, hy, eqGuard, binOp, Op.stringOp, bind, Sem.bind, Sem.run, pure, this]; rfl
theorem lenG {T : Nat} (hu : ∀ w, (underlying T).run P w = .ok .string w) (hx : tm ρ x = .string a) :
    run1 P ρ (.call { callee := .builtin .len, args := #[x], argTypes := #[T] }) ty w = .ok (.value (.int .i64 (a.size : Nat))) w := by
  simp [run1, go_sem, hx, hu, Builtin.len_, goInt]
end R
end
end Go.Vc
