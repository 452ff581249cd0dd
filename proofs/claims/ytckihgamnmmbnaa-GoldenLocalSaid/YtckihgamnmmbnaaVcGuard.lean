/- Own library: guards of known truth in regions of open order with specials; truths that are told. -/
import Derived.Test.YtckihgamnmmbnaaVcTurn
import Derived.Test.YtckihgamnmmbnaaVcClear
namespace Go.Vc
section
variable {P : Program} {N : Nat} {L : List Oper} {ρ : Env} {w0 : World} {us : Nat → Value} {F : Nat → World → Prop} {K : Env → Prop} {j i : Nat} {Sl : List (Option Rel)} {vl : List Value} {l : List Oper} {q : Op} {ty : TypeId} {p : String} {af : Array Edge}
theorem VS.gT {i0 dj : Nat} {want : Bool} {d : Option Tmp} (hd : dstAt L i0 = some dj) (ht : tm ρ (.tmp dj) = .bool want)
    (h : VS P L w0 us F (j + 1) i Sl vl ({ dst := d, op := q, type := ty, pos := p, after := af, guard := none } :: l) ρ K) :
    VS P L w0 us F (j + 1) i Sl vl ({ dst := d, op := q, type := ty, pos := p, after := af, guard := some (i0, want) } :: l) ρ K := by
  have hy : yl L ρ i0 = some want := by
    unfold yl; rw [hd]
    have ht : ρ dj = .bool want := ht
    simp only [ht]
  have hw : wantedE L ρ { dst := d, op := q, type := ty, pos := p, after := af, guard := some (i0, want) } = true := by simp [wantedE, Region.wanted, hy]
  obtain ⟨h⟩ := h
  refine ⟨?_⟩
  match Sl, vl with
  | none :: Sl, v :: vl => exact ⟨fun _ => h.1 (by simp [wantedE, Region.wanted]), fun hn => (by rw [hw] at hn; cases hn), h.2.2⟩
  | some S :: Sl, v :: vl => exact ⟨h.1, hw, h.2.2.1, h.2.2.2⟩
  | [], _ => exact h.elim
  | _ :: _, [] => cases ‹Option Rel› <;> exact h.elim
theorem VS.gF {i0 dj d : Nat} {want : Bool} (hd : dstAt L i0 = some dj) (ht : tm ρ (.tmp dj) = .bool (!want)) (h : VS P L w0 us F j (i + 1) Sl vl l (upd ρ d undef) K) :
    VS P L w0 us F (j + 1) i (none :: Sl) (undef :: vl) ({ dst := some d, op := q, type := ty, pos := p, after := af, guard := some (i0, want) } :: l) ρ K := by
  have hy : yl L ρ i0 = some (!want) := by
    unfold yl; rw [hd]
    have ht : ρ dj = .bool (!want) := ht
    simp only [ht]
  have hw : wantedE L ρ { dst := some d, op := q, type := ty, pos := p, after := af, guard := some (i0, want) } = false := by simp [wantedE, Region.wanted, hy]
  exact ⟨⟨fun hn => (by rw [hw] at hn; cases hn), fun _ => rfl, h.go⟩⟩
theorem VS.gU {i0 dj d : Nat} {want : Bool} (hd : dstAt L i0 = some dj) (ht : tm ρ (.tmp dj) = undef) (h : VS P L w0 us F j (i + 1) Sl vl l (upd ρ d undef) K) :
    VS P L w0 us F (j + 1) i (none :: Sl) (undef :: vl) ({ dst := some d, op := q, type := ty, pos := p, after := af, guard := some (i0, want) } :: l) ρ K := by
  have hy : yl L ρ i0 = none := by
    unfold yl; rw [hd]
    have ht : ρ dj = undef := ht
    simp only [ht]; rfl
  have hw : wantedE L ρ { dst := some d, op := q, type := ty, pos := p, after := af, guard := some (i0, want) } = false := by simp [wantedE, Region.wanted, hy]
  exact ⟨⟨fun hn => (by rw [hw] at hn; cases hn), fun _ => rfl, h.go⟩⟩
end
theorem R.lit {P : Program} {ρ : Env} {q : Op} {ty : TypeId} {w : World} {b c : Bool} (h : run1 P ρ q ty w = .ok (.value (.bool b)) w) (hb : b = c) : run1 P ρ q ty w = .ok (.value (.bool c)) w := by rw [h, hb]
/-- 'make([]T, n)' in a region of open order. -/
theorem yieldsR_make {P : Program} {ρ : Env} {w : World} {d : Nat} {ty t : TypeId} {p : String} {af : Array Edge} {x y : Operand} {α : Type} {enc : α → List Value} {e s bytes : Nat} {z : Value} (E : ElT P t e s bytes z) (u0 : α) (hz : z.cells.toList = enc u0) {n : Nat} {B : Nat} (hx : tm ρ x = .int .i64 n) (hy : tm ρ y = .int .i64 n) (hbytes : bytes * n ≤ 281474976710656) (h63 : n ≤ maxLen) (hB : B ≤ w.heap.size)
    {K : Value → World → Prop} (h : ∀ b w', b = w.heap.size → Ext w w' → OwnT enc s e B w' (some ⟨b, 0, none⟩) n (List.replicate n u0) → K (.slice (some ⟨b, 0, none⟩) n n) w') :
    yieldsR P ρ { dst := some d, op := .makeSlice t x y, type := ty, pos := p, after := af, guard := none } w K := by
  obtain ⟨i, hi, hzz, hsz, hby⟩ := E.hi
  subst hsz; subst hby
  have hr := run_make (P := P) w t e i z E.ht hi hzz .i64 .i64 (n : Int) (n : Int) (by omega) (by omega) (by
    have h1 : ((i.bytes * n : Nat) : Int) ≤ 281474976710656 := by omega
    rwa [Int.natCast_mul] at h1) (by simp [maxLen] at h63; omega)
  simp only [Int.toNat_natCast] at hr
  have e1 : run1 P ρ (.makeSlice t x y) ty w = .ok (.value (.slice (some ⟨w.heap.size, 0, none⟩) n n)) (w.alloc (.cells (madeCells z.cells (n * i.size)) e)) := by
    simp only [run1, execOp, hx, hy, Sem.run_bind, hr, Result.andThen_ok, Sem.run_pure]
  unfold yieldsR
  rw [run1_eq, e1]
  refine h _ _ rfl (Ext.alloc _ _) ?_
  have hm : madeCells z.cells (n * i.size) = (zrep z.cells.toList n).toArray := by
    have h2 := zero_cells z.cells (by rw [E.hz]; exact E.hs) n
    rw [← h2, E.hz]
    unfold madeCells
    simp [E.hz]
  have := OwnT.of_blk (enc := enc) (s := i.size) (B := B) (l := List.replicate n u0) (Blk.alloc w (.cells (madeCells z.cells (n * i.size)) e)) hB (by rw [hm, zrep_eq]; simp [hz]) (fun r hr => by
    obtain ⟨v, hv, rfl⟩ := List.mem_map.1 hr
    rw [List.eq_of_mem_replicate hv, ← hz]
    simpa using E.hz) (by simpa using h63)
  simpa using this
theorem R.neqB {P : Program} {ρ : Env} {w : World} {ty t ty2 : TypeId} {x y : Operand} {a b : Bool} (hq : ∀ a b w, (Op.equal t (.bool a) (.bool b)).run P w = .ok (decide (a = b)) w) (hx : tm ρ x = .bool a) (hy : tm ρ y = .bool b) : run1 P ρ (.binOp .neq t x y ty2) ty w = .ok (.value (.bool (decide (a ≠ b)))) w := by
  have h := hq a b w
  have hp : (eqGuard .neq t x y (.bool a) (.bool b)).run P w = .ok () w := by
    simp [eqGuard, go_sem]
  have e : (!decide (a = b)) = decide (a ≠ b) := by simp
  simp only [run1, execOp, hx, hy, Sem.run_bind, hp, Result.andThen_ok, binOp, h, Sem.run_pure, e]
theorem R.eqlB {P : Program} {ρ : Env} {w : World} {ty t ty2 : TypeId} {x y : Operand} {a b : Bool} (hq : ∀ a b w, (Op.equal t (.bool a) (.bool b)).run P w = .ok (decide (a = b)) w) (hx : tm ρ x = .bool a) (hy : tm ρ y = .bool b) : run1 P ρ (.binOp .eql t x y ty2) ty w = .ok (.value (.bool (decide (a = b)))) w := by
  have h := hq a b w
  have hp : (eqGuard .eql t x y (.bool a) (.bool b)).run P w = .ok () w := by
    simp [eqGuard, go_sem]
  simp only [run1, execOp, hx, hy, Sem.run_bind, hp, Result.andThen_ok, binOp, h, Sem.run_pure]
end Go.Vc
