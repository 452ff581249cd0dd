/- Functions with loops over cells and numbers. -/
import Derived.Test.YtbckofoibdljgaaS2
namespace Go.Proofs.Ytbckofoibdljgaa
open Go.Vc
instance : Inhabited Val := ⟨⟨0, 0, ⟨#[]⟩⟩⟩
instance : Inhabited Cell := ⟨⟨default, 0, 0⟩⟩
abbrev CellSl (w : World) (a : Option Addr) (l : List Cell) : Prop := TSl encCell 5 w a l

theorem all_snoc {α : Type} [Inhabited α] (p : α → Bool) (l : List α) (k : Nat) (hk : k < l.length) : (l.take (k + 1)).all p = ((l.take k).all p && p (l.getD k default)) := by
  rw [List.take_succ_eq_append_getElem hk, List.all_append]
  simp [List.getD, hk]
theorem all_take_false {α : Type} [Inhabited α] (p : α → Bool) (l : List α) (k : Nat) (hk : k < l.length) (h : p (l.getD k default) = false) : l.all p = false := by
  rw [List.all_eq_false]
  exact ⟨l[k], by simp, by simpa [List.getD, hk] using h⟩

def small (c : Cell) : Bool := decide ((c.val.text.size : Int) ≤ 300)
def fewB (l : List Cell) (n : Int) : Bool := l.all small && decide ((l.length : Int) ≤ n)

theorem few_spec (a : Option Addr) (cap : Nat) (l : List Cell) (n : Int) (w : World) (hm : l.length ≤ 9223372036854775807) (hS : CellSl w a l) :
    RetsP Try.prog 11 #[.slice a l.length cap, .int .i64 n] w (.bool (fewB l n)) := by
  refine enter (args := [_, _]) Try.func11 rfl Try.ntmps11 (by kernel_rfl) rfl ?_
  refine V.seq (V.region (VL.op (R.asB rfl) (VL.nil (V.seq (V.seq (V.region (VL.op (R.asI rfl) (VL.nil (V.block (?_))))))))))
  refine V.loop [0, 1, 5] (fun k : Nat => [.slice a l.length cap, .int .i64 n, .int .i64 k]) (fun k w' => k ≤ l.length ∧ (l.take k).all small = true ∧ Ext w w') (fun k => l.length - k) 0 rfl ⟨by omega, by simp, Mod.refl _ _⟩ ?_
  rintro ρ k w1 ⟨hk, hi, e⟩
  refine V.seq (V.seq (V.region (VL.op (R.mvI rfl) (VL.op (R.mvS rfl) (VL.op (R.lenS Try.runUnderlying22 rfl) (VL.op (R.lss rfl rfl) (VL.nil (V.condP rfl (fun c9 => V.skip (V.seq (V.block (V.seq (V.region (VL.op (R.mvS rfl) (VL.op (R.mvI rfl) (VL.op (R.ixS Try.runUnderlying22 Try.sizeOf34 rfl rfl (by omega) (by omega) (hS.some (i := k) (by omega))) (VL.op (R.fld' (o := 0) Try.runUnderlying34 rfl rfl Try.sizeOf32 rfl rfl) (VL.op (R.fld' (o := 2) Try.runUnderlying32 rfl rfl Try.sizeOf9 rfl rfl) (VL.op (R.ld1 Try.isAgg9 rfl ((((hS.ext (e.trans (Mod.refl _ _))).row (i := k) (by omega)).cell (i := 2) rfl))) (VL.op (R.lenG Try.runUnderlying9 rfl) (VL.op (R.gtr rfl rfl) (VL.nil (V.condP rfl (fun c19 => V.seq (V.region (VL.op (R.asB rfl) (VL.nil (V.ret (fret1 (v := .bool _) rfl rfl rfl (⟨?_, e.trans (Mod.refl _ _)⟩))))))) (fun c19 => V.skip (V.region (VL.op (R.mvI rfl) (VL.op (R.add rfl rfl (by omega) (by omega)) (VL.op (R.asI rfl) (VL.nil (⟨k + 1, rfl, ⟨by omega, ?_, e.trans (Mod.refl _ _)⟩, by omega⟩)))))))))))))))))))))) (fun c9 => V.exit (V.seq (V.region (VL.op (R.mvS rfl) (VL.op (R.lenS Try.runUnderlying22 rfl) (VL.op (R.mvI rfl) (VL.op (R.leq rfl rfl) (VL.op (R.asB rfl) (VL.nil (V.ret (fret1 (v := .bool _) rfl rfl rfl (⟨?_, e.trans (Mod.refl _ _)⟩))))))))))))))))))))
  · have h := all_take_false small l k (by omega) (by unfold small; simpa using c19)
    simp [fewB, h]
  · rw [all_snoc _ _ _ (by omega), hi]; unfold small; simpa using c19
  · have : k = l.length := by omega
    subst this
    rw [List.take_length] at hi
    simp [fewB, hi]
end Go.Proofs.Ytbckofoibdljgaa
