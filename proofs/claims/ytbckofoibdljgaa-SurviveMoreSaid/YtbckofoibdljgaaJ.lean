/- Cells and ints that come in. -/
import Derived.Test.YtbckofoibdljgaaL3
import Derived.Test.YtbckofoibdljgaaVcJoin
namespace Go.Proofs.Ytbckofoibdljgaa
open Go.Vc Go.Sort
section
variable {H : Type} {enc : TypeId × Value → H} {w : World} {spare : Nat → Bool} {held : Bool}
theorem dec3 (n : Nat) (cs : List Value) (x : DataW H × List MemPlace) (h : DataW.trod enc Try.prog w 0 spare held n 3 cs = some x) : ∃ i, cs = encI i := by
  cases n with
  | zero => simp [DataW.trod] at h
  | succ n =>
    unfold DataW.trod at h
    rw [Try.underlying3] at h
    split at h <;> simp_all [encI]
theorem dec9 (n : Nat) (cs : List Value) (x : DataW H × List MemPlace) (h : DataW.trod enc Try.prog w 0 spare held n 9 cs = some x) : ∃ s : ByteArray, cs = [.string s] ∧ s.size ≤ maxLen := by
  cases n with
  | zero => simp [DataW.trod] at h
  | succ n =>
    unfold DataW.trod at h
    rw [Try.underlying9] at h
    split at h <;> simp_all
theorem cells3 : Try.prog.cellsOf 3 = 1 := by kernel_rfl
theorem cells9 : Try.prog.cellsOf 9 = 1 := by kernel_rfl
theorem cells32 : Try.prog.cellsOf 32 = 3 := by kernel_rfl
theorem cells34 : Try.prog.cellsOf 34 = 5 := by kernel_rfl
theorem dec32 (n : Nat) (cs : List Value) (x : DataW H × List MemPlace) (h : DataW.trod enc Try.prog w 0 spare held n 32 cs = some x) : ∃ v, cs = encVal v := by
  have hl := trod_len Try.underlying32 h
  rw [cells32] at hl
  match cs, hl with
  | [c0, c1, c2], _ =>
    obtain ⟨m0, y0, h0⟩ := trod_field Try.underlying32 h (i := 0) rfl
    obtain ⟨m1, y1, h1⟩ := trod_field Try.underlying32 h (i := 1) rfl
    obtain ⟨m2, y2, h2⟩ := trod_field Try.underlying32 h (i := 2) rfl
    have h0 : DataW.trod enc Try.prog w 0 spare held m0 3 (([c0, c1, c2].drop 0).take (Try.prog.cellsOf 3)) = some y0 := h0
    have h1 : DataW.trod enc Try.prog w 0 spare held m1 3 (([c0, c1, c2].drop 1).take (Try.prog.cellsOf 3)) = some y1 := h1
    have h2 : DataW.trod enc Try.prog w 0 spare held m2 9 (([c0, c1, c2].drop 2).take (Try.prog.cellsOf 9)) = some y2 := h2
    rw [cells3] at h0 h1
    rw [cells9] at h2
    obtain ⟨k, e0⟩ := dec3 _ _ _ h0
    obtain ⟨n', e1⟩ := dec3 _ _ _ h1
    obtain ⟨s, e2, _⟩ := dec9 _ _ _ h2
    simp [encI] at e0 e1 e2
    subst e0; subst e1; subst e2
    exact ⟨⟨k, n', s⟩, rfl⟩
theorem dec34 (n : Nat) (cs : List Value) (x : DataW H × List MemPlace) (h : DataW.trod enc Try.prog w 0 spare held n 34 cs = some x) : ∃ c, cs = encCell c := by
  have hl := trod_len Try.underlying34 h
  rw [cells34] at hl
  match cs, hl with
  | [c0, c1, c2, c3, c4], _ =>
    obtain ⟨m0, y0, h0⟩ := trod_field Try.underlying34 h (i := 0) rfl
    obtain ⟨m1, y1, h1⟩ := trod_field Try.underlying34 h (i := 1) rfl
    obtain ⟨m2, y2, h2⟩ := trod_field Try.underlying34 h (i := 2) rfl
    have h0 : DataW.trod enc Try.prog w 0 spare held m0 32 (([c0, c1, c2, c3, c4].drop 0).take (Try.prog.cellsOf 32)) = some y0 := h0
    have h1 : DataW.trod enc Try.prog w 0 spare held m1 3 (([c0, c1, c2, c3, c4].drop 3).take (Try.prog.cellsOf 3)) = some y1 := h1
    have h2 : DataW.trod enc Try.prog w 0 spare held m2 3 (([c0, c1, c2, c3, c4].drop 4).take (Try.prog.cellsOf 3)) = some y2 := h2
    rw [cells3] at h1 h2
    rw [cells32] at h0
    obtain ⟨v, e0⟩ := dec32 _ _ _ h0
    obtain ⟨n', e1⟩ := dec3 _ _ _ h1
    obtain ⟨s, e2⟩ := dec3 _ _ _ h2
    simp [encI, encVal] at e0 e1 e2
    obtain ⟨rfl, rfl, rfl⟩ := e0
    subst e1; subst e2
    exact ⟨⟨v, n', s⟩, rfl⟩
end
end Go.Proofs.Ytbckofoibdljgaa
