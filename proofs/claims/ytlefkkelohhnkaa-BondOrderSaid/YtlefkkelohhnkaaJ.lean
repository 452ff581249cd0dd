/- Bond: records and decisions that come in. -/
import Derived.Test.YtlefkkelohhnkaaL3
import Derived.Test.YtlefkkelohhnkaaVcJoin
namespace Go.Proofs.Ytlefkkelohhnkaa
open Go.Vc
section
variable {H : Type} {enc : TypeId × Value → H} {w : World} {spare : Nat → Bool} {held : Bool}
set_option maxRecDepth 100000 in
theorem dec3 (n : Nat) (cs : List Value) (x : DataW H × List MemPlace) (h : DataW.trod enc Try.prog w 0 spare held n 3 cs = some x) : ∃ i, cs = encI i := by
  cases n with
  | zero => simp [DataW.trod] at h
  | succ n =>
    unfold DataW.trod at h
    rw [Try.underlying3] at h
    split at h <;> simp_all [encI]
set_option maxRecDepth 100000 in
theorem dec9 (n : Nat) (cs : List Value) (x : DataW H × List MemPlace) (h : DataW.trod enc Try.prog w 0 spare held n 9 cs = some x) : ∃ s : ByteArray, cs = [.string s] ∧ s.size ≤ maxLen := by
  cases n with
  | zero => simp [DataW.trod] at h
  | succ n =>
    unfold DataW.trod at h
    rw [Try.underlying9] at h
    split at h <;> simp_all
theorem cells3 : Try.prog.cellsOf 3 = 1 := by kernel_rfl
theorem cells9 : Try.prog.cellsOf 9 = 1 := by kernel_rfl
theorem cells37 : Try.prog.cellsOf 37 = 3 := by kernel_rfl
theorem cells39 : Try.prog.cellsOf 39 = 7 := by kernel_rfl
theorem cells66 : Try.prog.cellsOf 66 = 6 := by kernel_rfl
theorem dec37 (n : Nat) (cs : List Value) (x : DataW H × List MemPlace) (h : DataW.trod enc Try.prog w 0 spare held n 37 cs = some x) : ∃ k, cs = encKey k := by
  have hl := trod_len Try.underlying37 h
  rw [cells37] at hl
  match cs, hl with
  | [c0, c1, c2], _ =>
    obtain ⟨m0, y0, h0⟩ := trod_field Try.underlying37 h (i := 0) rfl
    obtain ⟨m1, y1, h1⟩ := trod_field Try.underlying37 h (i := 1) rfl
    obtain ⟨m2, y2, h2⟩ := trod_field Try.underlying37 h (i := 2) rfl
    have h0 : DataW.trod enc Try.prog w 0 spare held m0 3 (([c0, c1, c2].drop 0).take (Try.prog.cellsOf 3)) = some y0 := h0
    have h1 : DataW.trod enc Try.prog w 0 spare held m1 9 (([c0, c1, c2].drop 1).take (Try.prog.cellsOf 9)) = some y1 := h1
    have h2 : DataW.trod enc Try.prog w 0 spare held m2 9 (([c0, c1, c2].drop 2).take (Try.prog.cellsOf 9)) = some y2 := h2
    rw [cells3] at h0
    rw [cells9] at h1 h2
    obtain ⟨k, e0⟩ := dec3 _ _ _ h0
    obtain ⟨s, e1, _⟩ := dec9 _ _ _ h1
    obtain ⟨t, e2, _⟩ := dec9 _ _ _ h2
    simp [encI] at e0 e1 e2
    subst e0; subst e1; subst e2
    exact ⟨⟨k, s, t⟩, rfl⟩
theorem dec39 (n : Nat) (cs : List Value) (x : DataW H × List MemPlace) (h : DataW.trod enc Try.prog w 0 spare held n 39 cs = some x) : ∃ d, cs = encDec d := by
  have hl := trod_len Try.underlying39 h
  rw [cells39] at hl
  match cs, hl with
  | [c0, c1, c2, c3, c4, c5, c6], _ =>
    obtain ⟨m0, y0, h0⟩ := trod_field Try.underlying39 h (i := 0) rfl
    obtain ⟨m1, y1, h1⟩ := trod_field Try.underlying39 h (i := 1) rfl
    obtain ⟨m2, y2, h2⟩ := trod_field Try.underlying39 h (i := 2) rfl
    have h0 : DataW.trod enc Try.prog w 0 spare held m0 3 (([c0, c1, c2, c3, c4, c5, c6].drop 0).take (Try.prog.cellsOf 3)) = some y0 := h0
    have h1 : DataW.trod enc Try.prog w 0 spare held m1 37 (([c0, c1, c2, c3, c4, c5, c6].drop 1).take (Try.prog.cellsOf 37)) = some y1 := h1
    have h2 : DataW.trod enc Try.prog w 0 spare held m2 37 (([c0, c1, c2, c3, c4, c5, c6].drop 4).take (Try.prog.cellsOf 37)) = some y2 := h2
    rw [cells3] at h0
    rw [cells37] at h1 h2
    obtain ⟨k, e0⟩ := dec3 _ _ _ h0
    obtain ⟨a, e1⟩ := dec37 _ _ _ h1
    obtain ⟨b, e2⟩ := dec37 _ _ _ h2
    simp [encI, encKey] at e0 e1 e2
    obtain ⟨rfl, rfl, rfl⟩ := e1
    obtain ⟨rfl, rfl, rfl⟩ := e2
    subst e0
    exact ⟨⟨k, a, b⟩, rfl⟩
theorem dec66 (n : Nat) (cs : List Value) (x : DataW H × List MemPlace) (h : DataW.trod enc Try.prog w 0 spare held n 66 cs = some x) : ∃ r, cs = encRec r := by
  have hl := trod_len Try.underlying66 h
  rw [cells66] at hl
  match cs, hl with
  | [c0, c1, c2, c3, c4, c5], _ =>
    obtain ⟨m0, y0, h0⟩ := trod_field Try.underlying66 h (i := 0) rfl
    obtain ⟨m1, y1, h1⟩ := trod_field Try.underlying66 h (i := 1) rfl
    obtain ⟨m2, y2, h2⟩ := trod_field Try.underlying66 h (i := 2) rfl
    have h0 : DataW.trod enc Try.prog w 0 spare held m0 37 (([c0, c1, c2, c3, c4, c5].drop 0).take (Try.prog.cellsOf 37)) = some y0 := h0
    have h1 : DataW.trod enc Try.prog w 0 spare held m1 3 (([c0, c1, c2, c3, c4, c5].drop 3).take (Try.prog.cellsOf 3)) = some y1 := h1
    have h2 : DataW.trod enc Try.prog w 0 spare held m2 3 (([c0, c1, c2, c3, c4, c5].drop 4).take (Try.prog.cellsOf 3)) = some y2 := h2
    rw [cells37] at h0
    rw [cells3] at h1 h2
    obtain ⟨k, e0⟩ := dec37 _ _ _ h0
    obtain ⟨a, e1⟩ := dec3 _ _ _ h1
    obtain ⟨b, e2⟩ := dec3 _ _ _ h2
    simp [encI, encKey] at e0 e1 e2
    obtain ⟨rfl, rfl, rfl⟩ := e0
    subst e1; subst e2
    exact ⟨⟨k, a, b, c5⟩, rfl⟩
end
end Go.Proofs.Ytlefkkelohhnkaa
