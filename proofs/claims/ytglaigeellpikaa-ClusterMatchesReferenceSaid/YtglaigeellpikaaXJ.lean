/- Cluster: edges, pairs, lists that come in. -/
import Derived.Test.YtglaigeellpikaaXP4
import Derived.Test.YtglaigeellpikaaXVcJoin
namespace Go.Proofs.Ytglaigeellpikaa
open Go.Vc
section
variable {H : Type} {enc : TypeId × Value → H} {w : World} {spare : Nat → Bool} {held : Bool}
set_option maxRecDepth 100000 in
theorem dec3 (n : Nat) (cs : List Value) (x : DataW H × List MemPlace) (h : DataW.trod enc Try.prog w 0 spare held n 3 cs = some x) : ∃ i, cs = encI i := by
  cases n with
  | zero => simp [DataW.trod] at h
  | succ n =>
    unfold DataW.trod at h
    rw [Try.underlying3] at h
    split at h <;> simp_all [encI]
theorem cells3 : Try.prog.cellsOf 3 = 1 := by kernel_rfl
theorem cells40 : Try.prog.cellsOf 40 = 3 := by kernel_rfl
theorem cells42 : Try.prog.cellsOf 42 = 2 := by kernel_rfl
theorem dec40 (n : Nat) (cs : List Value) (x : DataW H × List MemPlace) (h : DataW.trod enc Try.prog w 0 spare held n 40 cs = some x) : ∃ k, cs = encEd k := by
  have hl := trod_len Try.underlying40 h
  rw [cells40] at hl
  match cs, hl with
  | [c0, c1, c2], _ =>
    obtain ⟨m0, y0, h0⟩ := trod_field Try.underlying40 h (i := 0) rfl
    obtain ⟨m1, y1, h1⟩ := trod_field Try.underlying40 h (i := 1) rfl
    obtain ⟨m2, y2, h2⟩ := trod_field Try.underlying40 h (i := 2) rfl
    have h0 : DataW.trod enc Try.prog w 0 spare held m0 3 (([c0, c1, c2].drop 0).take (Try.prog.cellsOf 3)) = some y0 := h0
    have h1 : DataW.trod enc Try.prog w 0 spare held m1 3 (([c0, c1, c2].drop 1).take (Try.prog.cellsOf 3)) = some y1 := h1
    have h2 : DataW.trod enc Try.prog w 0 spare held m2 3 (([c0, c1, c2].drop 2).take (Try.prog.cellsOf 3)) = some y2 := h2
    rw [cells3] at h0 h1 h2
    obtain ⟨i, e0⟩ := dec3 _ _ _ h0
    obtain ⟨j, e1⟩ := dec3 _ _ _ h1
    obtain ⟨k, e2⟩ := dec3 _ _ _ h2
    simp [encI] at e0 e1 e2
    subst e0; subst e1; subst e2
    exact ⟨⟨i, j, k⟩, rfl⟩
theorem mapM_some {α β : Type} {f : α → Option β} : ∀ {l : List α} {r : List β}, l.mapM f = some r → ∀ a ∈ l, ∃ b, f a = some b
  | [], _, _, a, ha => by cases ha
  | x :: l, r, h, a, ha => by
    rw [List.mapM_cons] at h
    cases hx : f x with
    | none => rw [hx] at h; cases h
    | some b =>
      rw [hx] at h
      cases hl : l.mapM f with
      | none => rw [hl] at h; cases h
      | some r' =>
        rcases List.mem_cons.1 ha with e | ha
        · rw [e]; exact ⟨b, hx⟩
        · exact mapM_some hl a ha
set_option maxRecDepth 100000 in
theorem dec42 (n : Nat) (cs : List Value) (x : DataW H × List MemPlace) (h : DataW.trod enc Try.prog w 0 spare held n 42 cs = some x) : ∃ k, cs = encPr k := by
  cases n with
  | zero => simp [DataW.trod] at h
  | succ n =>
    unfold DataW.trod at h
    rw [Try.underlying42] at h
    dsimp only at h
    split at h
    · rename_i hl
      rw [cells42] at hl
      match cs, hl with
      | [c0, c1], _ =>
        rw [Option.map_eq_some_iff] at h
        obtain ⟨r, h, _⟩ := h
        obtain ⟨y0, h0⟩ := mapM_some h 0 (by decide)
        obtain ⟨y1, h1⟩ := mapM_some h 1 (by decide)
        rw [cells3] at h0 h1
        obtain ⟨i, e0⟩ := dec3 _ _ _ h0
        obtain ⟨j, e1⟩ := dec3 _ _ _ h1
        simp [encI] at e0 e1
        subst e0; subst e1
        exact ⟨(i, j), rfl⟩
    · cases h
end
end Go.Proofs.Ytglaigeellpikaa
