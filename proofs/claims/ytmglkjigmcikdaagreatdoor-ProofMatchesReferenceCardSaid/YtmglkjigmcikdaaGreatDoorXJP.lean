/- Proof: what comes in (printed by mkJP.py). -/
import Derived.Test.YtmglkjigmcikdaaGreatDoorXP29
import Derived.Test.YtmglkjigmcikdaaGreatDoorXL8
namespace Go.Proofs.YtmglkjigmcikdaaGreatDoor
open Go.Vc
section
variable {H : Type} {enc : TypeId × Value → H} {w : World} {spare : Nat → Bool} {held : Bool}
theorem cells37 : Tryz.prog.cellsOf 37 = 2 := by kernel_rfl
theorem cells51 : Tryz.prog.cellsOf 51 = 4 := by kernel_rfl
theorem cells27 : Tryz.prog.cellsOf 27 = 1 := by kernel_rfl
theorem cells29 : Tryz.prog.cellsOf 29 = 1 := by kernel_rfl
theorem cells31 : Tryz.prog.cellsOf 31 = 4 := by kernel_rfl
def WyIn (w : World) (x : WyI) : Prop := SlOk w x.p ∧ SlOk w x.n
theorem dec37 (n : Nat) (cs : List Value) (x : DataW H × List MemPlace) (h : DataW.trod enc Tryz.prog w 0 spare held n 37 cs = some x) : ∃ v, cs = encWy v ∧ WyIn w v := by
 have hl := trod_len Tryz.underlying37 h
 rw [cells37] at hl
 match cs, hl with
 | [c0, c1], _ =>
  obtain ⟨m0, y0, h0⟩ := trod_field Tryz.underlying37 h (i := 0) rfl
  replace h0 : DataW.trod enc Tryz.prog w 0 spare held m0 22 (([c0, c1].drop 0).take (Tryz.prog.cellsOf 22)) = some y0 := h0
  rw [cells22] at h0
  have k0 : DataW.trod enc Tryz.prog w 0 spare held m0 22 [c0] = some y0 := h0
  obtain ⟨m1, y1, h1⟩ := trod_field Tryz.underlying37 h (i := 1) rfl
  replace h1 : DataW.trod enc Tryz.prog w 0 spare held m1 22 (([c0, c1].drop 1).take (Tryz.prog.cellsOf 22)) = some y1 := h1
  rw [cells22] at h1
  have k1 : DataW.trod enc Tryz.prog w 0 spare held m1 22 [c1] = some y1 := h1
  obtain ⟨v0, e0, s0⟩ := dec22 _ _ _ k0
  simp only [encSl, List.cons.injEq, and_true] at e0
  subst e0
  obtain ⟨v1, e1, s1⟩ := dec22 _ _ _ k1
  simp only [encSl, List.cons.injEq, and_true] at e1
  subst e1
  exact ⟨⟨v0, v1⟩, rfl, s0, s1⟩
theorem dec51 (n : Nat) (cs : List Value) (x : DataW H × List MemPlace) (h : DataW.trod enc Tryz.prog w 0 spare held n 51 cs = some x) : ∃ v, cs = encS4 v ∧ True := by
 have hl := trod_len Tryz.underlying51 h
 rw [cells51] at hl
 match cs, hl with
 | [c0, c1, c2, c3], _ =>
  obtain ⟨m0, y0, h0⟩ := trod_field Tryz.underlying51 h (i := 0) rfl
  replace h0 : DataW.trod enc Tryz.prog w 0 spare held m0 3 (([c0, c1, c2, c3].drop 0).take (Tryz.prog.cellsOf 3)) = some y0 := h0
  rw [cells3] at h0
  have k0 : DataW.trod enc Tryz.prog w 0 spare held m0 3 [c0] = some y0 := h0
  obtain ⟨m1, y1, h1⟩ := trod_field Tryz.underlying51 h (i := 1) rfl
  replace h1 : DataW.trod enc Tryz.prog w 0 spare held m1 3 (([c0, c1, c2, c3].drop 1).take (Tryz.prog.cellsOf 3)) = some y1 := h1
  rw [cells3] at h1
  have k1 : DataW.trod enc Tryz.prog w 0 spare held m1 3 [c1] = some y1 := h1
  obtain ⟨m2, y2, h2⟩ := trod_field Tryz.underlying51 h (i := 2) rfl
  replace h2 : DataW.trod enc Tryz.prog w 0 spare held m2 3 (([c0, c1, c2, c3].drop 2).take (Tryz.prog.cellsOf 3)) = some y2 := h2
  rw [cells3] at h2
  have k2 : DataW.trod enc Tryz.prog w 0 spare held m2 3 [c2] = some y2 := h2
  obtain ⟨m3, y3, h3⟩ := trod_field Tryz.underlying51 h (i := 3) rfl
  replace h3 : DataW.trod enc Tryz.prog w 0 spare held m3 3 (([c0, c1, c2, c3].drop 3).take (Tryz.prog.cellsOf 3)) = some y3 := h3
  rw [cells3] at h3
  have k3 : DataW.trod enc Tryz.prog w 0 spare held m3 3 [c3] = some y3 := h3
  obtain ⟨f0, e0, _⟩ := dec3 _ _ _ k0
  simp only [Vc.encI, List.cons.injEq, and_true] at e0
  subst e0
  obtain ⟨f1, e1, _⟩ := dec3 _ _ _ k1
  simp only [Vc.encI, List.cons.injEq, and_true] at e1
  subst e1
  obtain ⟨f2, e2, _⟩ := dec3 _ _ _ k2
  simp only [Vc.encI, List.cons.injEq, and_true] at e2
  subst e2
  obtain ⟨f3, e3, _⟩ := dec3 _ _ _ k3
  simp only [Vc.encI, List.cons.injEq, and_true] at e3
  subst e3
  exact ⟨⟨f0, f1, f2, f3⟩, rfl, trivial⟩
structure PfX where
 a : Option Addr
 c : Nat
 S : List St4
def encPf (p : PfX) : List Value := [.slice p.a p.S.length p.c]
def PfIn (w : World) (p : PfX) : Prop := TSl encS4 4 w p.a p.S ∧ p.S.length ≤ 9223372036854775807 ∧ (p.a = none → p.c = 0)
theorem dec29 (n : Nat) (cs : List Value) (x : DataW H × List MemPlace) (h : DataW.trod enc Tryz.prog w 0 spare held n 29 cs = some x) : ∃ v, cs = encPf v ∧ PfIn w v := by
 have hl := trod_len Tryz.underlying29 h
 rw [cells29] at hl
 match cs, hl with
 | [c0], _ =>
  obtain ⟨m0, y0, h0⟩ := trod_field Tryz.underlying29 h (i := 0) rfl
  replace h0 : DataW.trod enc Tryz.prog w 0 spare held m0 27 (([c0].drop 0).take (Tryz.prog.cellsOf 27)) = some y0 := h0
  rw [cells27] at h0
  have k0 : DataW.trod enc Tryz.prog w 0 spare held m0 27 [c0] = some y0 := h0
  obtain ⟨a0, n0, p0, e0⟩ := decSl Tryz.underlying27 _ _ _ k0
  simp only [List.cons.injEq, and_true] at e0
  subst e0
  obtain ⟨S, hl0, hm0, hs0, q0, hx0, _⟩ := open_TSlP (enc' := encS4) Tryz.underlying27 cells51 (by decide) (fun _ => rfl) dec51 k0
  subst hl0
  exact ⟨⟨a0, p0, S⟩, rfl, hs0, by unfold maxLen at hm0; omega, hx0⟩
def ClIn (w : World) (y : ClX) : Prop := ClOk w y ∧ y.A.length ≤ 9223372036854775807 ∧ y.B.length ≤ 9223372036854775807 ∧ y.S.length ≤ 9223372036854775807 ∧ (y.aa = none → y.ac = 0) ∧ (y.ba = none → y.bc = 0)
theorem dec31 (n : Nat) (cs : List Value) (x : DataW H × List MemPlace) (h : DataW.trod enc Tryz.prog w 0 spare held n 31 cs = some x) : ∃ v, cs = encCl v ∧ ClIn w v := by
 have hl := trod_len Tryz.underlying31 h
 rw [cells31] at hl
 match cs, hl with
 | [c0, c1, c2, c3], _ =>
  obtain ⟨m0, y0, h0⟩ := trod_field Tryz.underlying31 h (i := 0) rfl
  replace h0 : DataW.trod enc Tryz.prog w 0 spare held m0 3 (([c0, c1, c2, c3].drop 0).take (Tryz.prog.cellsOf 3)) = some y0 := h0
  rw [cells3] at h0
  have k0 : DataW.trod enc Tryz.prog w 0 spare held m0 3 [c0] = some y0 := h0
  obtain ⟨m1, y1, h1⟩ := trod_field Tryz.underlying31 h (i := 1) rfl
  replace h1 : DataW.trod enc Tryz.prog w 0 spare held m1 22 (([c0, c1, c2, c3].drop 1).take (Tryz.prog.cellsOf 22)) = some y1 := h1
  rw [cells22] at h1
  have k1 : DataW.trod enc Tryz.prog w 0 spare held m1 22 [c1] = some y1 := h1
  obtain ⟨m2, y2, h2⟩ := trod_field Tryz.underlying31 h (i := 2) rfl
  replace h2 : DataW.trod enc Tryz.prog w 0 spare held m2 22 (([c0, c1, c2, c3].drop 2).take (Tryz.prog.cellsOf 22)) = some y2 := h2
  rw [cells22] at h2
  have k2 : DataW.trod enc Tryz.prog w 0 spare held m2 22 [c2] = some y2 := h2
  obtain ⟨m3, y3, h3⟩ := trod_field Tryz.underlying31 h (i := 3) rfl
  replace h3 : DataW.trod enc Tryz.prog w 0 spare held m3 29 (([c0, c1, c2, c3].drop 3).take (Tryz.prog.cellsOf 29)) = some y3 := h3
  rw [cells29] at h3
  have k3 : DataW.trod enc Tryz.prog w 0 spare held m3 29 [c3] = some y3 := h3
  obtain ⟨f0, e0, _⟩ := dec3 _ _ _ k0
  simp only [Vc.encI, List.cons.injEq, and_true] at e0
  subst e0
  obtain ⟨v1, e1, s1⟩ := dec22 _ _ _ k1
  simp only [encSl, List.cons.injEq, and_true] at e1
  subst e1
  obtain ⟨v2, e2, s2⟩ := dec22 _ _ _ k2
  simp only [encSl, List.cons.injEq, and_true] at e2
  subst e2
  obtain ⟨v3, e3, s3⟩ := dec29 _ _ _ k3
  simp only [encPf, List.cons.injEq, and_true] at e3
  subst e3
  exact ⟨⟨f0, v1.a, v1.c, v1.l, v2.a, v2.c, v2.l, v3.a, v3.c, v3.S⟩, rfl, ⟨s1.1, s2.1, s3.1⟩, s1.2.1, s2.2.1, s3.2.1, s1.2.2.1, s2.2.2.1⟩
end
theorem WIn30.of {w : World} {a : Option Addr} {W : List WyI} (h : TSl encWy 2 w a W) (hm : W.length ≤ maxLen) (hP : ∀ v ∈ W, WyIn w v) : WIn30 w a W :=
 ⟨⟨h, fun x hx => ⟨(hP x hx).1.1, (hP x hx).2.1⟩⟩, by unfold maxLen at hm; omega, fun x hx => ⟨(hP x hx).1.2.1, (hP x hx).2.2.1⟩⟩
end Go.Proofs.YtmglkjigmcikdaaGreatDoor
