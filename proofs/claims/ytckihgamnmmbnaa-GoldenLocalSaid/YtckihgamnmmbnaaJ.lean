/- Golden: what comes in (printed by mkJ.py). -/
import Derived.Test.YtckihgamnmmbnaaL3
import Derived.Test.YtckihgamnmmbnaaVcJoin2
namespace Go.Proofs.Ytckihgamnmmbnaa
open Go.Vc
section
variable {H : Type} {enc : TypeId × Value → H} {w : World} {spare : Nat → Bool} {held : Bool}
theorem decSl {t e : Nat} (ht : Try.prog.underlying t = some (.slice e)) (n : Nat) (cs : List Value) (x : DataW H × List MemPlace) (h : DataW.trod enc Try.prog w 0 spare held n t cs = some x) : ∃ a len cap, cs = [.slice a len cap] := by
  rcases Go.Deep.open_slice ht h with ⟨h0, _⟩ | ⟨ad, len', cap', m, n, D, Pl, h0, _⟩
  · exact ⟨_, _, _, h0⟩
  · exact ⟨_, _, _, h0⟩
set_option maxRecDepth 100000 in
theorem dec3 (n : Nat) (cs : List Value) (x : DataW H × List MemPlace) (h : DataW.trod enc Try.prog w 0 spare held n 3 cs = some x) : ∃ i, cs = encI i ∧ True := by
  cases n with
  | zero => simp [DataW.trod] at h
  | succ n =>
    unfold DataW.trod at h
    rw [Try.underlying3] at h
    split at h <;> simp_all [encI]
set_option maxRecDepth 100000 in
theorem dec9 (n : Nat) (cs : List Value) (x : DataW H × List MemPlace) (h : DataW.trod enc Try.prog w 0 spare held n 9 cs = some x) : ∃ s : ByteArray, cs = [.string s] ∧ True := by
  cases n with
  | zero => simp [DataW.trod] at h
  | succ n =>
    unfold DataW.trod at h
    rw [Try.underlying9] at h
    split at h <;> simp_all
theorem cells3 : Try.prog.cellsOf 3 = 1 := by kernel_rfl
theorem cells9 : Try.prog.cellsOf 9 = 1 := by kernel_rfl
theorem cells50 : Try.prog.cellsOf 50 = 3 := by kernel_rfl
theorem dec50 (n : Nat) (cs : List Value) (x : DataW H × List MemPlace) (h : DataW.trod enc Try.prog w 0 spare held n 50 cs = some x) : ∃ v, cs = encKey v ∧ True := by
  have hl := trod_len Try.underlying50 h
  rw [cells50] at hl
  match cs, hl with
  | [c0, c1, c2], _ =>
    obtain ⟨m0, y0, h0⟩ := trod_field Try.underlying50 h (i := 0) rfl
    replace h0 : DataW.trod enc Try.prog w 0 spare held m0 3 (([c0, c1, c2].drop 0).take (Try.prog.cellsOf 3)) = some y0 := h0
    rw [cells3] at h0
    have k0 : DataW.trod enc Try.prog w 0 spare held m0 3 [c0] = some y0 := h0
    clear h0
    obtain ⟨m1, y1, h1⟩ := trod_field Try.underlying50 h (i := 1) rfl
    replace h1 : DataW.trod enc Try.prog w 0 spare held m1 9 (([c0, c1, c2].drop 1).take (Try.prog.cellsOf 9)) = some y1 := h1
    rw [cells9] at h1
    have k1 : DataW.trod enc Try.prog w 0 spare held m1 9 [c1] = some y1 := h1
    clear h1
    obtain ⟨m2, y2, h2⟩ := trod_field Try.underlying50 h (i := 2) rfl
    replace h2 : DataW.trod enc Try.prog w 0 spare held m2 9 (([c0, c1, c2].drop 2).take (Try.prog.cellsOf 9)) = some y2 := h2
    rw [cells9] at h2
    have k2 : DataW.trod enc Try.prog w 0 spare held m2 9 [c2] = some y2 := h2
    clear h2
    obtain ⟨f0, e0, _⟩ := dec3 _ _ _ k0
    simp only [encI, List.cons.injEq, and_true] at e0
    subst e0
    obtain ⟨f1, e1, _⟩ := dec9 _ _ _ k1
    simp only [List.cons.injEq, and_true] at e1
    subst e1
    obtain ⟨f2, e2, _⟩ := dec9 _ _ _ k2
    simp only [List.cons.injEq, and_true] at e2
    subst e2
    exact ⟨⟨f0, f1, f2⟩, rfl, trivial⟩
theorem cells55 : Try.prog.cellsOf 55 = 3 := by kernel_rfl
theorem dec55 (n : Nat) (cs : List Value) (x : DataW H × List MemPlace) (h : DataW.trod enc Try.prog w 0 spare held n 55 cs = some x) : ∃ v, cs = encVal v ∧ True := by
  have hl := trod_len Try.underlying55 h
  rw [cells55] at hl
  match cs, hl with
  | [c0, c1, c2], _ =>
    obtain ⟨m0, y0, h0⟩ := trod_field Try.underlying55 h (i := 0) rfl
    replace h0 : DataW.trod enc Try.prog w 0 spare held m0 3 (([c0, c1, c2].drop 0).take (Try.prog.cellsOf 3)) = some y0 := h0
    rw [cells3] at h0
    have k0 : DataW.trod enc Try.prog w 0 spare held m0 3 [c0] = some y0 := h0
    clear h0
    obtain ⟨m1, y1, h1⟩ := trod_field Try.underlying55 h (i := 1) rfl
    replace h1 : DataW.trod enc Try.prog w 0 spare held m1 3 (([c0, c1, c2].drop 1).take (Try.prog.cellsOf 3)) = some y1 := h1
    rw [cells3] at h1
    have k1 : DataW.trod enc Try.prog w 0 spare held m1 3 [c1] = some y1 := h1
    clear h1
    obtain ⟨m2, y2, h2⟩ := trod_field Try.underlying55 h (i := 2) rfl
    replace h2 : DataW.trod enc Try.prog w 0 spare held m2 9 (([c0, c1, c2].drop 2).take (Try.prog.cellsOf 9)) = some y2 := h2
    rw [cells9] at h2
    have k2 : DataW.trod enc Try.prog w 0 spare held m2 9 [c2] = some y2 := h2
    clear h2
    obtain ⟨f0, e0, _⟩ := dec3 _ _ _ k0
    simp only [encI, List.cons.injEq, and_true] at e0
    subst e0
    obtain ⟨f1, e1, _⟩ := dec3 _ _ _ k1
    simp only [encI, List.cons.injEq, and_true] at e1
    subst e1
    obtain ⟨f2, e2, _⟩ := dec9 _ _ _ k2
    simp only [List.cons.injEq, and_true] at e2
    subst e2
    exact ⟨⟨f0, f1, f2⟩, rfl, trivial⟩
theorem cells57 : Try.prog.cellsOf 57 = 5 := by kernel_rfl
theorem dec57 (n : Nat) (cs : List Value) (x : DataW H × List MemPlace) (h : DataW.trod enc Try.prog w 0 spare held n 57 cs = some x) : ∃ v, cs = encCell v ∧ True := by
  have hl := trod_len Try.underlying57 h
  rw [cells57] at hl
  match cs, hl with
  | [c0, c1, c2, c3, c4], _ =>
    obtain ⟨m0, y0, h0⟩ := trod_field Try.underlying57 h (i := 0) rfl
    replace h0 : DataW.trod enc Try.prog w 0 spare held m0 55 (([c0, c1, c2, c3, c4].drop 0).take (Try.prog.cellsOf 55)) = some y0 := h0
    rw [cells55] at h0
    have k0 : DataW.trod enc Try.prog w 0 spare held m0 55 [c0, c1, c2] = some y0 := h0
    clear h0
    obtain ⟨m1, y1, h1⟩ := trod_field Try.underlying57 h (i := 1) rfl
    replace h1 : DataW.trod enc Try.prog w 0 spare held m1 3 (([c0, c1, c2, c3, c4].drop 3).take (Try.prog.cellsOf 3)) = some y1 := h1
    rw [cells3] at h1
    have k1 : DataW.trod enc Try.prog w 0 spare held m1 3 [c3] = some y1 := h1
    clear h1
    obtain ⟨m2, y2, h2⟩ := trod_field Try.underlying57 h (i := 2) rfl
    replace h2 : DataW.trod enc Try.prog w 0 spare held m2 3 (([c0, c1, c2, c3, c4].drop 4).take (Try.prog.cellsOf 3)) = some y2 := h2
    rw [cells3] at h2
    have k2 : DataW.trod enc Try.prog w 0 spare held m2 3 [c4] = some y2 := h2
    clear h2
    obtain ⟨f0, e0, q0⟩ := dec55 _ _ _ k0
    simp only [encVal, encKey, encVal, List.cons.injEq, and_true] at e0
    obtain ⟨rfl, rfl, rfl⟩ := e0
    obtain ⟨f1, e1, _⟩ := dec3 _ _ _ k1
    simp only [encI, List.cons.injEq, and_true] at e1
    subst e1
    obtain ⟨f2, e2, _⟩ := dec3 _ _ _ k2
    simp only [encI, List.cons.injEq, and_true] at e2
    subst e2
    exact ⟨⟨f0, f1, f2⟩, rfl, trivial⟩
theorem cells51 : Try.prog.cellsOf 51 = 1 := by kernel_rfl
theorem cells53 : Try.prog.cellsOf 53 = 6 := by kernel_rfl
theorem dec53 (n : Nat) (cs : List Value) (x : DataW H × List MemPlace) (h : DataW.trod enc Try.prog w 0 spare held n 53 cs = some x) : ∃ v, cs = encRec v ∧ TSl encCell 5 w v.ca v.cells := by
  have hl := trod_len Try.underlying53 h
  rw [cells53] at hl
  match cs, hl with
  | [c0, c1, c2, c3, c4, c5], _ =>
    obtain ⟨m0, y0, h0⟩ := trod_field Try.underlying53 h (i := 0) rfl
    replace h0 : DataW.trod enc Try.prog w 0 spare held m0 50 (([c0, c1, c2, c3, c4, c5].drop 0).take (Try.prog.cellsOf 50)) = some y0 := h0
    rw [cells50] at h0
    have k0 : DataW.trod enc Try.prog w 0 spare held m0 50 [c0, c1, c2] = some y0 := h0
    clear h0
    obtain ⟨m1, y1, h1⟩ := trod_field Try.underlying53 h (i := 1) rfl
    replace h1 : DataW.trod enc Try.prog w 0 spare held m1 3 (([c0, c1, c2, c3, c4, c5].drop 3).take (Try.prog.cellsOf 3)) = some y1 := h1
    rw [cells3] at h1
    have k1 : DataW.trod enc Try.prog w 0 spare held m1 3 [c3] = some y1 := h1
    clear h1
    obtain ⟨m2, y2, h2⟩ := trod_field Try.underlying53 h (i := 2) rfl
    replace h2 : DataW.trod enc Try.prog w 0 spare held m2 3 (([c0, c1, c2, c3, c4, c5].drop 4).take (Try.prog.cellsOf 3)) = some y2 := h2
    rw [cells3] at h2
    have k2 : DataW.trod enc Try.prog w 0 spare held m2 3 [c4] = some y2 := h2
    clear h2
    obtain ⟨m3, y3, h3⟩ := trod_field Try.underlying53 h (i := 3) rfl
    replace h3 : DataW.trod enc Try.prog w 0 spare held m3 51 (([c0, c1, c2, c3, c4, c5].drop 5).take (Try.prog.cellsOf 51)) = some y3 := h3
    rw [cells51] at h3
    have k3 : DataW.trod enc Try.prog w 0 spare held m3 51 [c5] = some y3 := h3
    clear h3
    obtain ⟨f0, e0, q0⟩ := dec50 _ _ _ k0
    simp only [encKey, encKey, encVal, List.cons.injEq, and_true] at e0
    obtain ⟨rfl, rfl, rfl⟩ := e0
    obtain ⟨f1, e1, _⟩ := dec3 _ _ _ k1
    simp only [encI, List.cons.injEq, and_true] at e1
    subst e1
    obtain ⟨f2, e2, _⟩ := dec3 _ _ _ k2
    simp only [encI, List.cons.injEq, and_true] at e2
    subst e2
    obtain ⟨a3, n3, p3, e3⟩ := decSl Try.underlying51 _ _ _ k3
    simp only [List.cons.injEq, and_true] at e3
    subst e3
    obtain ⟨f3, hl3, hm3, hs3, q3, _⟩ := open_TSlP (enc' := encCell) Try.underlying51 cells57 (by decide) (fun _ => rfl) dec57 k3
    subst hl3
    exact ⟨⟨f0, f1, f2, a3, p3, f3⟩, rfl, hs3⟩
theorem cells91 : Try.prog.cellsOf 91 = 1 := by kernel_rfl
theorem cells93 : Try.prog.cellsOf 93 = 6 := by kernel_rfl
theorem dec93 (n : Nat) (cs : List Value) (x : DataW H × List MemPlace) (h : DataW.trod enc Try.prog w 0 spare held n 93 cs = some x) : ∃ v, cs = encAttr v ∧ True := by
  have hl := trod_len Try.underlying93 h
  rw [cells93] at hl
  match cs, hl with
  | [c0, c1, c2, c3, c4, c5], _ =>
    obtain ⟨m0, y0, h0⟩ := trod_field Try.underlying93 h (i := 0) rfl
    replace h0 : DataW.trod enc Try.prog w 0 spare held m0 9 (([c0, c1, c2, c3, c4, c5].drop 0).take (Try.prog.cellsOf 9)) = some y0 := h0
    rw [cells9] at h0
    have k0 : DataW.trod enc Try.prog w 0 spare held m0 9 [c0] = some y0 := h0
    clear h0
    obtain ⟨m1, y1, h1⟩ := trod_field Try.underlying93 h (i := 1) rfl
    replace h1 : DataW.trod enc Try.prog w 0 spare held m1 3 (([c0, c1, c2, c3, c4, c5].drop 1).take (Try.prog.cellsOf 3)) = some y1 := h1
    rw [cells3] at h1
    have k1 : DataW.trod enc Try.prog w 0 spare held m1 3 [c1] = some y1 := h1
    clear h1
    obtain ⟨m2, y2, h2⟩ := trod_field Try.underlying93 h (i := 2) rfl
    replace h2 : DataW.trod enc Try.prog w 0 spare held m2 91 (([c0, c1, c2, c3, c4, c5].drop 2).take (Try.prog.cellsOf 91)) = some y2 := h2
    rw [cells91] at h2
    have k2 : DataW.trod enc Try.prog w 0 spare held m2 91 [c2] = some y2 := h2
    clear h2
    obtain ⟨m3, y3, h3⟩ := trod_field Try.underlying93 h (i := 3) rfl
    replace h3 : DataW.trod enc Try.prog w 0 spare held m3 55 (([c0, c1, c2, c3, c4, c5].drop 3).take (Try.prog.cellsOf 55)) = some y3 := h3
    rw [cells55] at h3
    have k3 : DataW.trod enc Try.prog w 0 spare held m3 55 [c3, c4, c5] = some y3 := h3
    clear h3
    obtain ⟨f0, e0, _⟩ := dec9 _ _ _ k0
    simp only [List.cons.injEq, and_true] at e0
    subst e0
    obtain ⟨f1, e1, _⟩ := dec3 _ _ _ k1
    simp only [encI, List.cons.injEq, and_true] at e1
    subst e1
    obtain ⟨a2, n2, p2, e2⟩ := decSl Try.underlying91 _ _ _ k2
    simp only [List.cons.injEq, and_true] at e2
    subst e2
    obtain ⟨f3, e3, q3⟩ := dec55 _ _ _ k3
    simp only [encVal, encKey, encVal, List.cons.injEq, and_true] at e3
    obtain ⟨rfl, rfl, rfl⟩ := e3
    exact ⟨⟨f0, f1, a2, n2, p2, f3⟩, rfl, trivial⟩
theorem cells76 : Try.prog.cellsOf 76 = 1 := by kernel_rfl
theorem cells34 : Try.prog.cellsOf 34 = 1 := by kernel_rfl
theorem cells78 : Try.prog.cellsOf 78 = 3 := by kernel_rfl
theorem dec78 (n : Nat) (cs : List Value) (x : DataW H × List MemPlace) (h : DataW.trod enc Try.prog w 0 spare held n 78 cs = some x) : ∃ v, cs = encTab v ∧ (TSl encAttr 6 w v.aa v.attrs ∧ v.attrs.length ≤ maxLen) := by
  have hl := trod_len Try.underlying78 h
  rw [cells78] at hl
  match cs, hl with
  | [c0, c1, c2], _ =>
    obtain ⟨m0, y0, h0⟩ := trod_field Try.underlying78 h (i := 0) rfl
    replace h0 : DataW.trod enc Try.prog w 0 spare held m0 9 (([c0, c1, c2].drop 0).take (Try.prog.cellsOf 9)) = some y0 := h0
    rw [cells9] at h0
    have k0 : DataW.trod enc Try.prog w 0 spare held m0 9 [c0] = some y0 := h0
    clear h0
    obtain ⟨m1, y1, h1⟩ := trod_field Try.underlying78 h (i := 1) rfl
    replace h1 : DataW.trod enc Try.prog w 0 spare held m1 76 (([c0, c1, c2].drop 1).take (Try.prog.cellsOf 76)) = some y1 := h1
    rw [cells76] at h1
    have k1 : DataW.trod enc Try.prog w 0 spare held m1 76 [c1] = some y1 := h1
    clear h1
    obtain ⟨m2, y2, h2⟩ := trod_field Try.underlying78 h (i := 2) rfl
    replace h2 : DataW.trod enc Try.prog w 0 spare held m2 34 (([c0, c1, c2].drop 2).take (Try.prog.cellsOf 34)) = some y2 := h2
    rw [cells34] at h2
    have k2 : DataW.trod enc Try.prog w 0 spare held m2 34 [c2] = some y2 := h2
    clear h2
    obtain ⟨f0, e0, _⟩ := dec9 _ _ _ k0
    simp only [List.cons.injEq, and_true] at e0
    subst e0
    obtain ⟨a1, n1, p1, e1⟩ := decSl Try.underlying76 _ _ _ k1
    simp only [List.cons.injEq, and_true] at e1
    subst e1
    obtain ⟨f1, hl1, hm1, hs1, q1, _⟩ := open_TSlP (enc' := encAttr) Try.underlying76 cells93 (by decide) (fun _ => rfl) dec93 k1
    subst hl1
    obtain ⟨a2, n2, p2, e2⟩ := decSl Try.underlying34 _ _ _ k2
    simp only [List.cons.injEq, and_true] at e2
    subst e2
    exact ⟨⟨f0, a1, p1, f1, a2, n2, p2⟩, rfl, ⟨hs1, hm1⟩⟩
theorem cells95 : Try.prog.cellsOf 95 = 2 := by kernel_rfl
theorem dec95 (n : Nat) (cs : List Value) (x : DataW H × List MemPlace) (h : DataW.trod enc Try.prog w 0 spare held n 95 cs = some x) : ∃ v, cs = encOrg v ∧ True := by
  have hl := trod_len Try.underlying95 h
  rw [cells95] at hl
  match cs, hl with
  | [c0, c1], _ =>
    obtain ⟨m0, y0, h0⟩ := trod_field Try.underlying95 h (i := 0) rfl
    replace h0 : DataW.trod enc Try.prog w 0 spare held m0 9 (([c0, c1].drop 0).take (Try.prog.cellsOf 9)) = some y0 := h0
    rw [cells9] at h0
    have k0 : DataW.trod enc Try.prog w 0 spare held m0 9 [c0] = some y0 := h0
    clear h0
    obtain ⟨m1, y1, h1⟩ := trod_field Try.underlying95 h (i := 1) rfl
    replace h1 : DataW.trod enc Try.prog w 0 spare held m1 3 (([c0, c1].drop 1).take (Try.prog.cellsOf 3)) = some y1 := h1
    rw [cells3] at h1
    have k1 : DataW.trod enc Try.prog w 0 spare held m1 3 [c1] = some y1 := h1
    clear h1
    obtain ⟨f0, e0, _⟩ := dec9 _ _ _ k0
    simp only [List.cons.injEq, and_true] at e0
    subst e0
    obtain ⟨f1, e1, _⟩ := dec3 _ _ _ k1
    simp only [encI, List.cons.injEq, and_true] at e1
    subst e1
    exact ⟨⟨f0, f1⟩, rfl, trivial⟩
theorem cells62 : Try.prog.cellsOf 62 = 3 := by kernel_rfl
theorem dec62 (n : Nat) (cs : List Value) (x : DataW H × List MemPlace) (h : DataW.trod enc Try.prog w 0 spare held n 62 cs = some x) : ∃ v, cs = encKeep v ∧ True := by
  have hl := trod_len Try.underlying62 h
  rw [cells62] at hl
  match cs, hl with
  | [c0, c1, c2], _ =>
    obtain ⟨m0, y0, h0⟩ := trod_field Try.underlying62 h (i := 0) rfl
    replace h0 : DataW.trod enc Try.prog w 0 spare held m0 3 (([c0, c1, c2].drop 0).take (Try.prog.cellsOf 3)) = some y0 := h0
    rw [cells3] at h0
    have k0 : DataW.trod enc Try.prog w 0 spare held m0 3 [c0] = some y0 := h0
    clear h0
    obtain ⟨m1, y1, h1⟩ := trod_field Try.underlying62 h (i := 1) rfl
    replace h1 : DataW.trod enc Try.prog w 0 spare held m1 3 (([c0, c1, c2].drop 1).take (Try.prog.cellsOf 3)) = some y1 := h1
    rw [cells3] at h1
    have k1 : DataW.trod enc Try.prog w 0 spare held m1 3 [c1] = some y1 := h1
    clear h1
    obtain ⟨m2, y2, h2⟩ := trod_field Try.underlying62 h (i := 2) rfl
    replace h2 : DataW.trod enc Try.prog w 0 spare held m2 3 (([c0, c1, c2].drop 2).take (Try.prog.cellsOf 3)) = some y2 := h2
    rw [cells3] at h2
    have k2 : DataW.trod enc Try.prog w 0 spare held m2 3 [c2] = some y2 := h2
    clear h2
    obtain ⟨f0, e0, _⟩ := dec3 _ _ _ k0
    simp only [encI, List.cons.injEq, and_true] at e0
    subst e0
    obtain ⟨f1, e1, _⟩ := dec3 _ _ _ k1
    simp only [encI, List.cons.injEq, and_true] at e1
    subst e1
    obtain ⟨f2, e2, _⟩ := dec3 _ _ _ k2
    simp only [encI, List.cons.injEq, and_true] at e2
    subst e2
    exact ⟨⟨f0, f1, f2⟩, rfl, trivial⟩
def encSch (v : Option Addr × Nat × List Tab) : List Value := [.slice v.1 v.2.2.length v.2.1]
theorem cells22 : Try.prog.cellsOf 22 = 1 := by kernel_rfl
theorem cells24 : Try.prog.cellsOf 24 = 1 := by kernel_rfl
theorem dec24 (n : Nat) (cs : List Value) (x : DataW H × List MemPlace) (h : DataW.trod enc Try.prog w 0 spare held n 24 cs = some x) : ∃ v, cs = encSch v ∧ (TSl encTab 3 w v.1 v.2.2 ∧ (∀ t ∈ v.2.2, TSl encAttr 6 w t.aa t.attrs ∧ t.attrs.length ≤ maxLen) ∧ v.2.2.length ≤ maxLen) := by
  have hl := trod_len Try.underlying24 h
  rw [cells24] at hl
  match cs, hl with
  | [c0], _ =>
    obtain ⟨m0, y0, h0⟩ := trod_field Try.underlying24 h (i := 0) rfl
    replace h0 : DataW.trod enc Try.prog w 0 spare held m0 22 (([c0].drop 0).take (Try.prog.cellsOf 22)) = some y0 := h0
    rw [cells22] at h0
    have k0 : DataW.trod enc Try.prog w 0 spare held m0 22 [c0] = some y0 := h0
    clear h0
    obtain ⟨a0, n0, p0, e0⟩ := decSl Try.underlying22 _ _ _ k0
    simp only [List.cons.injEq, and_true] at e0
    subst e0
    obtain ⟨f0, hl0, hm0, hs0, q0, _⟩ := open_TSlP (enc' := encTab) Try.underlying22 cells78 (by decide) (fun _ => rfl) dec78 k0
    subst hl0
    exact ⟨⟨a0, p0, f0⟩, rfl, ⟨hs0, q0, hm0⟩⟩
theorem cells25 : Try.prog.cellsOf 25 = 1 := by kernel_rfl
theorem cells26 : Try.prog.cellsOf 26 = 1 := by kernel_rfl
theorem cells27 : Try.prog.cellsOf 27 = 1 := by kernel_rfl
theorem cells28 : Try.prog.cellsOf 28 = 1 := by kernel_rfl
theorem cells29 : Try.prog.cellsOf 29 = 1 := by kernel_rfl
theorem cells30 : Try.prog.cellsOf 30 = 1 := by kernel_rfl
theorem cells32 : Try.prog.cellsOf 32 = 7 := by kernel_rfl
theorem dec32 (n : Nat) (cs : List Value) (x : DataW H × List MemPlace) (h : DataW.trod enc Try.prog w 0 spare held n 32 cs = some x) : ∃ v, cs = encSet v ∧ (SetW w v ∧ v.tabs.length ≤ maxLen ∧ ∀ t ∈ v.tabs, t.attrs.length ≤ maxLen) := by
  have hl := trod_len Try.underlying32 h
  rw [cells32] at hl
  match cs, hl with
  | [c0, c1, c2, c3, c4, c5, c6], _ =>
    obtain ⟨m0, y0, h0⟩ := trod_field Try.underlying32 h (i := 0) rfl
    replace h0 : DataW.trod enc Try.prog w 0 spare held m0 24 (([c0, c1, c2, c3, c4, c5, c6].drop 0).take (Try.prog.cellsOf 24)) = some y0 := h0
    rw [cells24] at h0
    have k0 : DataW.trod enc Try.prog w 0 spare held m0 24 [c0] = some y0 := h0
    clear h0
    obtain ⟨m1, y1, h1⟩ := trod_field Try.underlying32 h (i := 1) rfl
    replace h1 : DataW.trod enc Try.prog w 0 spare held m1 25 (([c0, c1, c2, c3, c4, c5, c6].drop 1).take (Try.prog.cellsOf 25)) = some y1 := h1
    rw [cells25] at h1
    have k1 : DataW.trod enc Try.prog w 0 spare held m1 25 [c1] = some y1 := h1
    clear h1
    obtain ⟨m2, y2, h2⟩ := trod_field Try.underlying32 h (i := 2) rfl
    replace h2 : DataW.trod enc Try.prog w 0 spare held m2 26 (([c0, c1, c2, c3, c4, c5, c6].drop 2).take (Try.prog.cellsOf 26)) = some y2 := h2
    rw [cells26] at h2
    have k2 : DataW.trod enc Try.prog w 0 spare held m2 26 [c2] = some y2 := h2
    clear h2
    obtain ⟨m3, y3, h3⟩ := trod_field Try.underlying32 h (i := 3) rfl
    replace h3 : DataW.trod enc Try.prog w 0 spare held m3 27 (([c0, c1, c2, c3, c4, c5, c6].drop 3).take (Try.prog.cellsOf 27)) = some y3 := h3
    rw [cells27] at h3
    have k3 : DataW.trod enc Try.prog w 0 spare held m3 27 [c3] = some y3 := h3
    clear h3
    obtain ⟨m4, y4, h4⟩ := trod_field Try.underlying32 h (i := 4) rfl
    replace h4 : DataW.trod enc Try.prog w 0 spare held m4 28 (([c0, c1, c2, c3, c4, c5, c6].drop 4).take (Try.prog.cellsOf 28)) = some y4 := h4
    rw [cells28] at h4
    have k4 : DataW.trod enc Try.prog w 0 spare held m4 28 [c4] = some y4 := h4
    clear h4
    obtain ⟨m5, y5, h5⟩ := trod_field Try.underlying32 h (i := 5) rfl
    replace h5 : DataW.trod enc Try.prog w 0 spare held m5 29 (([c0, c1, c2, c3, c4, c5, c6].drop 5).take (Try.prog.cellsOf 29)) = some y5 := h5
    rw [cells29] at h5
    have k5 : DataW.trod enc Try.prog w 0 spare held m5 29 [c5] = some y5 := h5
    clear h5
    obtain ⟨m6, y6, h6⟩ := trod_field Try.underlying32 h (i := 6) rfl
    replace h6 : DataW.trod enc Try.prog w 0 spare held m6 30 (([c0, c1, c2, c3, c4, c5, c6].drop 6).take (Try.prog.cellsOf 30)) = some y6 := h6
    rw [cells30] at h6
    have k6 : DataW.trod enc Try.prog w 0 spare held m6 30 [c6] = some y6 := h6
    clear h6
    obtain ⟨f0, e0, q0⟩ := dec24 _ _ _ k0
    simp only [encSch, List.cons.injEq, and_true] at e0
    subst e0
    obtain ⟨a1, n1, p1, e1⟩ := decSl Try.underlying25 _ _ _ k1
    simp only [List.cons.injEq, and_true] at e1
    subst e1
    obtain ⟨f1, hl1, hm1, hs1, q1, _⟩ := open_TSlP (enc' := encOrg) Try.underlying25 cells95 (by decide) (fun _ => rfl) dec95 k1
    subst hl1
    obtain ⟨a2, n2, p2, e2⟩ := decSl Try.underlying26 _ _ _ k2
    simp only [List.cons.injEq, and_true] at e2
    subst e2
    obtain ⟨a3, n3, p3, e3⟩ := decSl Try.underlying27 _ _ _ k3
    simp only [List.cons.injEq, and_true] at e3
    subst e3
    obtain ⟨a4, n4, p4, e4⟩ := decSl Try.underlying28 _ _ _ k4
    simp only [List.cons.injEq, and_true] at e4
    subst e4
    obtain ⟨f4, hl4, hm4, hs4, q4, _⟩ := open_TSlP (enc' := encKeep) Try.underlying28 cells62 (by decide) (fun _ => rfl) dec62 k4
    subst hl4
    obtain ⟨a5, n5, p5, e5⟩ := decSl Try.underlying29 _ _ _ k5
    simp only [List.cons.injEq, and_true] at e5
    subst e5
    obtain ⟨a6, n6, p6, e6⟩ := decSl Try.underlying30 _ _ _ k6
    simp only [List.cons.injEq, and_true] at e6
    subst e6
    exact ⟨⟨f0.1, f0.2.1, f0.2.2, a1, p1, f1, ⟨a2, n2, p2⟩, ⟨a3, n3, p3⟩, a4, p4, f4, ⟨a5, n5, p5⟩, ⟨a6, n6, p6⟩⟩, rfl, ⟨⟨q0.1, fun t ht => (q0.2.1 t ht).1, hs1, hs4⟩, q0.2.2, fun t ht => (q0.2.1 t ht).2⟩⟩
theorem dec3' (n : Nat) (cs : List Value) (x : DataW H × List MemPlace) (h : DataW.trod enc Try.prog w 0 spare held n 3 cs = some x) : ∃ i, cs = encI i := let ⟨i, h, _⟩ := dec3 n cs x h; ⟨i, h⟩
end
end Go.Proofs.Ytckihgamnmmbnaa
