/- Repair: the search's state. -/
import Derived.Test.YtlnbkoojelhjdaaGreatDoorXR1
import Derived.Test.YtlnbkoojelhjdaaGreatDoorXVcIn
namespace Go.Proofs.YtlnbkoojelhjdaaGreatDoor
open Go.Vc
theorem memK_self {P : List Int} {N : Nat} (hi : Inc P) (hr : ∀ x ∈ P, 0 ≤ x ∧ x < (N : Int)) : memK P N = P := by
  refine inc_ext (memK_inc P N) hi fun x => ?_
  rw [memK_mem]
  exact ⟨fun h => h.2.2, fun h => ⟨(hr x h).1, (hr x h).2, h⟩⟩
/-- Where the search's variables lie. -/
structure FxR where
  g : GrW
  N : Nat
  l : Nat
  ne : Nat
  B : Nat
  U : Nat
  gb : Nat
  yb : Nat
  sb : Nat
  vb : Nat
  ob : Nat
  pb : Nat
  oB : Nat
def FxR.caps (x : FxR) : List Value := [.pointer (some ⟨x.gb, 0, none⟩), .pointer (some ⟨x.yb, 0, none⟩), .pointer (some ⟨x.sb, 0, none⟩), .pointer (some ⟨x.vb, 0, none⟩), .pointer (some ⟨x.ob, 0, none⟩), .pointer (some ⟨x.pb, 0, none⟩)]
def FxR.T (x : FxR) (k : Nat) : Prop := (x.B ≤ k ∧ k < x.U) ∨ k = x.gb
/-- What does not change. -/
structure FxR.Ok (x : FxR) (w0 : World) : Prop where
  hE : LL w0 x.g.ea x.g.edges
  ne0 : x.ne = w0.heap.size
  gl : GLen x.g
  hv : validG (grV x.g) = true
  hN : x.g.n = (x.N : Int)
  neB : x.ne ≤ x.B
  neg : x.ne ≤ x.gb
  gB : x.gb < x.B
  iy : x.B ≤ x.yb ∧ x.yb < x.U
  is : x.B ≤ x.sb ∧ x.sb < x.U
  iv : x.B ≤ x.vb ∧ x.vb < x.U
  io : x.B ≤ x.ob ∧ x.ob < x.U
  ip : x.B ≤ x.pb ∧ x.pb < x.U
/-- The search's state. -/
structure VSt (x : FxR) (w0 W : World) (s : StW) (O : List Int) (P : List Int) : Prop where
  gb : Blk W x.gb (.cells (Value.agg (encGr x.g).toArray).cells 25 (0, 0))
  yb : Blk W x.yb (.cells #[.func (.yield x.l) #[] #[]] 69 (0, 0))
  sb : PtB W x.sb s
  vb : FnB W x.vb 74 x.caps
  ob : PtO W x.ob x.oB O
  pb : FnB W x.pb 72 [.pointer (some ⟨x.sb, 0, none⟩), .pointer (some ⟨x.ob, 0, none⟩)]
  ok : StOk x.B W x.g s
  st : StIs (vals x.g.edges) x.N s P
  out : OwnT Vc.encI 1 3 x.B W (some ⟨x.oB, 0, none⟩) O.length O
  ol : O.length = x.g.edges.length
  po : s.p < x.oB
  oU : x.oB < x.U
  zU : ∀ j q, aBlk (s.z.getD j default).a q → q < x.oB
  d : Mod (From x.ne) w0 W
  sz : x.U ≤ W.heap.size
theorem StOk.mod {B : Nat} {w w' : World} {g : GrW} {s : StW} {S : Nat → Prop} (h : StOk B w g s) (m : Vc.Mod S w w') (h1 : ¬ S s.p) (h2 : ¬ S s.bi) (h3 : ¬ S s.bf) (h4 : ¬ S s.ba) (h5 : ∀ j q, aBlk (s.z.getD j default).a q → ¬ S q) : StOk B w' g s :=
  ⟨h.blk.mod m h1, h.i.mod m fun q hq => by rw [aBlk_some hq]; exact h2, h.f.mod m fun q hq => by rw [aBlk_some hq]; exact h3, h.a.turn m (fun q hq => by rw [aBlk_some hq]; exact h4) h5, h.li, h.lf, h.la, h.nif, h.nia, h.nfa, h.up⟩
theorem StOk.ge {B : Nat} {w : World} {g : GrW} {s : StW} (h : StOk B w g s) : B ≤ s.bi ∧ B ≤ s.bf ∧ B ≤ s.ba := ⟨h.i.ge _ ⟨_, rfl, rfl⟩, h.f.ge _ ⟨_, rfl, rfl⟩, h.a.own.ge _ ⟨_, rfl, rfl⟩⟩
theorem VSt.mod {x : FxR} {w0 W W' : World} {s : StW} {O P : List Int} {S : Nat → Prop} (h : VSt x w0 W s O P) (hx : x.Ok w0) (m : Vc.Mod S W W') (hT : ∀ k, S k → x.ne ≤ k ∧ ¬ x.T k) : VSt x w0 W' s O P := by
  have inT : ∀ k, x.B ≤ k → k < x.U → ¬ S k := fun k h1 h2 hs => (hT k hs).2 (.inl ⟨h1, h2⟩)
  obtain ⟨g1, g2, g3⟩ := h.ok.ge
  have po := h.po; have oU := h.oU; have li := h.ok.li; have lf := h.ok.lf; have la := h.ok.la
  refine ⟨h.gb.mod m fun hs => (hT _ hs).2 (.inr rfl), h.yb.mod m (inT _ hx.iy.1 hx.iy.2), h.sb.mod m (inT _ hx.is.1 hx.is.2), h.vb.mod m (inT _ hx.iv.1 hx.iv.2), h.ob.mod m (inT _ hx.io.1 hx.io.2), h.pb.mod m (inT _ hx.ip.1 hx.ip.2),
    h.ok.mod m (inT _ (by omega) (by omega)) (inT _ (by omega) (by omega)) (inT _ (by omega) (by omega)) (inT _ (by omega) (by omega)) fun j q hq => inT _ ?_ ?_, h.st, h.out.mod m fun q hq => by rw [aBlk_some hq]; exact inT _ (by omega) (by omega), h.ol, h.po, h.oU, h.zU, h.d.then m fun k _ hk => (hT k hk).1, Nat.le_trans h.sz m.size⟩
  · have := h.ok.up j q hq; omega
  · have := h.zU j q hq; omega
theorem VSt.ext {x : FxR} {w0 W W' : World} {s : StW} {O P : List Int} (h : VSt x w0 W s O P) (hx : x.Ok w0) (m : Ext W W') : VSt x w0 W' s O P := h.mod hx m fun _ h => h.elim
/-- A vertex put in or taken out. -/
theorem VSt.put {x : FxR} {w0 W W' : World} {s : StW} {O P P' : List Int} {bs : List Bool} {fs : List Int} (h : VSt x w0 W s O P) (hx : x.Ok w0) (hok : StOk x.B W' x.g ⟨s.p, s.bi, s.bf, s.ba, bs, fs, s.z⟩) (hst : StIs (vals x.g.edges) x.N ⟨s.p, s.bi, s.bf, s.ba, bs, fs, s.z⟩ P') (m : Vc.Mod (StT s) W W') :
    VSt x w0 W' ⟨s.p, s.bi, s.bf, s.ba, bs, fs, s.z⟩ O P' := by
  obtain ⟨g1, g2, g3⟩ := h.ok.ge
  have gB := hx.gB; have neB := hx.neB
  have li := h.ok.li; have lf := h.ok.lf; have po := h.po
  have off : ∀ {b : Nat} {v : Array Value} {t : Nat}, Blk W b (.cells v t (0, 0)) → t ≠ 4 → t ≠ 3 → ¬ StT s b := fun hb n1 n2 hs => by
    rcases hs with hs | hs
    · exact (OwnT.tyA h.ok.i).apart hb n1.symm ⟨_, rfl, hs.symm⟩
    · exact (OwnT.tyA h.ok.f).apart hb n2.symm ⟨_, rfl, hs.symm⟩
  exact ⟨h.gb.mod m (off h.gb (by decide) (by decide)), h.yb.mod m (off h.yb (by decide) (by decide)), h.sb.mod m (off h.sb (by decide) (by decide)), h.vb.mod m (off h.vb (by decide) (by decide)), h.ob.mod m (off h.ob (by decide) (by decide)), h.pb.mod m (off h.pb (by decide) (by decide)),
    hok, hst, h.out.mod m fun q hq hs => by have := aBlk_some hq; unfold StT at hs; omega, h.ol, h.po, h.oU, h.zU, h.d.then m fun k _ hk => by unfold StT at hk; show _ ≤ _; omega, Nat.le_trans h.sz m.size⟩
/-- A count written. -/
theorem VSt.wr {x : FxR} {w0 W W' : World} {s : StW} {O O' P : List Int} (h : VSt x w0 W s O P) (hx : x.Ok w0) (hO : OwnT Vc.encI 1 3 x.B W' (some ⟨x.oB, 0, none⟩) O.length O') (hl : O'.length = O.length) (m : Vc.Mod (Vc.one x.oB) W W') : VSt x w0 W' s O' P := by
  obtain ⟨g1, g2, g3⟩ := h.ok.ge
  have neB := hx.neB
  have li := h.ok.li; have lf := h.ok.lf; have la := h.ok.la; have po := h.po
  have off : ∀ {b : Nat} {v : Array Value} {t : Nat}, Blk W b (.cells v t (0, 0)) → t ≠ 3 → ¬ Vc.one x.oB b := fun hb n2 hs => (OwnT.tyA h.out).apart hb n2.symm ⟨_, rfl, hs.symm⟩
  refine ⟨h.gb.mod m (off h.gb (by decide)), h.yb.mod m (off h.yb (by decide)), h.sb.mod m (off h.sb (by decide)), h.vb.mod m (off h.vb (by decide)), ?_, h.pb.mod m (off h.pb (by decide)),
    h.ok.mod m (by unfold Vc.one; omega) (by unfold Vc.one; omega) (by unfold Vc.one; omega) (by unfold Vc.one; omega) fun j q hq => by have := h.zU j q hq; unfold Vc.one; omega, h.st, by rw [hl]; exact hO, by rw [hl]; exact h.ol, h.po, h.oU, h.zU, h.d.then m fun k _ hk => by unfold Vc.one at hk; show _ ≤ _; omega, Nat.le_trans h.sz m.size⟩
  have := h.ob.mod m (off h.ob (by decide))
  unfold PtO at this ⊢
  rw [hl]; exact this
theorem VSt.E {x : FxR} {w0 W : World} {s : StW} {O P : List Int} (h : VSt x w0 W s O P) (hx : x.Ok w0) : LL W x.g.ea x.g.edges := ⟨hx.hE.sl.from (hx.ne0 ▸ h.d), fun y hy => (hx.hE.each y hy).from (hx.ne0 ▸ h.d)⟩
theorem GOk.from {w w' : World} {g : GrW} (h : GOk w g) (m : Vc.Mod (From w.heap.size) w w') : GOk w' g := ⟨h.c.from m, ⟨h.e.sl.from m, fun y hy => (h.e.each y hy).from m⟩⟩
/-- The counts are those of 'v'. -/
def OIs (E : List (List Int)) (O P : List Int) (v : Nat) : Prop := ∀ i, i < E.length → O.getD i default = ((outN (E.getD i default) P v : Nat) : Int)
end Go.Proofs.YtlnbkoojelhjdaaGreatDoor
