/- Hyper: the walk of law HyperConflicts. -/
import Derived.Test.YtlnbkoojelhjdaaGreatDoorXL3
import Derived.Test.YtlnbkoojelhjdaaGreatDoorXJ
import Derived.Test.YtlnbkoojelhjdaaGreatDoorXVcApp2
namespace Go.Proofs.YtlnbkoojelhjdaaGreatDoor
open Go.Vc
end Go.Proofs.YtlnbkoojelhjdaaGreatDoor

/- Hyper: the walk of law HyperFixed. -/
namespace Go.Proofs.YtlnbkoojelhjdaaGreatDoor
open Go.Vc
end Go.Proofs.YtlnbkoojelhjdaaGreatDoor

/- Hyper: the walk of law HyperParts. -/
namespace Go.Proofs.YtlnbkoojelhjdaaGreatDoor
open Go.Vc
theorem GNew.valid {w w' : World} {g : GrW} (h : GNew w w' g) (hv : validG (grV g) = true) : GLen g := by
 obtain ⟨h1, h2, h3, _⟩ := validG_iff.1 hv
 have hc := costB_iff.1 h1
 exact h.glen rfl (by have h0 : (grV g).n ≤ 4000 := hc.2.1; have h4 := hc.2.2.1; omega) (by omega) (List.all_eq_true.2 fun e he => decide_eq_true (h3 e he).1)
structure PtR (G : Gr) (w : World) (y : GrW) : Prop where
 v : grV y = G
 n : GNew w w y
 t : GTy w y
theorem PtR.ext {G : Gr} {w w' : World} {y : GrW} (h : PtR G w y) (e : Ext w w') : PtR G w' y := ⟨h.v, ⟨h.n.ok.ext e, h.n.cc, h.n.each⟩, h.t.ext e⟩
structure TG (n : Nat) (G : Gr) (a b : World) : Prop where
 m : Vc.Mod (fun k => n ≤ k ∧ ∃ c z, Blk a k (.cells c 25 z)) a b
 good : ∀ k, n ≤ k → (∃ y, Blk a k (.cells (encGr y).toArray 25 (0, 0)) ∧ PtR G a y) → ∃ y, Blk b k (.cells (encGr y).toArray 25 (0, 0)) ∧ PtR G b y
 ty : ∀ k c, Blk a k (.cells c 25 (0, 0)) → c.size = 3 → ∃ c', Blk b k (.cells c' 25 (0, 0)) ∧ c'.size = 3
theorem PtR.mod {G : Gr} {w w' : World} {y : GrW} {S : Nat → Prop} (h : PtR G w y) (m : Vc.Mod S w w') (hS : ∀ k, S k → ∃ c z, Blk w k (.cells c 25 z)) : PtR G w' y := by
 have key : ∀ {a : Option Addr} {T : TypeId}, TyA w a T → T ≠ 25 → ∀ k, aBlk a k → ¬ S k := fun hT hne k hk hs => by
  obtain ⟨c, z, hb⟩ := hS k hs
  exact hT.apart hb hne hk
 have h1 := h.n.ok
 exact ⟨h.v, ⟨⟨h1.c.mod m fun ad e => key h.t.c (by decide) _ ⟨ad, e, rfl⟩, ⟨h1.e.sl.mod m fun ad e => key h.t.e (by decide) _ ⟨ad, e, rfl⟩, fun x hx => (h1.e.each x hx).mod m fun ad e => key (h.t.each x hx) (by decide) _ ⟨ad, e, rfl⟩⟩⟩, h.n.cc, h.n.each⟩,
  ⟨h.t.c.mod m (key h.t.c (by decide)), h.t.e.mod m (key h.t.e (by decide)), fun x hx => (h.t.each x hx).mod m (key (h.t.each x hx) (by decide))⟩⟩
theorem PtR.turn {n : Nat} {G : Gr} {w w' : World} {y : GrW} (h : PtR G w y) (t : TG n G w w') : PtR G w' y := h.mod t.m fun _ hk => hk.2
theorem Blk.ofMod {S : Nat → Prop} {a b : World} (m : Vc.Mod S a b) {k : Nat} (hk : k < a.heap.size) (hn : ¬ S k) {o : Obj} (h : Blk b k o) : Blk a k o := by
 have := m.blk k hk hn
 unfold Blk at h ⊢
 rw [← h]; exact this.symm
instance (n : Nat) (G : Gr) : Turn (TG n G) where
 refl a := ⟨Vc.Mod.refl _ _, fun _ _ h => h, fun _ c h hc => ⟨c, h, hc⟩⟩
 trans h k := ⟨h.m.then k.m fun y hy ⟨h1, c, z, h2⟩ => Classical.byContradiction fun hn => hn ⟨h1, c, z, Blk.ofMod h.m hy hn h2⟩, fun y hy x => k.good y hy (h.good y hy x), fun y c h1 h2 => by
  obtain ⟨c', h3, h4⟩ := h.ty y c h1 h2
  exact k.ty y c' h3 h4⟩
 ext e := ⟨e.mod, fun _ _ ⟨y, h1, h2⟩ => ⟨y, h1.ext e, h2.ext e⟩, fun _ c h hc => ⟨c, h.ext e, hc⟩⟩
theorem TG.old {G : Gr} {a b : World} (t : TG a.heap.size G a b) : Ext a b := t.m.weaken fun k hk h => by have := h.1; omega
theorem putGr {c : Array Value} (hc : c.size = 3) (y : GrW) : putCells c 0 (encGr y) = (encGr y).toArray := by
 match c, hc with
 | ⟨[c0, c1, c2]⟩, _ => rfl
theorem runAlloc33 {ρ : Env} {ty : TypeId} (w : World) : run1 Tryz.prog ρ (.alloc 25) ty w = .ok (.value (.pointer (some ⟨w.heap.size, 0, none⟩))) (w.alloc (.cells #[.int .i64 0, .slice none 0 0, .slice none 0 0] 25)) := by
 have hz := Tryz.zeroValue25 w
 simp [run1, execOp, Instr.alloc, go_sem, hz, newVar, newRow]
end Go.Proofs.YtlnbkoojelhjdaaGreatDoor
