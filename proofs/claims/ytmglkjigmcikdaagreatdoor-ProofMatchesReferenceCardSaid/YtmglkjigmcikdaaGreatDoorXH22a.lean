/- Hyper: the components. -/
import Derived.Test.YtmglkjigmcikdaaGreatDoorXHG
namespace Go.Proofs.YtmglkjigmcikdaaGreatDoor
open Go.Vc
end Go.Proofs.YtmglkjigmcikdaaGreatDoor
/- Hyper: the vertices in no edge, and those that are an edge alone. -/
namespace Go.Proofs.YtmglkjigmcikdaaGreatDoor
open Go.Vc
def encBo (b : Bool) : List Value := [.bool b]
theorem eltBo : Elt encBo 1 := ⟨fun _ => rfl, fun _ => rfl, by decide⟩
theorem setD_eq {α : Type} [Inhabited α] (l : List α) {i : Nat} (h : i < l.length) (v : α) : (l.set i v).getD i default = v := by simp [List.getD, h]
theorem setD_ne {α : Type} [Inhabited α] (l : List α) {i j : Nat} (h : j ≠ i) (v : α) : (l.set i v).getD j default = l.getD j default := by simp [List.getD, List.getElem?_set_ne (Ne.symm h)]
end Go.Proofs.YtmglkjigmcikdaaGreatDoor
/- Hyper: the graph of some vertices. -/
namespace Go.Proofs.YtmglkjigmcikdaaGreatDoor
open Go.Vc
def TyA (w : World) (a : Option Addr) (T : TypeId) : Prop := ∀ ad, a = some ad → ∃ c z, Blk w ad.block (.cells c T z)
theorem OwnT.tyA {α : Type} {enc : α → List Value} {s e B : Nat} {w : World} {a : Option Addr} {cap : Nat} {l : List α} (h : OwnT enc s e B w a cap l) : TyA w a e := fun ad ha => by
 rcases h.own.2 with ⟨hv, _⟩ | ⟨g, cap', cur, hv, hB, hg, _⟩
 ·injection hv with h1; rw [ha] at h1; cases h1
 ·injection hv with h1
  rw [ha] at h1
  injection h1 with h1
  subst h1
  exact ⟨cur, _, hg⟩
theorem TyA.apart {w : World} {a : Option Addr} {T T' : TypeId} {b : Nat} {c : Array Value} {z : Nat × Nat} (h : TyA w a T) (hb : Blk w b (.cells c T' z)) (hne : T ≠ T') : ¬ aBlk a b := by
 rintro ⟨ad, ha, hk⟩
 obtain ⟨c', z', hb'⟩ := h ad ha
 rw [hk] at hb'
 unfold Blk at hb hb'
 rw [hb] at hb'
 injection hb' with hb'
 injection hb' with _ h2
 exact hne h2.symm
end Go.Proofs.YtmglkjigmcikdaaGreatDoor
/- Hyper: lemmas on literals (split from H22). -/
namespace Go.Proofs.YtmglkjigmcikdaaGreatDoor
open Go.Vc
/-! ### Literals -/
theorem litI {w : World} {b : Nat} {cs : Array Value} {l : List Int} (h : Blk w b (.cells cs 3 (0, 0))) (hr : (l.map Vc.encI).flatten = cs.toList) (hm : l.length ≤ maxLen) : IntSl w (some ⟨b, 0, none⟩) l :=
 OwnT.sl (B := 0) (OwnT.of_blk (l := l) h (Nat.zero_le _) hr (fun r hr => by obtain ⟨x, _, rfl⟩ := List.mem_map.1 hr; rfl) hm)
theorem litA0 {w : World} : ∀ x ∈ ([] : List SlI), IntSl w x.a x.l := fun x h => by cases h
theorem litA {w : World} {a : Option Addr} {c : Nat} {l : List Int} {L : List SlI} (h : IntSl w a l) (t : ∀ x ∈ L, IntSl w x.a x.l) : ∀ x ∈ (⟨a, c, l⟩ :: L : List SlI), IntSl w x.a x.l := fun x hx => by
 rcases List.mem_cons.1 hx with e | h2
 ·rw [e]; exact h
 ·exact t x h2
theorem litL {w : World} {b : Nat} {cs : Array Value} {L : List SlI} (h : Blk w b (.cells cs 22 (0, 0))) (hr : (L.map encSl).flatten = cs.toList) (he : ∀ x ∈ L, IntSl w x.a x.l) (hm : L.length ≤ maxLen := by exact Nat.le_of_ble_eq_true rfl) : LL w (some ⟨b, 0, none⟩) L :=
 ⟨OwnT.sl (B := 0) (OwnT.of_blk (l := L) h (Nat.zero_le _) hr (fun r hr => by obtain ⟨x, _, rfl⟩ := List.mem_map.1 hr; rfl) hm), he⟩
end Go.Proofs.YtmglkjigmcikdaaGreatDoor
