/- Own library: how long a slice that comes in can be: the form's own reach. -/
import Derived.Test.YtmglkjigmcikdaaGreatDoorXVcJoin2
import Derived.SizedLaws
namespace Go.Vc
open Go.Deep
variable {H : Type} {enc : TypeId × Value → H} {P : Program} {w : World} {spare : Nat → Bool} {held : Bool}
theorem slice_reach {t e fuel len cap M : Nat} {a : Option Addr} {x : DataW H × List MemPlace} (ht : P.underlying t = some (.slice e)) (h : DataW.trod enc P w 0 spare held fuel t [.slice a len cap] = some x) (hx : ∀ n ∈ x.1.weights P t, n ≤ M) : len * P.bytesOf e ≤ M := by
 rcases open_slice ht h with ⟨h0, _⟩ | ⟨ad, len', cap', m, n, D, Pl, h0, _, _, _, _, hxe, _⟩
 ·simp at h0
  obtain ⟨rfl, rfl, rfl⟩ := h0
  omega
 ·simp at h0
  obtain ⟨rfl, rfl, rfl⟩ := h0
  subst hxe
  have := hx ((((List.range len).map D).length + ((List.range (m - len)).map fun j => D (len + j)).length) * P.bytesOf e) (by simp [DataW.weights, ht])
  rw [List.length_map, List.length_range] at this
  exact Nat.le_trans (Nat.mul_le_mul_right _ (Nat.le_add_right _ _)) this
theorem field_reach {t fuel : Nat} {fs : Array Field} {cs : List Value} {x : DataW H × List MemPlace} (ht : P.underlying t = some (.struct fs)) (h : DataW.trod enc P w 0 spare held fuel t cs = some x) {i : Nat} {f : Field} (hf : fs[i]? = some f) :
  ∃ m y, DataW.trod enc P w 0 spare held m f.type ((cs.drop f.offset).take (P.cellsOf f.type)) = some y ∧ ∀ n ∈ y.1.weights P f.type, n ∈ x.1.weights P t := by
 obtain ⟨xs, m, _, hxe, _, hxl, hh⟩ := DataW.trod_struct ht h
 have hi : i < fs.size := (Array.getElem?_eq_some_iff.1 hf).1
 refine ⟨m, xs[i]'(by omega), ?_, fun n hn => ?_⟩
 ·rw [hh i f hf]
  exact List.getElem?_eq_getElem _
 ·subst hxe
  simp only [DataW.weights, ht]
  refine DataW.weights_mem_each (j := i) (t := f.type) (d := (xs[i]'(by omega)).1) ?_ ?_ n hn
  ·rw [List.getElem?_map, Array.getElem?_toList, hf]; rfl
  ·rw [List.getElem?_map, List.getElem?_eq_getElem (by omega)]; rfl
end Go.Vc
