/- Hyper: the walk of law HyperMinimal. -/
import Derived.Test.YtlnbkoojelhjdaaGreatDoorXH22a
import Derived.Test.YtlnbkoojelhjdaaGreatDoorXH4
namespace Go.Proofs.YtlnbkoojelhjdaaGreatDoor
open Go.Vc
/-- What is known of edges that come in. -/
structure EIn (E : List SlI) : Prop where
  len : E.length ≤ 9223372036854775807
  each : ∀ x ∈ E, x.l.length ≤ 9223372036854775807 ∧ (x.a = none → x.c = 0) ∧ ∀ y ∈ x.l, -9223372036854775808 ≤ y ∧ y ≤ 9223372036854775807
/-- What the minimal ones are, as they lie. -/
structure MinL (E : List (List Int)) (z : List SlI) : Prop where
  v : vals z = minF E
  len : ∀ x ∈ z, x.l.length ≤ 1000000
theorem MinL.in {E : List (List Int)} {z : List SlI} (h : MinL E z) {i : Nat} (hi : i < z.length) : (z.getD i default).l ∈ minF E := by
  rw [← h.v]; exact List.mem_map_of_mem (gmem hi)
theorem MinL.le {E : List (List Int)} {z : List SlI} (h : MinL E z) {i : Nat} (hi : i < z.length) : (z.getD i default).l.length ≤ 1000000 := h.len _ (gmem hi)
theorem MinL.pos {E : List (List Int)} {z : List SlI} (h : MinL E z) {i : Nat} (hi : i < z.length) : 0 < (z.getD i default).l.length := List.length_pos_iff.2 (minF_inc (h.in hi)).2
theorem MinL.lt {E : List (List Int)} {z : List SlI} (h : MinL E z) {i j : Nat} (hij : i < j) (hj : j < z.length) : lexB (z.getD i default).l (z.getD j default).l = true := by
  have hu := minF_up E
  rw [← h.v] at hu
  have := List.pairwise_iff_getElem.1 hu i j (by rw [List.length_map]; omega) (by rw [List.length_map]; exact hj) hij
  rw [gget (show i < z.length by omega), gget hj]
  simpa [vals] using this
theorem MinL.apart {E : List (List Int)} {z : List SlI} (h : MinL E z) {i k : Nat} (hi : i < z.length) (hk : k < z.length) (hne : k ≠ i) : contF (z.getD i default).l (z.getD k default).l = false := by
  have h1 := minF_inc (h.in hi)
  have h2 := minF_inc (h.in hk)
  rw [contF_sub h1.1 h2.1]
  cases hs : subB (z.getD k default).l (z.getD i default).l with
  | false => rfl
  | true =>
    have e := (minF_mem.1 (h.in hi)).2 _ (minF_mem.1 (h.in hk)).1 hs
    have irr : ∀ l : List Int, lexB l l = true → False := fun l hl => by
      have := lexB_sto.irr l
      rw [hl] at this; cases this
    rcases Nat.lt_or_gt_of_ne hne with hlt | hlt
    · exact (irr _ (by have := h.lt hlt hi; rwa [e] at this)).elim
    · exact (irr _ (by have := h.lt hlt hk; rwa [e] at this)).elim
theorem MinL.rng {E z : List SlI} (h : MinL (vals E) z) (hE : ∀ x ∈ E, ∀ y ∈ x.l, -9223372036854775808 ≤ y ∧ y ≤ 9223372036854775807) : ∀ x ∈ z, ∀ y ∈ x.l, -9223372036854775808 ≤ y ∧ y ≤ 9223372036854775807 := fun x hx y hy => by
  have hm : x.l ∈ minF (vals E) := by rw [← h.v]; exact List.mem_map_of_mem hx
  obtain ⟨f, hf, _, e⟩ := setsOf_mem.1 (minF_mem.1 hm).1
  obtain ⟨g, hg, rfl⟩ := List.mem_map.1 hf
  rw [e] at hy
  exact hE g hg y ((setF_mem y _).1 hy)
theorem MinL.hax {E : List (List Int)} {z : List SlI} (h : MinL E z) {w : World} {a : Option Addr} (hL : LL w a z) : ∀ x ∈ z, x.a = none → x.c = 0 := fun x hx e => by
  have hm : x.l ∈ minF E := by rw [← h.v]; exact List.mem_map_of_mem hx
  exact absurd e (addr_some (hL.each x hx) (minF_inc hm).2)
end Go.Proofs.YtlnbkoojelhjdaaGreatDoor
