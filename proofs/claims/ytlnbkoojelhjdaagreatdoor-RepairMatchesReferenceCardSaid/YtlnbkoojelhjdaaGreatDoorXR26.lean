/- Repair: the cheapest repair. Plain. -/
import Derived.Test.YtlnbkoojelhjdaaGreatDoorXR12
import Derived.Test.YtlnbkoojelhjdaaGreatDoorXR24
namespace Go.Proofs.YtlnbkoojelhjdaaGreatDoor
open Go.Vc
theorem lex_first {A C : List Int} {v : Nat} (hA : Inc A) (hC : Inc C) (hv : (v : Int) ∈ A) (hn : (v : Int) ∉ C) (hb : ∀ x, x < (v : Int) → (x ∈ A ↔ x ∈ C)) : lexB A C = true ∨ ∀ x ∈ C, x ∈ A := by
 obtain ⟨S, hS, hSv⟩ := below_split (v := v) hA
 obtain ⟨T, hT, hTv⟩ := below_split (v := v) hC
 have hbl : below A v = below C v := inc_ext (hA.sublist List.filter_sublist) (hC.sublist List.filter_sublist) fun x => by
  rw [below_mem, below_mem]
  exact ⟨fun h => ⟨(hb x h.2).1 h.1, h.2⟩, fun h => ⟨(hb x h.2).2 h.1, h.2⟩⟩
 have hvS : (v : Int) ∈ S := by
  rw [hS] at hv
  rcases List.mem_append.1 hv with h | h
  ·have := (below_mem.1 h).2; omega
  ·exact h
 cases T with
 | nil =>
  refine .inr fun x hx => ?_
  rw [hT, List.append_nil, ← hbl] at hx
  exact (below_mem.1 hx).1
 | cons t T =>
  refine .inl ?_
  rw [hS, hT, hbl, lex_app]
  cases S with
  | nil => cases hvS
  | cons s S =>
   have hs : s = (v : Int) := by
    have h1 := hSv s (by simp)
    rcases List.mem_cons.1 hvS with h | h
    ·exact h.symm
    ·have hi : Inc (s :: S) := by
      rw [hS] at hA; exact (List.pairwise_append.1 hA).2.1
     have := (List.pairwise_cons.1 hi).1 _ h
     omega
   have ht := hTv t (by simp)
   have htn : t ≠ (v : Int) := fun e => hn (by rw [hT]; exact List.mem_append_right _ (by simp [e]))
   show (if s < t then true else _) = true
   rw [if_pos (by omega)]
end Go.Proofs.YtlnbkoojelhjdaaGreatDoor
