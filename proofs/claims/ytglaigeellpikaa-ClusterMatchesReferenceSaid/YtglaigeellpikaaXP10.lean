/- Cluster: components: marks, and edges within them. No program. -/
import Derived.Test.YtglaigeellpikaaXP8
namespace Go.Proofs.Ytglaigeellpikaa
open Go.Vc

theorem gdE {α : Type} [Inhabited α] {l : List α} {i : Nat} (h : i < l.length) : l.getD i default = l[i] := by simp [List.getD, h]
/-- The edges within components. -/
def insF (r : Nat → Nat) (edges : List Ed) : List Ed := edges.filter fun e => decide (r e.a.toNat = r e.b.toNat)
theorem r_class {same : List Int} {edges : List Ed} {other : List (Int × Int)} (k : OkG same edges other) {x : Int} (h0 : 0 ≤ x) (h1 : x < same.length) : rG same edges (at_ same x).toNat = rG same edges x.toNat := by
  have hci := cmpR_is k.v k.ok
  exact (hci.join _ (jC_mem.2 (.inl ⟨x.toNat, by omega, rfl⟩))).symm
theorem ins_wt {same : List Int} {edges : List Ed} {other : List (Int × Int)} (k : OkG same edges other) (a b : Int) : wtG same (insF (rG same edges) edges) a b = if rG same edges a.toNat = rG same edges b.toNat then wtG same edges a b else 0 := by
  unfold wtG
  rw [gW_val, gW_val]
  unfold insF
  rw [sm_filter]
  have h1 : ∀ e ∈ edges, (if decide (rG same edges e.a.toNat = rG same edges e.b.toNat) = true then (if ofP same e a b then e.w else 0) else 0) = if rG same edges a.toNat = rG same edges b.toNat then (if ofP same e a b then e.w else 0) else 0 := fun e he => by
    obtain ⟨b1, b2, b3, b4⟩ := k.l e he
    have ra := r_class k b1 b3
    have rb := r_class k b2 b4
    by_cases ho : ofP same e a b
    · have hab : (at_ same e.a = a ∧ at_ same e.b = b) ∨ (at_ same e.a = b ∧ at_ same e.b = a) := by
        have := ho.2
        unfold ordF at this; rw [Prod.mk.injEq] at this; omega
      have hiff : rG same edges e.a.toNat = rG same edges e.b.toNat ↔ rG same edges a.toNat = rG same edges b.toNat := by
        rcases hab with ⟨h1, h2⟩ | ⟨h1, h2⟩
        · rw [← ra, ← rb, h1, h2]
        · rw [← ra, ← rb, h1, h2]; exact ⟨fun h => h.symm, fun h => h.symm⟩
      by_cases h : rG same edges a.toNat = rG same edges b.toNat
      · rw [if_pos (decide_eq_true (hiff.2 h)), if_pos h]
      · rw [if_neg (fun q => h (hiff.1 (of_decide_eq_true q))), if_neg h]
    · rw [if_neg ho]; (repeat' split) <;> rfl
  rw [sm_congr _ _ h1]
  by_cases h : rG same edges a.toNat = rG same edges b.toNat
  · rw [if_pos h]; exact sm_congr _ _ fun e _ => by rw [if_pos h]
  · rw [if_neg h]; exact sm_zero _ fun e _ => by rw [if_neg h]
theorem pos_join {same : List Int} {edges : List Ed} {other : List (Int × Int)} (k : OkG same edges other) {a b : Int} (h : 0 < wtG same edges a b) : rG same edges a.toNat = rG same edges b.toNat := (cmpR_is k.v k.ok).join _ ((jC_wt same edges).2 (.inr ⟨a, b, h, rfl⟩))
theorem ins_ok {same : List Int} {edges : List Ed} {other : List (Int × Int)} (k : OkG same edges other) : okB same (insF (rG same edges) edges) other = true := by
  unfold okB
  rw [k.vb, k.pr, show linkB same.length (insF (rG same edges) edges) = true from ?_]
  · rfl
  · have := linkB_iff.1 k.lk
    refine linkB_iff.2 ⟨Nat.le_trans (List.length_filter_le _ _) this.1, fun e he => this.2 e (List.mem_filter.1 he).1⟩
end Go.Proofs.Ytglaigeellpikaa

/- Cluster: the walk of ClusterComponents. -/
namespace Go.Proofs.Ytglaigeellpikaa
open Go.Vc

end Go.Proofs.Ytglaigeellpikaa
