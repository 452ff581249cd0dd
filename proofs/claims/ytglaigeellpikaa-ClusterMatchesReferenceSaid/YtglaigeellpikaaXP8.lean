/- Cluster: what a solution depends on. No program. -/
import Derived.Test.YtglaigeellpikaaXP4
namespace Go.Proofs.Ytglaigeellpikaa
open Go.Vc

section
variable {wt wt' : Int → Int → Int} {ap ap' : Int → Int → Bool} {cs : List Int}
theorem kS_wt (hw : ∀ c ∈ cs, ∀ d ∈ cs, c < d → wt c d = wt' c d) (h : Int → Int) : kS wt cs h = kS wt' cs h := by
  unfold kS
  refine sm_congr _ _ fun c hc => sm_congr _ _ fun d hd => ?_
  by_cases e : c < d ∧ h c = h d
  · rw [if_pos e, if_pos e, hw c hc d hd e.1]
  · rw [if_neg e, if_neg e]
end
/-! ### The components depend on which weights are positive. -/
theorem gW_nodup (same : List Int) (edges : List Ed) : ((gW same edges).map (·.1)).Nodup := by
  refine rev_ind (M := fun edges => ((gW same edges).map (·.1)).Nodup) (by simp [gW]) (fun l x ih => ?_) edges
  rw [gW_snoc]
  unfold gWs
  split
  · rw [tset_keys]
    split
    · exact ih
    · rename_i hm
      exact List.nodup_append.2 ⟨ih, by simp, fun a ha b hb => by rw [List.mem_singleton] at hb; rw [hb]; exact fun e => hm (e ▸ ha)⟩
  · exact ih
theorem jC_wt (same : List Int) (edges : List Ed) {p : Nat × Nat} : p ∈ jC same (gW same edges) ↔ (∃ i, i < same.length ∧ p = (i, (same.getD i default).toNat)) ∨ ∃ a b, 0 < wtG same edges a b ∧ p = (a.toNat, b.toNat) := by
  rw [jC_mem]
  refine or_congr Iff.rfl ⟨?_, ?_⟩
  · rintro ⟨q, h1, h2, h3⟩
    refine ⟨q.1.1, q.1.2, ?_, h3⟩
    unfold wtG wtM
    rw [show (q.1.1, q.1.2) = q.1 from rfl, (tget_mem (gW_nodup same edges)).2 (show (q.1, q.2) ∈ gW same edges from h1)]
    exact h2
  · rintro ⟨a, b, h1, h3⟩
    unfold wtG wtM at h1
    cases ht : tget (gW same edges) (a, b) with
    | none => rw [ht] at h1; simp at h1
    | some v => exact ⟨((a, b), v), (tget_mem (gW_nodup same edges)).1 ht, by rw [ht] at h1; exact h1, h3⟩
end Go.Proofs.Ytglaigeellpikaa

/- Cluster: deciding that two records of different entities are different. -/
namespace Go.Proofs.Ytglaigeellpikaa
open Go.Vc

end Go.Proofs.Ytglaigeellpikaa

/- Cluster: the evidence, given otherwise. -/
namespace Go.Proofs.Ytglaigeellpikaa
open Go.Vc

end Go.Proofs.Ytglaigeellpikaa

/- Cluster: without weights against it and without decisions the entities are the components. -/
namespace Go.Proofs.Ytglaigeellpikaa
open Go.Vc

end Go.Proofs.Ytglaigeellpikaa
