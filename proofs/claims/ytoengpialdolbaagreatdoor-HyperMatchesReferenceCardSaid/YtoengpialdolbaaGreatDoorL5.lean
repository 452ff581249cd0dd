/- Hyper: the walk of law HyperSequence. -/
import Derived.Test.YtoengpialdolbaaGreatDoorL4
namespace Go.Proofs.YtoengpialdolbaaGreatDoor
open Go.Vc
/-- The edges in reverse order, each twice, once with its vertices in reverse order. -/
def turnL (L : List (List Int)) : List (List Int) := L.reverse.flatMap fun x => [x.reverse, x]
theorem turnL_cons (x : List Int) (L : List (List Int)) : turnL (x :: L) = turnL L ++ [x.reverse, x] := by unfold turnL; simp [List.flatMap_append]
theorem turnL_mem {e : List Int} {L : List (List Int)} : e ∈ turnL L ↔ ∃ x ∈ L, e = x.reverse ∨ e = x := by
  unfold turnL
  simp only [List.mem_flatMap, List.mem_reverse, List.mem_cons, List.not_mem_nil, or_false]
theorem setF_rev (x : List Int) : setF x.reverse = setF x := setF_congr fun y => by simp
theorem make_turn (n : Int) (cost : List Int) (L : List (List Int)) : makeF n cost (turnL L) = makeF n cost L := by
  have hm : minF (turnL L) = minF L := minF_congr fun e => by
    rw [setsOf_mem, setsOf_mem]
    constructor
    · rintro ⟨x, hx, hn, rfl⟩
      obtain ⟨y, hy, rfl | rfl⟩ := turnL_mem.1 hx
      · exact ⟨y, hy, fun h => hn (by rw [h]; rfl), setF_rev y⟩
      · exact ⟨_, hy, hn, rfl⟩
    · rintro ⟨x, hx, hn, rfl⟩
      exact ⟨x, turnL_mem.2 ⟨x, hx, .inr rfl⟩, hn, rfl⟩
  have ha : (∀ e ∈ turnL L, e ≠ [] ∧ setB (setF e) n = true) ↔ ∀ e ∈ L, e ≠ [] ∧ setB (setF e) n = true := by
    constructor
    · exact fun h e he => h e (turnL_mem.2 ⟨e, he, .inr rfl⟩)
    · intro h e he
      obtain ⟨y, hy, rfl | rfl⟩ := turnL_mem.1 he
      · rw [setF_rev]; exact ⟨fun hh => (h y hy).1 (List.reverse_eq_nil_iff.1 hh), (h y hy).2⟩
      · exact h _ hy
  unfold makeF
  rw [hm]
  by_cases h : costB n cost = true ∧ ∀ e ∈ L, e ≠ [] ∧ setB (setF e) n = true
  · rw [if_pos h, if_pos ⟨h.1, ha.2 h.2⟩]
  · rw [if_neg h, if_neg fun hh => h ⟨hh.1, ha.1 hh.2⟩]
theorem makeF_lens (n : Int) (cost : List Int) (E : List (List Int)) : (makeF n cost E).1.cost.length ≤ cost.length ∧ (makeF n cost E).1.edges.length ≤ 20000 := by
  unfold makeF
  split
  · split
    · rename_i h; exact ⟨Nat.le_refl _, h⟩
    · exact ⟨Nat.zero_le _, Nat.zero_le _⟩
  · exact ⟨Nat.zero_le _, Nat.zero_le _⟩
theorem same_is (g h : GrW) (w w1 w2 : World) (hG : GOk w g) (hH : GOk w h) (hv : grV g = grV h) (N1 : GNew w1 w g ∨ True) (h1 : g.cost.length ≤ 9223372036854775807) (h3 : g.edges.length ≤ 9223372036854775807) (h5 : ∀ x ∈ g.edges, x.l.length ≤ 1000000) (h6 : ∀ x ∈ h.edges, x.l.length ≤ 1000000) :
    RetsP Tryz.prog 13 #[.agg (encGr g).toArray, .agg (encGr h).toArray] w (.bool true) := by
  have e1 : h.cost = g.cost := (congrArg Gr.cost hv).symm
  have e2 : h.edges.length = g.edges.length := by
    have := congrArg (fun x : Gr => x.edges.length) hv
    simp only [grV, vals, List.length_map] at this
    exact this.symm
  have := same_spec g h w hG hH h1 (by rw [e1]; exact h1) h3 (by rw [e2]; exact h3) (fun x hx => Nat.le_trans (h5 x hx) (by decide)) (fun x hx => Nat.le_trans (h6 x hx) (by decide))
  rwa [decide_eq_true hv] at this
/-- A list of lists of which some came in. -/
structure TurnI (B : Nat) (w : World) (a : Option Addr) (c : Nat) (T : List SlI) : Prop where
  own : OwnT encSl 1 22 B w a c T
  each : ∀ x ∈ T, (IntSl w x.a x.l ∧ (x.l = [] ∨ (abk x.a < w.heap.size ∧ ¬ aBlk a (abk x.a)))) ∧ x.l.length ≤ 10 ∧ (x.a = none → x.c = 0)
theorem TurnI.key {w w' : World} {a a' : Option Addr} {x : SlI} (m : Vc.Mod (aBlk a) w w') (hf : ∀ k, aBlk a' k → aBlk a k ∨ w.heap.size ≤ k) (h : IntSl w x.a x.l ∧ (x.l = [] ∨ (abk x.a < w.heap.size ∧ ¬ aBlk a (abk x.a)))) : IntSl w' x.a x.l ∧ (x.l = [] ∨ (abk x.a < w'.heap.size ∧ ¬ aBlk a' (abk x.a))) := by
  rcases h with ⟨h1, h2 | ⟨h2, h3⟩⟩
  · rw [h2]; exact ⟨TSl.nil _ _ _ _, .inl rfl⟩
  · refine ⟨h1.mod m fun ad e hk => ?_, .inr ⟨Nat.lt_of_lt_of_le h2 m.size, fun hk => ?_⟩⟩
    · rw [e] at h3; exact h3 hk
    · rcases hf _ hk with h | h
      · exact h3 h
      · omega
theorem TurnI.ext {B : Nat} {w w' : World} {a : Option Addr} {c : Nat} {T : List SlI} (h : TurnI B w a c T) (e : Ext w w') : TurnI B w' a c T :=
  ⟨h.own.ext e, fun x hx => ⟨⟨(h.each x hx).1.1.ext e, (h.each x hx).1.2.imp_right fun h => ⟨Nat.lt_of_lt_of_le h.1 e.size, h.2⟩⟩, (h.each x hx).2⟩⟩
theorem TurnI.add {B : Nat} {w w' : World} {a a' : Option Addr} {c c' : Nat} {T N : List SlI} (h : TurnI B w a c T) (ho : OwnT encSl 1 22 B w' a' c' (T ++ N)) (m : Vc.Mod (aBlk a) w w') (hf : ∀ k, aBlk a' k → aBlk a k ∨ w.heap.size ≤ k)
    (hx : ∀ x ∈ N, (IntSl w x.a x.l ∧ (x.l = [] ∨ (abk x.a < w.heap.size ∧ ¬ aBlk a (abk x.a)))) ∧ x.l.length ≤ 10 ∧ (x.a = none → x.c = 0)) : TurnI B w' a' c' (T ++ N) :=
  ⟨ho, fun x hm => by
    have := (List.mem_append.1 hm).elim (h.each x) (hx x)
    exact ⟨TurnI.key m hf this.1, this.2⟩⟩
theorem TurnI.nil (B : Nat) (w : World) : TurnI B w none 0 [] := ⟨OwnT.nil _ _ _ _ _, fun x hx => nomatch hx⟩
theorem drop_pred {α : Type} [Inhabited α] {l : List α} {r : Nat} (h0 : 0 < r) (hr : r ≤ l.length) : l.drop (r - 1) = l.getD (((r : Nat) : Int) - 1).toNat default :: l.drop r := by
  have e : (((r : Nat) : Int) - 1).toNat = r - 1 := by omega
  rw [e, List.drop_eq_getElem_cons (show r - 1 < l.length by omega), gget (show r - 1 < l.length by omega), show r - 1 + 1 = r by omega]
theorem slot_pred {r : Nat} (h0 : 0 < r) : ((r : Nat) : Int) - 1 - 1 = ((r - 1 : Nat) : Int) - 1 := by omega
end Go.Proofs.YtoengpialdolbaaGreatDoor
