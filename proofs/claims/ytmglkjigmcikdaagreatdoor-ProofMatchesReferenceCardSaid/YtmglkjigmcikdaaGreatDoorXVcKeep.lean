/- Own library: a proof that branches on all vertices; is a list a repair; all repairs by bits; certificates. Plain. -/
import Derived.Test.YtmglkjigmcikdaaGreatDoorXVcPrf
import Derived.Test.YtmglkjigmcikdaaGreatDoorXVcRepP
import Derived.Test.YtmglkjigmcikdaaGreatDoorXVcApp2
namespace Go.Vc
def candF (c : PrfC) : List St4 := (if c.h = true then [⟨5, 0, 0, 0⟩] else (List.range c.W.length).map fun i => ⟨4, (i : Int), 0, 0⟩) ++ ((List.range c.E.length).map (fun i => ⟨2, (i : Int), 0, 0⟩) ++ (List.range c.n.toNat).map fun i => ⟨3, (i : Int), 0, 0⟩)
def leafF (c : PrfC) (s : List Int) : Option St4 := (candF c).find? (leafA c s)
def growF (c : PrfC) : Nat → Nat → List Int → List St4 → Option (List St4)
 | f, v, s, S =>
  match leafF c s with
  | some x => some (S ++ [x])
  | none =>
   match f with
   | 0 => none
   | f + 1 => (growF c f (v + 1) (s.set v 1) (S ++ [⟨1, (v : Int), (S.length : Int) + 1, 0⟩])).bind fun S1 => growF c f (v + 1) (s.set v 2) (S1.set S.length { S1.getD S.length default with o := (S1.length : Int) })
theorem leafF_some {c : PrfC} {s : List Int} {x : St4} (h : leafF c s = some x) : leafA c s x = true ∧ x.k ≠ 1 ∧ x.i = 0 ∧ x.o = 0 := by
 refine ⟨List.find?_some h, ?_⟩
 have hm := List.mem_of_find?_eq_some h
 unfold candF at hm
 rw [List.mem_append, List.mem_append] at hm
 rcases hm with h1 | h1 | h1
 ·split at h1
  ·rw [List.mem_singleton] at h1; subst h1; exact ⟨by decide, rfl, rfl⟩
  ·obtain ⟨i, _, rfl⟩ := List.mem_map.1 h1; exact ⟨by show (4 : Int) ≠ 1; decide, rfl, rfl⟩
 ·obtain ⟨i, _, rfl⟩ := List.mem_map.1 h1; exact ⟨by show (2 : Int) ≠ 1; decide, rfl, rfl⟩
 ·obtain ⟨i, _, rfl⟩ := List.mem_map.1 h1; exact ⟨by show (3 : Int) ≠ 1; decide, rfl, rfl⟩
theorem leafF_none {c : PrfC} {s : List Int} (h : leafF c s = none) {x : St4} (hx : x ∈ candF c) : leafA c s x = false := by
 unfold leafF at h
 rw [List.find?_eq_none] at h
 simpa using h x hx
structure Pfx (S S2 : List St4) (m : Nat) : Prop where
 lt : S.length < S2.length
 le : S2.length ≤ S.length + m
 eq : ∀ q, q < S.length → S2.getD q default = S.getD q default
theorem grow_pfx {c : PrfC} : ∀ (f v : Nat) (s : List Int) (S S2 : List St4), growF c f v s S = some S2 → Pfx S S2 (2 ^ (f + 1) - 1) := by
 intro f
 induction f with
 | zero =>
  intro v s S S2 h
  unfold growF at h
  split at h
  ·injection h with h
   subst h
   exact ⟨by simp, by simp, fun q hq => by rw [List.getD, List.getD, List.getElem?_append_left hq]⟩
  ·cases h
 | succ f ih =>
  intro v s S S2 h
  have hp : 2 ^ (f + 1 + 1) = 2 * 2 ^ (f + 1) := by rw [Nat.pow_succ, Nat.mul_comm]
  have hp0 : 0 < 2 ^ (f + 1) := Nat.two_pow_pos _
  unfold growF at h
  split at h
  ·injection h with h
   subst h
   exact ⟨by simp, by simp; omega, fun q hq => by rw [List.getD, List.getD, List.getElem?_append_left hq]⟩
  ·dsimp only at h
   rw [Option.bind_eq_some_iff] at h
   obtain ⟨S1, h1, h2⟩ := h
   have k1 := ih _ _ _ _ h1
   have k2 := ih _ _ _ _ h2
   have l1 := k1.lt; have l2 := k2.lt; have m1 := k1.le; have m2 := k2.le
   rw [List.length_append] at l1 m1
   rw [List.length_set] at l2 m2
   simp only [List.length_cons, List.length_nil] at l1 m1
   refine ⟨by omega, by omega, fun q hq => ?_⟩
   rw [k2.eq q (by rw [List.length_set]; omega), List.getD, List.getElem?_set_ne (by omega), ← List.getD, k1.eq q (by rw [List.length_append]; omega), List.getD, List.getD, List.getElem?_append_left hq]
def seenI (sn : List Bool) (a b : Nat) : List Bool := sn.mapIdx fun i x => x || decide (a ≤ i ∧ i < b)
theorem seenI_len (sn : List Bool) (a b : Nat) : (seenI sn a b).length = sn.length := List.length_mapIdx
theorem seenI_get {sn : List Bool} {a b i : Nat} (h : i < sn.length) : (seenI sn a b).getD i default = (sn.getD i default || decide (a ≤ i ∧ i < b)) := by
 unfold seenI
 rw [List.getD, List.getD, List.getElem?_mapIdx, List.getElem?_eq_getElem h]
 rfl
theorem bool_ext {l m : List Bool} (h : l.length = m.length) (k : ∀ i, i < l.length → l.getD i default = m.getD i default) : l = m := by
 refine List.ext_getElem h fun i h1 h2 => ?_
 have := k i h1
 rwa [List.getD, List.getD, List.getElem?_eq_getElem h1, List.getElem?_eq_getElem h2] at this
theorem seenI_set {sn : List Bool} {a : Nat} (h : a < sn.length) : sn.set a true = seenI sn a (a + 1) := by
 refine bool_ext (by rw [List.length_set, seenI_len]) fun i hi => ?_
 rw [List.length_set] at hi
 rw [seenI_get hi]
 by_cases e : i = a
 ·subst e
  rw [List.getD, List.getElem?_set_self h, decide_eq_true (by omega), Bool.or_true]; rfl
 ·rw [List.getD, List.getElem?_set_ne (by omega), decide_eq_false (by omega), Bool.or_false]; rfl
theorem seenI_app {sn : List Bool} {a b d : Nat} (h1 : a ≤ b) (h2 : b ≤ d) : seenI (seenI sn a b) b d = seenI sn a d := by
 refine bool_ext (by rw [seenI_len, seenI_len, seenI_len]) fun i hi => ?_
 rw [seenI_len, seenI_len] at hi
 rw [seenI_get (by rw [seenI_len]; exact hi), seenI_get hi, seenI_get hi, Bool.or_assoc]
 congr 1
 rw [Bool.eq_iff_iff, Bool.or_eq_true, decide_eq_true_eq, decide_eq_true_eq, decide_eq_true_eq]
 omega
theorem leafA_steps {c c' : PrfC} (hn : c'.n = c.n) (hE : c'.E = c.E) (hW : c'.W = c.W) (hh : c'.h = c.h) (s : List Int) (x : St4) : leafA c' s x = leafA c s x := by
 unfold leafA; rw [hn, hE, hW, hh]
theorem grow_right {c : PrfC} {N : Nat} (hN : c.n = (N : Int)) : ∀ (f v : Nat) (s : List Int) (S S2 : List St4), growF c f v s S = some S2 → v + f = N → s.length = N → (∀ u, v ≤ u → u < N → s.getD u default = 0) →
  ∀ (X : List St4) (sn : List Bool) (F : Nat), (∀ q, S.length ≤ q → q < S2.length → X.getD q default = S2.getD q default) → S2.length ≤ X.length → sn.length = X.length → (∀ q, S.length ≤ q → q < S2.length → sn.getD q default = false) → S2.length - S.length ≤ F →
   rightO { c with S := X } F S.length s sn = some (seenI sn S.length S2.length) := by
 intro f
 have hleaf : ∀ (s : List Int) (S : List St4) (x : St4), leafF c s = some x → ∀ (X : List St4) (sn : List Bool) (F : Nat), (∀ q, S.length ≤ q → q < (S ++ [x]).length → X.getD q default = (S ++ [x]).getD q default) → (S ++ [x]).length ≤ X.length → sn.length = X.length → (∀ q, S.length ≤ q → q < (S ++ [x]).length → sn.getD q default = false) → (S ++ [x]).length - S.length ≤ F → rightO { c with S := X } F S.length s sn = some (seenI sn S.length (S ++ [x]).length) := by
  intro s S x hx X sn F hX hl hsn h0 hF
  obtain ⟨k1, k2, k3, k4⟩ := leafF_some hx
  simp only [List.length_append, List.length_cons, List.length_nil] at hX hl h0 hF ⊢
  obtain ⟨F, rfl⟩ : ∃ F', F = F' + 1 := ⟨F - 1, by omega⟩
  have hat : X.getD S.length default = x := by
   rw [hX _ (Nat.le_refl _) (by omega), List.getD, List.getElem?_append_right (Nat.le_refl _), Nat.sub_self]; rfl
  unfold rightO
  rw [h0 _ (Nat.le_refl _) (by omega), if_neg Bool.false_ne_true]
  dsimp only
  rw [hat, if_neg k2, if_pos ⟨k3, k4, (leafA_steps rfl rfl rfl rfl s x).trans k1⟩, seenI_set (by omega)]
 induction f with
 | zero =>
  intro v s S S2 h
  unfold growF at h
  split at h
  ·rename_i x hx
   injection h with h
   subst h
   exact fun _ _ _ => hleaf s S x hx
  ·cases h
 | succ f ih =>
  intro v s S S2 h hv hs hz X sn F hX hl hsn h0 hF
  unfold growF at h
  split at h
  ·rename_i x hx
   injection h with h
   subst h
   exact hleaf s S x hx X sn F hX hl hsn h0 hF
  ·dsimp only at h
   rw [Option.bind_eq_some_iff] at h
   obtain ⟨S1, h1, h2⟩ := h
   have k1 := grow_pfx _ _ _ _ _ h1
   have k2 := grow_pfx _ _ _ _ _ h2
   have l1 := k1.lt; have l2 := k2.lt
   rw [List.length_append] at l1
   rw [List.length_set] at l2
   simp only [List.length_cons, List.length_nil] at l1
   have hx1 : S1.getD S.length default = ⟨1, (v : Int), (S.length : Int) + 1, 0⟩ := by
    rw [k1.eq _ (by simp), List.getD, List.getElem?_append_right (Nat.le_refl _), Nat.sub_self]; rfl
   have hx : X.getD S.length default = ⟨1, (v : Int), (S.length : Int) + 1, (S1.length : Int)⟩ := by
    rw [hX _ (Nat.le_refl _) (by omega), k2.eq _ (by rw [List.length_set]; omega), List.getD, List.getElem?_set_self (by omega), hx1]; rfl
   obtain ⟨F, rfl⟩ : ∃ F', F = F' + 1 := ⟨F - 1, by omega⟩
   have hS1 : ∀ q, S.length + 1 ≤ q → q < S1.length → X.getD q default = S1.getD q default := fun q a b => by
    rw [hX q (by omega) (by omega), k2.eq q (by rw [List.length_set]; omega), List.getD, List.getElem?_set_ne (by omega)]; rfl
   have r1 := ih (v + 1) (s.set v 1) _ _ h1 (by omega) (by rw [List.length_set]; exact hs) (fun u a b => by rw [List.getD, List.getElem?_set_ne (by omega)]; exact hz u (by omega) b) X (sn.set S.length true) F (fun q a b => hS1 q (by simpa using a) b) (by omega) (by rw [List.length_set]; exact hsn) (fun q a b => by
    simp only [List.length_append, List.length_cons, List.length_nil] at a
    rw [List.getD, List.getElem?_set_ne (by omega)]; exact h0 q (by omega) (by omega)) (by simp only [List.length_append, List.length_cons, List.length_nil]; omega)
   simp only [List.length_append, List.length_cons, List.length_nil, Nat.zero_add] at r1
   have r2 := ih (v + 1) (s.set v 2) _ _ h2 (by omega) (by rw [List.length_set]; exact hs) (fun u a b => by rw [List.getD, List.getElem?_set_ne (by omega)]; exact hz u (by omega) b) X (seenI (sn.set S.length true) (S.length + 1) S1.length) F (fun q a b => hX q (by rw [List.length_set] at a; omega) b) (by omega) (by rw [seenI_len, List.length_set]; exact hsn) (fun q a b => by
    rw [List.length_set] at a
    rw [seenI_get (by rw [List.length_set]; omega), decide_eq_false (by omega), Bool.or_false, List.getD, List.getElem?_set_ne (by omega)]; exact h0 q (by omega) b) (by rw [List.length_set]; omega)
   rw [List.length_set] at r2
   unfold rightO
   rw [h0 _ (Nat.le_refl _) (by omega), if_neg Bool.false_ne_true]
   dsimp only
   rw [hx, if_pos rfl, if_pos (by
    unfold brA
    rw [decide_eq_true_eq]
    dsimp only
    have h00 : stA s (v : Int) = 0 := by unfold stA; rw [Int.toNat_natCast]; exact hz v (Nat.le_refl _) (by omega)
    exact ⟨by omega, by omega, h00, by omega, by omega, by omega, by omega⟩)]
   dsimp only
   rw [Int.toNat_natCast, Int.toNat_natCast, show ((S.length : Int) + 1).toNat = S.length + 1 by omega, r1, Option.bind_some, r2, seenI_set (by omega), seenI_app (by omega) (by omega), seenI_app (by omega) (by omega)]
def insA (s : List Int) (N : Nat) : List Int := ((List.range N).filter fun v => decide (s.getD v default = 1)).map fun v : Nat => (v : Int)
theorem insA_mem {s : List Int} {N : Nat} {v : Int} : v ∈ insA s N ↔ 0 ≤ v ∧ v < (N : Int) ∧ stA s v = 1 := by
 unfold insA stA
 rw [List.mem_map]
 constructor
 ·rintro ⟨u, hu, rfl⟩
  rw [List.mem_filter, List.mem_range, decide_eq_true_eq] at hu
  exact ⟨by omega, by omega, by rw [Int.toNat_natCast]; exact hu.2⟩
 ·rintro ⟨h0, h1, h2⟩
  exact ⟨v.toNat, by rw [List.mem_filter, List.mem_range, decide_eq_true_eq]; exact ⟨by omega, h2⟩, by omega⟩
theorem range_inc (N : Nat) (p : Nat → Bool) : Inc (((List.range N).filter p).map fun v : Nat => (v : Int)) := by
 unfold Inc
 refine List.pairwise_map.2 (List.Pairwise.imp (fun {a b} h => ?_) ((List.pairwise_lt_range (n := N)).sublist List.filter_sublist))
 omega
theorem none_rep {g : Gr} {c : PrfC} (hc : PrfOk g c) {N : Nat} (hN : g.n = (N : Int)) {s : List Int} (hd : ∀ v, v < N → s.getD v default = 1 ∨ s.getD v default = 2) (hl : leafF c s = none) : IsRep g (insA s N) ∧ ConsA g.n s (insA s N) ∧ someW c.W (insA s N) = c.h := by
 have hE := (validG_iff.1 hc.v).2.2.1
 have hcons : ConsA g.n s (insA s N) := fun v h0 h1 => ⟨fun h => insA_mem.2 ⟨h0, by omega, h⟩, fun h hm => by have := (insA_mem.1 hm).2.2; rw [h] at this; cases this⟩
 have hd' : ∀ v, 0 ≤ v → v < g.n → stA s v = 1 ∨ stA s v = 2 := fun v h0 h1 => hd v.toNat (by omega)
 refine ⟨⟨setB_iff.2 ⟨range_inc _ _, fun x hx => by have := insA_mem.1 hx; omega⟩, fun e he => ?_, fun v h0 h1 hv => ?_⟩, hcons, ?_⟩
 ·obtain ⟨i, hi, rfl⟩ := List.getElem_of_mem he
  refine Bool.eq_false_iff.2 fun hs => ?_
  have := leafF_none hl (x := ⟨2, (i : Int), 0, 0⟩) (by unfold candF; rw [hc.E]; exact List.mem_append_right _ (List.mem_append_left _ (List.mem_map.2 ⟨i, List.mem_range.2 hi, rfl⟩)))
  have h2 : leafA c s ⟨2, (i : Int), 0, 0⟩ = true := by
   unfold leafA
   rw [if_pos rfl, Bool.and_eq_true, decide_eq_true_eq, hc.E]
   refine ⟨⟨by dsimp only; omega, by dsimp only; omega⟩, areA_iff.2 fun v hv => ?_⟩
   dsimp only at hv
   rw [Int.toNat_natCast, List.getD, List.getElem?_eq_getElem hi] at hv
   exact (insA_mem.1 (subB_iff.1 hs v hv)).2.2
  rw [h2] at this; cases this
 ·refine Classical.byContradiction fun hne => ?_
  have h2 : stA s v = 2 := (hd' v h0 h1).resolve_left fun h => hv (insA_mem.2 ⟨h0, by omega, h⟩)
  have := leafF_none hl (x := ⟨3, ((v.toNat : Nat) : Int), 0, 0⟩) (by unfold candF; rw [hc.n]; exact List.mem_append_right _ (List.mem_append_right _ (List.mem_map.2 ⟨v.toNat, List.mem_range.2 (by omega), rfl⟩)))
  rw [show ((v.toNat : Nat) : Int) = v by omega] at this
  have h3 : leafA c s ⟨3, v, 0, 0⟩ = true := by
   unfold leafA
   rw [if_neg (show ¬ (3 : Int) = 2 by decide), if_pos rfl, Bool.and_eq_true, decide_eq_true_eq, hc.n, hc.E]
   refine ⟨⟨h0, h1, h2⟩, frA_iff.2 fun e he hve => Classical.byContradiction fun hno => hne ⟨e, he, hve, fun u hu hu2 => ?_⟩⟩
   have hr := (hE e he).2.2 u hu
   refine insA_mem.2 ⟨hr.1, by omega, (hd' u hr.1 hr.2).resolve_right fun h => hno ⟨u, hu, hu2, h⟩⟩
  rw [h3] at this; cases this
 ·cases hh : c.h with
  | true =>
   have := leafF_none hl (x := ⟨5, 0, 0, 0⟩) (by unfold candF; rw [if_pos hh]; exact List.mem_append_left _ (List.mem_singleton.2 rfl))
   unfold leafA at this
   rw [if_neg (by decide), if_neg (by decide), if_neg (by decide), if_pos rfl, hh, Bool.true_and, show decide ((⟨5, 0, 0, 0⟩ : St4).a = 0) = true from rfl, Bool.true_and, List.all_eq_false] at this
   obtain ⟨w, hw, h2⟩ := this
   have hr := wy_rng (hc.W w hw)
   rw [Bool.or_eq_true, not_or] at h2
   refine List.any_eq_true.2 ⟨w, hw, holdW_iff.2 ⟨fun v hv => ?_, fun v hv hm => h2.2 (somA_iff.2 ⟨v, hv, (insA_mem.1 hm).2.2⟩)⟩⟩
   have hr1 := hr.1 v hv
   exact insA_mem.2 ⟨hr1.1, by omega, (hd' v hr1.1 hr1.2).resolve_right fun h => h2.1 (somA_iff.2 ⟨v, hv, h⟩)⟩
  | false =>
   refine List.any_eq_false.2 fun w hw hh2 => ?_
   obtain ⟨i, hi, rfl⟩ := List.getElem_of_mem hw
   have := leafF_none hl (x := ⟨4, (i : Int), 0, 0⟩) (by unfold candF; rw [if_neg (by rw [hh]; decide)]; exact List.mem_append_left _ (List.mem_map.2 ⟨i, List.mem_range.2 hi, rfl⟩))
   have hr := wy_rng (hc.W _ hw)
   obtain ⟨h4, h5⟩ := holdW_iff.1 hh2
   have h6 : leafA c s ⟨4, (i : Int), 0, 0⟩ = true := by
    have hg : c.W.getD i default = c.W[i] := by rw [List.getD, List.getElem?_eq_getElem hi]; rfl
    unfold leafA
    rw [if_neg (show ¬ (4 : Int) = 2 by decide), if_neg (show ¬ (4 : Int) = 3 by decide), if_pos rfl, hh, Bool.not_false, Bool.true_and, Bool.and_eq_true, decide_eq_true_eq, Bool.and_eq_true]
    dsimp only
    rw [Int.toNat_natCast, hg]
    refine ⟨⟨by omega, by omega⟩, areA_iff.2 fun v hv => (insA_mem.1 (h4 v hv)).2.2, areA_iff.2 fun v hv => ?_⟩
    have hr2 := hr.2 v hv
    exact (hd' v hr2.1 hr2.2).resolve_left fun h => h5 v hv (insA_mem.2 ⟨hr2.1, by omega, h⟩)
   rw [h6] at this; cases this
theorem grow_none {g : Gr} {c : PrfC} (hc : PrfOk g c) {N : Nat} (hN : g.n = (N : Int)) : ∀ (f v : Nat) (s : List Int) (S : List St4), growF c f v s S = none → v + f = N → s.length = N → (∀ u, u < v → s.getD u default = 1 ∨ s.getD u default = 2) → ∃ R, IsRep g R ∧ someW c.W R = c.h := by
 intro f
 induction f with
 | zero =>
  intro v s S h hv hs hd
  unfold growF at h
  split at h
  ·cases h
  ·rename_i hl
   obtain ⟨h1, _, h3⟩ := none_rep hc hN (s := s) (fun u hu => hd u (by omega)) hl
   exact ⟨_, h1, h3⟩
 | succ f ih =>
  intro v s S h hv hs hd
  have hset : ∀ x, (x = 1 ∨ x = 2) → ∀ u, u < v + 1 → (s.set v x).getD u default = 1 ∨ (s.set v x).getD u default = 2 := fun x hx u hu => by
   by_cases e : u = v
   ·subst e; rw [List.getD, List.getElem?_set_self (by omega)]; exact hx
   ·rw [List.getD, List.getElem?_set_ne (by omega)]; exact hd u (by omega)
  unfold growF at h
  split at h
  ·cases h
  ·dsimp only at h
   cases h1 : growF c f (v + 1) (s.set v 1) (S ++ [⟨1, (v : Int), (S.length : Int) + 1, 0⟩]) with
   | none => exact ih _ _ _ h1 (by omega) (by rw [List.length_set]; exact hs) (hset 1 (.inl rfl))
   | some S1 =>
    rw [h1, Option.bind_some] at h
    exact ih _ _ _ h (by omega) (by rw [List.length_set]; exact hs) (hset 2 (.inr rfl))
def proveF (g : Gr) (W : List Wy) (h : Bool) : Option (List St4) := growF ⟨g.n, g.edges, W, h, []⟩ g.n.toNat 0 (List.replicate g.n.toNat 0) []
theorem prove_some {g : Gr} {W : List Wy} {h : Bool} {S : List St4} (hr : readyG g W = true) (hn : g.n ≤ 8) (hp : proveF g W h = some S) : checkA g W h S = true := by
 have hn0 := costB_iff.1 (validG_iff.1 (ready_ok hr h []).v).1
 have hk := grow_pfx _ _ _ _ _ hp
 have l1 := hk.lt
 have l2 := hk.le
 have hpow : 2 ^ (g.n.toNat + 1) ≤ 2 ^ 9 := Nat.pow_le_pow_right (by decide) (by omega)
 rw [List.length_nil] at l1 l2
 have := grow_right (c := ⟨g.n, g.edges, W, h, []⟩) (N := g.n.toNat) (by dsimp only; omega) _ _ _ _ _ hp (by omega) (by simp) (fun u _ hu => by simp [List.getD, hu]) S (List.replicate S.length false) S.length (fun _ _ _ => rfl) (Nat.le_refl _) (by simp) (fun q _ hq => by simp [List.getD, hq]) (by omega)
 rw [List.length_nil] at this
 unfold checkA
 rw [hr, decide_eq_true (by omega), this]
 rfl
theorem prove_iff {g : Gr} {W : List Wy} {h : Bool} (hr : readyG g W = true) (hn : g.n ≤ 8) : (proveF g W h).isSome = true ↔ ∀ R, IsRep g R → someW W R = !h := by
 have hok := ready_ok hr h []
 have hn0 := costB_iff.1 (validG_iff.1 hok.v).1
 constructor
 ·intro hs R hR
  obtain ⟨S, hS⟩ := Option.isSome_iff_exists.1 hs
  exact check_sound (prove_some hr hn hS) hR
 ·intro hall
  cases hp : proveF g W h with
  | some S => rfl
  | none =>
   obtain ⟨R, hR, hx⟩ := grow_none hok (N := g.n.toNat) (by omega) _ _ _ _ hp (by omega) (by simp) (fun u hu => absurd hu (Nat.not_lt_zero u))
   have := hall R hR
   rw [this] at hx
   dsimp only at hx
   cases h <;> cases hx
end Go.Vc

/- Own library: sets by bits. Plain. -/
namespace Go.Vc
def bitL (b N : Nat) : List Int := ((List.range N).filter fun v => decide (b / 2 ^ v % 2 = 1)).map fun v : Nat => (v : Int)
theorem bitL_inc (b N : Nat) : Inc (bitL b N) := range_inc _ _
theorem bitL_mem {b N : Nat} {x : Int} : x ∈ bitL b N ↔ 0 ≤ x ∧ x < (N : Int) ∧ b / 2 ^ x.toNat % 2 = 1 := by
 unfold bitL
 rw [List.mem_map]
 constructor
 ·rintro ⟨u, hu, rfl⟩
  rw [List.mem_filter, List.mem_range, decide_eq_true_eq] at hu
  exact ⟨by omega, by omega, by rw [Int.toNat_natCast]; exact hu.2⟩
 ·rintro ⟨h0, h1, h2⟩
  exact ⟨x.toNat, by rw [List.mem_filter, List.mem_range, decide_eq_true_eq]; exact ⟨by omega, h2⟩, by omega⟩
theorem bitL_len (b N : Nat) : (bitL b N).length ≤ N := by
 unfold bitL
 rw [List.length_map]
 exact Nat.le_trans (List.length_filter_le _ _) (Nat.le_of_eq List.length_range)
theorem bitL_succ (b N : Nat) : bitL b (N + 1) = bitL b N ++ if b / 2 ^ N % 2 = 1 then [(N : Int)] else [] := by
 unfold bitL
 rw [List.range_succ, List.filter_append, List.map_append]
 congr 1
 by_cases h : b / 2 ^ N % 2 = 1
 ·rw [if_pos h, List.filter_cons_of_pos (by simpa using h)]; rfl
 ·rw [if_neg h, List.filter_cons_of_neg (by simpa using h)]; rfl
theorem bits_ex : ∀ (N : Nat) (p : Nat → Bool), ∃ b, b < 2 ^ N ∧ ∀ v, v < N → decide (b / 2 ^ v % 2 = 1) = p v := by
 intro N
 induction N with
 | zero => exact fun p => ⟨0, by decide, fun v h => absurd h (Nat.not_lt_zero v)⟩
 | succ N ih =>
  intro p
  obtain ⟨b, hb, hv⟩ := ih fun v => p (v + 1)
  refine ⟨2 * b + (if p 0 = true then 1 else 0), ?_, fun v h => ?_⟩
  ·rw [Nat.pow_succ]; split <;> omega
  ·cases v with
   | zero =>
    rw [Nat.pow_zero, Nat.div_one]
    cases hp : p 0 with
    | true => rw [if_pos rfl, decide_eq_true (by omega)]
    | false => rw [if_neg Bool.false_ne_true, decide_eq_false (by omega)]
   | succ v =>
    rw [← hv v (by omega), Nat.pow_succ, Nat.mul_comm (2 ^ v) 2, ← Nat.div_div_eq_div_mul]
    congr 2
    split
    ·rw [show (2 * b + 1) / 2 = b by omega]
    ·rw [show (2 * b + 0) / 2 = b by omega]
theorem bitL_ex {N : Nat} {R : List Int} (h : setB R (N : Int) = true) : ∃ b, b < 2 ^ N ∧ bitL b N = R := by
 obtain ⟨hi, hr⟩ := setB_iff.1 h
 obtain ⟨b, hb, hv⟩ := bits_ex N fun v => decide ((v : Int) ∈ R)
 refine ⟨b, hb, inc_ext (bitL_inc b N) hi fun x => ?_⟩
 rw [bitL_mem]
 constructor
 ·rintro ⟨h0, h1, h2⟩
  have := hv x.toNat (by omega)
  rw [decide_eq_true h2, show ((x.toNat : Nat) : Int) = x by omega] at this
  exact of_decide_eq_true this.symm
 ·intro hx
  have hx2 := hr x hx
  refine ⟨hx2.1, hx2.2, ?_⟩
  have := hv x.toNat (by omega)
  rw [show ((x.toNat : Nat) : Int) = x by omega, decide_eq_true hx] at this
  exact of_decide_eq_true this
def bitsK (p : List Int → Bool) (N k : Nat) : List (List Int) := ((List.range k).map fun b => bitL b N).filter p
theorem bitsK_succ (p : List Int → Bool) (N k : Nat) : bitsK p N (k + 1) = bitsK p N k ++ if p (bitL k N) = true then [bitL k N] else [] := by
 unfold bitsK
 rw [List.range_succ, List.map_append, List.filter_append]
 congr 1
 rw [List.map_singleton]
 by_cases h : p (bitL k N) = true
 ·rw [if_pos h, List.filter_cons_of_pos h]; rfl
 ·rw [if_neg h, List.filter_cons_of_neg h]; rfl
theorem bitsK_mem {p : List Int → Bool} {N : Nat} {R : List Int} (hp : p R = true → setB R (N : Int) = true) : R ∈ bitsK p N (2 ^ N) ↔ p R = true := by
 unfold bitsK
 rw [List.mem_filter, List.mem_map]
 refine and_iff_right_of_imp fun h => ?_
 obtain ⟨b, hb, he⟩ := bitL_ex (hp h)
 exact ⟨b, List.mem_range.2 hb, he⟩
theorem bitsK_len (p : List Int → Bool) (N k : Nat) : (bitsK p N k).length ≤ k := by
 unfold bitsK
 refine Nat.le_trans (List.length_filter_le _ _) ?_
 rw [List.length_map, List.length_range]; exact Nat.le_refl _
end Go.Vc

/- Own library: a class of worlds for a drawn region that appends one number to a copy of a list that it makes. -/
namespace Go.Vc
theorem encI_flat (l : List Int) : (l.map encI).flatten = l.map fun x => Value.int .i64 x := by
 induction l with
 | nil => rfl
 | cons x l ih => rw [List.map_cons, List.flatten_cons, ih]; rfl
theorem encI_inj {l m : List Int} (h : (l.map fun x => Value.int .i64 x) = m.map fun x => Value.int .i64 x) : l = m := by
 induction l generalizing m with
 | nil => cases m with
  | nil => rfl
  | cons y m => cases h
 | cons x l ih => cases m with
  | nil => cases h
  | cons y m =>
   rw [List.map_cons, List.map_cons] at h
   injection h with h1 h2
   injection h1 with _ h1
   rw [h1, ih h2]
theorem OwnT.same {e B : Nat} {w : World} {a a2 : Option Addr} {cap cap2 : Nat} {l l2 : List Int} (h : OwnT encI 1 e B w a cap l) (h2 : OwnT encI 1 e B w a2 cap2 l2) {k : Nat} (hk : aBlk a k) (hk2 : aBlk a2 k) : a2 = a ∧ cap2 = cap ∧ (l2.length ≤ l.length → l2 = l.take l2.length) ∧ (l.length ≤ l2.length → l = l2.take l.length) := by
 obtain ⟨x, rfl, rfl⟩ := hk
 obtain ⟨x2, rfl, hx2⟩ := hk2
 rcases h.own.2 with ⟨hv, _⟩ | ⟨g, c, cur, hv, _, hg, _, _, hc, ht⟩
 ·injection hv with h1; cases h1
 rcases h2.own.2 with ⟨hv2, _⟩ | ⟨g2, c2, cur2, hv2, _, hg2, _, _, hc2, ht2⟩
 ·injection hv2 with h1; cases h1
 injection hv with h1 _ h3
 injection hv2 with k1 _ k3
 injection h1 with h1
 injection k1 with k1
 subst h1; subst k1; subst h3; subst k3
 have hgg : g2 = g := hx2
 subst hgg
 have := hg.symm.trans hg2
 injection this with this
 injection this with this _ _
 subst this
 rw [encI_flat, List.length_map, Nat.mul_one] at ht ht2
 refine ⟨rfl, by omega, fun hl => encI_inj ?_, fun hl => encI_inj ?_⟩
 ·rw [← ht2, List.map_take, ← ht, List.take_take, Nat.min_eq_left hl]
 ·rw [← ht, List.map_take, ← ht2, List.take_take, Nat.min_eq_left hl]
def Keeps (l : List Int) (u : Int) (m : List Int) : Prop := ∀ x t, m = l ++ x :: t → x = u ∧ t = []
structure TK (e B : Nat) (l : List Int) (u : Int) (w w' : World) : Prop where
 m : Mod (fun q => B ≤ q) w w'
 s : ∀ a cap m, Keeps l u m → OwnT encI 1 e B w a cap m → OwnT encI 1 e B w' a cap m
instance (e B : Nat) (l : List Int) (u : Int) : Turn (TK e B l u) where
 refl _w := ⟨Mod.refl _ _, fun _ _ _ _ h => h⟩
 trans h k := ⟨h.m.trans k.m, fun a c i p x => k.s a c i p (h.s a c i p x)⟩
 ext e := ⟨e.weaken fun _ _ h => h.elim, fun _ _ _ _ h => h.ext e⟩
theorem TK.ext {e B : Nat} {l : List Int} {u : Int} {w w' : World} (h : TK e B l u w w') (hB : w.heap.size ≤ B) : Ext w w' := h.m.weaken fun x hx hs => by omega
theorem TK.app1 {e B : Nat} {w w' : World} {a a' : Option Addr} {cap cap' : Nat} {l : List Int} {u : Int} (hown : OwnT encI 1 e B w a cap l) (ho : OwnT encI 1 e B w' a' cap' (l ++ [u])) (m : Mod (aBlk a) w w') (hd : (a' = a ∧ cap' = cap) ∨ Ext w w') : TK e B l u w w' := by
 refine ⟨m.weaken fun q _ hq => hown.ge q hq, fun a2 c2 k hk h2 => ?_⟩
 rcases hd with ⟨rfl, rfl⟩ | hd
 ·by_cases hb : ∃ q, aBlk a' q ∧ aBlk a2 q
  ·obtain ⟨q, h3, h4⟩ := hb
   obtain ⟨rfl, rfl, h5, h6⟩ := hown.same h2 h3 h4
   by_cases hl : k.length ≤ l.length
   ·have : l ++ [u] = k ++ (l.drop k.length ++ [u]) := by
     conv => rhs; lhs; rw [h5 hl]
     rw [← List.append_assoc, List.take_append_drop]
    rw [this] at ho
    exact ho.prefix_
   ·have h7 := h6 (by omega)
    have h8 : k = l ++ k.drop l.length := by
     conv => rhs; lhs; rw [h7]
     rw [List.take_append_drop]
    cases h9 : k.drop l.length with
    | nil =>
     have := congrArg List.length h9
     rw [List.length_drop, List.length_nil] at this
     omega
    | cons x t =>
     rw [h9] at h8
     obtain ⟨rfl, rfl⟩ := hk x t h8
     rw [h8]; exact ho
  ·exact h2.mod m fun q h3 h4 => hb ⟨q, h4, h3⟩
 ·exact h2.ext hd
theorem keeps_nil (l : List Int) (u : Int) : Keeps l u [] := fun x t h => by have := congrArg List.length h; simp at this
theorem keeps_self (l : List Int) (u : Int) : Keeps l u l := fun x t h => by have := congrArg List.length h; simp at this
theorem keeps_snoc (l : List Int) (u : Int) : Keeps l u (l ++ [u]) := fun x t h => by
 have := List.append_cancel_left h
 injection this with h1 h2
 exact ⟨h1.symm, h2.symm⟩
theorem keeps_one (l : List Int) (u : Int) : Keeps l u [u] := fun x t h => by
 cases l with
 | nil => injection h with h1 h2; exact ⟨h1.symm, h2.symm⟩
 | cons y l => injection h with _ h; have := congrArg List.length h; simp at this
theorem yieldsR_app1K {P : Program} {ρ : Env} {w : World} {ty t : TypeId} {x y : Operand} {p : String} {af : Array Edge} {g : Option (Nat × Bool)} {d : Option Tmp} {B e bytes : Nat} {z : Value} (E : ElT P t e 1 bytes z) {a : Option Addr} {cap b : Nat} {l : List Int} {u : Int} {K : Value → World → Prop}
  (hx : tm ρ x = .slice a l.length cap) (hown : OwnT encI 1 e B w a cap l) (hy : tm ρ y = .slice (some ⟨b, 0, none⟩) 1 1) (hs : TSl encI 1 w (some ⟨b, 0, none⟩) [u])
  (hbytes : (l.length + 1) * bytes ≤ 140737488355328) (h63 : l.length + 1 ≤ maxLen) (hB : B ≤ w.heap.size)
  (hK : ∀ a' c' w', OwnT encI 1 e B w' a' c' (l ++ [u]) → TK e B l u w w' → K (.slice a' (l.length + 1) c') w') :
  yieldsR P ρ { dst := d, op := .call { callee := .builtin .append, args := #[x, y], argTypes := #[t, t] }, type := ty, pos := p, after := af, guard := g } w K := by
 obtain ⟨a', c', w', hr, ho, hm', hf, hd⟩ := R.app1 (P := P) (ρ := ρ) (ty := ty) E (fun _ => rfl) hx hown hy hs hbytes h63 hB
 exact yieldsR_op hr (hK a' c' w' ho (TK.app1 hown ho hm' (hd.imp id And.left)))
end Go.Vc
