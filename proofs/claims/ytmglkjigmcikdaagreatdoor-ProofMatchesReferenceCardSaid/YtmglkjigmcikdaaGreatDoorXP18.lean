/- Proof: plain: repairs, certificates. -/
import Derived.Test.YtmglkjigmcikdaaGreatDoorXP17
import Derived.Test.YtmglkjigmcikdaaGreatDoorXVcKeep
namespace Go.Proofs.YtmglkjigmcikdaaGreatDoor
open Go.Vc
theorem outE_zero {P e : List Int} : outE P e = 0 ↔ subB e P = true := by
 unfold outE
 rw [List.length_eq_zero_iff, List.filter_eq_nil_iff, subB_iff]
 exact ⟨fun h v hv => by simpa using h v hv, fun h v hv => by simpa using h v hv⟩
theorem outE_out {e P : List Int} {N : Nat} (h : ∀ x ∈ e, x < (N : Int)) : outE P e = outN e P N := by
 unfold outE outN
 refine congrArg List.length (List.filter_congr fun x hx => ?_)
 rw [decide_eq_true (h x hx), Bool.true_and]
theorem repA_iff {g : Gr} (hv : validG g = true) {P : List Int} : repA g P = true ↔ IsRep g P := by
 have hE := (validG_iff.1 hv).2.2.1
 have hn := costB_iff.1 (validG_iff.1 hv).1
 have hn0 := hn.1
 have hlt : ∀ e ∈ g.edges, ∀ x ∈ e, x < ((g.n.toNat : Nat) : Int) := fun e he x hx => by have := (hE e he).2.2 x hx; omega
 have hone : ∀ (v : Nat), (v : Int) ∉ P → ∀ e ∈ g.edges, (v : Int) ∈ e → (outE P e = 1 ↔ ∀ x ∈ e, x ≠ (v : Int) → x ∈ P) := fun v hvP e he hve => by
  rw [outE_out (hlt e he)]
  exact out_one (inc_nodup (hE e he).2.1) (hlt e he) hve hvP
 unfold repA onB
 rw [Bool.and_eq_true, Bool.and_eq_true, List.all_eq_true, List.all_eq_true]
 constructor
 ·rintro ⟨h1, h2, h3⟩
  refine ⟨h1, fun e he => Bool.eq_false_iff.2 fun hs => ?_, fun v h0 h1 hvP => ?_⟩
  ·have := h2 e he
   rw [decide_eq_true (outE_zero.2 hs)] at this; cases this
  ·have := h3 v.toNat (List.mem_range.2 (by omega))
   rw [show ((v.toNat : Nat) : Int) = v by omega, decide_eq_false hvP, Bool.false_or, List.any_eq_true] at this
   obtain ⟨e, he, h4⟩ := this
   rw [Bool.and_eq_true, decide_eq_true_eq, decide_eq_true_eq] at h4
   refine ⟨e, he, h4.2, ?_⟩
   have := (hone v.toNat (by rw [show ((v.toNat : Nat) : Int) = v by omega]; exact hvP) e he (by rw [show ((v.toNat : Nat) : Int) = v by omega]; exact h4.2)).1 h4.1
   rwa [show ((v.toNat : Nat) : Int) = v by omega] at this
 ·intro h
  refine ⟨h.set, fun e he => ?_, fun v hvr => ?_⟩
  ·have := h.free e he
   rw [decide_eq_false fun h => by rw [outE_zero.1 h] at this; cases this]; rfl
  ·have hvn := List.mem_range.1 hvr
   by_cases hvP : (v : Int) ∈ P
   ·rw [decide_eq_true hvP, Bool.true_or]
   ·obtain ⟨e, he, hve, hall⟩ := h.max v (by omega) (by omega) hvP
    rw [Bool.or_eq_true, List.any_eq_true]
    exact .inr ⟨e, he, by rw [decide_eq_true ((hone v hvP e he hve).2 hall), decide_eq_true hve]; rfl⟩
theorem any_holdP {g : Gr} {W : List Wy} (hr : readyG g W = true) {S : List Int} (hi : Inc S) : W.any (holdP S) = someW W S := by
 unfold readyG at hr
 rw [Bool.and_eq_true, List.all_eq_true] at hr
 unfold someW
 rw [Bool.eq_iff_iff, List.any_eq_true, List.any_eq_true]
 refine exists_congr fun w => and_congr_right fun hw => ?_
 have := hr.2 w hw
 unfold wyB at this
 rw [Bool.and_eq_true] at this
 unfold holdP
 rw [decide_eq_true ⟨(setB_iff.1 this.1).1, (setB_iff.1 this.2).1, hi⟩, Bool.true_and]
def withA (g : Gr) (W : List Wy) (A : List Int) : Bool := repA g A && W.any (holdP A)
def woutA (g : Gr) (W : List Wy) (A : List Int) : Bool := repA g A && !W.any (holdP A)
def claimA (g : Gr) (W : List Wy) (v : Int) (A B : List Int) (S : List St4) : Bool :=
 readyG g W && (if v = 0 then decide (A.length + B.length + S.length = 0)
  else if v = 1 then decide (B.length = 0) && (withA g W A && checkA g W false S)
  else if v = 3 then decide (A.length = 0) && (woutA g W B && checkA g W true S)
  else if v = 2 then decide (S.length = 0) && (withA g W A && woutA g W B)
  else false)
theorem ready_valid {g : Gr} {W : List Wy} (h : readyG g W = true) : validG g = true := (ready_ok h false []).v
theorem with_iff {g : Gr} {W : List Wy} (hr : readyG g W = true) {A : List Int} : withA g W A = true ↔ IsRep g A ∧ someW W A = true := by
 unfold withA
 rw [Bool.and_eq_true, repA_iff (ready_valid hr)]
 refine and_congr_right fun h => ?_
 rw [any_holdP hr (setB_iff.1 h.set).1]
theorem wout_iff {g : Gr} {W : List Wy} (hr : readyG g W = true) {A : List Int} : woutA g W A = true ↔ IsRep g A ∧ someW W A = false := by
 unfold woutA
 rw [Bool.and_eq_true, repA_iff (ready_valid hr)]
 refine and_congr_right fun h => ?_
 rw [any_holdP hr (setB_iff.1 h.set).1, Bool.not_eq_true']
theorem rep_ex {g : Gr} (hv : validG g = true) : ∃ R, IsRep g R := by
 refine ⟨_, (ext_rep (S := []) (loadB_iff.2 ⟨hv, ?_, indB_iff.2 fun e he => ?_⟩)).1⟩
 ·exact setB_iff.2 ⟨List.Pairwise.nil, fun x hx => (by cases hx)⟩
 ·have := ((validG_iff.1 hv).2.2.1 e he).1
  cases e with
  | nil => exact absurd rfl this
  | cons a l => exact Bool.eq_false_iff.2 fun hs => (by have := subB_iff.1 hs a (by simp); cases this)
theorem claim_right {g : Gr} {W : List Wy} {v : Int} {A B : List Int} {S : List St4} (h : claimA g W v A B S = true) : readyG g W = true ∧ (v = 0 ∨ (v = 1 ∧ ∀ R, IsRep g R → someW W R = true) ∨ (v = 3 ∧ ∀ R, IsRep g R → someW W R = false) ∨ (v = 2 ∧ (∃ R, IsRep g R ∧ someW W R = true) ∧ ∃ R, IsRep g R ∧ someW W R = false)) := by
 unfold claimA at h
 rw [Bool.and_eq_true] at h
 obtain ⟨hr, h⟩ := h
 refine ⟨hr, ?_⟩
 split at h
 ·rename_i h0; exact .inl h0
 split at h
 ·rename_i h1
  rw [Bool.and_eq_true, Bool.and_eq_true] at h
  exact .inr (.inl ⟨h1, fun R hR => check_sound h.2.2 hR⟩)
 split at h
 ·rename_i h1
  rw [Bool.and_eq_true, Bool.and_eq_true] at h
  exact .inr (.inr (.inl ⟨h1, fun R hR => check_sound h.2.2 hR⟩))
 split at h
 ·rename_i h1
  rw [Bool.and_eq_true, Bool.and_eq_true, with_iff hr, wout_iff hr] at h
  exact .inr (.inr (.inr ⟨h1, ⟨A, h.2.1⟩, ⟨B, h.2.2⟩⟩))
 ·cases h
theorem claim_one {g : Gr} {W : List Wy} {v v' : Int} {A B A' B' : List Int} {S S' : List St4} (h : claimA g W v A B S = true) (h' : claimA g W v' A' B' S' = true) (h0 : v ≠ 0) (h0' : v' ≠ 0) : v = v' := by
 obtain ⟨hr, k⟩ := claim_right h
 obtain ⟨_, k'⟩ := claim_right h'
 obtain ⟨R, hR⟩ := rep_ex (ready_valid hr)
 rcases k with k | ⟨k, a⟩ | ⟨k, a⟩ | ⟨k, ⟨R1, a1, a2⟩, R2, a3, a4⟩ <;> rcases k' with k' | ⟨k', b⟩ | ⟨k', b⟩ | ⟨k', ⟨Q1, b1, b2⟩, Q2, b3, b4⟩ <;> first | exact absurd k h0 | exact absurd k' h0' | exact k.trans k'.symm | skip
 ·have := (a R hR).symm.trans (b R hR); cases this
 ·have := (a Q2 b3).symm.trans b4; cases this
 ·have := (a R hR).symm.trans (b R hR); cases this
 ·have := (a Q1 b1).symm.trans b2; cases this
 ·have := (b R2 a3).symm.trans a4; cases this
 ·have := (b R1 a1).symm.trans a2; cases this
theorem claim_all {g : Gr} {W : List Wy} {v : Int} {A B : List Int} {S : List St4} (h : claimA g W v A B S = true) (h0 : v ≠ 0) {L : List (List Int)} (hL : ∀ R, R ∈ L ↔ IsRep g R) :
  (v = 1 ∧ L.all (someW W) = true ∧ L.any (someW W) = true) ∨ (v = 3 ∧ L.any (someW W) = false) ∨ (v = 2 ∧ L.any (someW W) = true ∧ L.all (someW W) = false) := by
 obtain ⟨hr, k⟩ := claim_right h
 obtain ⟨R, hR⟩ := rep_ex (ready_valid hr)
 rcases k with k | ⟨k, a⟩ | ⟨k, a⟩ | ⟨k, ⟨R1, a1, a2⟩, R2, a3, a4⟩
 ·exact absurd k h0
 ·exact .inl ⟨k, List.all_eq_true.2 fun R hR => a R ((hL R).1 hR), List.any_eq_true.2 ⟨R, (hL R).2 hR, a R hR⟩⟩
 ·exact .inr (.inl ⟨k, List.any_eq_false.2 fun R hR => by rw [a R ((hL R).1 hR)]; exact Bool.false_ne_true⟩)
 ·exact .inr (.inr ⟨k, List.any_eq_true.2 ⟨R1, (hL R1).2 a1, a2⟩, List.all_eq_false.2 ⟨R2, (hL R2).2 a3, by rw [a4]; exact Bool.false_ne_true⟩⟩)
theorem leafA_some {c c' : PrfC} (hn : c'.n = c.n) (hE : c'.E = c.E) (hh : c'.h = c.h) {M : List Wy} (hW : c.h = false ∧ c'.W = c.W ++ M ∨ c.h = true ∧ c.W = c'.W ++ M ∨ c'.W = c.W) (s : List Int) (x : St4) (h : leafA c s x = true) : leafA c' s x = true := by
 unfold leafA at h ⊢
 rw [hn, hE, hh]
 split at h
 ·rename_i h1; rw [if_pos h1]; exact h
 rename_i h1
 rw [if_neg h1]
 split at h
 ·rename_i h1; rw [if_pos h1]; exact h
 rename_i h1
 rw [if_neg h1]
 split at h
 ·rename_i h1
  rw [if_pos h1]
  rcases hW with ⟨_, hW⟩ | ⟨hh, _⟩ | hW
  ·rw [Bool.and_eq_true, Bool.and_eq_true, decide_eq_true_eq] at h ⊢
   obtain ⟨h2, h3, h4⟩ := h
   rw [hW, List.length_append]
   refine ⟨h2, ⟨h3.1, by have := h3.2; omega⟩, ?_⟩
   rw [List.getD, List.getElem?_append_left (by omega)]
   exact h4
  ·rw [hh] at h; cases h
  ·rw [hW]; exact h
 rename_i h1
 rw [if_neg h1]
 split at h
 ·rename_i h1
  rw [if_pos h1]
  rcases hW with ⟨hh, _⟩ | ⟨_, hW⟩ | hW
  ·rw [hh] at h; cases h
  ·rw [hW, List.all_append] at h
   rw [Bool.and_eq_true, Bool.and_eq_true, Bool.and_eq_true] at h
   rw [h.1, h.2.1, h.2.2.1]; rfl
  ·rw [hW]; exact h
 ·cases h
theorem ready_left {g : Gr} {W M : List Wy} (h : readyG g (W ++ M) = true) : readyG g W = true := by
 unfold readyG at h ⊢
 rw [Bool.and_eq_true, Bool.and_eq_true, decide_eq_true_eq, List.all_append, Bool.and_eq_true, List.length_append] at h
 rw [h.1.1, decide_eq_true (by omega), h.2.1]; rfl
theorem ready_app {g : Gr} {W M : List Wy} (h : readyG g W = true) (hl : (W ++ M).length ≤ 400) (hM : M.all (wyB g.n) = true) : readyG g (W ++ M) = true := by
 unfold readyG at h ⊢
 rw [Bool.and_eq_true, Bool.and_eq_true] at h
 rw [h.1.1, decide_eq_true hl, List.all_append, h.2, hM]; rfl
theorem check_more {g : Gr} {W W' : List Wy} {h : Bool} {S T : List St4} (hr : readyG g W' = true) {M : List Wy} (hW : h = false ∧ W' = W ++ M ∨ h = true ∧ W = W' ++ M ∨ W' = W) (hl : (S ++ T).length ≤ 100000) (hk : checkA g W h S = true) : checkA g W' h (S ++ T) = true := by
 unfold checkA at hk ⊢
 rw [Bool.and_eq_true, Bool.and_eq_true, decide_eq_true_eq, Option.isSome_iff_exists] at hk
 obtain ⟨_, ⟨h1, h2⟩, sn, h3⟩ := hk
 have := right_more (c := ⟨g.n, g.edges, W, h, S⟩) (c' := ⟨g.n, g.edges, W', h, S ++ T⟩) rfl (fun q hq => by
  dsimp only at hq ⊢
  rw [List.getD, List.getD, List.getElem?_append_left hq]) (by dsimp only; rw [List.length_append]; omega) (leafA_some rfl rfl rfl (M := M) hW) S.length 0 _ _ sn (List.replicate T.length false) (by dsimp only; omega) (by simp) h3
 rw [List.replicate_append_replicate] at this
 have h4 := right_fuel _ (S ++ T).length _ _ _ _ (by rw [List.length_append]; omega) this
 rw [show S.length + T.length = (S ++ T).length by simp] at h4
 rw [hr, decide_eq_true ⟨by rw [List.length_append]; omega, hl⟩, h4]
 rfl
def cutS (W : List Wy) (x : St4) : St4 := if x.k = 1 then x else ⟨4, (W.length : Int), 0, 0⟩
theorem cut_none {g : Gr} {W : List Wy} {h : Bool} {S : List St4} : checkA g W h (S.map (cutS W)) = false := by
 unfold checkA
 rw [right_cut fun q s hk => ?_]
 ·simp
 ·dsimp only at hk ⊢
  by_cases hq : q < S.length
  ·rw [List.getD, List.getElem?_map, List.getElem?_eq_getElem hq] at hk ⊢
   dsimp only [Option.map_some, Option.getD_some] at hk ⊢
   unfold cutS at hk ⊢
   split at hk
   ·rename_i h1; exact absurd h1 hk
   ·rename_i h1
    rw [if_neg h1]
    unfold leafA
    rw [if_neg (show ¬ (4 : Int) = 2 by decide), if_neg (show ¬ (4 : Int) = 3 by decide), if_pos rfl, decide_eq_false (by dsimp only; omega)]
    simp
  ·rw [List.getD, List.getElem?_eq_none (by rw [List.length_map]; omega)] at hk ⊢
   rfl
theorem none_steps {g : Gr} (hv : validG g = true) : checkA g [] true [⟨5, 0, 0, 0⟩] = true ∧ checkA g [] false [⟨5, 0, 0, 0⟩] = false := by
 have hr : readyG g [] = true := by unfold readyG; rw [hv]; rfl
 constructor
 ·unfold checkA; rw [hr]; rfl
 ·unfold checkA; rw [hr]; rfl
end Go.Proofs.YtmglkjigmcikdaaGreatDoor
