/- Cluster: the maps of greedy, plainly. No program. -/
import Derived.Test.YtglaigeellpikaaXC15
namespace Go.Proofs.Ytglaigeellpikaa
open Go.Vc

section
variable {κ : Type} [DecidableEq κ]
theorem tget_none {α : Type} : ∀ {l : List (κ × α)} {k : κ}, k ∉ l.map (·.1) → tget l k = none
  | [], _, _ => rfl
  | (k', v) :: l, k, h => by
    rw [List.map_cons, List.mem_cons] at h
    unfold tget
    rw [if_neg (fun e => h (.inl e)), tget_none fun e => h (.inr e)]
theorem ksum1 (k1 : κ) (M : κ → Prop) [DecidablePred M] : ∀ {l : List (κ × Int)}, (l.map (·.1)).Nodup → (∀ e ∈ l, M e.1 ↔ e.1 = k1) → sm (l.map fun e => if M e.1 then e.2 else 0) = (tget l k1).getD 0
  | [], _, _ => rfl
  | (k, v) :: l, hn, h => by
    have hn' := List.nodup_cons.1 hn
    have ih := ksum1 k1 M hn'.2 fun e he => h e (List.mem_cons_of_mem _ he)
    have h0 := h (k, v) List.mem_cons_self
    show (if M k then v else 0) + sm _ = _
    unfold tget
    by_cases e : k1 = k
    · rw [if_pos (h0.2 e.symm), if_pos e, ih, tget_none (by rw [e]; exact hn'.1)]; simp
    · rw [if_neg (fun hm => e (h0.1 hm).symm), if_neg e, ih]; omega
theorem ksum2 (k1 k2 : κ) (hne : k1 ≠ k2) (M : κ → Prop) [DecidablePred M] : ∀ {l : List (κ × Int)}, (l.map (·.1)).Nodup → (∀ e ∈ l, M e.1 ↔ (e.1 = k1 ∨ e.1 = k2)) → sm (l.map fun e => if M e.1 then e.2 else 0) = (tget l k1).getD 0 + (tget l k2).getD 0
  | [], _, _ => rfl
  | (k, v) :: l, hn, h => by
    have hn' := List.nodup_cons.1 hn
    have ih := ksum2 k1 k2 hne M hn'.2 fun e he => h e (List.mem_cons_of_mem _ he)
    have h0 := h (k, v) List.mem_cons_self
    show (if M k then v else 0) + sm _ = _
    unfold tget
    by_cases e : k1 = k
    · rw [if_pos (h0.2 (.inl e.symm)), if_pos e, if_neg (fun e2 => hne (e.trans e2.symm)), ih, tget_none (l := l) (k := k1) (by rw [e]; exact hn'.1)]; simp
    · by_cases e2 : k2 = k
      · rw [if_pos (h0.2 (.inr e2.symm)), if_neg e, if_pos e2, ih, tget_none (l := l) (k := k2) (by rw [e2]; exact hn'.1)]; simp; omega
      · rw [if_neg (fun hm => (h0.1 hm).elim (fun x => e x.symm) (fun x => e2 x.symm)), if_neg e, if_neg e2, ih]; omega
theorem tget_true {l : List (κ × Bool)} (hv : ∀ e ∈ l, e.2 = true) {k : κ} : (tget l k).getD false = true ↔ k ∈ l.map (·.1) := by
  induction l with
  | nil => simp [tget]
  | cons e l ih =>
    obtain ⟨k', v⟩ := e
    have h0 := hv (k', v) List.mem_cons_self
    have ih := ih fun e he => hv e (List.mem_cons_of_mem _ he)
    unfold tget
    rw [List.map_cons, List.mem_cons]
    by_cases e : k = k'
    · rw [if_pos e]; simp only [Option.getD_some]; exact ⟨fun _ => .inl e, fun _ => h0⟩
    · rw [if_neg e, ih]; exact ⟨.inr, fun h => h.resolve_left e⟩
end
/-- What the maps hold. -/
structure GM (wt : Int → Int → Int) (ap : Int → Int → Bool) (cs : List Int) (h : Int → Int) (Wg : List ((Int × Int) × Int)) (Ag : List ((Int × Int) × Bool)) : Prop where
  nd : (Wg.map (·.1)).Nodup
  key : ∀ e ∈ Wg, e.1.1 ∈ cs ∧ e.1.2 ∈ cs ∧ h e.1.1 = e.1.1 ∧ h e.1.2 = e.1.2 ∧ e.1.1 < e.1.2
  val : ∀ a ∈ cs, ∀ b ∈ cs, h a = a → h b = b → a < b → (tget Wg (a, b)).getD 0 = btw wt cs h a b
  apv : ∀ e ∈ Ag, e.2 = true
  apo : ∀ e ∈ Ag, e.1.1 ≤ e.1.2
  apk : ∀ a ∈ cs, ∀ b ∈ cs, h a = a → h b = b → a < b → ((a, b) ∈ Ag.map (·.1) ↔ apH ap cs h a b)
theorem ord_eq {a b c d : Int} (h : a < b) : ordF c d = (a, b) ↔ (c = a ∧ d = b) ∨ (c = b ∧ d = a) := by
  unfold ordF; rw [Prod.mk.injEq]; omega
theorem renP_same {x y a b c d : Int} (hab : a < b) (hxy : x < y) (ha : a ≠ x) (ha2 : a ≠ y) (hb : b ≠ x) (hb2 : b ≠ y) (hcd : c ≤ d) : renP (x, y) (c, d) = (a, b) ↔ (c, d) = (a, b) := by
  unfold renP renI
  rw [ord_eq hab, Prod.mk.injEq]
  dsimp only
  split <;> split <;> omega
theorem renP_left {x y b c d : Int} (hxb : x < b) (hxy : x < y) (hb2 : b ≠ y) (hcd : c ≤ d) : renP (x, y) (c, d) = (x, b) ↔ ((c, d) = (x, b) ∨ (c, d) = ordF y b) := by
  unfold renP renI
  rw [ord_eq hxb, Prod.mk.injEq]
  unfold ordF
  rw [Prod.mk.injEq]
  dsimp only
  split <;> split <;> omega
theorem renP_right {x y a c d : Int} (hax : a < x) (hxy : x < y) (hcd : c ≤ d) : renP (x, y) (c, d) = (a, x) ↔ ((c, d) = (a, x) ∨ (c, d) = (a, y)) := by
  unfold renP renI
  rw [ord_eq hax, Prod.mk.injEq, Prod.mk.injEq]
  dsimp only
  split <;> split <;> omega
theorem GM.ord {wt : Int → Int → Int} {ap : Int → Int → Bool} {cs : List Int} {h : Int → Int} {Wg : List ((Int × Int) × Int)} {Ag : List ((Int × Int) × Bool)} (g : GM wt ap cs h Wg Ag) {a b : Int} (ha : a ∈ cs) (hb : b ∈ cs) (h1 : h a = a) (h2 : h b = b) (hne : a ≠ b) :
    (tget Wg (ordF a b)).getD 0 = btw wt cs h a b := by
  rcases Int.lt_or_gt_of_ne hne with e | e
  · rw [show ordF a b = (a, b) from (ord_eq e).2 (.inl ⟨rfl, rfl⟩)]; exact g.val a ha b hb h1 h2 e
  · rw [show ordF a b = (b, a) from (ord_eq e).2 (.inr ⟨rfl, rfl⟩), g.val b hb a ha h2 h1 e, btw_comm]
theorem GM.step {wt : Int → Int → Int} {ap : Int → Int → Bool} (hsym : ∀ a b, ap a b = ap b a) {cs : List Int} {h : Int → Int} {Wg Wg' : List ((Int × Int) × Int)} {Ag Ag' : List ((Int × Int) × Bool)} (g : GM wt ap cs h Wg Ag) {p : Int × Int} (hp : Cand wt ap cs h p)
    (nd : (Wg'.map (·.1)).Nodup) (key : ∀ e ∈ Wg', ∃ e0 ∈ Wg, e.1 = renP p e0.1 ∧ e.1.1 ≠ e.1.2) (val : ∀ q : Int × Int, q.1 ≠ q.2 → (tget Wg' q).getD 0 = sm (Wg.map fun e => if renP p e.1 = q then e.2 else 0))
    (apv : ∀ e ∈ Ag', e.2 = true) (apm : ∀ q, q ∈ Ag'.map (·.1) ↔ q ∈ Ag.map (·.1) ∨ ∃ k ∈ Ag.map (·.1), renP p k = q) : GM wt ap cs (mrg h p) Wg' Ag' := by
  obtain ⟨x, y⟩ := p
  have hx := hp.m1; have hy := hp.m2; have hxx := hp.h1; have hyy := hp.h2; have hxy := hp.lt
  dsimp only at hx hy hxx hyy hxy
  have hd : ∀ {a}, mrg h (x, y) a = a → h a = a ∧ a ≠ y := fun {a} ha => by
    unfold mrg at ha
    dsimp only at ha
    by_cases e : h a = y
    · rw [if_pos e] at ha
      subst ha
      omega
    · rw [if_neg e] at ha
      exact ⟨ha, fun e2 => e (by rw [ha, e2])⟩
  have hd2 : ∀ {a}, h a = a → a ≠ y → mrg h (x, y) a = a := fun {a} h1 h2 => by unfold mrg; dsimp only; rw [if_neg (by omega), h1]
  have hle : ∀ e ∈ Wg, e.1.1 ≤ e.1.2 := fun e he => Int.le_of_lt (g.key e he).2.2.2.2
  refine ⟨nd, fun e he => ?_, fun a ha b hb h1 h2 hab => ?_, apv, fun e he => ?_, fun a ha b hb h1 h2 hab => ?_⟩
  · obtain ⟨e0, h0, e1, e2⟩ := key e he
    obtain ⟨k1, k2, k3, k4, k5⟩ := g.key e0 h0
    have r1 : renI (x, y) e0.1.1 ∈ cs ∧ mrg h (x, y) (renI (x, y) e0.1.1) = renI (x, y) e0.1.1 := by
      unfold renI; dsimp only; split
      · exact ⟨hx, hd2 hxx (by omega)⟩
      · rename_i hn; exact ⟨k1, hd2 k3 hn⟩
    have r2 : renI (x, y) e0.1.2 ∈ cs ∧ mrg h (x, y) (renI (x, y) e0.1.2) = renI (x, y) e0.1.2 := by
      unfold renI; dsimp only; split
      · exact ⟨hx, hd2 hxx (by omega)⟩
      · rename_i hn; exact ⟨k2, hd2 k4 hn⟩
    rw [e1] at e2 ⊢
    unfold renP ordF at e2 ⊢
    dsimp only at e2 ⊢
    rcases Int.le_total (renI (x, y) e0.1.1) (renI (x, y) e0.1.2) with hh | hh
    · rw [Int.min_eq_left hh, Int.max_eq_right hh] at e2 ⊢
      exact ⟨r1.1, r2.1, r1.2, r2.2, by omega⟩
    · rw [Int.min_eq_right hh, Int.max_eq_left hh] at e2 ⊢
      exact ⟨r2.1, r1.1, r2.2, r1.2, by omega⟩
  · obtain ⟨a1, a2⟩ := hd h1
    obtain ⟨b1, b2⟩ := hd h2
    rw [val (a, b) (by dsimp only; omega)]
    by_cases eax : a = x
    · subst eax
      rw [btw_left (by omega) (by omega) b2, ksum2 (a, b) (ordF y b) (by unfold ordF; rw [Ne, Prod.mk.injEq]; omega) (fun k => renP (a, y) k = (a, b)) g.nd (fun e he => renP_left hab hxy b2 (hle e he)), g.val a ha b hb a1 b1 hab, g.ord hy hb hyy b1 (fun e => b2 e.symm)]
    · by_cases ebx : b = x
      · subst ebx
        rw [btw_comm, btw_left (by omega) (by omega) a2, ksum2 (a, b) (a, y) (by rw [Ne, Prod.mk.injEq]; omega) (fun k => renP (b, y) k = (a, b)) g.nd (fun e he => renP_right hab hxy (hle e he)), g.val a ha b hb a1 b1 hab, g.val a ha y hy a1 hyy (by omega), btw_comm wt cs h a b, btw_comm wt cs h a y]
      · rw [btw_same eax a2 ebx b2, ksum1 (a, b) (fun k => renP (x, y) k = (a, b)) g.nd (fun e he => renP_same hab hxy eax a2 ebx b2 (hle e he)), g.val a ha b hb a1 b1 hab]
  · have hm : e.1 ∈ Ag'.map (·.1) := List.mem_map.2 ⟨e, he, rfl⟩
    rcases (apm _).1 hm with h1 | ⟨k, _, h2⟩
    · obtain ⟨e0, h3, h4⟩ := List.mem_map.1 h1
      rw [← h4]; exact g.apo e0 h3
    · rw [← h2]; unfold renP ordF; dsimp only; omega
  · obtain ⟨a1, a2⟩ := hd h1
    obtain ⟨b1, b2⟩ := hd h2
    have ho : ∀ k ∈ Ag.map (·.1), k.1 ≤ k.2 := fun k hk => by obtain ⟨e0, h3, h4⟩ := List.mem_map.1 hk; rw [← h4]; exact g.apo e0 h3
    have hord : ∀ {c d : Int}, c ∈ cs → d ∈ cs → h c = c → h d = d → c ≠ d → (ordF c d ∈ Ag.map (·.1) ↔ apH ap cs h c d) := fun {c d} hc hd' h3 h4 hne => by
      rcases Int.lt_or_gt_of_ne hne with e | e
      · rw [show ordF c d = (c, d) from (ord_eq e).2 (.inl ⟨rfl, rfl⟩)]; exact g.apk c hc d hd' h3 h4 e
      · rw [show ordF c d = (d, c) from (ord_eq e).2 (.inr ⟨rfl, rfl⟩), g.apk d hd' c hc h4 h3 e]; exact apH_comm hsym
    rw [apm]
    by_cases eax : a = x
    · subst eax
      rw [apH_left (by omega) b2, ← g.apk a ha b hb a1 b1 hab, ← hord hy hb hyy b1 (fun e => b2 e.symm)]
      constructor
      · rintro (h3 | ⟨k, h3, h4⟩)
        · exact .inl h3
        · obtain ⟨c, d⟩ := k
          rcases (renP_left hab hxy b2 (ho _ h3)).1 h4 with h5 | h5
          · exact .inl (h5 ▸ h3)
          · exact .inr (h5 ▸ h3)
      · rintro (h3 | h3)
        · exact .inl h3
        · exact .inr ⟨_, h3, by have := (renP_left (c := (ordF y b).1) (d := (ordF y b).2) hab hxy b2 (ho _ h3)).2 (.inr rfl); exact this⟩
    · by_cases ebx : b = x
      · subst ebx
        rw [apH_comm hsym, apH_left (by omega) a2, apH_comm hsym (a := b), apH_comm hsym (a := y), ← g.apk a ha b hb a1 b1 hab, ← g.apk a ha y hy a1 hyy (by omega)]
        constructor
        · rintro (h3 | ⟨k, h3, h4⟩)
          · exact .inl h3
          · obtain ⟨c, d⟩ := k
            rcases (renP_right hab hxy (ho _ h3)).1 h4 with h5 | h5
            · exact .inl (h5 ▸ h3)
            · exact .inr (h5 ▸ h3)
        · rintro (h3 | h3)
          · exact .inl h3
          · exact .inr ⟨_, h3, (renP_right hab hxy (ho _ h3)).2 (.inr rfl)⟩
      · rw [apH_same eax a2 ebx b2, ← g.apk a ha b hb a1 b1 hab]
        constructor
        · rintro (h3 | ⟨k, h3, h4⟩)
          · exact h3
          · obtain ⟨c, d⟩ := k
            rw [(renP_same hab hxy eax a2 ebx b2 (ho _ h3)).1 h4] at h3
            exact h3
        · exact .inl
end Go.Proofs.Ytglaigeellpikaa

/- Cluster: greedy, plainly: the map of heads, the choice, the sums. No program. -/
namespace Go.Proofs.Ytglaigeellpikaa
open Go.Vc

def hmap (cs : List Int) (f : Int → Int) : List (Int × Int) := cs.map fun c => (c, f c)
theorem hmap_get (f : Int → Int) (c : Int) : ∀ cs : List Int, tget (hmap cs f) c = if c ∈ cs then some (f c) else none
  | [] => rfl
  | a :: cs => by
    have ih := hmap_get f c cs
    show tget ((a, f a) :: hmap cs f) c = _
    unfold tget
    by_cases e : c = a
    · rw [if_pos e, if_pos (by rw [e]; exact List.mem_cons_self), e]
    · rw [if_neg e, ih]
      by_cases h : c ∈ cs
      · rw [if_pos h, if_pos (List.mem_cons_of_mem _ h)]
      · rw [if_neg h, if_neg (fun h2 => (List.mem_cons.1 h2).elim e h)]
theorem hmap_set (f : Int → Int) (c0 v : Int) : ∀ {cs : List Int}, cs.Nodup → c0 ∈ cs → tset (hmap cs f) c0 v = hmap cs (fun c => if c = c0 then v else f c)
  | [], _, h => by cases h
  | a :: cs, hn, h => by
    have hn := List.nodup_cons.1 hn
    show tset ((a, f a) :: hmap cs f) c0 v = (a, if a = c0 then v else f a) :: hmap cs _
    unfold tset
    by_cases e : c0 = a
    · subst e
      rw [if_pos rfl, if_pos rfl]
      congr 1
      unfold hmap
      exact List.map_congr_left fun x hx => by dsimp only; rw [if_neg (fun e : x = c0 => hn.1 (e ▸ hx))]
    · rw [if_neg e, if_neg (fun e2 => e e2.symm), hmap_set f c0 v hn.2 ((List.mem_cons.1 h).resolve_left e)]
theorem hmap_new (f : Int → Int) (v c0 : Int) : ∀ {cs : List Int}, c0 ∉ cs → tset (hmap cs f) c0 v = hmap cs f ++ [(c0, v)]
  | [], _ => rfl
  | a :: cs, h => by
    rw [List.mem_cons] at h
    show tset ((a, f a) :: hmap cs f) c0 v = (a, f a) :: (hmap cs f ++ [(c0, v)])
    unfold tset
    rw [if_neg (fun e => h (.inl e)), hmap_new f v c0 fun e => h (.inr e)]
/-- What decides whether a pair is taken. -/
def chB (a : Bool) (w most : Int) (lt : Bool) : Bool := !a && (decide (most < w) || (decide (w = most) && decide (0 < w) && lt))
def okE (Ag : List ((Int × Int) × Bool)) (e : (Int × Int) × Int) : Prop := (tget Ag e.1).getD false = false ∧ 0 < e.2
/-- The choice so far. -/
def BestK (Ag : List ((Int × Int) × Bool)) (D : List ((Int × Int) × Int)) (q : Int × Int) (m : Int) : Prop :=
  (m = 0 ∧ ∀ e ∈ D, ¬ okE Ag e) ∨ (0 < m ∧ (q, m) ∈ D ∧ okE Ag (q, m) ∧ ∀ e ∈ D, okE Ag e → e.2 < m ∨ (e.2 = m ∧ (e.1 = q ∨ ltP q e.1)))
theorem BestK.start (Ag : List ((Int × Int) × Bool)) (q : Int × Int) : BestK Ag [] q 0 := .inl ⟨rfl, fun e he => by cases he⟩
theorem ltP_tri (p q : Int × Int) : ltP p q ∨ p = q ∨ ltP q p := by
  obtain ⟨a, b⟩ := p
  obtain ⟨c, d⟩ := q
  unfold ltP
  rw [Prod.mk.injEq]
  dsimp only
  omega
theorem ltP_trans {p q r : Int × Int} (h1 : ltP p q) (h2 : ltP q r) : ltP p r := by unfold ltP at *; omega
theorem BestK.take {Ag : List ((Int × Int) × Bool)} {D : List ((Int × Int) × Int)} {q p : Int × Int} {m w : Int} (h : BestK Ag D q m) (hc : chB ((tget Ag p).getD false) w m (decide (ltP p q)) = true) : BestK Ag (D ++ [(p, w)]) p w := by
  unfold chB at hc
  rw [Bool.and_eq_true, Bool.or_eq_true, Bool.and_eq_true, Bool.and_eq_true, decide_eq_true_eq, decide_eq_true_eq, decide_eq_true_eq, decide_eq_true_eq] at hc
  obtain ⟨h0, h1⟩ := hc
  have h0 : (tget Ag p).getD false = false := by simpa using h0
  right
  rcases h with ⟨h2, h3⟩ | ⟨h2, h3, h4, h5⟩
  · have hw : 0 < w := by rcases h1 with h | h <;> omega
    refine ⟨hw, by simp, ⟨h0, hw⟩, fun e he ho => ?_⟩
    rcases List.mem_append.1 he with he | he
    · exact absurd ho (h3 e he)
    · have : e = (p, w) := by simpa using he
      rw [this]; exact .inr ⟨rfl, .inl rfl⟩
  · have hw : 0 < w := by rcases h1 with h | h <;> omega
    refine ⟨hw, by simp, ⟨h0, hw⟩, fun e he ho => ?_⟩
    rcases List.mem_append.1 he with he | he
    · have h6 := h5 e he ho
      rcases h1 with h1 | ⟨⟨h1, _⟩, h7⟩
      · rcases h6 with h6 | h6 <;> left <;> omega
      · rcases h6 with h6 | ⟨h6, h8⟩
        · left; omega
        · right
          refine ⟨by omega, .inr ?_⟩
          rcases h8 with h8 | h8
          · rw [h8]; exact h7
          · exact ltP_trans h7 h8
    · have : e = (p, w) := by simpa using he
      rw [this]; exact .inr ⟨rfl, .inl rfl⟩
theorem BestK.skip {Ag : List ((Int × Int) × Bool)} {D : List ((Int × Int) × Int)} {q p : Int × Int} {m w : Int} (h : BestK Ag D q m) (hc : chB ((tget Ag p).getD false) w m (decide (ltP p q)) = false) : BestK Ag (D ++ [(p, w)]) q m := by
  have hn : okE Ag (p, w) → w < m ∨ (w = m ∧ (p = q ∨ ltP q p)) ∨ False := fun ⟨h0, hw⟩ => by
    dsimp only at h0 hw
    unfold chB at hc
    rw [h0, Bool.not_false, Bool.true_and, Bool.or_eq_false_iff, decide_eq_false_iff_not] at hc
    obtain ⟨h1, h2⟩ := hc
    by_cases e : w = m
    · right; left
      refine ⟨e, ?_⟩
      rw [decide_eq_true e, decide_eq_true hw, Bool.true_and, Bool.true_and, decide_eq_false_iff_not] at h2
      rcases ltP_tri p q with h3 | h3 | h3
      · exact absurd h3 h2
      · exact .inl h3
      · exact .inr h3
    · left; omega
  rcases h with ⟨h2, h3⟩ | ⟨h2, h3, h4, h5⟩
  · refine .inl ⟨h2, fun e he ho => ?_⟩
    rcases List.mem_append.1 he with he | he
    · exact h3 e he ho
    · have : e = (p, w) := by simpa using he
      rw [this] at ho
      have hp := ho.2
      dsimp only at hp
      rcases hn ho with h | h | h
      · omega
      · omega
      · exact h
  · refine .inr ⟨h2, List.mem_append_left _ h3, h4, fun e he ho => ?_⟩
    rcases List.mem_append.1 he with he | he
    · exact h5 e he ho
    · have : e = (p, w) := by simpa using he
      rw [this] at ho ⊢
      rcases hn ho with h | h | h
      · exact .inl h
      · exact .inr h
      · exact h.elim
theorem okE_cand {wt : Int → Int → Int} {ap : Int → Int → Bool} {cs : List Int} {h : Int → Int} {Wg : List ((Int × Int) × Int)} {Ag : List ((Int × Int) × Bool)} (g : GM wt ap cs h Wg Ag) {e : (Int × Int) × Int} (he : e ∈ Wg) : e.2 = btw wt cs h e.1.1 e.1.2 ∧ (okE Ag e → Cand wt ap cs h e.1) := by
  obtain ⟨k1, k2, k3, k4, k5⟩ := g.key e he
  have hv := g.val _ k1 _ k2 k3 k4 k5
  have hg : tget Wg (e.1.1, e.1.2) = some e.2 := (tget_mem g.nd).2 he
  rw [hg] at hv
  have hv : e.2 = btw wt cs h e.1.1 e.1.2 := hv
  refine ⟨hv, fun ⟨h1, h2⟩ => ⟨k1, k2, k3, k4, k5, fun ha => ?_, by omega⟩⟩
  have := (g.apk _ k1 _ k2 k3 k4 k5).2 ha
  rw [(tget_true g.apv).2 this] at h1
  cases h1
theorem cand_okE {wt : Int → Int → Int} {ap : Int → Int → Bool} {cs : List Int} {h : Int → Int} {Wg : List ((Int × Int) × Int)} {Ag : List ((Int × Int) × Bool)} (g : GM wt ap cs h Wg Ag) {p : Int × Int} (hp : Cand wt ap cs h p) : (p, btw wt cs h p.1 p.2) ∈ Wg ∧ okE Ag (p, btw wt cs h p.1 p.2) := by
  have hv := g.val _ hp.m1 _ hp.m2 hp.h1 hp.h2 hp.lt
  have hpos := hp.pos
  have hsome : tget Wg p = some (btw wt cs h p.1 p.2) := by
    have hv : (tget Wg p).getD 0 = btw wt cs h p.1 p.2 := hv
    cases ht : tget Wg p with
    | none => rw [ht] at hv; simp at hv; omega
    | some v => rw [ht] at hv; simp at hv; rw [hv]
  refine ⟨(tget_mem g.nd).1 hsome, ?_, hpos⟩
  dsimp only
  cases ha : (tget Ag p).getD false with
  | false => rfl
  | true => exact absurd ((g.apk _ hp.m1 _ hp.m2 hp.h1 hp.h2 hp.lt).1 ((tget_true g.apv).1 ha)) hp.free
theorem best_none {wt : Int → Int → Int} {ap : Int → Int → Bool} {cs : List Int} {h : Int → Int} {Wg D : List ((Int × Int) × Int)} {Ag : List ((Int × Int) × Bool)} (g : GM wt ap cs h Wg Ag) (hp : D.Perm Wg) {q : Int × Int} (hb : BestK Ag D q 0) : ∀ p, ¬ Cand wt ap cs h p := fun p hc => by
  obtain ⟨h1, h2⟩ := cand_okE g hc
  rcases hb with ⟨_, h3⟩ | ⟨h3, _⟩
  · exact h3 _ (hp.mem_iff.2 h1) h2
  · omega
theorem best_next {wt : Int → Int → Int} {ap : Int → Int → Bool} {cs : List Int} {h : Int → Int} {Wg D : List ((Int × Int) × Int)} {Ag : List ((Int × Int) × Bool)} (g : GM wt ap cs h Wg Ag) (hp : D.Perm Wg) {q : Int × Int} {m : Int} (hb : BestK Ag D q m) (hm : m ≠ 0) : IsNext wt ap cs h q := by
  rcases hb with ⟨h3, _⟩ | ⟨_, h2, h3, h4⟩
  · exact absurd h3 hm
  · obtain ⟨e1, e2⟩ := okE_cand g (hp.mem_iff.1 h2)
    dsimp only at e1
    refine ⟨e2 h3, fun r hr => ?_⟩
    obtain ⟨r1, r2⟩ := cand_okE g hr
    rcases h4 _ (hp.mem_iff.2 r1) r2 with h5 | ⟨h5, h6⟩
    · exact .inl (by dsimp only at h5; omega)
    · exact .inr ⟨by dsimp only at h5; omega, h6⟩
theorem btw_bnd {wt : Int → Int → Int} (hB : WtB wt) {cs : List Int} (hc : cs.length ≤ 100) (h : Int → Int) (a b : Int) : -10000000000000000 ≤ btw wt cs h a b ∧ btw wt cs h a b ≤ 10000000000000000 := by
  have hS : ∀ c d, -1000000000000 ≤ wtS wt c d ∧ wtS wt c d ≤ 1000000000000 := fun c d => by
    have h1 := hB c d
    have h2 := hB d c
    unfold wtS; (repeat' split) <;> omega
  have hr : ∀ c, -100000000000000 ≤ sm (cs.map fun d => if h c = a ∧ h d = b then wtS wt c d else 0) ∧ sm (cs.map fun d => if h c = a ∧ h d = b then wtS wt c d else 0) ≤ 100000000000000 := fun c => by
    have := sm_bnd (M := 1000000000000) (l := cs.map fun d => if h c = a ∧ h d = b then wtS wt c d else 0) (fun x hx => by
      obtain ⟨d, _, rfl⟩ := List.mem_map.1 hx
      have := hS c d
      split <;> omega)
    rw [List.length_map] at this
    omega
  have := sm_bnd (M := 100000000000000) (l := cs.map fun c => sm (cs.map fun d => if h c = a ∧ h d = b then wtS wt c d else 0)) (fun x hx => by
    obtain ⟨c, _, rfl⟩ := List.mem_map.1 hx
    exact hr c)
  rw [List.length_map] at this
  unfold btw
  omega
end Go.Proofs.Ytglaigeellpikaa

/- Cluster: greedy: the walk. -/
namespace Go.Proofs.Ytglaigeellpikaa
open Go.Vc

/-- The three maps. -/
structure GrS (w0 : World) (rh rw ra : Nat) (H : List (Int × Int)) (Wg : List ((Int × Int) × Int)) (Ag : List ((Int × Int) × Bool)) (w : World) : Prop where
  e : Ext w0 w
  mh : MapIs w rh vI (tenc vI H)
  mw : MapIs w rw encP (tenc vI Wg)
  ma : MapIs w ra encP (tenc vB Ag)
  lo : w0.heap.size ≤ rh ∧ rh < rw ∧ rw < ra
  sz : ra < w.heap.size
section
variable {w0 w w' : World} {rh rw ra : Nat} {H H' : List (Int × Int)} {Wg Wg' : List ((Int × Int) × Int)} {Ag Ag' : List ((Int × Int) × Bool)}
theorem GrS.mod {S : Nat → Prop} (h : GrS w0 rh rw ra H Wg Ag w) (m : Vc.Mod S w w') (hS : ∀ k, S k → ra < k) : GrS w0 rh rw ra H Wg Ag w' := by
  have hlo := h.lo
  exact ⟨h.e.ownA m fun k hk => by have := hS k hk; omega, h.mh.mod m fun hk => by have := hS _ hk; omega, h.mw.mod m fun hk => by have := hS _ hk; omega, h.ma.mod m fun hk => by have := hS _ hk; omega, hlo, by have := h.sz; have := m.size; omega⟩
theorem GrS.ext (h : GrS w0 rh rw ra H Wg Ag w) (m : Ext w w') : GrS w0 rh rw ra H Wg Ag w' := h.mod m fun _ hk => hk.elim
theorem GrS.setH (h : GrS w0 rh rw ra H Wg Ag w) (hm : MapIs w' rh vI (tenc vI H')) (m : Vc.Mod (one rh) w w') : GrS w0 rh rw ra H' Wg Ag w' := by
  have hlo := h.lo
  have no : ∀ b, b ≠ rh → ¬ one rh b := fun b h e => h e
  exact ⟨h.e.ownA m fun k hk => by have hk : k = rh := hk; omega, hm, h.mw.mod m (no _ (by omega)), h.ma.mod m (no _ (by omega)), hlo, by have := h.sz; have := m.size; omega⟩
theorem GrS.setW (h : GrS w0 rh rw ra H Wg Ag w) (hm : MapIs w' rw encP (tenc vI Wg')) (m : Vc.Mod (one rw) w w') : GrS w0 rh rw ra H Wg' Ag w' := by
  have hlo := h.lo
  have no : ∀ b, b ≠ rw → ¬ one rw b := fun b h e => h e
  exact ⟨h.e.ownA m fun k hk => by have hk : k = rw := hk; omega, h.mh.mod m (no _ (by omega)), hm, h.ma.mod m (no _ (by omega)), hlo, by have := h.sz; have := m.size; omega⟩
theorem GrS.setA (h : GrS w0 rh rw ra H Wg Ag w) (hm : MapIs w' ra encP (tenc vB Ag')) (m : Vc.Mod (one ra) w w') : GrS w0 rh rw ra H Wg Ag' w' := by
  have hlo := h.lo
  have no : ∀ b, b ≠ ra → ¬ one ra b := fun b h e => h e
  exact ⟨h.e.ownA m fun k hk => by have hk : k = ra := hk; omega, h.mh.mod m (no _ (by omega)), h.mw.mod m (no _ (by omega)), hm, hlo, by have := h.sz; have := m.size; omega⟩
end
theorem nodup_leC {α : Type} [DecidableEq α] : ∀ {a b : List α}, a.Nodup → (∀ x ∈ a, x ∈ b) → a.length ≤ b.length
  | [], _, _, _ => Nat.zero_le _
  | x :: a, b, hn, h => by
    have hn := List.nodup_cons.1 hn
    have := nodup_leC (a := a) (b := b.erase x) hn.2 fun y hy => (List.mem_erase_of_ne (fun e => hn.1 (by rw [← e]; exact hy))).2 (h y (by simp [hy]))
    have hx := h x (by simp)
    rw [List.length_erase_of_mem hx] at this
    have := List.length_pos_of_mem hx
    simp only [List.length_cons]; omega
/-- An edge lies in one component. -/
def univ (cs : List Int) (Am : List ((Int × Int) × Bool)) : List Int := cs ++ (Am.map (fun e => e.1.1) ++ Am.map (fun e => e.1.2))
theorem keys_le {cs : List Int} {Am Ag : List ((Int × Int) × Bool)} (hc : cs.length ≤ 100) (hA : Am.length ≤ 100) (hn : (Ag.map (·.1)).Nodup) (h : ∀ q ∈ Ag.map (·.1), q.1 ∈ univ cs Am ∧ q.2 ∈ univ cs Am) : Ag.length ≤ 100000 := by
  have h1 := nodup_leC (b := (univ cs Am).flatMap fun a => (univ cs Am).map fun b => (a, b)) hn fun q hq => by
    obtain ⟨h2, h3⟩ := h q hq
    exact List.mem_flatMap.2 ⟨q.1, h2, List.mem_map.2 ⟨q.2, h3, rfl⟩⟩
  have hl : ((univ cs Am).flatMap fun a => (univ cs Am).map fun b => (a, b)).length = (univ cs Am).length * (univ cs Am).length := by
    have key : ∀ l m : List Int, (l.flatMap fun a => m.map fun b => (a, b)).length = l.length * m.length := by
      intro l m
      induction l with
      | nil => simp
      | cons a l ih => rw [List.flatMap_cons, List.length_append, ih, List.length_map, List.length_cons, Nat.succ_mul]; omega
    exact key _ _
  have hu : (univ cs Am).length ≤ 300 := by unfold univ; simp; omega
  have := Nat.mul_le_mul hu hu
  rw [List.length_map, hl] at h1
  omega
theorem apv_val (A : List ((Int × Int) × Bool)) (p : Int × Int) : (mget (tenc vB A) p).getD (.bool false) = .bool ((tget A p).getD false) := by
  rw [tget_enc]; cases tget A p <;> rfl
theorem tenc_keys {κ α : Type} (f : α → Value) (l : List (κ × α)) : (tenc f l).map (·.1) = l.map (·.1) := by unfold tenc; rw [List.map_map]; rfl
theorem hmap_snoc (f : Int → Int) (l : List Int) (c : Int) : hmap (l ++ [c]) f = hmap l f ++ [(c, f c)] := by unfold hmap; rw [List.map_append]; rfl
theorem tsl_off {α κ : Type} {enc : α → List Value} {s r : Nat} {w w' : World} {a : Option Addr} {l : List α} {ek : κ → Value} {M : List (κ × Value)} (h : TSl enc s w a l) (hM : MapIs w r ek M) (m : Vc.Mod (one r) w w') : TSl enc s w' a l := by
  obtain ⟨es, c, hA⟩ := hM
  rcases h.2 with h0 | ⟨b, off, rfl, c2, T, fr, hB, hb⟩
  · simp at h0; subst h0; exact TSl.nil _ _ _ _
  · refine h.mod m fun ad e hk => ?_
    injection e with e
    subst e
    have hk : b = r := hk
    subst hk
    have := hB.symm.trans hA.blk
    simp at this
set_option maxRecDepth 100000 in
set_option maxHeartbeats 16000000 in
theorem greedy_spec (sa ca : Option Addr) (ns css cc r1 r2 : Nat) (cs : List Int) (Wm : List ((Int × Int) × Int)) (Am : List ((Int × Int) × Bool)) (w : World) (hE : EvAt w r1 r2 Wm Am) (hC : IntSl w ca cs) (hn : cs.length ≤ 100) (hinc : Inc cs) (hWl : Wm.length ≤ 100) (hAl : Am.length ≤ 100) (hB : WtB (wtM Wm)) (hWo : ∀ e ∈ Wm, e.1.1 < e.1.2) (hAo : ∀ e ∈ Am, e.1.1 ≤ e.1.2 ∧ e.2 = true) :
    RetsX Try.prog 35 #[evV sa ns css r1 r2, .slice ca cs.length cc] w (fun x : Option Addr × Nat × List Int => .slice x.1 x.2.2.length x.2.1) (fun x w' => IntSl w' x.1 x.2.2 ∧ (∀ k, aBlk x.1 k → w.heap.size ≤ k) ∧ ∃ h, Grd (wtM Wm) (apM Am) cs (fun c => c) h ∧ HOk cs h ∧ x.2.2 = cs.map h) := by
  have hnd := inc_nodup hinc
  have hr1 := hE.wt.lt
  have hr2 := hE.ap.lt
  refine enter (args := [_, _]) Try.func35 rfl Try.ntmps35 (by kernel_rfl) rfl ?_
  refine V.seq (V.region (VL.box (v := .agg _) rfl fun b2 w2 hb2 e2 hB2 => VL.op (R.asS rfl) (VL.nil (V.seq (V.region (VL.makeMap fun rh wh hrh eh hRh => VL.op (R.asM rfl) (VL.nil (V.seq (V.region (VL.makeMap fun rw_ ww hrw ew hRw => VL.makeMap fun ra wa hra ea hRa => VL.op (R.asM rfl) (VL.op (R.asM rfl) (VL.nil (V.cut [1, 2, 5, 6, 7] (fun _ : Unit => [.slice ca cs.length cc, .pointer (some ⟨b2, 0, none⟩), .map (some rh), .map (some rw_), .map (some ra)]) (fun _ w' => GrS w rh rw_ ra (hmap cs fun c => c) [] [] w' ∧ Blk w' b2 (.cells #[.slice sa ns css, .map (some r1), .map (some r2)] 52 (0, 0))) (V.seq (V.region (VL.op (R.mvS rfl) (VL.op (R.lenS Try.runUnderlying23 rfl) (VL.op (R.mvI rfl) (VL.nil (V.block (?_)))))))) (fun rgB0 xB0 wBB0 hBB0 => V.cut [1, 2, 5, 6, 7] (fun Wg : List ((Int × Int) × Int) => [.slice ca cs.length cc, .pointer (some ⟨b2, 0, none⟩), .map (some rh), .map (some rw_), .map (some ra)]) (fun Wg w' => GrS w rh rw_ ra (hmap cs fun c => c) Wg [] w' ∧ Blk w' b2 (.cells #[.slice sa ns css, .map (some r1), .map (some r2)] 52 (0, 0)) ∧ Wg.length ≤ Wm.length ∧ ∀ q v, tget Wg q = some v ↔ (q, v) ∈ Wm ∧ q.1 ∈ cs ∧ q.2 ∈ cs) (V.seq (V.region (VL.op (R.fld' (o := 1) Try.runUnderlying52 rfl rfl Try.sizeOf49 rfl rfl) (VL.op (R.ld1 Try.isAgg49 rfl (hBB0.2.cell 1)) (VL.range Try.runUnderlying49 rfl ((hE.wt.ext hBB0.1.e)) fun it2 w8 hit2 e8 hI8 => VL.nil (V.block (?_))))))) (fun rgB2 xB2 wBB2 hBB2 => V.cut [1, 5, 6, 7] (fun Ag : List ((Int × Int) × Bool) => [.slice ca cs.length cc, .map (some rh), .map (some rw_), .map (some ra)]) (fun Ag w' => GrS w rh rw_ ra (hmap cs fun c => c) xB2 Ag w' ∧ Ag.length ≤ Am.length ∧ (∀ e ∈ Ag, e.2 = true) ∧ ∀ q, q ∈ Ag.map (·.1) ↔ q ∈ Am.map (·.1)) (V.seq (V.region (VL.op (R.fld' (o := 2) Try.runUnderlying52 rfl rfl Try.sizeOf50 rfl rfl) (VL.op (R.ld1 Try.isAgg50 rfl (hBB2.2.1.cell 2)) (VL.range Try.runUnderlying50 rfl ((hE.ap.ext hBB2.1.e)) fun it4 w16 hit4 e16 hI16 => VL.nil (V.block (?_))))))) (fun rgB4 xB4 wBB4 hBB4 => V.cut [1, 5] (fun h : Int → Int => [.slice ca cs.length cc, .map (some rh)]) (fun h w' => Ext w w' ∧ MapIs w' rh vI (tenc vI (hmap cs h)) ∧ HOk cs h ∧ Grd (wtM Wm) (apM Am) cs (fun c => c) h) (V.block (?_)) (fun rgB6 xB6 wBB6 hBB6 => V.seq (?_))))))))))))))))))
  · have hB2 : Blk w2 b2 (.cells #[.slice sa ns css, .map (some r1), .map (some r2)] 52 (0, 0)) := hB2
    have z2 := e2.size; have zh := eh.size; have zw := ew.size; have za := ea.size
    have lb := hB2.lt; have lh := hRh.lt; have lw := hRw.lt; have la := hRa.lt
    have Ea := e2.trans (eh.trans (ew.trans ea))
    have hG0 : GrS w rh rw_ ra (hmap (cs.take 0) fun c => c) [] [] wa := ⟨Ea, (MapIs.empty hRh).ext (ew.trans ea), (MapIs.empty hRw).ext ea, MapIs.empty hRa, ⟨by omega, by omega, by omega⟩, la⟩
    refine V.loop [1, 2, 5, 6, 7, 36, 37, 38] (fun k : Nat => [.slice ca cs.length cc, .pointer (some ⟨b2, 0, none⟩), .map (some rh), .map (some rw_), .map (some ra), .slice ca cs.length cc, .int .i64 (cs.length : Nat), .int .i64 k])
      (fun k w' => k ≤ cs.length ∧ GrS w rh rw_ ra (hmap (cs.take k) fun c => c) [] [] w' ∧ Blk w' b2 (.cells #[.slice sa ns css, .map (some r1), .map (some r2)] 52 (0, 0))) (fun k => cs.length - k) 0 rfl ⟨Nat.zero_le _, hG0, hB2.ext (eh.trans (ew.trans ea))⟩ ?_
    rintro ρ k w3 ⟨hk, hG, hb⟩
    refine V.seq (V.region (VL.op (R.lss rfl rfl) (VL.nil (V.seq (V.condP rfl (fun c39 => V.skip (V.seq (V.block (V.seq (V.region (VL.op (R.ixS Try.runUnderlying23 Try.sizeOf3 rfl rfl (by omega) (by omega) ((hC).some (i := k) (by omega))) (VL.op (R.ld1 Try.isAgg3 rfl (((((hC).ext hG.e).row (i := k) (by omega)).cell (i := 0) rfl))) (VL.op (R.asI rfl) (VL.nil (V.region (VL.op (R.mvM rfl) (VL.op (R.mvI rfl) (VL.op (R.mvI rfl) (VL.mapUpdate key3 Try.runUnderlying68 rfl (k := (cs.getD k default)) rfl rfl (hG.mh) fun w6 hM6 m6 => VL.nil (V.region (VL.op (R.add rfl rfl (by omega) (by omega)) (VL.op (R.mvI rfl) (VL.nil (⟨k + 1, rfl, ⟨?_, ?_, hb.mod m6 (fun h => by have h : b2 = rh := h; omega)⟩, ?_⟩))))))))))))))))))) (fun c39 => V.exit (?_)))))))
    · omega
    · have hkl : k < cs.length := by omega
      have hg : cs.getD k default = cs[k] := by simp [List.getD, hkl]
      refine hG.setH ?_ m6
      rw [List.take_succ_eq_append_getElem hkl, hmap_snoc, ← hg, ← hmap_new (fun c => c) (cs.getD k default) (cs.getD k default) (cs := cs.take k), tset_enc]
      · exact hM6
      · rw [hg]
        intro hm
        obtain ⟨j, hj, hje⟩ := List.getElem_of_mem hm
        rw [List.length_take] at hj
        rw [List.getElem_take] at hje
        have := List.pairwise_iff_getElem.1 hinc j k (by omega) hkl (by omega)
        omega
    · omega
    · have hkl : k = cs.length := by omega
      subst hkl
      rw [List.take_length] at hG
      exact ⟨(), rfl, hG, hb⟩
  · have hne : it2 ≠ r1 := by have := hE.wt.lt; have := hBB0.1.e.size; omega
    have hWn : (Wm.map (·.1)).Nodup := by have := hE.wt.nd; rwa [tenc_keys] at this
    have z8 := e8.size
    have lit := hI8.lt
    have hs0 := hBB0.1.sz
    have hbl := hBB0.2.lt
    refine V.loop [1, 2, 5, 6, 7, 48] (fun x : List ((Int × Int) × Int) × List ((Int × Int) × Int) × List ((Int × Int) × Int) => [.slice ca cs.length cc, .pointer (some ⟨b2, 0, none⟩), .map (some rh), .map (some rw_), .map (some ra), .pointer (some ⟨it2, 0, none⟩)])
      (fun x w' => (x.2.1 ++ x.1).Perm Wm ∧ GrS w rh rw_ ra (hmap cs fun c => c) x.2.2 [] w' ∧ Blk w' b2 (.cells #[.slice sa ns css, .map (some r1), .map (some r2)] 52 (0, 0)) ∧ x.2.2.length ≤ x.2.1.length ∧ (∀ q v, tget x.2.2 q = some v ↔ (q, v) ∈ x.2.1 ∧ q.1 ∈ cs ∧ q.2 ∈ cs) ∧ ∃ last, IterAt w' it2 r1 encP (tenc vI Wm) (tenc vI x.1) last) (fun x => x.1.length) (Wm, [], []) rfl
      ⟨by simp, hBB0.1.ext e8, hBB0.2.ext e8, Nat.le_refl _, fun q v => by simp [tget], _, hI8⟩ ?_
    rintro ρ ⟨rm, D, Wg⟩ w3 ⟨hP, hG, hb, hl, hq, last, hI⟩
    dsimp only at hP hG hb hl hq hI ⊢
    have hlo := hG.lo
    refine V.seq (V.region (VL.nextT rfl (hI) (hne) (fun h0_9_0 => VL.op (R.extr rfl rfl) (VL.nil (V.seq (V.condF rfl (V.exit (?_)))))) (fun i hi w9 m9 hs9 hI9 => VL.op (R.extr rfl rfl) (VL.nil (V.seq (V.condT rfl (V.skip (V.block (V.seq (V.region (VL.op (R.entry rfl (hI9)) (VL.op (R.extr rfl rfl) (VL.op (R.extr rfl rfl) (VL.allocSt (v := .agg (encPr rm[i].1).toArray) Try.zeroValue42 Try.sizeOf42 rfl rfl rfl rfl rfl fun b10_3 w10_3 hb10_3 e10_3 hB10_3 => VL.op (R.asI rfl) (VL.nil (V.seq (?_)))))))))))))))))
    · subst h0_9_0
      rw [List.append_nil] at hP
      exact ⟨Wg, rfl, hG, hb, by have := hP.length_eq; omega, fun q v => by rw [hq, hP.mem_iff]⟩
    · have hm9 : ∀ b, b ≠ it2 → ¬ one it2 b := fun b h e => h e
      have hG9 := (hG.mod m9 (fun k hk => by have hk : k = it2 := hk; omega)).ext e10_3
      have hb9 := (hb.mod m9 (hm9 _ (by omega))).ext e10_3
      have hI10 := hI9.ext e10_3
      have hB10 : Blk w10_3 b10_3 (.cells (encPr rm[i].1).toArray 42 (0, 0)) := hB10_3
      have hl9 := hB10.lt
      have hpe := erase_perm rm hi
      have hle := hpe.length_eq
      rw [List.length_cons] at hle
      have hP' : ((D ++ [rm[i]]) ++ rm.eraseIdx i).Perm Wm := by
        rw [List.append_assoc, List.singleton_append]
        exact (List.Perm.append_left D hpe).trans hP
      have hnk : rm[i].1 ∉ D.map (·.1) := by
        have h1 := (hP'.map (·.1)).nodup_iff.2 hWn
        rw [List.map_append, List.map_append] at h1
        have h2 := (List.nodup_append.1 (List.nodup_append.1 h1).1).2.2
        intro hm
        exact h2 _ hm _ (by simp) rfl
      have hqn : (tget (hmap cs fun c => c) rm[i].1.1).isSome = true → (tget (hmap cs fun c => c) rm[i].1.2).isSome = true → ∀ q v, tget (tset Wg rm[i].1 rm[i].2) q = some v ↔ (q, v) ∈ D ++ [rm[i]] ∧ q.1 ∈ cs ∧ q.2 ∈ cs := fun h1 h2 q v => by
        rw [hmap_get] at h1 h2
        have c1 : rm[i].1.1 ∈ cs := by refine Classical.byContradiction fun h => ?_; rw [if_neg h] at h1; cases h1
        have c2 : rm[i].1.2 ∈ cs := by refine Classical.byContradiction fun h => ?_; rw [if_neg h] at h2; cases h2
        rw [tget_tset, List.mem_append, List.mem_singleton]
        by_cases e : q = rm[i].1
        · rw [if_pos e]
          constructor
          · intro h3; injection h3 with h3
            exact ⟨.inr (by rw [e, ← h3]), by rw [e]; exact c1, by rw [e]; exact c2⟩
          · rintro ⟨h3 | h3, _⟩
            · exact absurd (List.mem_map.2 ⟨_, h3, e⟩) hnk
            · rw [← h3]
        · rw [if_neg e, hq]
          constructor
          · rintro ⟨h3, h4⟩; exact ⟨.inl h3, h4⟩
          · rintro ⟨h3 | h3, h4⟩
            · exact ⟨h3, h4⟩
            · exact absurd (congrArg Prod.fst h3) e
      have hqs : ((tget (hmap cs fun c => c) rm[i].1.1).isSome = false ∨ (tget (hmap cs fun c => c) rm[i].1.2).isSome = false) → ∀ q v, tget Wg q = some v ↔ (q, v) ∈ D ++ [rm[i]] ∧ q.1 ∈ cs ∧ q.2 ∈ cs := fun h1 q v => by
        rw [hmap_get, hmap_get] at h1
        rw [hq, List.mem_append, List.mem_singleton]
        constructor
        · rintro ⟨h3, h4⟩; exact ⟨.inl h3, h4⟩
        · rintro ⟨h3 | h3, h4, h5⟩
          · exact ⟨h3, h4, h5⟩
          · exfalso
            have e : q = rm[i].1 := congrArg Prod.fst h3
            rw [e] at h4 h5
            rw [if_pos h4, if_pos h5] at h1
            rcases h1 with h1 | h1 <;> cases h1
      refine V.region (VL.op (R.mvM rfl) (VL.op (R.ixA Try.runUnderlying42 Try.sizeOf3 rfl rfl (by decide) (by decide)) (VL.op (R.ld1 Try.isAgg3 rfl (hB10.cell _)) (VL.op (R.lookupOkI key3 Try.runUnderlying68 Try.zeroValue3 (hG9.mh) ((tget (hmap cs fun c => c) rm[i].1.1)) ((tget_enc vI (hmap cs fun c => c) rm[i].1.1)) rfl rfl) (VL.op (R.mvT rfl) (VL.op (R.extr rfl rfl) (VL.op (R.extr rfl rfl) (VL.op (R.asI rfl) (VL.op (R.asB rfl) (VL.nil (V.seq (V.region (VL.op (R.mvB rfl) (VL.nil (V.cond rfl (fun c61 => V.seq (V.region (VL.op (R.mvM rfl) (VL.op (R.ixA Try.runUnderlying42 Try.sizeOf3 rfl rfl (by decide) (by decide)) (VL.op (R.ld1 Try.isAgg3 rfl (hB10.cell _)) (VL.op (R.lookupOkI key3 Try.runUnderlying68 Try.zeroValue3 (hG9.mh) ((tget (hmap cs fun c => c) rm[i].1.2)) ((tget_enc vI (hmap cs fun c => c) rm[i].1.2)) rfl rfl) (VL.op (R.mvT rfl) (VL.op (R.extr rfl rfl) (VL.op (R.extr rfl rfl) (VL.op (R.asI rfl) (VL.op (R.asB rfl) (VL.nil (V.seq (V.region (VL.op (R.mvB rfl) (VL.nil (V.cond rfl (fun c69 => V.region (VL.op (R.mvM rfl) (VL.op (R.ldA Try.isAgg42 Try.sizeOf42 rfl rfl ((show RowAt _ _ _ (encPr rm[i].1) from hB10.rowAt 0 2)) rfl) (VL.op (R.mvI rfl) (VL.mapUpdate key42 Try.runUnderlying49 rfl (k := rm[i].1) rfl rfl (hG9.mw) fun w15 hM15 m15 => VL.nil (?_)))))) (fun c69 => V.skip (?_))))))))))))))))))) (fun c61 => V.skip (?_)))))))))))))))))
      · have no : ∀ b, b ≠ rw_ → ¬ one rw_ b := fun b h e => h e
        refine ⟨(rm.eraseIdx i, D ++ [rm[i]], tset Wg rm[i].1 rm[i].2), rfl, ⟨hP', ?_, hb9.mod m15 (no _ (by omega)), ?_, hqn c61 c69, _, hI10.mod m15 (no _ (by omega)) (no _ (by omega))⟩, by dsimp only; omega⟩
        · refine hG9.setW ?_ m15
          dsimp only
          rw [tset_enc]; exact hM15
        · dsimp only
          have := tset_len Wg rm[i].1 rm[i].2
          rw [List.length_append, List.length_singleton]; omega
      · exact ⟨(rm.eraseIdx i, D ++ [rm[i]], Wg), rfl, ⟨hP', hG9, hb9, by dsimp only; rw [List.length_append]; omega, hqs (.inr c69), _, hI10⟩, by dsimp only; omega⟩
      · exact ⟨(rm.eraseIdx i, D ++ [rm[i]], Wg), rfl, ⟨hP', hG9, hb9, by dsimp only; rw [List.length_append]; omega, hqs (.inl c61), _, hI10⟩, by dsimp only; omega⟩
  · have hne : it4 ≠ r2 := by have := hBB2.1.e.size; omega
    have z16 := e16.size
    have lit := hI16.lt
    have hs0 := hBB2.1.sz
    refine V.loop [1, 5, 6, 7, 75] (fun x : List ((Int × Int) × Bool) × List ((Int × Int) × Bool) × List ((Int × Int) × Bool) => [.slice ca cs.length cc, .map (some rh), .map (some rw_), .map (some ra), .pointer (some ⟨it4, 0, none⟩)])
      (fun x w' => (x.2.1 ++ x.1).Perm Am ∧ GrS w rh rw_ ra (hmap cs fun c => c) xB2 x.2.2 w' ∧ x.2.2.length ≤ x.2.1.length ∧ (∀ e ∈ x.2.2, e.2 = true) ∧ (∀ q, q ∈ x.2.2.map (·.1) ↔ q ∈ x.2.1.map (·.1)) ∧ ∃ last, IterAt w' it4 r2 encP (tenc vB Am) (tenc vB x.1) last) (fun x => x.1.length) (Am, [], []) rfl
      ⟨by simp, hBB2.1.ext e16, Nat.le_refl _, fun e he => (by cases he), fun q => Iff.rfl, _, hI16⟩ ?_
    rintro ρ ⟨rm, D, Ag⟩ w3 ⟨hP, hG, hl, hv, hq, last, hI⟩
    dsimp only at hP hG hl hv hq hI ⊢
    have hlo := hG.lo
    refine V.seq (V.region (VL.nextT rfl (hI) (hne) (fun h0_17_0 => VL.op (R.extr rfl rfl) (VL.nil (V.seq (V.condF rfl (V.exit (?_)))))) (fun i hi w17 m17 hs17 hI17 => VL.op (R.extr rfl rfl) (VL.nil (V.seq (V.condT rfl (V.skip (V.block (V.seq (V.region (VL.op (R.entry rfl (hI17)) (VL.op (R.extr rfl rfl) (VL.allocSt (v := .agg (encPr rm[i].1).toArray) Try.zeroValue42 Try.sizeOf42 rfl rfl rfl rfl rfl fun b18_2 w18_2 hb18_2 e18_2 hB18_2 => VL.nil (?_))))))))))))))
    · subst h0_17_0
      rw [List.append_nil] at hP
      exact ⟨Ag, rfl, hG, by have := hP.length_eq; omega, hv, fun q => by rw [hq, (hP.map (·.1)).mem_iff]⟩
    · have hG9 := (hG.mod m17 (fun k hk => by have hk : k = it4 := hk; omega)).ext e18_2
      have hI18 := hI17.ext e18_2
      have hB18 : Blk w18_2 b18_2 (.cells (encPr rm[i].1).toArray 42 (0, 0)) := hB18_2
      have hpe := erase_perm rm hi
      have hle := hpe.length_eq
      rw [List.length_cons] at hle
      have hP' : ((D ++ [rm[i]]) ++ rm.eraseIdx i).Perm Am := by
        rw [List.append_assoc, List.singleton_append]
        exact (List.Perm.append_left D hpe).trans hP
      have no : ∀ b, b ≠ ra → ¬ one ra b := fun b h e => h e
      refine V.region (VL.op (R.mvM rfl) (VL.op (R.ldA Try.isAgg42 Try.sizeOf42 rfl rfl ((show RowAt _ _ _ (encPr rm[i].1) from hB18.rowAt 0 2)) rfl) (VL.mapUpdate key42 Try.runUnderlying50 rfl (k := rm[i].1) rfl rfl (hG9.ma) fun w19 hM19 m19 => VL.nil (⟨(rm.eraseIdx i, D ++ [rm[i]], tset Ag rm[i].1 true), rfl, ⟨hP', hG9.setA ?_ m19, ?_, ?_, ?_, _, hI18.mod m19 (no _ (by omega)) (no _ (by omega))⟩, ?_⟩))))
      · dsimp only; rw [tset_enc]; exact hM19
      · dsimp only
        have := tset_len Ag rm[i].1 true
        rw [List.length_append, List.length_singleton]; omega
      · intro e he
        rcases tset_mem he with h | h
        · rw [h]
        · exact hv e h
      · intro q
        dsimp only
        rw [tset_keys, List.map_append, List.mem_append, List.map_singleton, List.mem_singleton]
        by_cases hm : rm[i].1 ∈ Ag.map (·.1)
        · rw [if_pos hm, hq]
          exact ⟨.inl, fun h => h.elim id fun e => by rw [e]; exact (hq _).1 hm⟩
        · rw [if_neg hm, List.mem_append, List.mem_singleton, hq]
      · dsimp only; omega
  · have hAn : ∀ q : Int × Int, apM Am q.1 q.2 = true ↔ ordF q.1 q.2 ∈ Am.map (·.1) := fun q => by unfold apM; exact tget_true fun e he => (hAo e he).2
    have hsym : ∀ a b, apM Am a b = apM Am b a := fun a b => by unfold apM; rw [show ordF a b = ordF b a by unfold ordF; rw [Prod.mk.injEq]; omega]
    obtain ⟨hG4, hl4, hv4, hq4⟩ := hBB4
    have hGM0 : GM (wtM Wm) (apM Am) cs (fun c => c) xB2 xB4 := by
      have hgx := hBB2.2.2.2
      refine ⟨by have := hG4.mw.nd; rwa [tenc_keys] at this, fun e he => ?_, fun a ha b hb _ _ hab => ?_, hv4, fun e he => ?_, fun a ha b hb _ _ hab => ?_⟩
      · have h1 : tget xB2 e.1 = some e.2 := (tget_mem (by have := hG4.mw.nd; rwa [tenc_keys] at this)).2 he
        obtain ⟨h2, h3, h4⟩ := (hgx _ _).1 h1
        exact ⟨h3, h4, rfl, rfl, hWo _ h2⟩
      · rw [btw_start hnd ha hb, wtS, if_pos hab, wtM]
        have hWn : (Wm.map (·.1)).Nodup := by have := hE.wt.nd; rwa [tenc_keys] at this
        cases h1 : tget xB2 (a, b) with
        | some v => rw [(tget_mem hWn).2 ((hgx _ _).1 h1).1]
        | none =>
          cases h2 : tget Wm (a, b) with
          | none => rfl
          | some v => rw [(hgx _ _).2 ⟨(tget_mem hWn).1 h2, ha, hb⟩] at h1; cases h1
      · have : e.1 ∈ Am.map (·.1) := (hq4 _).1 (List.mem_map.2 ⟨e, he, rfl⟩)
        obtain ⟨e0, h1, h2⟩ := List.mem_map.1 this
        rw [← h2]; exact (hAo e0 h1).1
      · rw [hq4]
        have hor : ordF a b = (a, b) := (ord_eq hab).2 (.inl ⟨rfl, rfl⟩)
        have := hAn (a, b)
        dsimp only at this
        rw [hor] at this
        rw [← this]
        exact ⟨fun h => ⟨a, ha, b, hb, rfl, rfl, h⟩, fun ⟨c, _, d, _, e1, e2, e3⟩ => by rw [← e1, ← e2]; exact e3⟩
    refine V.loop [1, 5, 6, 7] (fun x : (Int → Int) × List ((Int × Int) × Int) × List ((Int × Int) × Bool) => [.slice ca cs.length cc, .map (some rh), .map (some rw_), .map (some ra)])
      (fun x w' => GrS w rh rw_ ra (hmap cs x.1) x.2.1 x.2.2 w' ∧ HOk cs x.1 ∧ GM (wtM Wm) (apM Am) cs x.1 x.2.1 x.2.2 ∧ x.2.1.length ≤ Wm.length ∧ (∀ q ∈ x.2.2.map (·.1), q.1 ∈ univ cs Am ∧ q.2 ∈ univ cs Am) ∧ ∀ h', Grd (wtM Wm) (apM Am) cs x.1 h' → Grd (wtM Wm) (apM Am) cs (fun c => c) h') (fun x => nHd cs x.1) (fun c => c, xB2, xB4) rfl ⟨hG4, HOk.start cs, hGM0, hBB2.2.2.1, ?_, fun h' h => h⟩ ?_
    · intro q hq
      dsimp only at hq
      rw [hq4] at hq
      obtain ⟨e, he, rfl⟩ := List.mem_map.1 hq
      unfold univ
      exact ⟨List.mem_append_right _ (List.mem_append_left _ (List.mem_map.2 ⟨e, he, rfl⟩)), List.mem_append_right _ (List.mem_append_right _ (List.mem_map.2 ⟨e, he, rfl⟩))⟩
    rintro ρ ⟨h, Wg, Ag⟩ w3 ⟨hG, hOk, hGM, hWgl, hAgl, hGr⟩
    dsimp only at hG hOk hGM hWgl hAgl hGr ⊢
    have hlo := hG.lo
    have hsz := hG.sz
    refine V.block (V.seq (V.region (VL.alloc Try.zeroValue42 fun b17 w20 hb17 e20 hB17 => VL.nil (V.seq (V.region (VL.op (R.asI rfl) (VL.nil (V.cut [1, 5, 6, 7, 17, 18] (fun x : (Int × Int) × Int => [.slice ca cs.length cc, .map (some rh), .map (some rw_), .map (some ra), .pointer (some ⟨b17, 0, none⟩), .int .i64 x.2]) (fun x w' => GrS w rh rw_ ra (hmap cs h) Wg Ag w' ∧ Blk w' b17 (.cells (encPr x.1).toArray 42 (0, 0)) ∧ ∃ D, D.Perm Wg ∧ BestK Ag D x.1 x.2) (V.seq (V.region (VL.op (R.mvM rfl) (VL.range Try.runUnderlying49 rfl ((hG.mw.ext e20)) fun it8 w22 hit8 e22 hI22 => VL.nil (V.block (?_)))))) (fun rgB8 xB8 wBB8 hBB8 => V.seq (V.seq (V.region (VL.op (R.mvI rfl) (VL.op (R.eql rfl rfl) (VL.nil (V.condP rfl (fun c116 => V.exit (?_)) (fun c116 => V.skip (V.cut [1, 5, 6, 7, 17] (fun _ : Unit => [.slice ca cs.length cc, .map (some rh), .map (some rw_), .map (some ra), .pointer (some ⟨b17, 0, none⟩)]) (fun _ w' => GrS w rh rw_ ra (hmap cs (mrg h xB8.1)) Wg Ag w' ∧ Blk w' b17 (.cells (encPr xB8.1).toArray 42 (0, 0))) (V.seq (V.region (VL.op (R.mvM rfl) (VL.range Try.runUnderlying68 rfl (hBB8.1.mh) fun it10 w28 hit10 e28 hI28 => VL.nil (V.block (?_)))))) (fun rgB10 xB10 wBB10 hBB10 => V.seq (?_)))))))))))))))))))
    · have hB17 : Blk w20 b17 (.cells (encPr (0, 0)).toArray 42 (0, 0)) := hB17
      have z20 := e20.size
      have z22 := e22.size
      have l17 := hB17.lt
      have lit := hI22.lt
      have hne : it8 ≠ rw_ := by omega
      have hG22 := hG.ext (e20.trans e22)
      refine V.loop [1, 5, 6, 7, 17, 18, 83] (fun x : List ((Int × Int) × Int) × List ((Int × Int) × Int) × (Int × Int) × Int => [.slice ca cs.length cc, .map (some rh), .map (some rw_), .map (some ra), .pointer (some ⟨b17, 0, none⟩), .int .i64 x.2.2.2, .pointer (some ⟨it8, 0, none⟩)])
        (fun x w' => (x.2.1 ++ x.1).Perm Wg ∧ GrS w rh rw_ ra (hmap cs h) Wg Ag w' ∧ Blk w' b17 (.cells (encPr x.2.2.1).toArray 42 (0, 0)) ∧ BestK Ag x.2.1 x.2.2.1 x.2.2.2 ∧ ∃ last, IterAt w' it8 rw_ encP (tenc vI Wg) (tenc vI x.1) last) (fun x => x.1.length) (Wg, [], (0, 0), 0) rfl
        ⟨by simp, hG22, hB17.ext e22, BestK.start _ _, _, hI22⟩ ?_
      rintro ρ ⟨rm, D, q, mo⟩ w4 ⟨hP, hG4, hb4, hbk, last, hI⟩
      dsimp only at hP hG4 hb4 hbk hI ⊢
      refine V.seq (V.region (VL.nextT rfl (hI) (hne) (fun h0_23_0 => VL.op (R.extr rfl rfl) (VL.nil (V.seq (V.condF rfl (V.exit (?_)))))) (fun i hi w5 m5 hs5 hI5 => VL.op (R.extr rfl rfl) (VL.nil (V.seq (V.condT rfl (V.skip (V.block (V.seq (V.region (VL.op (R.entry rfl (hI5)) (VL.op (R.extr rfl rfl) (VL.op (R.extr rfl rfl) (VL.allocSt (v := .agg (encPr rm[i].1).toArray) Try.zeroValue42 Try.sizeOf42 rfl rfl rfl rfl rfl fun b24_3 w24_3 hb24_3 e24_3 hB24_3 => VL.op (R.asI rfl) (VL.nil (V.seq (?_)))))))))))))))))
      · subst h0_23_0
        rw [List.append_nil] at hP
        exact ⟨(q, mo), rfl, hG4, hb4, D, hP, hbk⟩
      · have hG5 := (hG4.mod m5 (fun k hk => by have hk : k = it8 := hk; omega)).ext e24_3
        have hI6 := hI5.ext e24_3
        have hB24 : Blk w24_3 b24_3 (.cells (encPr rm[i].1).toArray 42 (0, 0)) := hB24_3
        have hb5 := (hb4.mod m5 (fun hk => by have hk : b17 = it8 := hk; omega)).ext e24_3
        have hpe := erase_perm rm hi
        have hle := hpe.length_eq
        rw [List.length_cons] at hle
        obtain ⟨⟨p, v⟩, hpv⟩ : ∃ e, e = rm[i] := ⟨_, rfl⟩
        have hP' : ((D ++ [(p, v)]) ++ rm.eraseIdx i).Perm Wg := by
          rw [List.append_assoc, List.singleton_append, hpv]
          exact (List.Perm.append_left D hpe).trans hP
        rw [← hpv] at hB24 ⊢
        clear hB24_3
        refine V.regionQCut mixed 24 (by kernel_rfl) rfl (fun w' => Ext _ w') (Ext.drawn _) [89, 90, 91, 92, 93, 94, 95, 96, 97, 98, 99, 100, 101, 102, 103, 104, 105, 106, 107, 108, 109, 110, 111, 112] 112 (.bool (chB ((tget Ag p).getD false) v mo (decide (ltP p q)))) rfl (VQ.op (fun wq eq => R.mvM rfl) (VQ.op (fun wq eq => R.ldA Try.isAgg42 Try.sizeOf42 rfl rfl ((show RowAt _ _ _ (encPr p) from (hB24.ext eq).rowAt 0 2)) rfl) (VQ.op (fun wq eq => R.lookupV key42 Try.runUnderlying50 Try.zeroValue4 (hG5.ma.ext eq) (apv_val Ag p) rfl rfl) (VQ.op (fun wq eq => R.not rfl) (VQ.op (fun wq eq => R.mvB rfl) (VQ.and rfl rfl (fun g25_4 => VQ.op (fun wq eq => R.mvI rfl) (VQ.gT rfl rfl (VQ.op (fun wq eq => R.mvI rfl) (VQ.gT rfl rfl (VQ.op (fun wq eq => R.gtr rfl rfl) (VQ.gT rfl rfl (VQ.op (fun wq eq => R.mvB rfl) (VQ.orP rfl rfl (fun g25_8 => VQ.op (fun wq eq => R.mvI rfl) (VQ.gT rfl rfl (VQ.op (fun wq eq => R.mvI rfl) (VQ.gT rfl rfl (VQ.op (fun wq eq => R.eql rfl rfl) (VQ.gT rfl rfl (VQ.op (fun wq eq => R.mvB rfl) (VQ.andP rfl rfl (fun g25_12 => VQ.op (fun wq eq => R.mvI rfl) (VQ.gT rfl rfl (VQ.op (fun wq eq => R.gtr rfl rfl) (VQ.gT rfl rfl (VQ.op (fun wq eq => R.pickTB rfl rfl) (VQ.gT rfl rfl (VQ.op (fun wq eq => R.mvB rfl) (VQ.andP rfl rfl (fun g25_16 => VQ.op (fun wq eq => R.slArr Try.runUnderlying42 Try.sizeOf3 rfl) (VQ.gT rfl rfl (VQ.op (fun wq eq => R.slArr Try.runUnderlying42 Try.sizeOf3 rfl) (VQ.gT rfl rfl (VQ.callP (fun _ _ h k => Mod.trans h k) Try.call54 rfl (fun wq eq => compare_spec (some ⟨b24_3, 0, none⟩) (some ⟨b17, 0, none⟩) 2 2 [p.1, p.2] [q.1, q.2] _ (Nat.le_of_ble_eq_true rfl) rfl ((hB24.ext eq).sl (fun _ _ => rfl) rfl) ((hb5.ext eq).sl (fun _ _ => rfl) rfl)) (VQ.gT rfl rfl (VQ.op (fun wq eq => R.lss rfl rfl) (VQ.gT rfl rfl (VQ.op (fun wq eq => R.pickTB rfl rfl) (VQ.gT rfl rfl (VQ.op (fun wq eq => R.pickFB rfl rfl) (VQ.op (fun wq eq => R.pickTB rfl rfl) (VQ.nil (cutB rfl ?_)))))))))))))) (fun g25_16 => VQ.gF rfl rfl (VQ.gF rfl rfl (VQ.gF rfl rfl (VQ.gT rfl rfl (VQ.op (fun wq eq => R.pickFB rfl rfl) (VQ.gT rfl rfl (VQ.op (fun wq eq => R.pickFB rfl rfl) (VQ.op (fun wq eq => R.pickTB rfl rfl) (VQ.nil (cutB rfl ?_)))))))))))))))))) (fun g25_12 => VQ.gF rfl rfl (VQ.gT rfl rfl (VQ.op (fun wq eq => R.pickFB rfl rfl) (VQ.gT rfl rfl (VQ.op (fun wq eq => R.mvB rfl) (VQ.gF rfl rfl (VQ.gF rfl rfl (VQ.gF rfl rfl (VQ.gF rfl rfl (VQ.gT rfl rfl (VQ.op (fun wq eq => R.pickFB rfl rfl) (VQ.gT rfl rfl (VQ.op (fun wq eq => R.pickFB rfl rfl) (VQ.op (fun wq eq => R.pickTB rfl rfl) (VQ.nil (cutB rfl ?_)))))))))))))))))))))))) (fun g25_8 => VQ.gF rfl rfl (VQ.gF rfl rfl (VQ.gF rfl rfl (VQ.gU rfl rfl (VQ.gU rfl rfl (VQ.gF rfl rfl (VQ.gF rfl rfl (VQ.gU rfl rfl (VQ.gU rfl rfl (VQ.gU rfl rfl (VQ.gU rfl rfl (VQ.gF rfl rfl (VQ.gT rfl rfl (VQ.op (fun wq eq => R.pickTB rfl rfl) (VQ.op (fun wq eq => R.pickTB rfl rfl) (VQ.nil (cutB rfl ?_))))))))))))))))))))))))) (fun g25_4 => VQ.gF rfl rfl (VQ.gF rfl rfl (VQ.gF rfl rfl (VQ.gU rfl rfl (VQ.gU rfl rfl (VQ.gU rfl rfl (VQ.gU rfl rfl (VQ.gU rfl rfl (VQ.gU rfl rfl (VQ.gU rfl rfl (VQ.gU rfl rfl (VQ.gU rfl rfl (VQ.gU rfl rfl (VQ.gU rfl rfl (VQ.gU rfl rfl (VQ.gU rfl rfl (VQ.gF rfl rfl (VQ.op (fun wq eq => R.pickFB rfl rfl) (VQ.nil (cutB rfl ?_)))))))))))))))))))))))))) (fun rg25 w25c e25c => V.cond rfl (fun c112 => ?_) (fun c112 => V.skip (?_)))
        · unfold chB
          rw [show decide (orL (cmpLs [p.1, p.2] [q.1, q.2]) < 0) = decide (ltP p q) from decide_eq_decide.2 (cmp_pr p q)]
          simp_all
        iterate 4
          · unfold chB
            first | (simp_all; done) | (simp_all; intro h; omega)
        · have no : ∀ b, b ≠ b17 → ¬ one b17 b := fun b h e => h e
          refine V.region (VL.op (R.ldA Try.isAgg42 Try.sizeOf42 rfl rfl ((show RowAt _ _ _ (encPr p) from (hB24.ext e25c).rowAt 0 2)) rfl) (VL.op (R.mvI rfl) (VL.store (v := .agg _) Try.sizeOf42 rfl rfl rfl rfl (hb5.ext e25c) rfl rfl fun w26 m26 hs26 hB26 => VL.op (R.asI rfl) (VL.nil (?_)))))
          refine ⟨(rm.eraseIdx i, D ++ [(p, v)], p, v), rfl, ⟨hP', (hG5.ext e25c).mod m26 (fun k hk => by have hk : k = b17 := hk; omega), hB26, hbk.take c112, _, (hI6.ext e25c).mod m26 (no _ (by omega)) (no _ (by omega))⟩, by dsimp only; omega⟩
        · exact ⟨(rm.eraseIdx i, D ++ [(p, v)], q, mo), rfl, ⟨hP', hG5.ext e25c, hb5.ext e25c, hbk.skip c112, _, hI6.ext e25c⟩, by dsimp only; omega⟩
    · obtain ⟨hG8, hB8, D, hD, hbk⟩ := hBB8
      exact ⟨h, rfl, hG8.e, hG8.mh, hOk, hGr h (Grd.stop h (best_none hGM hD (by rw [← c116]; exact hbk)))⟩
    · obtain ⟨⟨q, mo⟩, hxq⟩ : ∃ x, x = xB8 := ⟨_, rfl⟩
      rw [← hxq] at hBB8 c116 ⊢
      dsimp only at hBB8 c116 ⊢
      clear hxq xB8
      obtain ⟨hG8, hB8, D0, hD, hbk⟩ := hBB8
      have hnx := best_next hGM hD hbk c116
      have hlo8 := hG8.lo
      have hsz8 := hG8.sz
      have z28 := e28.size
      have lit := hI28.lt
      have lb8 := hB8.lt
      have hne : it10 ≠ rh := by omega
      refine V.loop [1, 5, 6, 7, 17, 118] (fun x : List (Int × Int) × List Int × (Int → Int) => [.slice ca cs.length cc, .map (some rh), .map (some rw_), .map (some ra), .pointer (some ⟨b17, 0, none⟩), .pointer (some ⟨it10, 0, none⟩)])
        (fun x w' => (x.2.1 ++ x.1.map (·.1)).Perm cs ∧ (∀ e ∈ x.1, e.2 = h e.1) ∧ (∀ c, x.2.2 c = if c ∈ x.2.1 then mrg h q c else h c) ∧ GrS w rh rw_ ra (hmap cs x.2.2) Wg Ag w' ∧ Blk w' b17 (.cells (encPr q).toArray 42 (0, 0)) ∧ ∃ last, IterAt w' it10 rh vI (tenc vI (hmap cs x.2.2)) (tenc vI x.1) last) (fun x => x.1.length) (hmap cs h, [], h) rfl
        ⟨?_, ?_, fun c => by rw [if_neg (by simp)], hG8.ext e28, hB8.ext e28, _, hI28⟩ ?_
      · rw [List.nil_append]; unfold hmap; rw [List.map_map]; show (cs.map fun c => c).Perm cs; rw [List.map_id']
      · intro e he
        unfold hmap at he
        obtain ⟨c, _, rfl⟩ := List.mem_map.1 he
        rfl
      rintro ρ ⟨rm, D, f⟩ w4 ⟨hP, hv, hf, hG4, hb4, last, hI⟩
      dsimp only at hP hv hf hG4 hb4 hI ⊢
      refine V.seq (V.region (VL.nextT rfl (hI) (hne) (fun h0_29_0 => VL.op (R.extr rfl rfl) (VL.nil (V.seq (V.condF rfl (V.exit (?_)))))) (fun i hi w5 m5 hs5 hI5 => VL.op (R.extr rfl rfl) (VL.nil (V.seq (V.condT rfl (V.skip (V.block (V.seq (V.region (VL.op (R.entry rfl (hI5)) (VL.op (R.extr rfl rfl) (VL.op (R.extr rfl rfl) (VL.op (R.asI rfl) (VL.op (R.asI rfl) (VL.nil (V.seq (?_))))))))))))))))))
      · subst h0_29_0
        rw [List.map_nil, List.append_nil] at hP
        refine ⟨(), rfl, ?_, hb4⟩
        have : hmap cs (mrg h q) = hmap cs f := by
          unfold hmap
          exact List.map_congr_left fun c hc => by rw [hf, if_pos (hP.mem_iff.2 hc)]
        rw [this]; exact hG4
      · have hG5 := hG4.mod m5 (fun k hk => by have hk : k = it10 := hk; omega)
        have hb5 := hb4.mod m5 (fun hk => by have hk : b17 = it10 := hk; omega)
        have hpe := erase_perm rm hi
        have hle := hpe.length_eq
        rw [List.length_cons] at hle
        obtain ⟨⟨c, v⟩, hpv⟩ : ∃ e, e = rm[i] := ⟨_, rfl⟩
        have hvc : v = h c := by have := hv (c, v) (by rw [hpv]; exact List.getElem_mem _); exact this
        rw [← hpv] at hpe
        have hP' : ((D ++ [c]) ++ (rm.eraseIdx i).map (·.1)).Perm cs := by
          have h2 := hpe.map (·.1)
          rw [List.map_cons] at h2
          rw [List.append_assoc, List.singleton_append]
          exact (List.Perm.append_left D h2).trans hP
        have hcc : c ∈ cs := hP'.mem_iff.1 (by simp)
        have hv' : ∀ e ∈ rm.eraseIdx i, e.2 = h e.1 := fun e he => hv e ((List.eraseIdx_sublist _ _).subset he)
        rw [← hpv] at hI5 ⊢
        subst hvc
        refine V.region (VL.op (R.mvI rfl) (VL.op (R.ixA Try.runUnderlying42 Try.sizeOf3 rfl rfl (by decide) (by decide)) (VL.op (R.ld1 Try.isAgg3 rfl (hb5.cell 1)) (VL.op (R.eql rfl rfl) (VL.nil (V.condP rfl (fun c127 => V.region (VL.op (R.mvM rfl) (VL.op (R.mvI rfl) (VL.op (R.ixA Try.runUnderlying42 Try.sizeOf3 rfl rfl (by decide) (by decide)) (VL.op (R.ld1 Try.isAgg3 rfl (hb5.cell 0)) (VL.mapUpdateI key3 Try.runUnderlying68 (k := c) rfl rfl rfl (hI5) (hne) fun w32 hI32 m32 hs32 => VL.nil (?_))))))) (fun c127 => V.skip (?_))))))))
        · have hmc : mrg h q c = q.1 := by unfold mrg; rw [if_pos c127]
          have hI32 : IterAt w32 it10 rh vI (mset (tenc vI (hmap cs f)) c (vI q.1)) (tenc vI (rm.eraseIdx i)) none := hI32
          rw [← tset_enc, hmap_set f c q.1 hnd hcc] at hI32
          refine ⟨(rm.eraseIdx i, D ++ [c], fun x => if x = c then q.1 else f x), rfl, ⟨hP', hv', fun x => ?_, hG5.setH hI32.is m32, hb5.mod m32 (fun hk => by have hk : b17 = rh := hk; omega), _, hI32⟩, by dsimp only; omega⟩
          dsimp only
          by_cases e : x = c
          · subst e
            rw [if_pos rfl, if_pos (by simp), hmc]
          · rw [if_neg e, hf]
            have : x ∈ D ++ [c] ↔ x ∈ D := by simp [e]
            simp only [this]
        · have hmc : mrg h q c = h c := by unfold mrg; rw [if_neg c127]
          refine ⟨(rm.eraseIdx i, D ++ [c], f), rfl, ⟨hP', hv', fun x => ?_, hG5, hb5, _, hI5⟩, by dsimp only; omega⟩
          dsimp only
          rw [hf]
          by_cases e : x = c
          · subst e
            rw [if_pos (show x ∈ D ++ [x] by simp), hmc]; split <;> rfl
          · have : x ∈ D ++ [c] ↔ x ∈ D := by simp [e]
            simp only [this]
    · obtain ⟨⟨q, mo⟩, hxq⟩ : ∃ x, x = xB8 := ⟨_, rfl⟩
      rw [← hxq] at hBB8 hBB10 c116
      dsimp only at hBB8 hBB10 c116
      clear hxq xB8
      obtain ⟨_, _, D0, hD, hbk⟩ := hBB8
      have hnx := best_next hGM hD hbk c116
      clear hbk hD D0
      obtain ⟨hG10, hB10⟩ := hBB10
      have hlo10 := hG10.lo
      have hsz10 := hG10.sz
      have hWb : ∀ e ∈ Wg, -10000000000000000 ≤ e.2 ∧ e.2 ≤ 10000000000000000 := fun e he => by
        rw [(okE_cand hGM he).1]; exact btw_bnd hB hn _ _ _
      have l17 : b17 < wBB10.heap.size := hB10.lt
      have lw17 : ra < b17 := by have := hG.sz; omega
      refine V.region (VL.op (R.mkFn rfl rfl) (VL.op (R.asF rfl) (VL.nil (V.seq (V.region (VL.op (R.mvM rfl) (VL.callX Try.call56 rfl (cloneM_spec _ _ _ hG10.mw) fun om w34 hom e34 => VL.op (R.asM rfl) (VL.nil (V.seq (V.region (VL.op (R.mvM rfl) (VL.clearM Try.runUnderlying49 rfl ((hG10.mw.ext e34)) fun w35 hM35 m35 => VL.nil (V.cut [1, 5, 6, 7, 17, 23] (fun Wn : List ((Int × Int) × Int) => [.slice ca cs.length cc, .map (some rh), .map (some rw_), .map (some ra), .pointer (some ⟨b17, 0, none⟩), .func (.func 55) #[] #[.pointer (some ⟨b17, 0, none⟩)]]) (fun Wn w' => GrS w rh rw_ ra (hmap cs (mrg h q)) Wn Ag w' ∧ Blk w' b17 (.cells (encPr q).toArray 42 (0, 0)) ∧ Wn.length ≤ Wg.length ∧ (∀ e ∈ Wn, ∃ e0 ∈ Wg, e.1 = renP q e0.1 ∧ e.1.1 ≠ e.1.2) ∧ ∀ p : Int × Int, p.1 ≠ p.2 → (tget Wn p).getD 0 = sm (Wg.map fun e => if renP q e.1 = p then e.2 else 0)) (V.seq (V.region (VL.op (R.mvM rfl) (VL.range Try.runUnderlying49 rfl ((hom.1.mod m35 (fun hk => by have hk : om = rw_ := hk; omega))) fun it12 w36 hit12 e36 hI36 => VL.nil (V.block (?_)))))) (fun rgB12 xB12 wBB12 hBB12 => V.seq (?_)))))))))))))))
      · have hG35 := (hG10.ext e34).setW (Wg' := []) hM35 m35
        have hb35 := (hB10.ext e34).mod m35 (fun hk => by have hk : b17 = rw_ := hk; omega)
        have hG36 := hG35.ext e36
        have hb36 := hb35.ext e36
        have z34 := e34.size
        have z35 := m35.size
        have z36 := e36.size
        have lit := hI36.lt
        have lom := hom.1.lt
        have hne : it12 ≠ om := by omega
        refine V.loop [1, 5, 6, 7, 17, 23, 137] (fun x : List ((Int × Int) × Int) × List ((Int × Int) × Int) × List ((Int × Int) × Int) => [.slice ca cs.length cc, .map (some rh), .map (some rw_), .map (some ra), .pointer (some ⟨b17, 0, none⟩), .func (.func 55) #[] #[.pointer (some ⟨b17, 0, none⟩)], .pointer (some ⟨it12, 0, none⟩)])
          (fun x w' => (x.2.1 ++ x.1).Perm Wg ∧ GrS w rh rw_ ra (hmap cs (mrg h q)) x.2.2 Ag w' ∧ Blk w' b17 (.cells (encPr q).toArray 42 (0, 0)) ∧ x.2.2.length ≤ x.2.1.length ∧ (∀ e ∈ x.2.2, ∃ e0 ∈ Wg, e.1 = renP q e0.1 ∧ e.1.1 ≠ e.1.2) ∧ (∀ p : Int × Int, p.1 ≠ p.2 → (tget x.2.2 p).getD 0 = sm (x.2.1.map fun e => if renP q e.1 = p then e.2 else 0)) ∧ ∃ last, IterAt w' it12 om encP (tenc vI Wg) (tenc vI x.1) last) (fun x => x.1.length) (Wg, [], []) rfl
          ⟨by simp, hG36, hb36, Nat.le_refl _, fun e he => (by cases he), fun p _ => by simp [tget, sm], _, hI36⟩ ?_
        rintro ρ ⟨rm, D, Wn⟩ w4 ⟨hP, hG4, hb4, hl, hk, hv, last, hI⟩
        dsimp only at hP hG4 hb4 hl hk hv hI ⊢
        refine V.seq (V.region (VL.nextT rfl (hI) (hne) (fun h0_37_0 => VL.op (R.extr rfl rfl) (VL.nil (V.seq (V.condF rfl (V.exit (?_)))))) (fun i hi w5 m5 hs5 hI5 => VL.op (R.extr rfl rfl) (VL.nil (V.seq (V.condT rfl (V.skip (V.block (V.seq (V.region (VL.op (R.entry rfl (hI5)) (VL.op (R.extr rfl rfl) (VL.op (R.extr rfl rfl) (VL.allocSt (v := .agg (encPr rm[i].1).toArray) Try.zeroValue42 Try.sizeOf42 rfl rfl rfl rfl rfl fun b38_3 w38_3 hb38_3 e38_3 hB38_3 => VL.op (R.asI rfl) (VL.nil (V.seq (?_)))))))))))))))))
        · subst h0_37_0
          rw [List.append_nil] at hP
          refine ⟨Wn, rfl, hG4, hb4, by have := hP.length_eq; omega, hk, fun p hp => ?_⟩
          rw [hv p hp]
          exact sm_perm (hP.map _)
        · have hpe := erase_perm rm hi
          have hle := hpe.length_eq
          rw [List.length_cons] at hle
          obtain ⟨⟨p, v⟩, hpv⟩ : ∃ e, e = rm[i] := ⟨_, rfl⟩
          rw [← hpv] at hpe
          have hP' : ((D ++ [(p, v)]) ++ rm.eraseIdx i).Perm Wg := by
            rw [List.append_assoc, List.singleton_append]
            exact (List.Perm.append_left D hpe).trans hP
          have hmem : (p, v) ∈ Wg := hP'.mem_iff.1 (by simp)
          have hDW : ∀ e ∈ D, e ∈ Wg := fun e he => hP'.mem_iff.1 (by simp [he])
          have hDl : D.length ≤ 100 := by have := hP'.length_eq; simp at this; omega
          have hG5 := (hG4.mod m5 (fun k hk => by have hk : k = it12 := hk; omega)).ext e38_3
          have hI6 := hI5.ext e38_3
          have hB38 : Blk w38_3 b38_3 (.cells (encPr rm[i].1).toArray 42 (0, 0)) := hB38_3
          have hb5 := (hb4.mod m5 (fun hk => by have hk : b17 = it12 := hk; omega)).ext e38_3
          rw [← hpv] at hB38 ⊢
          clear hB38_3
          have hvW := hWb _ hmem
          dsimp only at hvW
          have hsum : ∀ p' : Int × Int, sm ((D ++ [(p, v)]).map fun e => if renP q e.1 = p' then e.2 else 0) = sm (D.map fun e => if renP q e.1 = p' then e.2 else 0) + if renP q p = p' then v else 0 := fun p' => by
            rw [sm_perm ((List.perm_append_comm (l₁ := D) (l₂ := [(p, v)])).map _)]
            exact Int.add_comm _ _
          have hbS : ∀ p' : Int × Int, -1000000000000000000 ≤ sm (D.map fun e => if renP q e.1 = p' then e.2 else 0) ∧ sm (D.map fun e => if renP q e.1 = p' then e.2 else 0) ≤ 1000000000000000000 := fun p' => by
            have := sm_bnd (M := 10000000000000000) (l := D.map fun e => if renP q e.1 = p' then e.2 else 0) (fun x hx => by
              obtain ⟨e, he, rfl⟩ := List.mem_map.1 hx
              have := hWb e (hDW e he)
              split <;> omega)
            rw [List.length_map] at this
            omega
          refine V.region (VL.op (R.mvF rfl) (VL.op (R.ldA Try.isAgg42 Try.sizeOf42 rfl rfl ((show RowAt _ _ _ (encPr p) from hB38.rowAt 0 2)) rfl) (VL.callCP rfl (Try.call55) rfl (renamed_spec p q b17 _ (hb5.ext (Mod.refl _ _))) fun w39_2 e39_2 => VL.allocSt (v := .agg (encPr (renP q p)).toArray) Try.zeroValue42 Try.sizeOf42 rfl rfl rfl rfl rfl fun b39_3 w39_3 hb39_3 e39_3 hB39_3 => VL.nil (V.seq (V.region (VL.op (R.ixA Try.runUnderlying42 Try.sizeOf3 rfl rfl (by decide) (by decide)) (VL.op (R.ld1 Try.isAgg3 rfl (hB39_3.cell _)) (VL.op (R.ixA Try.runUnderlying42 Try.sizeOf3 rfl rfl (by decide) (by decide)) (VL.op (R.ld1 Try.isAgg3 rfl (hB39_3.cell _)) (VL.op (R.neq rfl rfl) (VL.nil (V.condP rfl (fun c150 => ?_) (fun c150 => V.skip (?_))))))))))))))
          · obtain ⟨p', hp'⟩ : ∃ p', p' = renP q p := ⟨_, rfl⟩
            rw [← hp'] at hB39_3 c150 hsum
            have hne1 : p'.1 ≠ p'.2 := c150
            have hB39 : Blk w39_3 b39_3 (.cells (encPr p').toArray 42 (0, 0)) := hB39_3
            clear hB39_3
            have E39 := e39_2.trans e39_3
            have hG6 := hG5.ext E39
            have hb6 := hb5.ext E39
            have hI7 := hI6.ext E39
            obtain ⟨u, hu⟩ : ∃ u, u = (tget Wn p').getD 0 := ⟨_, rfl⟩
            have hv0 : (mget (tenc vI Wn) p').getD (.int .i64 0) = .int .i64 u := by rw [tget_enc, hu]; cases tget Wn p' <;> rfl
            have hbu : -1000000000000000000 ≤ u ∧ u ≤ 1000000000000000000 := by rw [hu, hv p' hne1]; exact hbS p'
            obtain ⟨es, c0, hMA⟩ := hG6.mw
            refine V.regionW mixed 7 5 (by kernel_rfl) rfl (fun w' => Ext w39_3 w') (fun w' => MapEnt rw_ encP (mset (tenc vI Wn) p' (.int .i64 u)) p' (stampOf (tenc vI Wn) es c0 p') w39_3 w') (Ext.drawn _) ?_
            refine VW.op (fun wq eq => R.mvM rfl) (VW.op0 (fun wq eq => R.ldA Try.isAgg42 Try.sizeOf42 rfl rfl ((show RowAt _ _ _ (encPr p') from (hB39.ext eq).rowAt 0 2)) rfl) (VW.op (v := .int .i64 u) (fun wq eq => ?_) (VW.op (fun wq eq => R.mvI rfl) (VW.op (fun wq eq => R.add rfl rfl (by omega) (by omega)) (VW.wr (v := .tuple #[.int .i64 u, .int .i64 (stampOf (tenc vI Wn) es c0 p' : Nat)]) (fun wq eq => ?_) (VW.op (fun wq eq => R.extr rfl rfl) (VW.nil fun w9 h9 => VL.entryStore rfl rfl rfl h9 fun w9b hM9 m9 => VL.nil ?_)))))))
            · rcases eq with eq | eq
              · exact R.lookupV key42 Try.runUnderlying49 Try.zeroValue3 (hG6.mw.ext eq) hv0 rfl rfl
              · exact R.lookupV key42 Try.runUnderlying49 Try.zeroValue3 eq.is (by rw [mget_mset, if_pos rfl]; rfl) rfl rfl
            · exact R.mapEntryV key42 Try.runUnderlying49 Try.zeroValue3 eq (hMA.mod eq fun e => e) hv0 rfl rfl
            · rw [mset_mset] at hM9
              have hM9 : MapIs w9b rw_ encP (mset (tenc vI Wn) p' (vI (u + v))) := hM9
              rw [← tset_enc] at hM9
              have no : ∀ b, b ≠ rw_ → ¬ one rw_ b := fun b h e => h e
              refine ⟨(rm.eraseIdx i, D ++ [(p, v)], tset Wn p' (u + v)), rfl, ⟨hP', hG6.setW hM9 m9, hb6.mod m9 (no _ (by omega)), ?_, ?_, ?_, _, hI7.mod m9 (no _ (by omega)) (no _ (by omega))⟩, by dsimp only; omega⟩
              · dsimp only
                have := tset_len Wn p' (u + v)
                rw [List.length_append, List.length_singleton]; omega
              · intro e he
                rcases tset_mem he with h1 | h1
                · rw [h1]; exact ⟨(p, v), hmem, hp', hne1⟩
                · exact hk e h1
              · intro r hr
                dsimp only
                rw [tget_tset, hsum]
                by_cases e : r = p'
                · rw [if_pos e, if_pos e.symm, e, ← hv p' hne1, ← hu]; rfl
                · rw [if_neg e, if_neg (fun h => e h.symm), hv r hr]; omega
          · have E39 := e39_2.trans e39_3
            refine ⟨(rm.eraseIdx i, D ++ [(p, v)], Wn), rfl, ⟨hP', hG5.ext E39, hb5.ext E39, by dsimp only; rw [List.length_append]; omega, hk, fun r hr => ?_, _, hI6.ext E39⟩, by dsimp only; omega⟩
            dsimp only
            have hc150 : (renP q p).1 = (renP q p).2 := Classical.not_not.1 c150
            rw [hsum, hv r hr, if_neg (fun h => hr (by rw [← h]; exact hc150))]; omega
      · obtain ⟨hG12, hb12, hl12, hk12, hv12⟩ := hBB12
        have hqm : q.1 ∈ univ cs Am ∧ q.2 ∈ univ cs Am := ⟨List.mem_append_left _ hnx.cand.m1, List.mem_append_left _ hnx.cand.m2⟩
        have hAl1 : Ag.length ≤ 100000 := keys_le hn hAl (by have := hG.ma.nd; rwa [tenc_keys] at this) hAgl
        refine V.region (VL.op (R.mvM rfl) (VL.callX Try.call58 rfl (keys_spec ra _) fun kb w42 hkb e42 => VL.callX Try.call57 rfl (collect_spec kb ra Ag _ hkb.1 (hG12.ma.ext e42) hAl1) fun xs w43 hxs e43 => VL.op (R.lenS Try.runUnderlying24 rfl) (VL.op (R.mvI rfl) (VL.nil (V.block (?_))))))
        obtain ⟨xa, xc, l⟩ := xs
        obtain ⟨hS, hp⟩ := hxs
        dsimp only at hS hp ⊢
        have E43 := e42.trans e43
        have hll : l.length ≤ 100000 := by have := hp.length_eq; rw [List.length_map] at this; omega
        refine V.loop [1, 5, 6, 7, 17, 23, 160, 161, 162] (fun x : Nat × List ((Int × Int) × Bool) => [.slice ca cs.length cc, .map (some rh), .map (some rw_), .map (some ra), .pointer (some ⟨b17, 0, none⟩), .func (.func 55) #[] #[.pointer (some ⟨b17, 0, none⟩)], .slice xa l.length xc, .int .i64 (l.length : Nat), .int .i64 (x.1 : Nat)])
          (fun x w' => x.1 ≤ l.length ∧ GrS w rh rw_ ra (hmap cs (mrg h q)) xB12 x.2 w' ∧ Blk w' b17 (.cells (encPr q).toArray 42 (0, 0)) ∧ PrSl w' xa l ∧ (∀ e ∈ x.2, e.2 = true) ∧ ∀ p, p ∈ x.2.map (·.1) ↔ p ∈ Ag.map (·.1) ∨ ∃ r ∈ l.take x.1, renP q r = p) (fun x => l.length - x.1) (0, Ag) rfl ⟨Nat.zero_le _, hG12.ext E43, hb12.ext E43, hS, hGM.apv, fun p => by simp⟩ ?_
        rintro ρ ⟨k, Ag'⟩ w4 ⟨hk, hG4, hb4, hS4, hv4, hm4⟩
        dsimp only at hk hG4 hb4 hS4 hv4 hm4 ⊢
        have hlo4 := hG4.lo
        refine V.seq (V.region (VL.op (R.lss rfl rfl) (VL.nil (V.seq (V.condP rfl (fun c163 => V.skip (V.seq (V.block (V.seq (V.region (VL.op (R.ixS Try.runUnderlying24 Try.sizeOf42 rfl rfl (by omega) (by omega) ((hS4).some (i := k) (by omega))) (VL.op (R.ldA Try.isAgg42 Try.sizeOf42 rfl rfl ((show RowAt _ _ _ (encPr (l.getD k default)) from (((hS4).ext (Mod.refl Vc.nob w4)).row (i := k) (by omega)))) rfl) (VL.allocSt (v := .agg (encPr (l.getD k default)).toArray) Try.zeroValue42 Try.sizeOf42 rfl rfl rfl rfl rfl fun b44_2 w44_2 hb44_2 e44_2 hB44_2 => VL.nil (V.region (VL.op (R.mvM rfl) (VL.op (R.mvF rfl) (VL.op (R.ldA Try.isAgg42 Try.sizeOf42 rfl rfl ((show RowAt _ _ _ (encPr (l.getD k default)) from hB44_2.rowAt 0 2)) rfl) (VL.callCP rfl (Try.call55) rfl (renamed_spec (l.getD k default) q b17 _ (hb4.ext ((Mod.refl Vc.nob w4).trans e44_2))) fun w45_3 e45_3 => VL.mapUpdate key42 Try.runUnderlying50 rfl (k := (renP q (l.getD k default))) rfl rfl (hG4.ma.ext (e44_2.trans e45_3)) fun w45 hM45 m45 => VL.nil (V.region (VL.op (R.add rfl rfl (by omega) (by omega)) (VL.op (R.mvI rfl) (VL.nil (?_)))))))))))))))))) (fun c163 => V.exit (?_)))))))
        · have hkl : k < l.length := by omega
          have E4 := e44_2.trans e45_3
          have no : ∀ b, b ≠ ra → ¬ one ra b := fun b h e => h e
          have hM45 : MapIs w45 ra encP (mset (tenc vB Ag') (renP q (l.getD k default)) (vB true)) := hM45
          rw [← tset_enc] at hM45
          refine ⟨(k + 1, tset Ag' (renP q (l.getD k default)) true), rfl, ⟨by dsimp only; omega, (hG4.ext E4).setA hM45 m45, (hb4.ext E4).mod m45 (no _ (by omega)), ?_, ?_, ?_⟩, by dsimp only; omega⟩
          · exact tsl_off (TSl.ext hS4 E4) (hG4.ma.ext E4) m45
          · intro e he
            rcases tset_mem he with h1 | h1
            · rw [h1]
            · exact hv4 e h1
          · intro p
            dsimp only
            have hg : l.getD k default = l[k] := by simp [List.getD, hkl]
            rw [tset_keys, List.take_succ_eq_append_getElem hkl]
            have hm' := hm4 p
            by_cases hm : renP q (l.getD k default) ∈ Ag'.map (·.1)
            · rw [if_pos hm, hm']
              constructor
              · rintro (h1 | ⟨r, h1, h2⟩)
                · exact .inl h1
                · exact .inr ⟨r, List.mem_append_left _ h1, h2⟩
              · rintro (h1 | ⟨r, h1, h2⟩)
                · exact .inl h1
                · rcases List.mem_append.1 h1 with h1 | h1
                  · exact .inr ⟨r, h1, h2⟩
                  · rw [← h2, List.mem_singleton.1 h1, ← hg]; exact (hm4 _).1 hm
            · rw [if_neg hm, List.mem_append, List.mem_singleton, hm']
              constructor
              · rintro ((h1 | ⟨r, h1, h2⟩) | h1)
                · exact .inl h1
                · exact .inr ⟨r, List.mem_append_left _ h1, h2⟩
                · exact .inr ⟨l[k], List.mem_append_right _ (List.mem_singleton.2 rfl), by rw [h1, hg]⟩
              · rintro (h1 | ⟨r, h1, h2⟩)
                · exact .inl (.inl h1)
                · rcases List.mem_append.1 h1 with h1 | h1
                  · exact .inl (.inr ⟨r, h1, h2⟩)
                  · right; rw [← h2, List.mem_singleton.1 h1, hg]
        · have hkl : k = l.length := by omega
          subst hkl
          rw [List.take_length] at hm4
          have hAk : ∀ p, p ∈ Ag'.map (·.1) ↔ p ∈ Ag.map (·.1) ∨ ∃ r ∈ Ag.map (·.1), renP q r = p := fun p => by
            rw [hm4]
            exact or_congr Iff.rfl ⟨fun ⟨r, h1, h2⟩ => ⟨r, hp.mem_iff.1 h1, h2⟩, fun ⟨r, h1, h2⟩ => ⟨r, hp.mem_iff.2 h1, h2⟩⟩
          refine ⟨(mrg h q, xB12, Ag'), rfl, ⟨hG4, hOk.unite hnx.cand.m1 hnx.cand.h1 hnx.cand.h2 hnx.cand.lt, GM.step hsym hGM hnx.cand (by have := hG4.mw.nd; rwa [tenc_keys] at this) hk12 hv12 hv4 hAk, by dsimp only; omega, fun p hp => ?_, fun h' g => hGr h' (Grd.step _ _ _ hnx g)⟩, nHd_mrg hnx.cand.m2 hnx.cand.h1 hnx.cand.h2 hnx.cand.lt⟩
          rcases (hAk p).1 hp with h1 | ⟨r, h1, h2⟩
          · exact hAgl p h1
          · have hr := hAgl r h1
            rw [← h2]
            have hu : ∀ x ∈ univ cs Am, renI q x ∈ univ cs Am := fun x hx => by
              unfold renI; split
              · exact hqm.1
              · exact hx
            have u1 := hu _ hr.1
            have u2 := hu _ hr.2
            unfold renP ordF
            dsimp only
            rcases Int.le_total (renI q r.1) (renI q r.2) with hh | hh
            · rw [Int.min_eq_left hh, Int.max_eq_right hh]; exact ⟨u1, u2⟩
            · rw [Int.min_eq_right hh, Int.max_eq_left hh]; exact ⟨u2, u1⟩
  · obtain ⟨hEx, hMh, hOk, hGr⟩ := hBB6
    have hnh : ∀ c ∈ cs, mget (tenc vI (hmap cs xB6)) c = some (.int .i64 (xB6 c)) := fun c hc => by rw [tget_enc, hmap_get, if_pos hc]; rfl
    refine V.region (VL.op (R.asS rfl) (VL.nil (V.seq (V.seq (V.region (VL.op (R.mvS rfl) (VL.op (R.lenS Try.runUnderlying23 rfl) (VL.op (R.mvI rfl) (VL.nil (V.block (?_)))))))))))
    refine V.loop [5, 30, 171, 172, 173] (fun x : Nat × Option Addr × Nat => [.map (some rh), .slice x.2.1 ((cs.take x.1).map xB6).length x.2.2, .slice ca cs.length cc, .int .i64 (cs.length : Nat), .int .i64 (x.1 : Nat)])
      (fun x w' => x.1 ≤ cs.length ∧ Ext wBB6 w' ∧ OwnT encI 1 3 wBB6.heap.size w' x.2.1 x.2.2 ((cs.take x.1).map xB6)) (fun x => cs.length - x.1) (0, none, 0) rfl ⟨Nat.zero_le _, Mod.refl _ _, OwnT.nil _ _ _ _ _⟩ ?_
    rintro ρ ⟨k, a30, c30⟩ w3 ⟨hk, e, hO⟩
    dsimp only at hk e hO ⊢
    refine V.seq (V.region (VL.op (R.lss rfl rfl) (VL.nil (V.seq (V.condP rfl (fun c174 => V.skip (V.seq (V.block (V.seq (V.region (VL.op (R.ixS Try.runUnderlying23 Try.sizeOf3 rfl rfl (by omega) (by omega) ((hC.ext hEx).some (i := k) (by omega))) (VL.op (R.ld1 Try.isAgg3 rfl (((((hC.ext hEx).ext e).row (i := k) (by omega)).cell (i := 0) rfl))) (VL.op (R.asI rfl) (VL.nil (?_)))))))))) (fun c174 => V.exit (V.seq (?_))))))))
    · have hkl : k < cs.length := by omega
      have hmm : cs.getD k default ∈ cs := getD_mem hkl
      have htk : (cs.take (k + 1)).map xB6 = (cs.take k).map xB6 ++ [xB6 (cs.getD k default)] := by
        rw [List.take_succ_eq_append_getElem hkl, List.map_append, show cs.getD k default = cs[k] by simp [List.getD, hkl]]; rfl
      refine V.region (VL.op (R.mvS rfl) (VL.op (R.mvM rfl) (VL.op (R.mvI rfl) (VL.op (R.lookupV key3 Try.runUnderlying68 Try.zeroValue3 (hMh.ext e) (by rw [hnh _ hmm]) rfl rfl) (VL.append1 el23 Try.runUnderlying23 Try.sizeOf3 Try.zeroValue3 rfl ((xB6 (cs.getD k default))) rfl rfl rfl hO rfl rfl rfl (by rw [List.length_map, List.length_take]; omega) (by unfold maxLen; rw [List.length_map, List.length_take]; omega) e.size fun a5 c5 w5 vt5 ho5 m5 hf5 => VL.op (R.asS rfl) (VL.nil (V.region (VL.op (R.add rfl rfl (by omega) (by omega)) (VL.op (R.mvI rfl) (VL.nil (⟨(k + 1, a5, c5), ?_, ⟨?_, ?_, ?_⟩, ?_⟩)))))))))))
      · dsimp only; rw [htk, List.length_append]; rfl
      · dsimp only; omega
      · exact e.ownA m5 fun x hx => hO.ge x hx
      · dsimp only; rw [htk]; exact ho5
      · dsimp only; omega
    · have hkl : k = cs.length := by omega
      subst hkl
      rw [List.take_length] at hO ⊢
      refine V.region (VL.op (R.mvS rfl) (VL.op (R.asS rfl) (VL.nil (V.ret (fret1 (v := .slice _ _ _) rfl rfl rfl (⟨(a30, c30, cs.map xB6), rfl, ⟨hO.sl, fun k hk => by have := hO.ge k hk; have := hEx.size; omega, xB6, hGr, hOk, rfl⟩, hEx.trans e⟩))))))
end Go.Proofs.Ytglaigeellpikaa
