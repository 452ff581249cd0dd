/- Own library: a range over a function whose round's variable is a new block. -/
import Derived.Test.YtglaigeellpikaaXVcLaw2
namespace Go.Vc
section
variable {α : Type} {P : Program}
/-- THE LAW, where a round's variable is a new block. -/
theorem rangeA {g : Operand} {ps : Array Tmp} {assign body : Code} {Q : Exit → Act → World → Prop} {a : Act} {w : World} {m : Nat} {gf : FuncId} {lb : Array Value}
    (hg : a.eval g = .func (.func gf) #[] lb) (eg : ∀ args w, (callFunc gf args).run P w = .ok (.enter gf args) w)
    {encs : α → Array Value} {G : (Nat → Prop) → Nat → α → World → Prop} {ne : Nat} {Lb : Nat → Prop} {S Sp : List α → Prop} (hne : ne ≤ w.heap.size) (hLb : ∀ k, Lb k → k < w.heap.size)
    (hseq : SeqT m P gf lb encs G ne Lb S Sp w) (hps : ∀ x, (encs x).size = ps.size)
    (p px : (Nat → Prop) → List α → World → Prop)
    (hp : ∀ T s A B, OkT Lb (w.heap.size + 2) T → p T s A → Mod (fun k => T k ∨ k = w.heap.size ∨ k = w.heap.size + 1) A B → p T s B)
    (hpx : ∀ T s A B, OkT Lb (w.heap.size + 2) T → px T s A → Mod (fun k => T k ∨ k = w.heap.size ∨ k = w.heap.size + 1) A B → px T s B)
    (hGm : ∀ T x A B, OkT Lb (w.heap.size + 2) T → G T (w.heap.size + 2) x A → Mod (fun k => k = w.heap.size ∨ k = w.heap.size + 1) A B → G T (w.heap.size + 2) x B)
    (h0 : ∀ T W, OkT Lb (w.heap.size + 2) T → (∀ k, T k → k < W.heap.size) → Ext w W → p T [] W) (AS : α → Act → World → Prop) (hAS : ∀ x a A B, AS x a A → Vc.Mod (fun k => k = w.heap.size + 1) A B → AS x a B)
    (hassign : ∀ (l : Nat) (x : α) (W : World) (K : Act → World → Prop), w.heap.size + 2 ≤ W.heap.size → (∀ a₁ W₁, Ext W W₁ → AS x a₁ W₁ → K a₁ W₁) →
      assign.wpIn (Fence.wide.inRound l) m P (Exit.then K (fun _ _ _ => False)) { tmps := (ps.zip (encs x)).foldl (fun t (p, v) => t.setIfInBounds p v) a.tmps, defers := [] } W)
    (hbody : ∀ (l : Nat) (T : Nat → Prop) (pre : List α) (x : α) (a₁ : Act) (W : World), OkT Lb (w.heap.size + 2) T → p T pre W → AS x a₁ W → G T (w.heap.size + 2) x W → Sp (pre ++ [x]) → w.heap.size + 2 ≤ W.heap.size → body.wpIn (Fence.wide.inRound l) m P
      (fun e _ W' => match e with
        | .normal => p T (pre ++ [x]) W' ∧ Mod (fun k => ne ≤ k ∧ ¬ T k ∧ k ≠ w.heap.size ∧ k ≠ w.heap.size + 1) W W'
        | .ret => px T (pre ++ [x]) W' ∧ Mod (fun k => ne ≤ k ∧ ¬ T k ∧ k ≠ w.heap.size ∧ k ≠ w.heap.size + 1) W W'
        | _ => False) a₁ W)
    (hdone : ∀ (T : Nat → Prop) (xs : List α) (W : World), OkT Lb (w.heap.size + 2) T → S xs → p T xs W → W.heap[w.heap.size]? = some (.deferred (some [])) → Q .normal { a with defers := { target := .collected w.heap.size, args := #[] } :: a.defers } W)
    (hstop : ∀ (T : Nat → Prop) (pre : List α) (W : World), OkT Lb (w.heap.size + 2) T → Sp pre → px T pre W → W.heap[w.heap.size]? = some (.deferred (some [])) → Q .ret { a with defers := { target := .collected w.heap.size, args := #[] } :: a.defers } W) :
    (Code.rangeFunc g ps assign body).wpIn Fence.wide (m + 1) P Q a w := by
  refine wpIn_rangeFunc fun fn _ => ?_
  obtain ⟨rec, hrec⟩ : ∃ rec : LoopState → Option Code → Loop, rec = fun st pe => { state := st, pending := pe, fn, tmps := a.tmps, params := ps, assign, body, defers := w.heap.size } := ⟨_, rfl⟩
  obtain ⟨W1, hW1⟩ : ∃ W1, (w.alloc (.deferred (some []))).alloc (.loop (rec .ready none)) = W1 := ⟨_, rfl⟩
  have keep : ∀ {T : Nat → Prop} {A B : World} {k : Nat} {o : Obj}, Mod T A B → ¬ T k → A.heap[k]? = some o → B.heap[k]? = some o := fun hm hn h => by
    rw [hm.blk _ (Array.getElem?_eq_some_iff.1 h).1 hn]; exact h
  have hz : W1.heap.size = w.heap.size + 2 := by rw [← hW1, World.size_alloc, World.size_alloc]
  have hL1 : W1.heap[w.heap.size + 1]? = some (.loop (rec .ready none)) := by
    rw [← hW1]; have := World.alloc_heap_new (w.alloc (.deferred (some []))) (.loop (rec .ready none)); rwa [World.size_alloc] at this
  have hK1 : W1.heap[w.heap.size]? = some (.deferred (some [])) := by
    rw [← hW1]; exact keep alloc_ext (fun e => e) (World.alloc_heap_new w _)
  have hE1 : Ext w W1 := by rw [← hW1]; exact alloc_ext.trans alloc_ext
  have notT : ∀ {T : Nat → Prop}, OkT Lb (w.heap.size + 2) T → ¬ T w.heap.size ∧ ¬ T (w.heap.size + 1) := fun hT =>
    ⟨fun h => (hT _ h).elim (fun h => by have := hLb _ h; omega) (fun h => by omega), fun h => (hT _ h).elim (fun h => by have := hLb _ h; omega) (fun h => by omega)⟩
  refine ⟨w.heap.size + 1, [{ target := .collected w.heap.size, args := #[] }], W1, { target := .fn (.func gf) lb, args := #[.func (.yield (w.heap.size + 1)) #[] #[]] }, W1, gf,
    #[.func (.yield (w.heap.size + 1)) #[] #[]] ++ lb, W1, ?_, ?_, fun _ _ => trivial, ?_, fun h => by simp [Fence.wide] at h, ?_⟩
  · rw [← hW1, hrec]; exact run_enterLoop_outer _ _ _ _ _
  · simp only [resolve, hg]
    simp [go_sem]
  · simp [invoke, go_sem, eg]
  have hcall := hseq (w.heap.size + 1)
    (fun T pre W => p T pre W ∧ w.heap.size + 2 ≤ W.heap.size ∧ W.heap[w.heap.size + 1]? = some (.loop (rec .ready none)) ∧ W.heap[w.heap.size]? = some (.deferred (some [])))
    (fun T pre W => px T pre W ∧ W.heap[w.heap.size + 1]? = some (.loop (rec .done (some .ret))) ∧ W.heap[w.heap.size]? = some (.deferred (some [])))
    W1 hE1
  rw [hz] at hcall
  replace hcall := hcall
    (fun T s A B hT ⟨h1, h2, h3, h4⟩ he => ⟨hp T s A B hT h1 (he.weaken fun x _ h => .inl h), Nat.le_trans h2 he.size, keep he (notT hT).2 h3, keep he (notT hT).1 h4⟩)
    (fun T s A B hT ⟨h1, h3, h4⟩ he => ⟨hpx T s A B hT h1 (he.weaken fun x _ h => .inl h), keep he (notT hT).2 h3, keep he (notT hT).1 h4⟩)
    ?_ (fun T V hT hb hV => ⟨h0 T V hT hb (hE1.trans hV), (by have := hV.size; omega), keep hV (fun e => e) hL1, keep hV (fun e => e) hK1⟩)
  · refine callsIn_wide.2 (Calls.mono hcall ?_)
    rintro e W2 ⟨⟨v, rfl⟩, T, hT, (⟨xs, hS, hpp, hs, hl, hk⟩ | ⟨pre, hSp, hpp, hl, hk⟩)⟩
    · have hend := run_endLoop (P := P) hl (by rw [hrec]; simp)
      rw [hrec] at hend
      exact ⟨none, _, hend, hdone T xs _ hT hS (hp T xs _ _ hT hpp ((putObj_mod _).weaken fun x _ e => .inr (.inr e))) (keep (putObj_mod _) (by unfold one; omega) hk)⟩
    · have hend := run_endLoop (P := P) hl (by rw [hrec]; simp)
      rw [hrec] at hend
      exact ⟨some .ret, _, hend, wpIn_ret (hstop T pre _ hT hSp (hpx T pre _ _ hT hpp ((putObj_mod _).weaken fun x _ e => .inr (.inr e))) (keep (putObj_mod _) (by unfold one; omega) hk))⟩
  · rintro T pre x W hT ⟨hpp, hs, hl, hk⟩ hgx hsp
    have hy := run_yield (P := P) (args := encs x) hl (by rw [hrec]; exact hps x)
    rw [hrec] at hy
    refine ⟨fn, _, assign, body, hy, roundIn_of_wpIn trivial (hassign _ x W _ hs fun a₁ W₁ hE1 hAs => ?_)⟩
    have hEW := hE1
    replace hpp := hp T pre _ _ hT hpp (hE1.weaken fun x _ h => h.elim)
    replace hgx := hGm T x _ _ hT hgx (hE1.weaken fun x _ h => h.elim)
    replace hs := Nat.le_trans hs hE1.size
    replace hl := keep hE1 (fun e => e) hl
    replace hk := keep hE1 (fun e => e) hk
    clear hE1
    refine ⟨_, run_beginRound hl (by rw [hrec]), ?_⟩
    obtain ⟨W2, hW2⟩ : ∃ W2, W₁.putObj (w.heap.size + 1) (.loop { rec .ready none with state := .busy }) = W2 := ⟨_, rfl⟩
    have hm2 : Mod (one (w.heap.size + 1)) W₁ W2 := by rw [← hW2]; exact putObj_mod _
    have hl2 : W2.heap[w.heap.size + 1]? = some (.loop { rec .ready none with state := .busy }) := by rw [← hW2]; exact World.putObj_heap_same (by omega)
    have hk2 : W2.heap[w.heap.size]? = some (.deferred (some [])) := keep hm2 (by unfold one; omega) hk
    have nT := notT hT
    have one1 : ∀ {A B : World}, Mod (one (w.heap.size + 1)) A B → Mod (fun k => ne ≤ k ∧ ¬ T k) A B := fun h => h.weaken fun x _ (e : x = w.heap.size + 1) => by subst e; exact ⟨by omega, nT.2⟩
    rw [hW2]
    refine wpIn_mono (hbody _ T pre x a₁ W2 hT (hp T pre _ _ hT hpp (hm2.weaken fun x _ e => .inr (.inr e))) (hAS x a₁ _ _ hAs hm2) (hGm T x _ _ hT hgx (hm2.weaken fun x _ e => .inr e)) hsp (Nat.le_trans hs hm2.size)) ?_
    rintro e a3 W3 h3
    cases e with
    | normal =>
      obtain ⟨hp3, hx⟩ := h3
      have hl3 := keep hx (fun e => e.2.2.2 rfl) hl2
      have hk3 := keep hx (fun e => e.2.2.1 rfl) hk2
      have hend := run_endRound (P := P) none hl3
      refine ⟨_, _, hend, .inl ⟨rfl, hp T _ _ _ hT hp3 ((putObj_mod _).weaken fun x _ e => .inr (.inr e)), ?_, ?_, keep (putObj_mod _) (by unfold one; omega) hk3⟩, ?_⟩
      · have h1 := hm2.size; have h2 := hx.size; have h4 := (putObj_mod (W := W3) (l := w.heap.size + 1) (.loop { rec .ready none with state := .ready, pending := none })).size
        refine Nat.le_trans ?_ h4; omega
      · have := World.putObj_heap_same (o := Obj.loop { rec .ready none with state := .ready, pending := none }) (Array.getElem?_eq_some_iff.1 hl3).1
        rw [hrec] at this ⊢; exact this
      · exact ((hEW.mod.trans (one1 hm2)).trans (hx.weaken fun x _ e => ⟨e.1, e.2.1⟩)).trans (one1 (putObj_mod _))
    | ret =>
      obtain ⟨hp3, hx⟩ := h3
      have hl3 := keep hx (fun e => e.2.2.2 rfl) hl2
      have hk3 := keep hx (fun e => e.2.2.1 rfl) hk2
      have hend := run_endRound (P := P) (some .ret) hl3
      refine ⟨_, _, hend, .inr ⟨rfl, hpx T _ _ _ hT hp3 ((putObj_mod _).weaken fun x _ e => .inr (.inr e)), ?_, keep (putObj_mod _) (by unfold one; omega) hk3⟩, ?_⟩
      · have := World.putObj_heap_same (o := Obj.loop { rec .ready none with state := .done, pending := some .ret }) (Array.getElem?_eq_some_iff.1 hl3).1
        rw [hrec] at this ⊢; exact this
      · exact ((hEW.mod.trans (one1 hm2)).trans (hx.weaken fun x _ e => ⟨e.1, e.2.1⟩)).trans (one1 (putObj_mod _))
    | _ => exact h3.elim
end
end Go.Vc
