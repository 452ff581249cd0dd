/- Own library: a range over a function whose rounds turn blocks of their own, and whose iterator keeps blocks of its own. -/
import Derived.Test.YtglaigeellpikaaXVcLaw
namespace Go.Vc
/-- The blocks that an iterator keeps for itself: those that it caught, or new ones. -/
def OkT (Lb : Nat → Prop) (n : Nat) (T : Nat → Prop) : Prop := ∀ k, T k → Lb k ∨ n ≤ k
/-- THE ITERATOR's CONTRACT: its own steps turn blocks of 'T' alone; a round leaves these and what lies below 'ne'; a round is handed an 'x' of which 'G T B x W' is known. -/
def SeqT {α : Type} (m : Nat) (P : Program) (g : FuncId) (lb : Array Value) (encs : α → Array Value) (G : (Nat → Prop) → Nat → α → World → Prop) (ne : Nat) (Lb : Nat → Prop) (S Sp : List α → Prop) (w : World) : Prop :=
  ∀ (l : Nat) (J Jx : (Nat → Prop) → List α → World → Prop) (W : World), Ext w W →
    (∀ T s A B, OkT Lb W.heap.size T → J T s A → Mod T A B → J T s B) → (∀ T s A B, OkT Lb W.heap.size T → Jx T s A → Mod T A B → Jx T s B) →
    (∀ T pre x W1, OkT Lb W.heap.size T → J T pre W1 → G T W.heap.size x W1 → Sp (pre ++ [x]) → YieldAt Fence.wide m P l (encs x) W1 fun e W' =>
      ((e = .returned (.bool true) ∧ J T (pre ++ [x]) W') ∨ (e = .returned (.bool false) ∧ Jx T (pre ++ [x]) W')) ∧ Mod (fun k => ne ≤ k ∧ ¬ T k) W1 W') →
    (∀ T V, OkT Lb W.heap.size T → (∀ k, T k → k < V.heap.size) → Ext W V → J T [] V) →
    Calls P g (#[.func (.yield l) #[] #[]] ++ lb) W fun e W' => (∃ v, e = .returned v) ∧ ∃ T, OkT Lb W.heap.size T ∧ ((∃ xs, S xs ∧ J T xs W') ∨ (∃ pre, Sp pre ∧ Jx T pre W'))
section
variable {α : Type} {P : Program}
/-- THE LAW. -/
theorem rangeT {g : Operand} {ps : Array Tmp} {assign body : Code} {Q : Exit → Act → World → Prop} {a : Act} {w : World} {m : Nat} {gf : FuncId} {lb : Array Value}
    (hg : a.eval g = .func (.func gf) #[] lb) (eg : ∀ args w, (callFunc gf args).run P w = .ok (.enter gf args) w)
    {encs : α → Array Value} {G : (Nat → Prop) → Nat → α → World → Prop} {ne : Nat} {Lb : Nat → Prop} {S Sp : List α → Prop} (hne : ne ≤ w.heap.size) (hLb : ∀ k, Lb k → k < w.heap.size)
    (hseq : SeqT m P gf lb encs G ne Lb S Sp w) (hps : ∀ x, (encs x).size = ps.size)
    (p px : (Nat → Prop) → List α → World → Prop)
    (hp : ∀ T s A B, OkT Lb (w.heap.size + 2) T → p T s A → Mod (fun k => T k ∨ k = w.heap.size ∨ k = w.heap.size + 1) A B → p T s B)
    (hpx : ∀ T s A B, OkT Lb (w.heap.size + 2) T → px T s A → Mod (fun k => T k ∨ k = w.heap.size ∨ k = w.heap.size + 1) A B → px T s B)
    (hGm : ∀ T x A B, OkT Lb (w.heap.size + 2) T → G T (w.heap.size + 2) x A → Mod (fun k => k = w.heap.size ∨ k = w.heap.size + 1) A B → G T (w.heap.size + 2) x B)
    (h0 : ∀ T W, OkT Lb (w.heap.size + 2) T → (∀ k, T k → k < W.heap.size) → Ext w W → p T [] W) (a₁ : α → Act)
    (hassign : ∀ (l : Nat) (x : α) (W : World) (K : Act → World → Prop), K (a₁ x) W →
      assign.wpIn (Fence.wide.inRound l) m P (Exit.then K (fun _ _ _ => False)) { tmps := (ps.zip (encs x)).foldl (fun t (p, v) => t.setIfInBounds p v) a.tmps, defers := [] } W)
    (hbody : ∀ (l : Nat) (T : Nat → Prop) (pre : List α) (x : α) (W : World), OkT Lb (w.heap.size + 2) T → p T pre W → G T (w.heap.size + 2) x W → Sp (pre ++ [x]) → w.heap.size + 2 ≤ W.heap.size → body.wpIn (Fence.wide.inRound l) m P
      (fun e _ W' => match e with
        | .normal => p T (pre ++ [x]) W' ∧ Mod (fun k => ne ≤ k ∧ ¬ T k ∧ k ≠ w.heap.size ∧ k ≠ w.heap.size + 1) W W'
        | .ret => px T (pre ++ [x]) W' ∧ Mod (fun k => ne ≤ k ∧ ¬ T k ∧ k ≠ w.heap.size ∧ k ≠ w.heap.size + 1) W W'
        | _ => False) (a₁ x) W)
    (hdone : ∀ (T : Nat → Prop) (xs : List α) (W : World), OkT Lb (w.heap.size + 2) T → S xs → p T xs W → W.heap[w.heap.size]? = some (.deferred (some [])) → Q .normal { a with defers := { target := .collected w.heap.size, args := #[] } :: a.defers } W)
    (hstop : ∀ (T : Nat → Prop) (pre : List α) (W : World), OkT Lb (w.heap.size + 2) T → Sp pre → px T pre W → W.heap[w.heap.size]? = some (.deferred (some [])) → Q .ret { a with defers := { target := .collected w.heap.size, args := #[] } :: a.defers } W) :
    (Code.rangeFunc g ps assign body).wpIn Fence.wide (m + 1) P Q a w := by
  refine wpIn_rangeFunc fun fn _ => ?_
  obtain ⟨rec, hrec⟩ : ∃ rec : LoopState → Option Code → Loop, rec = fun st pe => { state := st, pending := pe, fn, tmps := a.tmps, params := ps, assign, body, defers := w.heap.size } := ⟨_, rfl⟩
  obtain ⟨W1, hW1⟩ : ∃ W1, (w.alloc (.deferred (some []))).alloc (.loop (rec .ready none)) = W1 := ⟨_, rfl⟩
  have keep : ∀ {T : Nat → Prop} {A B : World} {k : Nat} {o : Obj}, Mod T A B → ¬ T k → A.heap[k]? = some o → B.heap[k]? = some o := fun hm hn h => by
    rw [hm.blk _ (Array.getElem?_eq_some_iff.1 h).1 hn]; exact h
  have hz : W1.heap.size = w.heap.size + 2 := by rw [← hW1, World.size_alloc, World.size_alloc]
  have hL1 : W1.heap[w.heap.size + 1]? = some (.loop (rec .ready none)) := by
    rw [← hW1]; have := World.alloc_heap_new (w.alloc (.deferred (some []))) (.loop (rec .ready none)); rwa [World.size_alloc] at this
  have hK1 : W1.heap[w.heap.size]? = some (.deferred (some [])) := by
    rw [← hW1]; exact keep alloc_ext (fun e => e) (World.alloc_heap_new w _)
  have hE1 : Ext w W1 := by rw [← hW1]; exact alloc_ext.trans alloc_ext
  have notT : ∀ {T : Nat → Prop}, OkT Lb (w.heap.size + 2) T → ¬ T w.heap.size ∧ ¬ T (w.heap.size + 1) := fun hT =>
    ⟨fun h => (hT _ h).elim (fun h => by have := hLb _ h; omega) (fun h => by omega), fun h => (hT _ h).elim (fun h => by have := hLb _ h; omega) (fun h => by omega)⟩
  refine ⟨w.heap.size + 1, [{ target := .collected w.heap.size, args := #[] }], W1, { target := .fn (.func gf) lb, args := #[.func (.yield (w.heap.size + 1)) #[] #[]] }, W1, gf,
    #[.func (.yield (w.heap.size + 1)) #[] #[]] ++ lb, W1, ?_, ?_, fun _ _ => trivial, ?_, fun h => by simp [Fence.wide] at h, ?_⟩
  · rw [← hW1, hrec]; exact run_enterLoop_outer _ _ _ _ _
  · simp only [resolve, hg]
    simp [go_sem]
  · simp [invoke, go_sem, eg]
  have hcall := hseq (w.heap.size + 1)
    (fun T pre W => p T pre W ∧ w.heap.size + 2 ≤ W.heap.size ∧ W.heap[w.heap.size + 1]? = some (.loop (rec .ready none)) ∧ W.heap[w.heap.size]? = some (.deferred (some [])))
    (fun T pre W => px T pre W ∧ W.heap[w.heap.size + 1]? = some (.loop (rec .done (some .ret))) ∧ W.heap[w.heap.size]? = some (.deferred (some [])))
    W1 hE1
  rw [hz] at hcall
  replace hcall := hcall
    (fun T s A B hT ⟨h1, h2, h3, h4⟩ he => ⟨hp T s A B hT h1 (he.weaken fun x _ h => .inl h), Nat.le_trans h2 he.size, keep he (notT hT).2 h3, keep he (notT hT).1 h4⟩)
    (fun T s A B hT ⟨h1, h3, h4⟩ he => ⟨hpx T s A B hT h1 (he.weaken fun x _ h => .inl h), keep he (notT hT).2 h3, keep he (notT hT).1 h4⟩)
    ?_ (fun T V hT hb hV => ⟨h0 T V hT hb (hE1.trans hV), (by have := hV.size; omega), keep hV (fun e => e) hL1, keep hV (fun e => e) hK1⟩)
  · refine callsIn_wide.2 (Calls.mono hcall ?_)
    rintro e W2 ⟨⟨v, rfl⟩, T, hT, (⟨xs, hS, hpp, hs, hl, hk⟩ | ⟨pre, hSp, hpp, hl, hk⟩)⟩
    · have hend := run_endLoop (P := P) hl (by rw [hrec]; simp)
      rw [hrec] at hend
      exact ⟨none, _, hend, hdone T xs _ hT hS (hp T xs _ _ hT hpp ((putObj_mod _).weaken fun x _ e => .inr (.inr e))) (keep (putObj_mod _) (by unfold one; omega) hk)⟩
    · have hend := run_endLoop (P := P) hl (by rw [hrec]; simp)
      rw [hrec] at hend
      exact ⟨some .ret, _, hend, wpIn_ret (hstop T pre _ hT hSp (hpx T pre _ _ hT hpp ((putObj_mod _).weaken fun x _ e => .inr (.inr e))) (keep (putObj_mod _) (by unfold one; omega) hk))⟩
  · rintro T pre x W hT ⟨hpp, hs, hl, hk⟩ hgx hsp
    have hy := run_yield (P := P) (args := encs x) hl (by rw [hrec]; exact hps x)
    rw [hrec] at hy
    refine ⟨fn, _, assign, body, hy, roundIn_of_wpIn trivial (hassign _ x W _ ⟨_, run_beginRound hl (by rw [hrec]), ?_⟩)⟩
    obtain ⟨W2, hW2⟩ : ∃ W2, W.putObj (w.heap.size + 1) (.loop { rec .ready none with state := .busy }) = W2 := ⟨_, rfl⟩
    have hm2 : Mod (one (w.heap.size + 1)) W W2 := by rw [← hW2]; exact putObj_mod _
    have hl2 : W2.heap[w.heap.size + 1]? = some (.loop { rec .ready none with state := .busy }) := by rw [← hW2]; exact World.putObj_heap_same (by omega)
    have hk2 : W2.heap[w.heap.size]? = some (.deferred (some [])) := keep hm2 (by unfold one; omega) hk
    have nT := notT hT
    have one1 : ∀ {A B : World}, Mod (one (w.heap.size + 1)) A B → Mod (fun k => ne ≤ k ∧ ¬ T k) A B := fun h => h.weaken fun x _ (e : x = w.heap.size + 1) => by subst e; exact ⟨by omega, nT.2⟩
    rw [hW2]
    refine wpIn_mono (hbody _ T pre x W2 hT (hp T pre _ _ hT hpp (hm2.weaken fun x _ e => .inr (.inr e))) (hGm T x _ _ hT hgx (hm2.weaken fun x _ e => .inr e)) hsp (Nat.le_trans hs hm2.size)) ?_
    rintro e a3 W3 h3
    cases e with
    | normal =>
      obtain ⟨hp3, hx⟩ := h3
      have hl3 := keep hx (fun e => e.2.2.2 rfl) hl2
      have hk3 := keep hx (fun e => e.2.2.1 rfl) hk2
      have hend := run_endRound (P := P) none hl3
      refine ⟨_, _, hend, .inl ⟨rfl, hp T _ _ _ hT hp3 ((putObj_mod _).weaken fun x _ e => .inr (.inr e)), ?_, ?_, keep (putObj_mod _) (by unfold one; omega) hk3⟩, ?_⟩
      · have h1 := hm2.size; have h2 := hx.size; have h4 := (putObj_mod (W := W3) (l := w.heap.size + 1) (.loop { rec .ready none with state := .ready, pending := none })).size
        refine Nat.le_trans ?_ h4; omega
      · have := World.putObj_heap_same (o := Obj.loop { rec .ready none with state := .ready, pending := none }) (Array.getElem?_eq_some_iff.1 hl3).1
        rw [hrec] at this ⊢; exact this
      · exact ((one1 hm2).trans (hx.weaken fun x _ e => ⟨e.1, e.2.1⟩)).trans (one1 (putObj_mod _))
    | ret =>
      obtain ⟨hp3, hx⟩ := h3
      have hl3 := keep hx (fun e => e.2.2.2 rfl) hl2
      have hk3 := keep hx (fun e => e.2.2.1 rfl) hk2
      have hend := run_endRound (P := P) (some .ret) hl3
      refine ⟨_, _, hend, .inr ⟨rfl, hpx T _ _ _ hT hp3 ((putObj_mod _).weaken fun x _ e => .inr (.inr e)), ?_, keep (putObj_mod _) (by unfold one; omega) hk3⟩, ?_⟩
      · have := World.putObj_heap_same (o := Obj.loop { rec .ready none with state := .done, pending := some .ret }) (Array.getElem?_eq_some_iff.1 hl3).1
        rw [hrec] at this ⊢; exact this
      · exact ((one1 hm2).trans (hx.weaken fun x _ e => ⟨e.1, e.2.1⟩)).trans (one1 (putObj_mod _))
    | _ => exact h3.elim
end
/-- Operations that defer nothing run alike whatever is deferred. -/
theorem upon_defers {P : Program} {o : Oper} {t : Array Value} {ds : List Deferred} {K : Act → World → Prop} {K' : Act → World → Prop} {Q : Exit → Act → World → Prop} {r : Result Next}
    (hK : ∀ t w, K { tmps := t, defers := [] } w → K' { tmps := t, defers := ds } w) (hr : ∀ d w, r ≠ .ok (.defer d) w)
    (h : Oper.upon P o { tmps := t, defers := [] } K (fun e a w => Q e { a with defers := ds } w) r) : Oper.upon P o { tmps := t, defers := ds } K' Q r := by
  have put : ∀ (d : Option Tmp) (v : Value) (x : List Deferred), ({ tmps := t, defers := x } : Act).put d v = { tmps := (({ tmps := t, defers := x } : Act).put d v).tmps, defers := x } := fun d v x => by cases d <;> rfl
  have putT : ∀ (d : Option Tmp) (v : Value), (({ tmps := t, defers := [] } : Act).put d v).tmps = (({ tmps := t, defers := ds } : Act).put d v).tmps := fun d v => by cases d <;> rfl
  have step : ∀ (d : Option Tmp) (v : Value) (w : World), K (({ tmps := t, defers := [] } : Act).put d v) w → K' (({ tmps := t, defers := ds } : Act).put d v) w := fun d v w hk => by
    rw [put d v []] at hk
    rw [put d v ds, ← putT d v]
    exact hK _ _ hk
  cases r with
  | ok n w' =>
    cases n with
    | value v => exact step _ _ _ h
    | skip => exact step _ _ _ h
    | defer d => exact absurd rfl (hr d w')
    | enter f args =>
      refine Calls.mono h fun e w'' he => ?_
      cases e with
      | returned v => exact step _ _ _ he
      | panicked ch => exact he
      | outgrown => obtain ⟨x, y, hxy⟩ := he; exact ⟨_, y, hxy⟩
    | row row args => exact Rows.mono h fun v w'' he => step _ _ _ he
    | _ => exact h.elim
  | halt x w' => cases x <;> exact h
/-- Operations that defer nothing, plainly. -/
def plainOp (o : Oper) : Bool := match o.op with
  | .move _ | .assign _ | .load _ _ | .store _ _ _ | .build _ _ | .alloc _ | .box _ _ | .extract _ _ | .fieldAddr _ _ _ | .indexAddr _ _ _ => true
  | _ => false
theorem plain_no {o : Oper} (h : plainOp o = true) (ev : Operand → Value) (P : Program) (w : World) : ∀ d w', (execOp ev o).run P w ≠ .ok (.defer d) w' := by
  have hv : ∀ (s : Sem Value) d w', (do pure (Next.value (← s)) : Sem Next).run P w ≠ .ok (.defer d) w' := fun s d w' e => by
    rw [Sem.run_bind] at e
    cases hs : s.run P w with
    | ok v w2 => rw [hs] at e; simp [Sem.run_pure] at e
    | halt x w2 => rw [hs] at e; simp at e
  have hu : ∀ (s : Sem Unit) d w', (do s; pure Next.skip : Sem Next).run P w ≠ .ok (.defer d) w' := fun s d w' e => by
    rw [Sem.run_bind] at e
    cases hs : s.run P w with
    | ok v w2 => rw [hs] at e; simp [Sem.run_pure] at e
    | halt x w2 => rw [hs] at e; simp at e
  intro d w' e
  unfold plainOp at h
  unfold execOp at e
  split at h
  all_goals first | (rename_i hop; rw [hop] at e; first | exact hv _ _ _ e | exact hu _ _ _ e | (simp [Sem.run_pure] at e)) | (cases h)
theorem list_defers {P : Program} {ops : Array Oper} {ds : List Deferred} {Q : Exit → Act → World → Prop} : ∀ (L : List Oper) (t : Array Value) (w : World), L.all plainOp = true →
    wpList P ops (fun e a w => Q e { a with defers := ds } w) L { tmps := t, defers := [] } w → wpList P ops Q L { tmps := t, defers := ds } w
  | [], _, _, _, h => h
  | o :: L, t, w, hp, h => by
    rw [List.all_cons, Bool.and_eq_true] at hp
    have ih := list_defers (P := P) (ops := ops) (ds := ds) (Q := Q) L
    have ev : ({ tmps := t, defers := ds } : Act).eval = ({ tmps := t, defers := [] } : Act).eval := by funext x; cases x <;> rfl
    unfold wpList at h ⊢
    split at h
    · rename_i hw
      rw [if_pos hw]
      rcases h with h | ⟨h1, x, y, h2⟩
      · left
        unfold Oper.wp at h ⊢
        rw [ev]
        exact upon_defers (fun t w hk => ih t w hp.2 hk) (fun d w => plain_no hp.1 _ _ _ d w) h
      · right
        refine ⟨?_, _, y, h2⟩
        unfold Oper.asks at h1 ⊢
        rw [ev]; exact h1
    · rename_i hw
      rw [if_neg hw]
      have := ih (({ tmps := t, defers := ds } : Act).put o.dst undef).tmps w hp.2
      cases hd : o.dst with
      | none => rw [hd] at h this; exact this h
      | some d => rw [hd] at h this; exact this h
/-- What stands behind a loop over a function: a region, and the return. -/
theorem retD {P : Program} {N n id : Nat} {L : List Oper} {QQ : Exit → Act → World → Prop} {ds : List Deferred} {ρ : Env} {w : World} (hp : L.all plainOp = true) (ok : okOps N L = true)
    (h : VL P N L (fun e ρ' w' => e = .normal ∧ QQ .ret { act N ρ' with defers := ds } w') L ρ w) : (Code.seq (.region id L.toArray false) .ret).wpIn Fence.wide n P QQ { act N ρ with defers := ds } w := by
  refine wpIn_wide.2 (wp_seq (wp_region_lit (list_defers L _ w hp (wpList_mono ?_ _ _ _ (h.go ok ok)))))
  rintro e a w' ⟨ρ', rfl, ⟨rfl, hQ⟩, _⟩
  exact wp_ret hQ
end Go.Vc
