/- Own library: a range over a function whose rounds are handed things that lie in memory. -/
import Derived.Test.YtglaigeellpikaaXVcRound
namespace Go.Vc
abbrev From (B : Nat) : Nat → Prop := fun k => B ≤ k
theorem putObj_mod {W : World} {l : Nat} (o : Obj) : Mod (one l) W (W.putObj l o) := by
  refine ⟨rfl, rfl, rfl, by simp [World.putObj], fun b _ hn => ?_⟩
  exact World.putObj_heap_other (fun e => hn e)
theorem TSl.from {α : Type} {enc : α → List Value} {s : Nat} {w w' : World} {a : Option Addr} {l : List α} (h : TSl enc s w a l) (m : Mod (From w.heap.size) w w') : TSl enc s w' a l := by
  cases l with
  | nil => exact TSl.nil _ _ _ _
  | cons x l =>
    have hl := h.lt (i := 0) (by simp)
    refine h.mod m fun ad e => ?_
    subst e
    show ¬ _ ≤ _
    have : abk (Option.some ad) = ad.block := rfl
    omega
theorem alloc_ext {W : World} {o : Obj} : Ext W (W.alloc o) := Ext.alloc W o
/-- Code at the wide fence, whatever follows it. -/
structure InW (n : Nat) (P : Program) (N : Nat) (c : Code) (QQ : Exit → Act → World → Prop) (ρ : Env) (w : World) : Prop where
  go : c.wpIn Fence.wide n P QQ (act N ρ) w
def nxI (n : Nat) (P : Program) (N : Nat) (y : Code) (QQ : Exit → Act → World → Prop) : Exit → Env → World → Prop
  | .normal, ρ, w => InW n P N y QQ ρ w
  | e, ρ, w => QQ e (act N ρ) w
section
variable {n : Nat} {P : Program} {N : Nat} {QQ : Exit → Act → World → Prop} {ρ : Env} {w : World}
theorem InW.seqV {x y : Code} (ok : okCode N x = true) (h : V P N x (nxI n P N y QQ) ρ w) : InW n P N (.seq x y) QQ ρ w :=
  ⟨wpIn_seq (wpIn_wide.2 (wp_mono (h.go ok) (by
    rintro e a w' ⟨ρ', rfl, hQ⟩
    cases e with
    | normal => exact hQ.go
    | _ => exact hQ)))⟩
theorem InW.seqI {x y : Code} (h : InW n P N x (Exit.then (y.wpIn Fence.wide n P QQ) QQ) ρ w) : InW n P N (.seq x y) QQ ρ w := ⟨wpIn_seq h.go⟩
theorem InW.block {id : Nat} {c : Code} (h : InW n P N c (Exit.inBlock id QQ) ρ w) : InW n P N (.block id c) QQ ρ w := ⟨wpIn_block h.go⟩
theorem enterW {f : FuncId} {fn : Func} {c : Code} {args : List Value} {RR : Ending → World → Prop} (n : Nat)
    (hf : P.funcs[f]? = some fn) (hb : fn.body = some c) (hN : fn.ntmps = N) (hl : Nat.ble args.length N = true)
    (h : InW n P N c (bodyPostM Fence.wide n P fn RR) (env0 args) w) : Calls P f args.toArray w RR := by
  refine callsIn_wide.1 (callsIn_of_wp_marks (n := n) hf hb trivial ?_)
  subst hN
  have ha : ({ tmps := args.toArray ++ Array.replicate (fn.ntmps - args.toArray.size) undef, defers := [] } : Act) = act fn.ntmps (env0 args) := by
    show Act.mk _ _ = Act.mk _ _
    rw [List.size_toArray, env0_act _ _ (by simpa using hl)]
    rfl
  rw [ha]
  exact h.go
theorem InW.gen {c : Code} (h : ∀ ρ', ρ' = ρ → InW n P N c QQ ρ' w) : InW n P N c QQ ρ w := h ρ rfl
theorem VI.use {l : Nat} {c : Code} {Q : Exit → Env → World → Prop} (ok : okCode N c = true) (h : VI l n P N c Q ρ w) (hq : ∀ e ρ' w', Q e ρ' w' → QQ e (act N ρ') w') : c.wpIn (Fence.wide.inRound l) n P QQ (act N ρ) w :=
  Code.wpIn_mono (fun e a w ⟨ρ', ha, hQ⟩ => by subst ha; exact hq e ρ' w hQ) (h.go ok)
theorem at_put {k : Nat} {v : Value} : ({ tmps := (act N ρ).tmps.setIfInBounds k v, defers := [] } : Act) = act N (upd ρ k v) := by
  have := act_put N ρ (some k) v
  exact this
theorem one_put {k : Nat} {v : Value} : ({ tmps := (#[k].zip #[v]).foldl (fun t (p, v) => t.setIfInBounds p v) (act N ρ).tmps, defers := [] } : Act) = act N (upd ρ k v) := by
  have e : (#[k].zip #[v]).foldl (fun t (p, v) => t.setIfInBounds p v) (act N ρ).tmps = (act N ρ).tmps.setIfInBounds k v := by simp
  rw [e]; exact at_put
/-- The loop's one variable is set. -/
theorem assign1 {id l k d : Nat} {t : TypeId} {p : String} {af : Array Edge} {v : Value} {K : Act → World → Prop} (hk : Nat.blt k N = true) (hd : Nat.blt d N = true) (h : K (act N (upd (upd ρ k v) d v)) w) :
    (Code.region id #[{ dst := some d, op := .assign (.tmp k), type := t, pos := p, after := af, guard := none }] false).wpIn (Fence.wide.inRound l) n P (Exit.then K (fun _ _ _ => False)) { tmps := (#[k].zip #[v]).foldl (fun t (p, v) => t.setIfInBounds p v) (act N ρ).tmps, defers := [] } w := by
  rw [one_put]
  refine VI.use (Q := fun e ρ' W' => e = .normal ∧ K (act N ρ') W') ?_ (VI.region (L := [_]) (fun _ _ h => by cases h.1) rfl (VL.op (v := v) (R.as ?_) (VL.nil ⟨rfl, h⟩))) (fun e ρ' W' ⟨h1, h2⟩ => by subst h1; exact h2)
  · simp [okCode, okOps, okOp, okX, okDst, Op.operands, hk, hd]
  · show upd _ _ _ _ = _
    unfold upd
    rw [Nat.beq_refl]; rfl
end
end Go.Vc
