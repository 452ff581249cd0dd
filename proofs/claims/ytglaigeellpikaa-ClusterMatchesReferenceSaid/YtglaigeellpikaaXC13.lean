/- Cluster: comparing pairs; renaming; a map's copy. -/
import Derived.Test.YtglaigeellpikaaXC11
import Derived.Test.YtglaigeellpikaaXVcClW
import Derived.Test.YtglaigeellpikaaXVcClg
import Derived.Laws.Externs
namespace Go.Proofs.Ytglaigeellpikaa
open Go.Vc

theorem isNaN_spec (x : Int) (w : World) : RetsP Try.prog 70 #[.int .i64 x] w (.bool false) := by
  refine enter (args := [_]) Try.func70 rfl Try.ntmps70 (by kernel_rfl) rfl ?_
  refine V.seq (V.region (VL.op (R.asB rfl) (VL.nil (V.seq (V.region (VL.op (R.mvI rfl) (VL.op (R.mvI rfl) (VL.op (R.neq rfl rfl) (VL.op (R.asB rfl) (VL.nil (V.ret (fret1 (v := .bool _) rfl rfl rfl (⟨?_, (Mod.refl _ _)⟩)))))))))))))
  simp
theorem cmpI_spec (a b : Int) (w : World) : RetsP Try.prog 66 #[.int .i64 a, .int .i64 b] w (.int .i64 (cmpI a b)) := by
  refine enter (args := [_, _]) Try.func66 rfl Try.ntmps66 (by kernel_rfl) rfl ?_
  refine V.seq (V.region (VL.op (R.asI rfl) (VL.nil (V.seq (V.region (VL.op (R.mvI rfl) (VL.callP Try.call70 rfl (isNaN_spec _ _) fun w1_1 e1_1 => VL.op (R.asB rfl) (VL.nil (V.seq (V.region (VL.op (R.mvI rfl) (VL.callP Try.call70 rfl (isNaN_spec _ _) fun w2_1 e2_1 => VL.op (R.asB rfl) (VL.nil (V.seq (V.seq (V.region (VL.op (R.mvB rfl) (VL.nil (V.cond rfl (fun c11 => V.seq (V.seq (V.region (VL.op (R.mvB rfl) (VL.nil (V.cond rfl (fun c12 => V.seq (V.region (VL.op (R.asI rfl) (VL.nil (V.ret (fret1 (v := .int _ _) rfl rfl rfl (⟨?_, (e1_1.trans e2_1)⟩))))))) (fun c12 => V.skip (V.seq (V.region (VL.op (R.asI rfl) (VL.nil (V.ret (fret1 (v := .int _ _) rfl rfl rfl (⟨?_, (e1_1.trans e2_1)⟩)))))))))))))) (fun c11 => V.skip (V.seq (V.seq (V.region (VL.op (R.mvB rfl) (VL.nil (V.cond rfl (fun c13 => V.seq (V.region (VL.op (R.asI rfl) (VL.nil (V.ret (fret1 (v := .int _ _) rfl rfl rfl (⟨?_, (e1_1.trans e2_1)⟩))))))) (fun c13 => V.skip (V.seq (V.seq (V.region (VL.op (R.mvI rfl) (VL.op (R.mvI rfl) (VL.op (R.lss rfl rfl) (VL.nil (V.condP rfl (fun c16 => V.seq (V.region (VL.op (R.asI rfl) (VL.nil (V.ret (fret1 (v := .int _ _) rfl rfl rfl (⟨?_, (e1_1.trans e2_1)⟩))))))) (fun c16 => V.skip (V.seq (V.seq (V.region (VL.op (R.mvI rfl) (VL.op (R.mvI rfl) (VL.op (R.gtr rfl rfl) (VL.nil (V.condP rfl (fun c19 => V.seq (V.region (VL.op (R.asI rfl) (VL.nil (V.ret (fret1 (v := .int _ _) rfl rfl rfl (⟨?_, (e1_1.trans e2_1)⟩))))))) (fun c19 => V.skip (V.seq (V.region (VL.op (R.asI rfl) (VL.nil (V.ret (fret1 (v := .int _ _) rfl rfl rfl (⟨?_, (e1_1.trans e2_1)⟩))))))))))))))))))))))))))))))))))))))))))))))))))))
  all_goals first | (simp_all [cmpI]; done) | (simp_all [cmpI]; (repeat' split) <;> omega)
def cmpLs (l m : List Int) : List Int := (List.range l.length).map fun i => cmpI (l.getD i default) (m.getD i default)
theorem cmpLs_get {l m : List Int} {i : Nat} (h : i < l.length) : (cmpLs l m).getD i 0 = cmpI (l.getD i default) (m.getD i default) := by unfold cmpLs; simp [List.getD, h]
theorem compare_spec (a b : Option Addr) (ca cb : Nat) (l m : List Int) (w : World) (hm : l.length ≤ 1000000) (hl : l.length = m.length) (hS : IntSl w a l) (hT : IntSl w b m) :
    RetsP Try.prog 54 #[.slice a l.length ca, .slice b l.length cb] w (.int .i64 (orL (cmpLs l m))) := by
  refine enter (args := [_, _]) Try.func54 rfl Try.ntmps54 (by kernel_rfl) rfl ?_
  refine V.seq (V.region (VL.op (R.asI rfl) (VL.nil (V.seq (V.seq (V.region (VL.op (R.mvS rfl) (VL.op (R.lenS Try.runUnderlying23 rfl) (VL.op (R.mvI rfl) (VL.nil (V.block (?_))))))))))))
  refine V.loop [0, 1, 9, 10, 11] (fun k : Nat => [.slice a l.length ca, .slice b l.length cb, .slice a l.length ca, .int .i64 l.length, .int .i64 k]) (fun k w' => k ≤ l.length ∧ (∀ i, i < k → cmpI (l.getD i default) (m.getD i default) = 0) ∧ Ext w w') (fun k => l.length - k) 0 rfl ⟨by omega, by intro i hi; omega, Mod.refl _ _⟩ ?_
  rintro ρ k w1 ⟨hk, hi, e⟩
  refine V.seq (V.region (VL.op (R.lss rfl rfl) (VL.nil (V.seq (V.condP rfl (fun c12 => V.skip (V.seq (V.block (V.seq (V.region (VL.op (R.mvI rfl) (VL.op (R.ixS Try.runUnderlying23 Try.sizeOf3 rfl rfl (by omega) (by omega) ((hS).some (i := k) (by omega))) (VL.op (R.ld1 Try.isAgg3 rfl (((((hS).ext e).row (i := k) (by omega)).cell (i := 0) rfl))) (VL.op (R.asI rfl) (VL.op (R.asI rfl) (VL.nil (V.seq (V.seq (V.region (VL.op (R.mvI rfl) (VL.op (R.mvS rfl) (VL.op (R.lenS Try.runUnderlying23 rfl) (VL.op (R.geq rfl rfl) (VL.nil (V.condP rfl (fun c19 => V.seq (V.region (VL.op (R.asI rfl) (VL.nil (V.ret (fret1 (v := .int _ _) rfl rfl rfl (⟨?_, e⟩))))))) (fun c19 => V.skip (V.seq (V.region (VL.op (R.mvS rfl) (VL.op (R.mvI rfl) (VL.op (R.ixS Try.runUnderlying23 Try.sizeOf3 rfl rfl (by omega) (by omega) ((hT).some (i := k) (by omega))) (VL.op (R.ld1 Try.isAgg3 rfl (((((hT).ext e).row (i := k) (by omega)).cell (i := 0) rfl))) (VL.op (R.asI rfl) (VL.nil (V.seq (V.region (VL.op (R.mvI rfl) (VL.op (R.mvI rfl) (VL.callP Try.call66 rfl (cmpI_spec _ _ _) fun w7_2 e7_2 => VL.op (R.asI rfl) (VL.nil (V.seq (V.region (VL.op (R.mvI rfl) (VL.op (R.neq rfl rfl) (VL.nil (V.condP rfl (fun c28 => V.seq (V.region (VL.op (R.mvI rfl) (VL.op (R.asI rfl) (VL.nil (V.ret (fret1 (v := .int _ _) rfl rfl rfl (⟨?_, (e.trans e7_2)⟩)))))))) (fun c28 => V.skip (V.region (VL.op (R.add rfl rfl (by omega) (by omega)) (VL.op (R.mvI rfl) (VL.nil (⟨k + 1, rfl, ⟨by omega, ?_, (e.trans e7_2)⟩, by omega⟩))))))))))))))))))))))))))))))))))))))))))))))) (fun c12 => V.exit (V.seq (V.seq (?_)))))))))
  · omega
  · have := orL_at (cmpLs l m) k (by unfold cmpLs; simp; omega) (fun i hik => by rw [cmpLs_get (by omega)]; exact hi i hik) (by rw [cmpLs_get (by omega)]; exact c28)
    rw [this, cmpLs_get (by omega)]
  · intro i hik
    by_cases h : i = k
    · subst h; exact Classical.not_not.1 c28
    · exact hi i (by omega)
  · have : orL (cmpLs l m) = 0 := orL_none _ fun i hil => by
      have hl' : (cmpLs l m).length = l.length := by unfold cmpLs; simp
      rw [cmpLs_get (by omega)]; exact hi i (by omega)
    refine V.region (VL.op (R.mvS rfl) (VL.op (R.lenS Try.runUnderlying23 rfl) (VL.op (R.mvS rfl) (VL.op (R.lenS Try.runUnderlying23 rfl) (VL.op (R.lss rfl rfl) (VL.nil (V.condP rfl (fun c35 => V.seq (V.region (VL.op (R.asI rfl) (VL.nil (V.ret (fret1 (v := .int _ _) rfl rfl rfl (⟨?_, e.trans (Mod.refl _ _)⟩))))))) (fun c35 => V.skip (V.seq (V.region (VL.op (R.asI rfl) (VL.nil (V.ret (fret1 (v := .int _ _) rfl rfl rfl (⟨?_, e.trans (Mod.refl _ _)⟩)))))))))))))))
    · exfalso; omega
    · rw [this]
theorem cmp_pr (p q : Int × Int) : orL (cmpLs [p.1, p.2] [q.1, q.2]) < 0 ↔ ltP p q := by
  have e : cmpLs [p.1, p.2] [q.1, q.2] = [cmpI p.1 q.1, cmpI p.2 q.2] := rfl
  rw [e, orL_cons, orL_cons]
  unfold ltP orL cmpI
  simp only [List.find?_nil, Option.getD_none]
  (repeat' split) <;> omega
/-- A pair with one cluster named as another one. -/
def renI (q : Int × Int) (x : Int) : Int := if x = q.2 then q.1 else x
def renP (q p : Int × Int) : Int × Int := ordF (renI q p.1) (renI q p.2)
set_option maxHeartbeats 1000000 in
theorem renamed_spec (p q : Int × Int) (nb : Nat) (w : World) (hq : Blk w nb (.cells #[.int .i64 q.1, .int .i64 q.2] 42 (0, 0))) :
    RetsP Try.prog 55 ([] ++ [encP p] ++ [Value.pointer (some ⟨nb, 0, none⟩)]).toArray w (encP (renP q p)) := by
  refine enter (args := [_, _]) Try.func55 rfl Try.ntmps55 (by kernel_rfl) rfl ?_
  refine V.seq (V.region (VL.box (v := .agg _) rfl fun b2 w2 hb2 e2 hB2 => VL.alloc Try.zeroValue42 fun b3 w3 hb3 e3 hB3 => VL.nil (V.seq (V.seq (?_)))))
  have hB2 : Blk w2 b2 (.cells #[.int .i64 p.1, .int .i64 p.2] 42 (0, 0)) := hB2
  have hB3 : Blk w3 b3 (.cells #[.int .i64 0, .int .i64 0] 42 (0, 0)) := hB3
  have l2 := hB2.lt
  have l3 := hB3.lt
  have lq := hq.lt
  have z2 := e2.size
  have z3 := e3.size
  have ho := OwnT.of_blk (enc := encI) (s := 1) (B := b2) (l := [p.1, p.2]) (hB2.ext e3) (Nat.le_refl _) rfl (encI_len _) (show 2 ≤ maxLen by decide)
  have hq3 := hq.ext (e2.trans e3)
  have E3 := e2.trans e3
  refine V.region (VL.op (R.ldA Try.isAgg42 Try.sizeOf42 rfl rfl ((show RowAt _ _ _ (encPr p) from (hB2.ext e3).rowAt 0 2)) rfl) (VL.op (R.mvI rfl) (VL.nil (V.block (?_)))))
  refine V.loop [1, 2, 3, 6, 7] (fun x : Nat × List Int => [.pointer (some ⟨nb, 0, none⟩), .pointer (some ⟨b2, 0, none⟩), .pointer (some ⟨b3, 0, none⟩), encP p, .int .i64 (x.1 : Nat)])
    (fun x w' => x.1 ≤ 2 ∧ Vc.Mod (one b2) w3 w' ∧ OwnT encI 1 42 b2 w' (some ⟨b2, 0, none⟩) 2 x.2 ∧ x.2.length = 2 ∧ ∀ i, i < 2 → x.2.getD i default = if i < x.1 then renI q ([p.1, p.2].getD i default) else [p.1, p.2].getD i default) (fun x => 2 - x.1) (0, [p.1, p.2]) rfl ⟨Nat.zero_le _, Mod.refl _ _, ho, rfl, fun i hi => by simp⟩ ?_
  rintro ρ ⟨k, l⟩ w4 ⟨hk, m4, ho4, hl, hi⟩
  dsimp only at hk m4 ho4 hl hi ⊢
  have hq4 := hq3.mod m4 (fun h => by have h : nb = b2 := h; omega)
  have hPk : k < 2 → (encPr p)[k]? = some (.int .i64 ([p.1, p.2].getD k default)) := fun h => by
    have : k = 0 ∨ k = 1 := by omega
    rcases this with rfl | rfl <;> rfl
  refine V.seq (V.region (VL.op (R.lss rfl rfl) (VL.nil (V.seq (V.condP rfl (fun c8 => V.skip (V.seq (V.block (V.seq (V.region (VL.op (R.mvI rfl) (VL.op (R.indexA Try.runUnderlying42 Try.isAgg3 Try.sizeOf3 rfl rfl (by omega) (hPk (by omega))) (VL.op (R.asI rfl) (VL.op (R.asI rfl) (VL.nil (V.seq (V.region (VL.op (R.mvI rfl) (VL.op (R.ixA Try.runUnderlying42 Try.sizeOf3 rfl rfl (by decide) (by decide)) (VL.op (R.ld1 Try.isAgg3 rfl ((hq4.ext (Mod.refl _ _)).cell _)) (VL.op (R.eql rfl rfl) (VL.nil (V.condP rfl (fun c14 => ?_) (fun c14 => V.skip (V.region (VL.op (R.add rfl rfl (by omega) (by omega)) (VL.op (R.mvI rfl) (VL.nil (⟨(k + 1, l), rfl, ⟨?_, m4, ho4, hl, ?_⟩, ?_⟩)))))))))))))))))))))))) (fun c8 => V.exit (V.seq (?_))))))))
  · have hk2 : k < 2 := by omega
    refine V.region (VL.op (R.mvI rfl) (VL.op (R.ixA Try.runUnderlying42 Try.sizeOf3 rfl rfl (by decide) (by decide)) (VL.op (R.ld1 Try.isAgg3 rfl (hq4.cell _)) (VL.op (R.ixA Try.runUnderlying42 Try.sizeOf3 rfl rfl (by omega) (by omega)) (VL.ownSt eltI (v := .int _ _) Try.sizeOf3 (ho4) k 0 q.1 rfl rfl (by omega) rfl rfl rfl rfl rfl fun w5 ho5 m5 hs5 => VL.nil (V.region (VL.op (R.add rfl rfl (by omega) (by omega)) (VL.op (R.mvI rfl) (VL.nil (⟨(k + 1, l.set k q.1), rfl, ⟨?_, m4.then m5 (fun x _ hx => aBlk_some hx), ho5, ?_, ?_⟩, ?_⟩))))))))))
    · dsimp only; omega
    · dsimp only; rw [List.length_set]; exact hl
    · intro i hi2
      dsimp only
      rw [set_get (by omega), hi i hi2]
      by_cases e : i = k
      · subst e
        rw [if_pos rfl, if_pos (by omega)]
        unfold renI; rw [if_pos c14]
      · rw [if_neg e]
        by_cases h : i < k
        · rw [if_pos h, if_pos (by omega)]
        · rw [if_neg h, if_neg (by omega)]
    · dsimp only; omega
  · dsimp only; omega
  · intro i hi2
    dsimp only
    rw [hi i hi2]
    by_cases e : i = k
    · subst e
      rw [if_neg (Nat.lt_irrefl _), if_pos (Nat.lt_succ_self _)]
      unfold renI; rw [if_neg c14]
    · by_cases h : i < k
      · rw [if_pos h, if_pos (by omega)]
      · rw [if_neg h, if_neg (by omega)]
  · dsimp only; omega
  · have hk2 : k = 2 := by omega
    subst hk2
    have h0 := hi 0 (by decide)
    have h1 := hi 1 (by decide)
    rw [if_pos (by decide)] at h0 h1
    have hB34 := hB3.mod m4 (fun h => by have h : b3 = b2 := h; omega)
    have e0 : l.getD 0 default = renI q p.1 := h0
    have e1 : l.getD 1 default = renI q p.2 := h1
    have E4 : Ext w w4 := E3.ownA m4 fun x hx => by have hx : x = b2 := hx; omega
    refine V.region (VL.op (R.ixA Try.runUnderlying42 Try.sizeOf3 rfl rfl (by decide) (by decide)) (VL.op (R.ld1 Try.isAgg3 rfl ((show w4.cell? ⟨b2, 0 + Int.toNat 0 * 1, none⟩ = some (.int .i64 (renI q p.1)) from by rw [← e0]; exact IntSl.cell ho4.sl (i := 0) (by omega)))) (VL.op (R.ixA Try.runUnderlying42 Try.sizeOf3 rfl rfl (by decide) (by decide)) (VL.op (R.ld1 Try.isAgg3 rfl ((show w4.cell? ⟨b2, 0 + Int.toNat 1 * 1, none⟩ = some (.int .i64 (renI q p.2)) from by rw [← e1]; exact IntSl.cell ho4.sl (i := 1) (by omega)))) (VL.callP Try.call50 rfl (ordered_spec _ _ _) fun w7_4 e7_4 => VL.store (v := .agg _) Try.sizeOf42 rfl rfl rfl rfl (hB34.ext e7_4) rfl rfl fun w7 m7 hs7 hB7 => VL.nil (V.ret (fretC rfl rfl rfl Try.isAgg42 Try.sizeOf42 rfl (hB7.rowAt 0 2) rfl (?_))))))))
    exact ⟨rfl, (E4.trans e7_4).ownA m7 fun x hx => by have hx : x = b3 := hx; omega⟩
end Go.Proofs.Ytglaigeellpikaa

/- Cluster: maps.Clone. -/
namespace Go.Proofs.Ytglaigeellpikaa
open Go.Vc

theorem R.eqlMapNil {ρ : Env} {w : World} {ty ty2 : TypeId} {x y : Operand} {r : Nat} (hx : tm ρ x = .map (some r)) (hy : tm ρ y = .map none) : run1 Try.prog ρ (.binOp .eql 49 x y ty2) ty w = .ok (.value (.bool false)) w := by
  have hp : (eqGuard .eql 49 x y (.map (some r)) (.map none)).run Try.prog w = .ok () w := by
    simp [eqGuard, go_sem]
  have h : (Op.equal 49 (.map (some r)) (.map none)).run Try.prog w = .ok false w := by
    show (Op.equalIn (9999 + 1) 49 _ _).run Try.prog w = _
    unfold Op.equalIn
    simp [go_sem, Try.runUnderlying49]
  simp only [run1, execOp, hx, hy, Sem.run_bind, hp, Result.andThen_ok, binOp, h, Sem.run_pure]
theorem mkIf49 {ρ : Env} {w : World} {ty : TypeId} {x : Operand} {r : Nat} (hx : tm ρ x = .map (some r)) : run1 Try.prog ρ (.makeInterface 49 x) ty w = .ok (.value (.iface 49 (.map (some r)))) w := by
  simp [run1, execOp, Instr.makeInterface, hx, go_sem, Try.runUnderlying49]
theorem asIf49 {ρ : Env} {w : World} {ty : TypeId} {x : Operand} {r : Nat} (hx : tm ρ x = .iface 49 (.map (some r))) : run1 Try.prog ρ (.typeAssert x 20 49 false) ty w = .ok (.value (.map (some r))) w := by
  simp [run1, execOp, hx, go_sem, Instr.typeAssert, Try.runUnderlying49]
theorem cloneX {ρ : Env} {w : World} {ty : TypeId} {x : Operand} {ts : Array TypeId} {r : Nat} {es : Array MapEntry} {c : Nat} (hx : tm ρ x = .iface 49 (.map (some r))) (hb : Blk w r (.map es c)) :
    run1 Try.prog ρ (.call { callee := .value (.func 67), args := #[x], argTypes := ts }) ty w = .ok (.value (.iface 49 (.map (some w.heap.size)))) (w.alloc (.map es c)) := by
  have e : (Extern.MapsClone.clone #[.iface 49 (.map (some r))]).run Try.prog w = .ok (.iface 49 (.map (some w.heap.size))) (w.alloc (.map es c)) := by
    have e : Extern.MapsClone.clone #[.iface 49 (.map (some r))] = (getObj r >>= fun o => match o with
        | .map entries clock => (newObj (.map entries clock) >>= fun n => pure (.iface 49 (.map (some n))))
        | _ => stuck "maps.clone: a map expected") := rfl
    rw [e]
    simp only [Sem.run_bind, getObj_any hb, Result.andThen_ok]
    simp [go_sem]
  have h := run_callFunc_extern (P := Try.prog) (f := 67) Try.func67 (by kernel_rfl) (by kernel_rfl) (by kernel_rfl) (e := Extern.MapsClone.clone) (by kernel_rfl) #[.iface 49 (.map (some r))] w
  rw [e] at h
  have hf : tm ρ (.func 67) = .func (.func 67) #[] #[] := rfl
  simp [run1, execOp, resolve, invoke, hx, hf, go_sem, h]
theorem cloneM_spec (r : Nat) (l : List ((Int × Int) × Value)) (w : World) (hM : MapIs w r encP l) :
    RetsX Try.prog 56 #[.map (some r)] w (fun x : Nat => .map (some x)) (fun x w' => MapIs w' x encP l ∧ w.heap.size ≤ x) := by
  obtain ⟨es, c, hA⟩ := hM
  refine enter (args := [_]) Try.func56 rfl Try.ntmps56 (by kernel_rfl) rfl ?_
  refine V.seq (V.region (VL.op (R.asM rfl) (VL.nil (V.seq (V.seq (V.region (VL.op (R.mvM rfl) (VL.op (R.lit (R.eqlMapNil rfl rfl) (rfl)) (VL.nil (V.condF rfl (V.skip (V.seq (?_)))))))))))))
  refine V.region (VL.op (R.mvM rfl) (VL.op (mkIf49 rfl) (VL.op (cloneX rfl hA.blk) (VL.op (asIf49 rfl) (VL.op (R.asM rfl) (VL.nil (V.ret (fret1 (v := .map _) rfl rfl rfl ⟨w.heap.size, rfl, ⟨⟨es, c, ?_⟩, Nat.le_refl _⟩, Ext.alloc _ _⟩))))))))
  exact ⟨Blk.alloc _ _, hA.kv, hA.born, hA.clk, hA.nd⟩
end Go.Proofs.Ytglaigeellpikaa
