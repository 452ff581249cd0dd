/- Bond: the walks of head and join. -/
import Derived.Test.YtlefkkelohhnkaaB10
namespace Go.Proofs.Ytlefkkelohhnkaa
open Go.Vc
set_option maxHeartbeats 1000000 in
theorem head_spec (a : Option Addr) (cap B : Nat) (c : List Int) (i : Nat) (w : World) (ho : OwnT encI 1 3 B w a cap c) (hc : Cls c) (hi : i < c.length) (hm : c.length ≤ 1000000) :
    RetsY Try.prog 27 #[.slice a c.length cap, .int .i64 i] w (fun _ : List Int => .int .i64 (rootF c i : Nat)) (fun c' w' => OwnT encI 1 3 B w' a cap c' ∧ Alike c c' ∧ Vc.Mod (aBlk a) w w' ∧ w'.heap.size = w.heap.size) := by
  refine enter (args := [_, _]) Try.func27 rfl Try.ntmps27 (by kernel_rfl) rfl ?_
  refine V.seq (V.region (VL.op (R.asI rfl) (VL.nil (V.seq (V.block (?_))))))
  refine V.loop [0, 1] (fun x : List Int × Nat => [.slice a c.length cap, .int .i64 (x.2 : Nat)]) (fun x w' => x.2 < c.length ∧ OwnT encI 1 3 B w' a cap x.1 ∧ Alike c x.1 ∧ rootF c x.2 = rootF c i ∧ Vc.Mod (aBlk a) w w' ∧ w'.heap.size = w.heap.size) (fun x => x.2) (c, i) rfl ⟨hi, ho, Alike.refl hc, rfl, Mod.refl _ _, rfl⟩ ?_
  rintro ρ ⟨d, j⟩ w1 ⟨hj, hd, hA, hr, m1, hs1⟩
  dsimp only at hj hd hA hr m1 hs1 ⊢
  have hjd : j < d.length := by rw [hA.len]; exact hj
  have hp := hA.cls.par hjd
  have hp2 := hA.cls.par (i := par d j) (by omega)
  have hlen := hA.len
  have hg : (d.getD j default).toNat = par d j := rfl
  refine V.seq (V.seq (V.region (VL.op (R.mvS rfl) (VL.op (R.mvI rfl) (VL.op (R.ixS Try.runUnderlying49 Try.sizeOf3 rfl rfl (by omega) (by omega) ((hd.sl).some (i := j) (by omega))) (VL.op (R.ld1 Try.isAgg3 rfl (((((hd.sl).ext (Mod.refl _ _)).row (i := j) (by omega)).cell (i := 0) rfl))) (VL.op (R.mvI rfl) (VL.op (R.neq rfl rfl) (VL.nil (V.condP rfl (fun c10 => V.skip (V.block (V.seq (V.region (VL.op (R.mvS rfl) (VL.op (R.mvI rfl) (VL.op (R.mvS rfl) (VL.op (R.mvS rfl) (VL.op (R.mvI rfl) (VL.op (R.ixS Try.runUnderlying49 Try.sizeOf3 rfl rfl (by omega) (by omega) ((hd.sl).some (i := j) (by omega))) (VL.op (R.ld1 Try.isAgg3 rfl (((((hd.sl).ext (Mod.refl _ _)).row (i := j) (by omega)).cell (i := 0) rfl))) (VL.op (R.ixS Try.runUnderlying49 Try.sizeOf3 rfl rfl (by omega) (by omega) ((hd.sl).some (i := par d j) (by omega))) (VL.op (R.ld1 Try.isAgg3 rfl (((((hd.sl).ext (Mod.refl _ _)).row (i := par d j) (by omega)).cell (i := 0) rfl))) (VL.op (R.ixS Try.runUnderlying49 Try.sizeOf3 rfl rfl (by omega) (by omega) ((hd.sl).some (i := j) (by omega))) (VL.ownSt eltI (v := .int _ _) Try.sizeOf3 (hd) j 0 (d.getD (par d j) default) rfl rfl (by omega) rfl rfl rfl rfl rfl fun w2 hd2 m2 hs2 => VL.nil (?_)))))))))))))))) (fun c10 => V.exit (V.seq (V.region (VL.op (R.mvI rfl) (VL.op (R.asI rfl) (VL.nil (V.ret (fret1 (v := .int _ _) rfl rfl rfl (?_)))))))))))))))))))
  · have hnew : d.set j (d.getD (par d j) default) = d.set j ((par d (par d j) : Nat) : Int) := by rw [hp2.1]
    rw [hnew] at hd2
    have hA2 := Alike.halve hA.cls hjd
    have hv : (d.set j ((par d (par d j) : Nat) : Int)).getD j default = ((par d (par d j) : Nat) : Int) := by simp [List.getD, hjd]
    have hne : par d j ≠ j := fun e => c10 (by rw [hp.1, e])
    have hlen2 : (d.set j ((par d (par d j) : Nat) : Int)).length = c.length := by simp [hlen]
    refine V.region (VL.op (R.mvS rfl) (VL.op (R.mvI rfl) (VL.op (R.ixS Try.runUnderlying49 Try.sizeOf3 rfl rfl (by omega) (by omega) ((hd2.sl).some (i := j) (by omega))) (VL.op (R.ld1 Try.isAgg3 rfl (((((hd2.sl).ext (Mod.refl _ _)).row (i := j) (by omega)).cell (i := 0) rfl))) (VL.op (R.asI rfl) (VL.nil (?_)))))))
    refine ⟨(d.set j ((par d (par d j) : Nat) : Int), par d (par d j)), ?_, ⟨by dsimp only; omega, hd2, hA.trans hA2, ?_, m1.then m2 fun _ _ h => h, hs2.trans hs1⟩, by dsimp only; omega⟩
    · exact congrArg (fun z : Int => [Value.slice a c.length cap, .int .i64 z]) hv
    · dsimp only
      rw [← hr, ← hA.root j hj, ← hA.root _ (by omega), rootF_eq hA.cls hjd, if_neg hne, rootF_eq hA.cls (i := par d j) (by omega)]
      by_cases e : par d (par d j) = par d j
      · rw [if_pos e, e]; exact rootF_self hA.cls (by omega) e
      · rw [if_neg e]
  · have he : par d j = j := by
      have h1 : d.getD j default = (j : Int) := Classical.not_not.1 c10
      unfold par; rw [h1]; rfl
    have hrj : rootF c i = j := by rw [← hr, ← hA.root j hj]; exact rootF_self hA.cls hjd he
    exact ⟨d, by rw [hrj], hd, hA, m1, hs1⟩
theorem head_specN (a : Option Addr) (cap B n : Nat) (c : List Int) (i : Nat) (w : World) (hn : c.length = n) (ho : OwnT encI 1 3 B w a cap c) (hc : Cls c) (hi : i < n) (hm : n ≤ 1000000) :
    RetsY Try.prog 27 #[.slice a n cap, .int .i64 i] w (fun _ : List Int => .int .i64 (rootF c i : Nat)) (fun c' w' => OwnT encI 1 3 B w' a cap c' ∧ Alike c c' ∧ Vc.Mod (aBlk a) w w' ∧ w'.heap.size = w.heap.size) := by
  subst hn; exact head_spec a cap B c i w ho hc hi hm
/-- Two classes become one. -/
def joinF (c : List Int) (i j : Nat) : List Int := c.set (max (rootF c i) (rootF c j)) ((min (rootF c i) (rootF c j) : Nat) : Int)
/-- 'd' binds as 'c' does, and its records 'i' and 'j' besides. -/
structure Joined (c d : List Int) (i j : Nat) : Prop where
  len : d.length = c.length
  cls : Cls d
  root : ∀ k, k < c.length → rootF d k = if rootF c k = max (rootF c i) (rootF c j) then min (rootF c i) (rootF c j) else rootF c k
set_option maxHeartbeats 1000000 in
theorem join_spec (a : Option Addr) (cap B : Nat) (c : List Int) (i j : Nat) (w : World) (ho : OwnT encI 1 3 B w a cap c) (hc : Cls c) (hi : i < c.length) (hj : j < c.length) (hm : c.length ≤ 1000000) :
    RetsY Try.prog 39 #[.slice a c.length cap, .int .i64 i, .int .i64 j] w (fun _ : List Int => .tuple #[]) (fun d w' => OwnT encI 1 3 B w' a cap d ∧ Joined c d i j ∧ Vc.Mod (aBlk a) w w' ∧ w'.heap.size = w.heap.size) := by
  refine enter (args := [_, _, _]) Try.func39 rfl Try.ntmps39 (by kernel_rfl) rfl ?_
  refine V.seq (V.region (VL.op (R.mvS rfl) (VL.op (R.mvI rfl) (VL.callY Try.call27 rfl (head_spec a cap B c i _ ho hc hi hm) fun d1 w1 ⟨h1, A1, m1, s1⟩ => VL.op (R.mvS rfl) (VL.op (R.mvI rfl) (VL.callY Try.call27 rfl (head_specN a cap B c.length d1 j _ A1.len h1 A1.cls hj hm) fun d2 w2 ⟨h2, A2, m2, s2⟩ => VL.op (R.asI rfl) (VL.op (R.asI rfl) (VL.nil (?_)))))))))
  have hA := A1.trans A2
  have hl2 := hA.len
  have er : rootF d1 j = rootF c j := A1.root j hj
  rw [er]
  have ri := rootF_le hc i hi
  have rj := rootF_le hc j hj
  obtain ⟨x, hx⟩ : ∃ x, x = rootF c i := ⟨_, rfl⟩
  obtain ⟨y, hy⟩ : ∃ y, y = rootF c j := ⟨_, rfl⟩
  rw [← hx, ← hy]
  have hmx : (max (x : Int) (y : Int)).toNat = max x y := by omega
  have hmn : min (x : Int) (y : Int) = ((min x y : Nat) : Int) := by omega
  refine V.region (VL.op (R.mvS rfl) (VL.op (R.mvI rfl) (VL.op (R.mvI rfl) (VL.op (R.max rfl rfl) (VL.op (R.mvI rfl) (VL.op (R.mvI rfl) (VL.op (R.min rfl rfl) (VL.op (R.ixS Try.runUnderlying49 Try.sizeOf3 rfl rfl (by omega) (by omega) (h2.sl.some (i := (max (x : Int) (y : Int)).toNat) (by omega))) (VL.ownSt eltI (v := .int _ _) Try.sizeOf3 (h2) (max (x : Int) (y : Int)).toNat 0 (min (x : Int) (y : Int)) rfl rfl (by omega) rfl rfl rfl rfl rfl fun w3 h3 m3 s3 => VL.nil (fend0 rfl (?_)))))))))))
  rw [hmx, hmn] at h3
  have px : par d2 x = x := by
    have h0 : rootF d2 x = x := by
      rw [hA.root x (by omega), hx]; exact rootF_idem hc hi
    have := rootF_par hA.cls x (by omega)
    rw [h0] at this; exact this
  have py : par d2 y = y := by
    have h0 : rootF d2 y = y := by
      rw [hA.root y (by omega), hy]; exact rootF_idem hc hj
    have := rootF_par hA.cls y (by omega)
    rw [h0] at this; exact this
  have pmx : par d2 (max x y) = max x y := by
    by_cases h : x ≤ y
    · rw [Nat.max_eq_right h]; exact py
    · rw [Nat.max_eq_left (by omega)]; exact px
  have pmn : par d2 (min x y) = min x y := by
    by_cases h : x ≤ y
    · rw [Nat.min_eq_left h]; exact px
    · rw [Nat.min_eq_right (by omega)]; exact py
  obtain ⟨hcl, hrt⟩ := root_join hA.cls (m := min x y) (n := max x y) (by omega) (by omega) pmn pmx
  refine ⟨_, rfl, h3, ⟨by simp [hl2], hcl, fun k hk => ?_⟩, (m1.then m2 fun _ _ h => h).then m3 fun _ _ h => h, by omega⟩
  rw [hrt k (by omega), hA.root k hk, ← hx, ← hy]
end Go.Proofs.Ytlefkkelohhnkaa

/- Bond: the walk of each. -/
namespace Go.Proofs.Ytlefkkelohhnkaa
open Go.Vc

/-- What a decision about two records asks for. -/
def ev (recs : List Rec) (kind : Int) (d : Dec) : Option (Nat × Nat) :=
  if d.kind = kind ∧ 0 ≤ idxF recs d.a ∧ 0 ≤ idxF recs d.b then some ((idxF recs d.a).toNat, (idxF recs d.b).toNat) else none
def evs (recs : List Rec) (kind : Int) (l : List Dec) : List (Nat × Nat) := l.filterMap (ev recs kind)
theorem evs_snoc (recs : List Rec) (kind : Int) (l : List Dec) (k : Nat) (hk : k < l.length) : evs recs kind (l.take (k + 1)) = evs recs kind (l.take k) ++ (match ev recs kind (l.getD k default) with | some p => [p] | none => []) := by
  unfold evs
  rw [List.take_succ_eq_append_getElem hk, List.filterMap_append]
  congr 1
  rw [show l.getD k default = l[k] by simp [List.getD, hk]]
  cases h : ev recs kind l[k] <;> simp [h]
/-- The map of the first indices, when the records from 'k' on are in it. -/
def ixM (recs : List Rec) (k : Nat) (q : Key) : Option Int := match (recs.drop k).findIdx? fun r => decide (r.key = q) with | some i => some ((k + i : Nat) : Int) | none => none
theorem ixM_step (recs : List Rec) (k : Nat) (hk : k < recs.length) (q : Key) : ixM recs k q = if q = (recs.getD k default).key then some (k : Int) else ixM recs (k + 1) q := by
  unfold ixM
  rw [List.drop_eq_getElem_cons hk, List.findIdx?_cons]
  have hg : recs.getD k default = recs[k] := by simp [List.getD, hk]
  rw [hg]
  by_cases h : q = recs[k].key
  · rw [if_pos h, decide_eq_true h.symm]; simp
  · rw [if_neg h, decide_eq_false (fun e => h e.symm)]
    simp only [Bool.false_eq_true, if_false]
    cases h2 : (recs.drop (k + 1)).findIdx? (fun r => decide (r.key = q)) with
    | none => rfl
    | some i => simp; omega
theorem ixM_zero (recs : List Rec) (q : Key) : ixM recs 0 q = if 0 ≤ idxF recs q then some (idxF recs q) else none := by
  unfold ixM idxF
  rw [List.drop_zero]
  cases h : recs.findIdx? (fun r => decide (r.key = q)) with
  | none => rfl
  | some i => simp
theorem ixM_all (recs : List Rec) (q : Key) : ixM recs recs.length q = none := by unfold ixM; simp
theorem idxF_lt (recs : List Rec) (q : Key) : idxF recs q < recs.length := by
  unfold idxF
  cases h : recs.findIdx? (fun r => decide (r.key = q)) with
  | none => simp only; omega
  | some i =>
    simp only
    have := (List.findIdx?_eq_some_iff_getElem.1 h).1
    omega
section
variable {ι : Type} {S : Nat → ι → World → Prop} {T : ι → Nat → Prop}
set_option maxRecDepth 100000 in
set_option maxHeartbeats 4000000 in
theorem each_spec (g : FuncId) (Fv Cv : List Value) (recs : List Rec) (l : List Dec) (kind : Int) (ra la : Option Addr) (rc lc : Nat) (w : World) (x0 : ι)
    (hfn : IsFn Try.prog g) (hSe : ∀ i x w w', S i x w → Ext w w' → S i x w')
    (hdo : ∀ i x w p, (evs recs kind l)[i]? = some p → S i x w → RetsY Try.prog g (Fv ++ [Value.int .i64 (p.1 : Nat), Value.int .i64 (p.2 : Nat)] ++ Cv).toArray w (fun _ : ι => .tuple #[]) (fun x' w' => S (i + 1) x' w' ∧ Vc.Mod (T x) w w' ∧ ∀ k, T x' k → T x k ∨ w.heap.size ≤ k))
    (h0 : S 0 x0 w) (hR : RecSl w ra recs) (hL : DecSl w la l) (hLT : 0 < l.length → ∀ k, aBlk la k → ¬ T x0 k) (hT0 : ∀ k, T x0 k → k < w.heap.size)
    (hm1 : recs.length ≤ 1000000) (hm2 : l.length ≤ 1000000) :
    RetsY Try.prog 38 #[.slice ra recs.length rc, .slice la l.length lc, .int .i64 kind, .func (.func g) Fv.toArray Cv.toArray] w (fun _ : ι => .tuple #[])
      (fun x' w' => S (evs recs kind l).length x' w' ∧ Vc.Mod (T x0) w w' ∧ ∀ k, T x' k → T x0 k ∨ w.heap.size ≤ k) := by
  refine enter (args := [_, _, _, _]) Try.func38 rfl Try.ntmps38 (by kernel_rfl) rfl ?_
  refine V.seq (V.region (VL.makeMap fun r w1 hr e1 hR1 => VL.op (R.asM rfl) (VL.nil (V.cut [1, 2, 3, 8] (fun _ : Unit => [.slice la l.length lc, .int .i64 kind, .func (.func g) Fv.toArray Cv.toArray, .map (some r)]) (fun _ w' => Ext w w' ∧ ∃ M, MapIs w' r encK M ∧ ∀ q, mget M q = (ixM recs 0 q).map fun i => Value.int .i64 i) (V.seq (V.region (VL.op (R.mvS rfl) (VL.op (R.lenS Try.runUnderlying22 rfl) (VL.op (R.sub rfl rfl (by omega) (by omega)) (VL.op (R.asI rfl) (VL.nil (V.block (?_))))))))) (fun rgB0 xB0 wBB0 hBB0 => V.seq (?_))))))
  · refine V.loop [0, 1, 2, 3, 8, 9] (fun k : Nat => [.slice ra recs.length rc, .slice la l.length lc, .int .i64 kind, .func (.func g) Fv.toArray Cv.toArray, .map (some r), .int .i64 ((recs.length : Int) - 1 - (k : Nat))])
      (fun k w' => k ≤ recs.length ∧ Ext w w' ∧ ∃ M, MapIs w' r encK M ∧ ∀ q, mget M q = (ixM recs (recs.length - k) q).map fun i => Value.int .i64 i) (fun k => recs.length - k) 0 (by simp only [Int.natCast_zero, Int.sub_zero]; rfl) ⟨Nat.zero_le _, e1, [], MapIs.empty hR1, fun q => by rw [Nat.sub_zero, ixM_all]; rfl⟩ ?_
    rintro ρ k w2 ⟨hk, e, M, hM, hMv⟩
    have hix : k < recs.length → ((recs.length : Int) - 1 - (k : Nat)) = ((recs.length - 1 - k : Nat) : Int) := fun h => by omega
    refine V.seq (V.seq (V.region (VL.op (R.mvI rfl) (VL.op (R.geq rfl rfl) (VL.nil (V.condP rfl (fun c21 => V.skip (V.seq (V.block (V.region (VL.op (R.mvM rfl) (VL.op (R.mvS rfl) (VL.op (R.mvI rfl) (VL.op (R.ixS Try.runUnderlying22 Try.sizeOf66 rfl rfl (by omega) (by omega) (hR.some (i := ((recs.length : Int) - 1 - (k : Nat)).toNat) (by omega))) (VL.op (R.fld' (o := 0) Try.runUnderlying66 rfl rfl Try.sizeOf37 rfl rfl) (VL.op (R.ldA Try.isAgg37 Try.sizeOf37 rfl rfl ((show RowAt _ _ _ (encKey (recs.getD ((recs.length : Int) - 1 - (k : Nat)).toNat default).key) from (((hR.ext e).row (i := ((recs.length : Int) - 1 - (k : Nat)).toNat) (by omega)).sub 0 3 rfl))) rfl) (VL.op (R.mvI rfl) (VL.mapUpdate key37 Try.runUnderlying79 rfl (k := ((recs.getD ((recs.length : Int) - 1 - (k : Nat)).toNat default).key)) rfl rfl (hM) fun w4 hM4 m4 => VL.nil (V.region (VL.op (R.mvI rfl) (VL.op (R.sub rfl rfl (by omega) (by omega)) (VL.op (R.asI rfl) (VL.nil (⟨k + 1, ?_, ⟨by omega, (Mod.ownA e m4 (fun x hx => by have hx : x = r := hx; omega)), _, hM4, ?_⟩, by omega⟩)))))))))))))))))) (fun c21 => V.exit (?_))))))))
    · exact congrArg (fun z : Int => [Value.slice ra recs.length rc, .slice la l.length lc, .int .i64 kind, .func (.func g) Fv.toArray Cv.toArray, .map (some r), .int .i64 z]) (show ((recs.length : Int) - 1 - (k : Nat)) - 1 = (recs.length : Int) - 1 - ((k + 1 : Nat) : Int) by omega)
    · intro q
      have hkn : k < recs.length := by omega
      have hi : ((recs.length : Int) - 1 - (k : Nat)).toNat = recs.length - (k + 1) := by omega
      rw [mget_mset, hMv q, hi, ixM_step recs (recs.length - (k + 1)) (by omega) q, show recs.length - (k + 1) + 1 = recs.length - k by omega]
      split
      · have : ((recs.length : Int) - 1 - (k : Nat)) = ((recs.length - (k + 1) : Nat) : Int) := by omega
        rw [this]; rfl
      · rfl
    · have hkn : k = recs.length := by omega
      subst hkn
      rw [Nat.sub_self] at hMv
      exact ⟨(), rfl, e, M, hM, hMv⟩
  obtain ⟨eB, M, hM, hMv⟩ := hBB0
  have hrT : ¬ T x0 r := fun h => by have := hT0 r h; omega
  refine V.region (VL.op (R.mvS rfl) (VL.op (R.lenS Try.runUnderlying23 rfl) (VL.op (R.mvI rfl) (VL.nil (V.block (?_))))))
  refine V.loop [2, 3, 8, 31, 32, 33] (fun x : Nat × ι => [.int .i64 kind, .func (.func g) Fv.toArray Cv.toArray, .map (some r), .slice la l.length lc, .int .i64 l.length, .int .i64 (x.1 : Nat)])
    (fun x w' => x.1 ≤ l.length ∧ S (evs recs kind (l.take x.1)).length x.2 w' ∧ Vc.Mod (T x0) w w' ∧ (∀ k, T x.2 k → T x0 k ∨ w.heap.size ≤ k) ∧ ¬ T x.2 r ∧ MapIs w' r encK M ∧ DecSl w' la l) (fun x => l.length - x.1) (0, x0) rfl ⟨Nat.zero_le _, hSe _ _ _ _ h0 eB, Ext.mod eB, fun k h => .inl h, hrT, hM, hL.ext eB⟩ ?_
  rintro ρ ⟨k, x⟩ w2 ⟨hk, hSx, m2, hTx, hrx, hM2, hL2⟩
  dsimp only at hk hSx m2 hTx hrx hM2 hL2 ⊢
  refine V.seq (V.region (VL.op (R.lss rfl rfl) (VL.nil (V.seq (V.condP rfl (fun c34 => V.skip (V.seq (V.block (V.seq (V.region (VL.op (R.ixS Try.runUnderlying23 Try.sizeOf39 rfl rfl (by omega) (by omega) ((hL2).some (i := k) (by omega))) (VL.op (R.ldA Try.isAgg39 Try.sizeOf39 rfl rfl ((((hL2).ext (Mod.refl _ _)).row (i := k) (by omega))) rfl) (VL.allocSt (v := .agg (encDec (l.getD k default)).toArray) Try.zeroValue39 Try.sizeOf39 rfl rfl rfl rfl rfl fun b7_2 w7_2 hb7_2 e7_2 hB7_2 => VL.nil (V.seq (V.region (VL.op (R.mvM rfl) (VL.op (R.fld' (o := 1) Try.runUnderlying39 rfl rfl Try.sizeOf37 rfl rfl) (VL.op (R.ldA Try.isAgg37 Try.sizeOf37 rfl rfl ((show RowAt _ _ _ (encKey (l.getD k default).a) from (hB7_2.rowAt 1 3))) rfl) (VL.op (R.lookupOkI key37 Try.runUnderlying79 Try.zeroValue3 ((hM2.ext e7_2)) (ixM recs 0 (l.getD k default).a) (hMv (l.getD k default).a) rfl rfl) (VL.op (R.mvT rfl) (VL.op (R.extr rfl rfl) (VL.op (R.extr rfl rfl) (VL.op (R.asI rfl) (VL.op (R.asB rfl) (VL.nil (V.seq (V.region (VL.op (R.mvM rfl) (VL.op (R.fld' (o := 4) Try.runUnderlying39 rfl rfl Try.sizeOf37 rfl rfl) (VL.op (R.ldA Try.isAgg37 Try.sizeOf37 rfl rfl ((show RowAt _ _ _ (encKey (l.getD k default).b) from (hB7_2.rowAt 4 3))) rfl) (VL.op (R.lookupOkI key37 Try.runUnderlying79 Try.zeroValue3 ((hM2.ext e7_2)) (ixM recs 0 (l.getD k default).b) (hMv (l.getD k default).b) rfl rfl) (VL.op (R.mvT rfl) (VL.op (R.extr rfl rfl) (VL.op (R.extr rfl rfl) (VL.op (R.asI rfl) (VL.op (R.asB rfl) (VL.nil (V.seq (V.regionCut [51, 52, 53, 54, 55, 56, 57, 58, 59, 60] 60 (.bool (decide ((l.getD k default).kind = kind) && (ixM recs 0 (l.getD k default).a).isSome && (ixM recs 0 (l.getD k default).b).isSome)) (fun w' => Ext _ w') rfl (VL.op (R.fld' (o := 0) Try.runUnderlying39 rfl rfl Try.sizeOf3 rfl rfl) (VL.op (R.ld1 Try.isAgg3 rfl ((hB7_2.cell _))) (VL.op (R.mvI rfl) (VL.op (R.eql rfl rfl) (VL.op (R.mvB rfl) (VL.andP rfl rfl (fun g10_4 => VL.op (R.mvB rfl) (VL.op (R.pickTB rfl rfl) (VL.op (R.mvB rfl) (VL.and rfl rfl (fun g10_7 => VL.op (R.mvB rfl) (VL.op (R.pickTB rfl rfl) (VL.nil ⟨rfl, cutB rfl ?_, Mod.refl _ _⟩))) (fun g10_7 => VL.op (R.pickFB rfl rfl) (VL.nil ⟨rfl, cutB rfl ?_, Mod.refl _ _⟩)))))) (fun g10_4 => VL.op (R.pickFB rfl rfl) (VL.op (R.mvB rfl) (VL.gF rfl rfl (VL.op (R.pickFB rfl rfl) (VL.nil ⟨rfl, cutB rfl ?_, Mod.refl _ _⟩))))))))))) (fun rg10 w10c e10c => V.cond rfl (fun c60 => ?_) (fun c60 => V.skip (V.region (VL.op (R.add rfl rfl (by omega) (by omega)) (VL.op (R.mvI rfl) (VL.nil (?_))))))))))))))))))))))))))))))))))))))))) (fun c34 => V.exit (fend0 rfl (?_))))))))
  · rw [decide_eq_true g10_4, g10_7]; rfl
  · rw [decide_eq_true g10_4, g10_7]; rfl
  · rw [decide_eq_false g10_4]; rfl
  · rw [Bool.and_eq_true, Bool.and_eq_true, decide_eq_true_eq] at c60
    obtain ⟨⟨k1, k2⟩, k3⟩ := c60
    have hcase : ∀ q, (ixM recs 0 q).isSome = true → 0 ≤ idxF recs q ∧ (ixM recs 0 q).getD 0 = ((idxF recs q).toNat : Int) := fun q h => by
      rw [ixM_zero] at h ⊢
      by_cases h0 : 0 ≤ idxF recs q
      · rw [if_pos h0]; exact ⟨h0, by show idxF recs q = _; omega⟩
      · rw [if_neg h0] at h; cases h
    obtain ⟨ha1, ha2⟩ := hcase _ k2
    obtain ⟨hb1, hb2⟩ := hcase _ k3
    have hev : ev recs kind (l.getD k default) = some ((idxF recs (l.getD k default).a).toNat, (idxF recs (l.getD k default).b).toNat) := by unfold ev; rw [if_pos ⟨k1, ha1, hb1⟩]
    have hsn := evs_snoc recs kind l k (by omega)
    rw [hev] at hsn
    have hget : (evs recs kind l)[(evs recs kind (l.take k)).length]? = some ((idxF recs (l.getD k default).a).toNat, (idxF recs (l.getD k default).b).toNat) := by
      have e1 : evs recs kind l = evs recs kind (l.take (k + 1)) ++ evs recs kind (l.drop (k + 1)) := by unfold evs; rw [← List.filterMap_append, List.take_append_drop]
      rw [e1, hsn, List.append_assoc, List.getElem?_append_right (Nat.le_refl _)]; simp
    have eC := e7_2.trans e10c
    have hsp := hdo _ x w10c _ hget (hSe _ _ _ _ hSx eC)
    simp only [← ha2, ← hb2] at hsp
    have hLk : ∀ k, aBlk la k → ¬ T x k := fun y hy h => by
      rcases hTx y h with h | h
      · exact hLT (by omega) y hy h
      · obtain ⟨ad, rfl, rfl⟩ := hy
        have : ad.block < w.heap.size := hL.lt (i := k) (by omega)
        omega
    refine V.region (VL.op (R.mvF rfl) (VL.op (R.mvI rfl) (VL.op (R.mvI rfl) (VL.callCY rfl (hfn) rfl (hsp) fun x3 w3 ⟨hS3, m3, hT3⟩ => VL.nil (V.region (VL.op (R.add rfl rfl (by omega) (by omega)) (VL.op (R.mvI rfl) (VL.nil (?_)))))))))
    refine ⟨(k + 1, x3), rfl, ⟨by dsimp only; omega, ?_, ?_, ?_, ?_, ?_, ?_⟩, by dsimp only; omega⟩
    · dsimp only; rw [hsn, List.length_append, List.length_singleton]; exact hS3
    · exact (m2.ext eC).then m3 fun y hy h => (hTx y h).elim id fun h => by omega
    · dsimp only
      intro y hy
      rcases hT3 y hy with h | h
      · exact hTx y h
      · right; have := m2.size; have := eC.size; omega
    · dsimp only
      intro h
      rcases hT3 r h with h | h
      · exact hrx h
      · have := hM2.lt; have := eC.size; omega
    · exact (hM2.ext eC).mod m3 hrx
    · exact (hL2.ext eC).mod m3 fun ad had h => hLk _ ⟨ad, had, rfl⟩ h
  · have hev : ev recs kind (l.getD k default) = none := by
      unfold ev
      rw [if_neg]
      rintro ⟨h1, h2, h3⟩
      rw [decide_eq_true h1, ixM_zero, if_pos h2, ixM_zero, if_pos h3] at c60
      cases c60
    have hsn := evs_snoc recs kind l k (by omega)
    rw [hev, List.append_nil] at hsn
    have eC := e7_2.trans e10c
    exact ⟨(k + 1, x), rfl, ⟨by dsimp only; omega, by dsimp only; rw [hsn]; exact hSe _ _ _ _ hSx eC, m2.ext eC, hTx, hrx, hM2.ext eC, hL2.ext eC⟩, by dsimp only; omega⟩
  · have hkl : k = l.length := by omega
    subst hkl
    rw [List.take_length] at hSx
    exact ⟨x, rfl, hSx, m2, hTx⟩
end
end Go.Proofs.Ytlefkkelohhnkaa
