/- Bond: the walk of the reference's heads. -/
import Derived.Test.YtlefkkelohhnkaaB18
namespace Go.Proofs.Ytlefkkelohhnkaa
open Go.Vc
/-- The heads while a class is renamed. -/
def rplL (F : Nat → Nat) (lo hi : Int) (k n : Nat) : List Int := (List.range n).map fun i => if i < k ∧ ((F i : Nat) : Int) = hi then lo else ((F i : Nat) : Int)
theorem rplL_len (F : Nat → Nat) (lo hi : Int) (k n : Nat) : (rplL F lo hi k n).length = n := by simp [rplL]
theorem rplL_zero (F : Nat → Nat) (lo hi : Int) (n : Nat) : rplL F lo hi 0 n = hds F n := by
  unfold rplL hds
  exact List.map_congr_left fun i _ => if_neg fun h => absurd h.1 (Nat.not_lt_zero i)
theorem rplL_get (F : Nat → Nat) (lo hi : Int) (k n i : Nat) (hi' : i < n) : (rplL F lo hi k n).getD i default = if i < k ∧ ((F i : Nat) : Int) = hi then lo else ((F i : Nat) : Int) := by simp [rplL, List.getD, hi']
theorem rplL_set (F : Nat → Nat) (lo hi : Int) (k n : Nat) (h : ((F k : Nat) : Int) = hi) : (rplL F lo hi k n).set k lo = rplL F lo hi (k + 1) n := by
  refine getD_extT (by simp [rplL_len]) fun i hi' => ?_
  rw [List.length_set, rplL_len] at hi'
  rw [rplL_get _ _ _ _ _ _ hi']
  by_cases e : k = i
  · subst e; rw [if_pos ⟨Nat.lt_succ_self _, h⟩]; simp [List.getD, rplL_len, hi']
  · rw [List.getD, List.getElem?_set_ne e, ← List.getD, rplL_get _ _ _ _ _ _ hi']
    by_cases h1 : i < k
    · simp [h1, show i < k + 1 by omega]
    · simp [h1, show ¬ i < k + 1 by omega]
theorem rplL_keep (F : Nat → Nat) (lo hi : Int) (k n : Nat) (h : ¬ ((F k : Nat) : Int) = hi) : rplL F lo hi (k + 1) n = rplL F lo hi k n := by
  unfold rplL
  refine List.map_congr_left fun i _ => ?_
  by_cases e : k = i
  · subst e; simp [h]
  · by_cases h1 : i < k
    · simp [h1, show i < k + 1 by omega]
    · simp [h1, show ¬ i < k + 1 by omega]
theorem hds_congr {F G : Nat → Nat} {n : Nat} (h : ∀ i, i < n → F i = G i) : hds F n = hds G n := by
  unfold hds
  exact List.map_congr_left fun i hi => by rw [h i (List.mem_range.1 hi)]
theorem rplL_end (es : List (Nat × Nat)) (m n : Nat) {p : Nat × Nat} (h : es[m]? = some p) : rplL (hdF es m) (min ((hdF es m p.1 : Nat) : Int) (hdF es m p.2 : Nat)) (max ((hdF es m p.1 : Nat) : Int) (hdF es m p.2 : Nat)) n n = hds (hdF es (m + 1)) n := by
  unfold rplL hds
  refine List.map_congr_left fun i hi => ?_
  rw [hdF_succ es m i h]
  have hi := List.mem_range.1 hi
  generalize hdF es m p.1 = x
  generalize hdF es m p.2 = y
  generalize hdF es m i = z
  by_cases e : z = max x y
  · rw [if_pos e, if_pos ⟨hi, by omega⟩]; omega
  · rw [if_neg e, if_neg (fun h => e (by omega))]
theorem evs_at {recs : List Rec} {kind : Int} {l : List Dec} {j : Nat} {p : Nat × Nat} (hj : j < l.length) (h : ev recs kind (l.getD j default) = some p) : (evs recs kind l)[(evs recs kind (l.take j)).length]? = some p ∧ (evs recs kind (l.take (j + 1))).length = (evs recs kind (l.take j)).length + 1 := by
  have hsn := evs_snoc recs kind l j hj
  rw [h] at hsn
  refine ⟨?_, by rw [hsn, List.length_append]; rfl⟩
  have e1 : evs recs kind l = evs recs kind (l.take (j + 1)) ++ evs recs kind (l.drop (j + 1)) := by unfold evs; rw [← List.filterMap_append, List.take_append_drop]
  rw [e1, hsn, List.append_assoc, List.getElem?_append_right (Nat.le_refl _)]; simp
theorem evs_off {recs : List Rec} {kind : Int} {l : List Dec} {j : Nat} (hj : j < l.length) (h : ev recs kind (l.getD j default) = none) : (evs recs kind (l.take (j + 1))).length = (evs recs kind (l.take j)).length := by
  have hsn := evs_snoc recs kind l j hj
  rw [h, List.append_nil] at hsn
  rw [hsn]
theorem ev_some {recs : List Rec} {kind : Int} {d : Dec} {p : Nat × Nat} (h : ev recs kind d = some p) : p = ((idxF recs d.a).toNat, (idxF recs d.b).toNat) ∧ d.kind = kind ∧ 0 ≤ idxF recs d.a ∧ 0 ≤ idxF recs d.b := by
  unfold ev at h
  split at h
  · rename_i hc
    injection h with h
    exact ⟨h.symm, hc⟩
  · cases h
set_option maxRecDepth 100000 in
set_option maxHeartbeats 4000000 in
theorem rheads_spec (recs : List Rec) (l : List Dec) (ra la : Option Addr) (rc lc : Nat) (w : World) (hm1 : recs.length ≤ 1000000) (hm2 : l.length ≤ 1000000) (hR : RecSl w ra recs) (hL : DecSl w la l) :
    RetsX Try.prog 29 #[.slice ra recs.length rc, .slice la l.length lc] w (fun x : Option Addr × Nat => .slice x.1 (hds (hdF (evs recs 1 l) (evs recs 1 l).length) recs.length).length x.2) (fun x w' => OwnT encI 1 3 w.heap.size w' x.1 x.2 (hds (hdF (evs recs 1 l) (evs recs 1 l).length) recs.length)) := by
  refine enter (args := [_, _]) Try.func29 rfl Try.ntmps29 (by kernel_rfl) rfl ?_
  refine V.seq (V.region (VL.op (R.asS rfl) (VL.nil (V.seq (V.region (VL.op (R.asS rfl) (VL.nil (V.cut [0, 1, 5] (fun x : Option Addr × Nat => [.slice ra recs.length rc, .slice la l.length lc, .slice x.1 (hds (fun i => i) recs.length).length x.2]) (fun x w' => Ext w w' ∧ OwnT encI 1 3 w.heap.size w' x.1 x.2 (hds (fun i => i) recs.length)) (V.seq (V.region (VL.op (R.asI rfl) (VL.nil (V.block (?_)))))) (fun rgB0 xB0 wBB0 hBB0 => V.seq (V.seq (?_)))))))))))
  · refine V.loop [0, 1, 5, 6] (fun x : Nat × Option Addr × Nat => [.slice ra recs.length rc, .slice la l.length lc, .slice x.2.1 (hds (fun i => i) x.1).length x.2.2, .int .i64 (x.1 : Nat)])
      (fun x w' => x.1 ≤ recs.length ∧ Ext w w' ∧ OwnT encI 1 3 w.heap.size w' x.2.1 x.2.2 (hds (fun i => i) x.1)) (fun x => recs.length - x.1) (0, none, 0) rfl ⟨Nat.zero_le _, Mod.refl _ _, OwnT.nil encI 1 3 _ _⟩ ?_
    rintro ρ ⟨k, a, cap⟩ w2 ⟨hk, e, hO⟩
    dsimp only at hk e hO ⊢
    have hl := hds_len (fun i => i) k
    refine V.seq (V.seq (V.region (VL.op (R.mvI rfl) (VL.op (R.mvS rfl) (VL.op (R.lenS Try.runUnderlying22 rfl) (VL.op (R.lss rfl rfl) (VL.nil (V.condP rfl (fun c17 => V.skip (V.seq (V.block (V.region (VL.op (R.mvS rfl) (VL.op (R.mvI rfl) (VL.append1 el26 Try.runUnderlying26 Try.sizeOf3 Try.zeroValue3 rfl (((k : Nat) : Int)) rfl rfl rfl hO rfl rfl rfl (by omega) (by unfold maxLen; omega) (by have := e.size; omega) fun a5 cap5 w5 vt ho5 m5 hf5 => VL.op (R.asS rfl) (VL.nil (V.region (VL.op (R.mvI rfl) (VL.op (R.add rfl rfl (by omega) (by omega)) (VL.op (R.asI rfl) (VL.nil (⟨(k + 1, a5, cap5), ?_, ⟨?_, ?_, ?_⟩, ?_⟩)))))))))))))) (fun c17 => V.exit (?_))))))))))
    · exact congrArg (fun z : Nat => [Value.slice ra recs.length rc, .slice la l.length lc, .slice a5 z cap5, .int .i64 ((k + 1 : Nat) : Int)]) (show (hds (fun i => i) k).length + 1 = (hds (fun i => i) (k + 1)).length by rw [hds_len, hds_len])
    · dsimp only; omega
    · exact Mod.ownA e m5 fun y hy => hO.ge y hy
    · dsimp only; rw [hds_succ]; exact ho5
    · dsimp only; omega
    · have hkn : k = recs.length := by omega
      subst hkn
      exact ⟨(a, cap), rfl, e, hO⟩
  obtain ⟨e0, hO⟩ := hBB0
  obtain ⟨es, hes⟩ : ∃ es, es = evs recs 1 l := ⟨_, rfl⟩
  rw [← hes]
  refine V.region (VL.op (R.asB rfl) (VL.nil (V.block (?_))))
  refine V.loop [0, 1, 5, 7] (fun x : Nat × Option Addr × Nat => [.slice ra recs.length rc, .slice la l.length lc, .slice x.2.1 (hds (hdF es (if x.1 = 0 then 0 else es.length)) recs.length).length x.2.2, .bool (decide (x.1 < 2))])
    (fun x w' => x.1 ≤ 2 ∧ Ext w w' ∧ OwnT encI 1 3 w.heap.size w' x.2.1 x.2.2 (hds (hdF es (if x.1 = 0 then 0 else es.length)) recs.length)) (fun x => 3 - x.1) (0, xB0) rfl ⟨Nat.zero_le 2, e0, hO⟩ ?_
  rintro ρ ⟨ph, a, cap⟩ w2 ⟨hph, e, hO⟩
  dsimp only at hph e hO ⊢
  refine V.seq (V.seq (V.region (VL.op (R.mvB rfl) (VL.nil (V.cond rfl (fun c24 => V.skip (V.block (V.seq (V.region (VL.op (R.asB rfl) (VL.nil (V.seq (V.region (VL.op (R.asI rfl) (VL.nil (V.block (?_)))))))))))) (fun c24 => V.exit (V.seq (V.region (VL.op (R.mvS rfl) (VL.op (R.asS rfl) (VL.nil (V.ret (fret1 (v := .slice _ _ _) rfl rfl rfl (?_))))))))))))))
  · have hph2 : ph < 2 := of_decide_eq_true (by assumption)
    · refine V.loop [0, 1, 5, 7, 8] (fun x : Nat × Bool => [.slice ra recs.length rc, .slice la l.length lc, .slice a (hds (hdF es (if ph = 0 then (evs recs 1 (l.take x.1)).length else es.length)) recs.length).length cap, .bool x.2, .int .i64 (x.1 : Nat)])
        (fun x w' => x.1 ≤ l.length ∧ (ph = 1 → x.2 = false) ∧ Ext w w' ∧ OwnT encI 1 3 w.heap.size w' a cap (hds (hdF es (if ph = 0 then (evs recs 1 (l.take x.1)).length else es.length)) recs.length)) (fun x => l.length - x.1) (0, false) rfl ⟨Nat.zero_le _, fun _ => rfl, e, hO⟩ ?_
      rintro ρ ⟨j, b⟩ w3 ⟨hj, hb, e3, hO3⟩
      dsimp only at hj hb e3 hO3 ⊢
      have hhl : ∀ m, (hds (hdF es m) recs.length).length = recs.length := fun m => hds_len (hdF es m) recs.length
      refine V.seq (V.seq (V.region (VL.op (R.mvI rfl) (VL.op (R.mvS rfl) (VL.op (R.lenS Try.runUnderlying23 rfl) (VL.op (R.lss rfl rfl) (VL.nil (V.condP rfl (fun c28 => V.skip (V.seq (V.block (V.seq (?_))))) (fun c28 => V.exit (?_))))))))))
      · have hjl : j < l.length := by omega
        obtain ⟨m, hm⟩ : ∃ m, m = (if ph = 0 then (evs recs 1 (l.take j)).length else es.length) := ⟨_, rfl⟩
        rw [← hm] at hO3 ⊢
        have hA := idxF_lt recs (l.getD j default).a
        have hB := idxF_lt recs (l.getD j default).b
        have hml := hhl m
        have hL3 := hL.ext e3
        have hR3 := hR.ext e3
        have hsn := evs_snoc recs 1 l j hjl
        have hg : ∀ i, i < recs.length → (hds (hdF es m) recs.length).getD i default = ((hdF es m i : Nat) : Int) := fun i hi => hds_get (hdF es m) recs.length i hi
        refine V.regionQ mixed 16 (by kernel_rfl) rfl (fun w' => Ext _ w') (Ext.drawn _) (VQ.op (fun wq eq => R.mvS rfl) (VQ.op (fun wq eq => R.mvS rfl) (VQ.op (fun wq eq => R.mvI rfl) (VQ.op (fun wq eq => R.ixS Try.runUnderlying23 Try.sizeOf39 rfl rfl (by omega) (by omega) ((hL3).some (i := j) (by omega))) (VQ.op (fun wq eq => R.fld' (o := 1) Try.runUnderlying39 rfl rfl Try.sizeOf37 rfl rfl) (VQ.op (fun wq eq => R.ldA Try.isAgg37 Try.sizeOf37 rfl rfl ((show RowAt _ _ _ (encKey (l.getD j default).a) from ((((hL3).ext eq).row (i := j) (by omega)).sub 1 3 rfl))) rfl) (VQ.callP (fun _ _ h k => Mod.trans h k) Try.call22 rfl (fun wq eq => index_spec ra rc recs (l.getD j default).a _ (by omega) (hR3.ext eq)) (VQ.op (fun wq eq => R.mvS rfl) (VQ.op (fun wq eq => R.mvS rfl) (VQ.op (fun wq eq => R.mvI rfl) (VQ.op (fun wq eq => R.ixS Try.runUnderlying23 Try.sizeOf39 rfl rfl (by omega) (by omega) ((hL3).some (i := j) (by omega))) (VQ.op (fun wq eq => R.fld' (o := 4) Try.runUnderlying39 rfl rfl Try.sizeOf37 rfl rfl) (VQ.op (fun wq eq => R.ldA Try.isAgg37 Try.sizeOf37 rfl rfl ((show RowAt _ _ _ (encKey (l.getD j default).b) from ((((hL3).ext eq).row (i := j) (by omega)).sub 4 3 rfl))) rfl) (VQ.callP (fun _ _ h k => Mod.trans h k) Try.call22 rfl (fun wq eq => index_spec ra rc recs (l.getD j default).b _ (by omega) (hR3.ext eq)) (VQ.op (fun wq eq => R.asI rfl) (VQ.op (fun wq eq => R.asI rfl) (VQ.nil fun w12q e12q => VL.nil (V.seq (V.seq (V.regionQCut mixed 25 (by kernel_rfl) rfl (fun w' => Ext _ w') (Ext.drawn _) [45, 46, 47, 48, 49, 50, 51, 52, 53, 54, 55, 56, 57, 58, 59, 60, 61, 62, 63, 64, 65, 66, 67, 68, 69] 69 (.bool (match ev recs 1 (l.getD j default) with | none => true | some p => decide (hdF es m p.1 = hdF es m p.2))) rfl (VQ.op (fun wq eq => R.mvS rfl) (VQ.op (fun wq eq => R.mvI rfl) (VQ.op (fun wq eq => R.ixS Try.runUnderlying23 Try.sizeOf39 rfl rfl (by omega) (by omega) ((hL3).some (i := j) (by omega))) (VQ.op (fun wq eq => R.fld' (o := 0) Try.runUnderlying39 rfl rfl Try.sizeOf3 rfl rfl) (VQ.op (fun wq eq => R.ld1 Try.isAgg3 rfl (((((hL3).ext (e12q.trans eq)).row (i := j) (by omega)).cell (i := 0) rfl))) (VQ.op (fun wq eq => R.neq rfl rfl) (VQ.op (fun wq eq => R.mvB rfl) (VQ.orP rfl rfl (fun g13_6 => VQ.op (fun wq eq => R.mvI rfl) (VQ.gT rfl rfl (VQ.op (fun wq eq => R.lss rfl rfl) (VQ.op (fun wq eq => R.pickFB rfl rfl) (VQ.op (fun wq eq => R.mvB rfl) (VQ.orP rfl rfl (fun g13_10 => VQ.op (fun wq eq => R.mvI rfl) (VQ.gT rfl rfl (VQ.op (fun wq eq => R.lss rfl rfl) (VQ.op (fun wq eq => R.pickFB rfl rfl) (VQ.op (fun wq eq => R.mvB rfl) (VQ.orP rfl rfl (fun g13_14 => VQ.op (fun wq eq => R.mvS rfl) (VQ.gT rfl rfl (VQ.op (fun wq eq => R.mvI rfl) (VQ.gT rfl rfl (VQ.op (fun wq eq => R.ixS Try.runUnderlying26 Try.sizeOf3 rfl rfl (by omega) (by omega) ((hO3.sl).some (i := (idxF recs (l.getD j default).a).toNat) (by omega))) (VQ.gT rfl rfl (VQ.op (fun wq eq => R.ld1 Try.isAgg3 rfl (((((hO3.sl).ext (e12q.trans eq)).row (i := (idxF recs (l.getD j default).a).toNat) (by omega)).cell (i := 0) rfl))) (VQ.gT rfl rfl (VQ.op (fun wq eq => R.mvS rfl) (VQ.gT rfl rfl (VQ.op (fun wq eq => R.mvI rfl) (VQ.gT rfl rfl (VQ.op (fun wq eq => R.ixS Try.runUnderlying26 Try.sizeOf3 rfl rfl (by omega) (by omega) ((hO3.sl).some (i := (idxF recs (l.getD j default).b).toNat) (by omega))) (VQ.gT rfl rfl (VQ.op (fun wq eq => R.ld1 Try.isAgg3 rfl (((((hO3.sl).ext (e12q.trans eq)).row (i := (idxF recs (l.getD j default).b).toNat) (by omega)).cell (i := 0) rfl))) (VQ.gT rfl rfl (VQ.op (fun wq eq => R.eql rfl rfl) (VQ.op (fun wq eq => R.pickFB rfl rfl) (VQ.nil (cutB rfl ?_)))))))))))))))))))) (fun g13_14 => VQ.gF rfl rfl (VQ.gF rfl rfl (VQ.gF rfl rfl (VQ.gF rfl rfl (VQ.gF rfl rfl (VQ.gF rfl rfl (VQ.gF rfl rfl (VQ.gF rfl rfl (VQ.op (fun wq eq => R.pickTB rfl rfl) (VQ.nil (cutB rfl ?_))))))))))))))))) (fun g13_10 => VQ.gF rfl rfl (VQ.op (fun wq eq => R.pickTB rfl rfl) (VQ.op (fun wq eq => R.mvB rfl) (VQ.gF rfl rfl (VQ.gF rfl rfl (VQ.gF rfl rfl (VQ.gF rfl rfl (VQ.gF rfl rfl (VQ.gF rfl rfl (VQ.gF rfl rfl (VQ.gF rfl rfl (VQ.gF rfl rfl (VQ.op (fun wq eq => R.pickTB rfl rfl) (VQ.nil (cutB rfl ?_))))))))))))))))))))) (fun g13_6 => VQ.gF rfl rfl (VQ.op (fun wq eq => R.pickTB rfl rfl) (VQ.op (fun wq eq => R.mvB rfl) (VQ.gF rfl rfl (VQ.gF rfl rfl (VQ.op (fun wq eq => R.pickTB rfl rfl) (VQ.op (fun wq eq => R.mvB rfl) (VQ.gF rfl rfl (VQ.gF rfl rfl (VQ.gF rfl rfl (VQ.gF rfl rfl (VQ.gF rfl rfl (VQ.gF rfl rfl (VQ.gF rfl rfl (VQ.gF rfl rfl (VQ.gF rfl rfl (VQ.op (fun wq eq => R.pickTB rfl rfl) (VQ.nil (cutB rfl ?_))))))))))))))))))))))))))) (fun rg13 w13c e13c => V.cond rfl (fun c69 => V.exit (V.region (VL.op (R.mvI rfl) (VL.op (R.add rfl rfl (by omega) (by omega)) (VL.op (R.asI rfl) (VL.nil (?_))))))) (fun c69 => V.skip (V.seq (?_))))))))))))))))))))))))
        · unfold ev; rw [if_pos ⟨Classical.not_not.1 g13_6, by omega, by omega⟩]; dsimp only; rw [hg _ (by omega), hg _ (by omega)]; exact decide_eq_decide.2 (by omega)
        · unfold ev; rw [if_neg (fun h => by omega)]
        · unfold ev; rw [if_neg (fun h => by omega)]
        · unfold ev; rw [if_neg (fun h => g13_6 h.1)]
        · have hst : hds (hdF es (if ph = 0 then (evs recs 1 (l.take (j + 1))).length else es.length)) recs.length = hds (hdF es m) recs.length := by
            refine hds_congr fun i hi => ?_
            by_cases h0 : ph = 0
            · rw [if_pos h0] at hm ⊢
              cases hev : ev recs 1 (l.getD j default) with
              | none => rw [evs_off hjl hev, hm]
              | some p =>
                obtain ⟨h1, h2⟩ := evs_at hjl hev
                rw [hev] at c69
                rw [← hes, ← hm] at h1
                rw [h2, ← hm]
                exact hdF_skip es m h1 (of_decide_eq_true c69) i
            · rw [if_neg h0] at hm ⊢; rw [hm]
          have E := e3.trans (e12q.trans e13c)
          exact ⟨(j + 1, b), by dsimp only; rw [hst]; rfl, ⟨by dsimp only; omega, hb, E, by dsimp only; rw [hst]; exact hO3.ext (e12q.trans e13c)⟩, by dsimp only; omega⟩
        · cases hev : ev recs 1 (l.getD j default) with
          | none => rw [hev] at c69; cases c69
          | some p =>
            rw [hev] at c69
            have c69 : hdF es m p.1 ≠ hdF es m p.2 := of_decide_eq_false c69
            obtain ⟨h1, h2⟩ := evs_at hjl hev
            rw [← hes] at h1
            have h0 : ph = 0 := Classical.byContradiction fun h0 => by
              rw [if_neg h0] at hm
              exact c69 (hm ▸ hdF_all es _ _ h1 (List.getElem?_eq_some_iff.1 h1).1)
            subst h0
            rw [if_pos rfl] at hm
            rw [← hm] at h1 h2
            obtain ⟨hp, _, hp1, hp2⟩ := ev_some hev
            have E13 := e12q.trans e13c
            have hOx := hO3.ext E13
            obtain ⟨x, hx⟩ : ∃ x, x = (idxF recs (l.getD j default).a).toNat := ⟨_, rfl⟩
            obtain ⟨y, hy⟩ : ∃ y, y = (idxF recs (l.getD j default).b).toNat := ⟨_, rfl⟩
            have hpx : p.1 = x := by rw [hp, hx]
            have hpy : p.2 = y := by rw [hp, hy]
            have hgx := hg x (by omega)
            have hgy := hg y (by omega)
            refine V.regionQ mixed 20 (by kernel_rfl) rfl (fun w' => Ext _ w') (Ext.drawn _) (VQ.op (fun wq eq => R.mvS rfl) (VQ.op (fun wq eq => R.mvI rfl) (VQ.op (fun wq eq => R.ixS Try.runUnderlying26 Try.sizeOf3 rfl rfl (by omega) (by omega) ((hOx.sl).some (i := (idxF recs (l.getD j default).a).toNat) (by omega))) (VQ.op (fun wq eq => R.ld1 Try.isAgg3 rfl (((((hOx.sl).ext eq).row (i := (idxF recs (l.getD j default).a).toNat) (by omega)).cell (i := 0) rfl))) (VQ.op (fun wq eq => R.mvS rfl) (VQ.op (fun wq eq => R.mvI rfl) (VQ.op (fun wq eq => R.ixS Try.runUnderlying26 Try.sizeOf3 rfl rfl (by omega) (by omega) ((hOx.sl).some (i := (idxF recs (l.getD j default).b).toNat) (by omega))) (VQ.op (fun wq eq => R.ld1 Try.isAgg3 rfl (((((hOx.sl).ext eq).row (i := (idxF recs (l.getD j default).b).toNat) (by omega)).cell (i := 0) rfl))) (VQ.op (fun wq eq => R.min rfl rfl) (VQ.op (fun wq eq => R.mvS rfl) (VQ.op (fun wq eq => R.mvI rfl) (VQ.op (fun wq eq => R.ixS Try.runUnderlying26 Try.sizeOf3 rfl rfl (by omega) (by omega) ((hOx.sl).some (i := (idxF recs (l.getD j default).a).toNat) (by omega))) (VQ.op (fun wq eq => R.ld1 Try.isAgg3 rfl (((((hOx.sl).ext eq).row (i := (idxF recs (l.getD j default).a).toNat) (by omega)).cell (i := 0) rfl))) (VQ.op (fun wq eq => R.mvS rfl) (VQ.op (fun wq eq => R.mvI rfl) (VQ.op (fun wq eq => R.ixS Try.runUnderlying26 Try.sizeOf3 rfl rfl (by omega) (by omega) ((hOx.sl).some (i := (idxF recs (l.getD j default).b).toNat) (by omega))) (VQ.op (fun wq eq => R.ld1 Try.isAgg3 rfl (((((hOx.sl).ext eq).row (i := (idxF recs (l.getD j default).b).toNat) (by omega)).cell (i := 0) rfl))) (VQ.op (fun wq eq => R.max rfl rfl) (VQ.op (fun wq eq => R.asI rfl) (VQ.op (fun wq eq => R.asI rfl) (VQ.nil fun w14q e14q => VL.nil (V.seq (V.seq (V.region (VL.op (R.asI rfl) (VL.nil (V.block (?_))))))))))))))))))))))))))))
            rw [← hx, ← hy, hgx, hgy, ← hpx, ← hpy]
            obtain ⟨lo, hlo⟩ : ∃ lo, lo = min ((hdF es m p.1 : Nat) : Int) (hdF es m p.2 : Nat) := ⟨_, rfl⟩
            obtain ⟨hi, hhi⟩ : ∃ hi, hi = max ((hdF es m p.1 : Nat) : Int) (hdF es m p.2 : Nat) := ⟨_, rfl⟩
            have hend := rplL_end es m recs.length h1
            rw [← hlo, ← hhi] at hend ⊢
            have E14 := e3.trans (E13.trans e14q)
            have hO14 := hOx.ext e14q
            rw [← rplL_zero (hdF es m) lo hi] at hO14
            refine V.loop [0, 1, 5, 8, 11, 12, 13] (fun k : Nat => [.slice ra recs.length rc, .slice la l.length lc, .slice a recs.length cap, .int .i64 (j : Nat), .int .i64 lo, .int .i64 hi, .int .i64 (k : Nat)])
              (fun k w' => k ≤ recs.length ∧ Ext w w' ∧ OwnT encI 1 3 w.heap.size w' a cap (rplL (hdF es m) lo hi k recs.length)) (fun k => recs.length - k) 0 (by rw [hml]; rfl) ⟨Nat.zero_le _, E14, hO14⟩ ?_
            rintro ρ k w5 ⟨hk, e5, hO5⟩
            have hrl := rplL_len (hdF es m) lo hi k recs.length
            refine V.seq (V.seq (V.region (VL.op (R.mvI rfl) (VL.op (R.mvS rfl) (VL.op (R.lenS Try.runUnderlying26 rfl) (VL.op (R.lss rfl rfl) (VL.nil (V.condP rfl (fun c91 => V.skip (V.seq (V.block (V.seq (V.region (VL.op (R.mvS rfl) (VL.op (R.mvI rfl) (VL.op (R.ixS Try.runUnderlying26 Try.sizeOf3 rfl rfl (by omega) (by omega) ((hO5.sl).some (i := k) (by omega))) (VL.op (R.ld1 Try.isAgg3 rfl (((((hO5.sl).ext (Mod.refl _ _)).row (i := k) (by omega)).cell (i := 0) rfl))) (VL.op (R.mvI rfl) (VL.op (R.eql rfl rfl) (VL.nil (V.condP rfl (fun c99 => V.region (VL.op (R.mvS rfl) (VL.op (R.mvI rfl) (VL.op (R.mvI rfl) (VL.op (R.ixS Try.runUnderlying26 Try.sizeOf3 rfl rfl (by omega) (by omega) ((hO5.sl).some (i := k) (by omega))) (VL.ownSt eltI (v := .int _ _) Try.sizeOf3 (hO5) k 0 lo rfl rfl (by omega) rfl rfl rfl rfl rfl fun w6 ho6 m6 hs6 => VL.nil (V.region (VL.op (R.mvI rfl) (VL.op (R.add rfl rfl (by omega) (by omega)) (VL.op (R.asI rfl) (VL.nil (?_)))))))))))) (fun c99 => V.skip (V.region (VL.op (R.mvI rfl) (VL.op (R.add rfl rfl (by omega) (by omega)) (VL.op (R.asI rfl) (VL.nil (?_)))))))))))))))))))) (fun c91 => V.exit (V.region (VL.op (R.asB rfl) (VL.nil (V.region (VL.op (R.mvI rfl) (VL.op (R.add rfl rfl (by omega) (by omega)) (VL.op (R.asI rfl) (VL.nil (?_))))))))))))))))))
            · rw [rplL_get _ _ _ _ _ _ (by omega)] at c99
              have hFk : ((hdF es m k : Nat) : Int) = hi := by simpa using c99
              refine ⟨k + 1, rfl, ⟨by omega, Mod.ownA e5 m6 fun z hz => hO5.ge z hz, ?_⟩, by omega⟩
              rw [← rplL_set _ _ _ _ _ hFk]; exact ho6
            · rw [rplL_get _ _ _ _ _ _ (by omega)] at c99
              have hFk : ¬ ((hdF es m k : Nat) : Int) = hi := by simpa using c99
              exact ⟨k + 1, rfl, ⟨by omega, e5, by rw [rplL_keep _ _ _ _ _ hFk]; exact hO5⟩, by omega⟩
            · have hkn : k = recs.length := by omega
              subst hkn
              rw [hend] at hO5
              exact ⟨(j + 1, true), by dsimp only; rw [hhl]; rfl, ⟨by dsimp only; omega, fun h => (by omega), e5, by dsimp only; rw [if_pos rfl, h2]; exact hO5⟩, by dsimp only; omega⟩
      · have hjl : j = l.length := by omega
        subst hjl
        rw [List.take_length, ← hes, ite_self] at hO3
        cases hbb : b with
        | true =>
          have h0 : ph = 0 := by
            rcases Nat.lt_or_ge ph 1 with h | h
            · omega
            · have := hb (by omega); rw [this] at hbb; cases hbb
          subst h0
          subst hbb; exact ⟨(1, a, cap), by rw [List.take_length, ← hes, ite_self]; rfl, ⟨by dsimp only; omega, e3, by simpa using hO3⟩, by dsimp only; omega⟩
        | false =>
          subst hbb; exact ⟨(2, a, cap), by rw [List.take_length, ← hes, ite_self]; rfl, ⟨by dsimp only; omega, e3, by simpa using hO3⟩, by dsimp only; omega⟩
  · have hph2 : ph = 2 := by
      have : ¬ ph < 2 := of_decide_eq_false (by assumption)
      omega
    subst hph2
    exact ⟨(a, cap), rfl, hO, e⟩
end Go.Proofs.Ytlefkkelohhnkaa
