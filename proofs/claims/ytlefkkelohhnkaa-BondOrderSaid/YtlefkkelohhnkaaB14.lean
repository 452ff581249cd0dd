/- Bond: the walk of Bind. -/
import Derived.Test.YtlefkkelohhnkaaB13
namespace Go.Proofs.Ytlefkkelohhnkaa
open Go.Vc

theorem capLe {α : Type} {enc : α → List Value} {s e B cap : Nat} {w : World} {a : Option Addr} {l : List α} (h : OwnT enc s e B w a cap l) : l.length ≤ cap := by
  rcases h.own.2 with ⟨_, h0⟩ | ⟨g, cap', cur, hv, hB, hg, hn, hcs, hc, ht⟩
  · rw [List.length_map] at h0; omega
  · injection hv with ha hn' hcap
    simp only [List.length_map] at hn
    omega
theorem sorted_own (a : Option Addr) (cap B : Nat) (o : List (Int × Int)) (w : World) (ho : OwnT encPr 2 48 B w a cap o) (hm : o.length ≤ 1000000) :
    RetsY Try.prog 28 #[.slice a o.length cap] w (fun _ : Unit => .slice a (setP o).length cap) (fun _ w' => TSl encPr 2 w' a (setP o) ∧ Vc.Mod (aBlk a) w w') := by
  by_cases h0 : o = []
  · subst h0
    refine Rets.mono (sorted_nil a cap w) ?_
    rintro u w' ⟨rfl, e⟩
    exact ⟨(), rfl, TSl.nil _ _ _ _, Ext.mod e⟩
  · have hp : 0 < o.length := List.length_pos_iff.2 h0
    have hs := Srt.of_own (d := o.toArray) eltPr (by simpa using ho) (by simpa using hp)
    have hlt : abk a < w.heap.size := TSl.lt ho.sl hp
    have hs2 := sorted_spec a cap o.toArray w w hs hlt (by simpa using hp) (by simpa using capLe ho) (by simpa using hm)
    rw [List.size_toArray] at hs2
    refine Rets.mono hs2 ?_
    rintro u w' ⟨d, rfl, hd, e⟩
    refine ⟨(), by simp, ?_, hd.m⟩
    have := hd.sl eltPr
    rw [e] at this
    simpa using this
/-- The pair of heads of two records that differ. -/
def dfP (h : Nat → Nat) (p : Int × Int) : Option (Int × Int) := if h p.1.toNat = h p.2.toNat then none else some (mkP (h p.1.toNat) (h p.2.toNat))
def hds (h : Nat → Nat) (k : Nat) : List Int := (List.range k).map fun i => ((h i : Nat) : Int)
theorem hds_succ (h : Nat → Nat) (k : Nat) : hds h (k + 1) = hds h k ++ [((h k : Nat) : Int)] := by unfold hds; rw [List.range_succ, List.map_append]; rfl
theorem hds_len (h : Nat → Nat) (k : Nat) : (hds h k).length = k := by simp [hds]
theorem hds_get (h : Nat → Nat) (k i : Nat) (hi : i < k) : (hds h k).getD i default = ((h i : Nat) : Int) := by simp [hds, List.getD, hi]
/-- What binds the records. -/
def hdR (recs : List Rec) (l : List Dec) : Nat → Nat := hdF (evs recs 1 (effL l)) (evs recs 1 (effL l)).length
def dfR (recs : List Rec) (l : List Dec) : List (Int × Int) := prs (evs recs 2 (effL l)) (evs recs 2 (effL l)).length
def bndP (recs : List Rec) (l : List Dec) : List (Int × Int) := setP ((dfR recs l).filterMap (dfP (hdR recs l)))
theorem filterMap_take {α β : Type} [Inhabited α] (f : α → Option β) (l : List α) (k : Nat) (hk : k < l.length) : (l.take (k + 1)).filterMap f = (l.take k).filterMap f ++ (match f (l.getD k default) with | some p => [p] | none => []) := by
  rw [List.take_succ_eq_append_getElem hk, List.filterMap_append]
  congr 1
  rw [show l.getD k default = l[k] by simp [List.getD, hk]]
  cases h : f l[k] <;> simp [h]
theorem dfR_mem (recs : List Rec) (l : List Dec) (p : Int × Int) (h : p ∈ dfR recs l) : ∃ x y : Nat, p = mkP x y ∧ x < recs.length ∧ y < recs.length := by
  unfold dfR prs at h
  obtain ⟨q, hq, rfl⟩ := List.mem_map.1 h
  rw [List.take_length] at hq
  obtain ⟨i, hi⟩ := List.mem_iff_getElem?.1 hq
  exact ⟨q.1, q.2, rfl, ev_lt hi⟩
theorem dfR_len (recs : List Rec) (l : List Dec) : (dfR recs l).length ≤ l.length := by
  unfold dfR prs
  have := evs_len recs 2 (effL l)
  have h2 : (effL l).length ≤ l.length := effK_len l l.length
  simp; omega
structure BindR (recs : List Rec) (l : List Dec) (B : Nat) (x : (Option Addr × Nat) × (Option Addr × Nat)) (w : World) : Prop where
  hd : OwnT encI 1 3 B w x.1.1 x.1.2 (hds (hdR recs l) recs.length)
  pr : TSl encPr 2 w x.2.1 (bndP recs l)
set_option maxRecDepth 100000 in
set_option maxHeartbeats 4000000 in
theorem bind_spec (recs : List Rec) (l : List Dec) (ra la : Option Addr) (rc lc : Nat) (w : World) (hm1 : recs.length ≤ 1000000) (hm2 : l.length ≤ 1000000) (hR : RecSl w ra recs) (hL : DecSl w la l) :
    RetsX Try.prog 11 #[.slice ra recs.length rc, .slice la l.length lc] w (fun x : (Option Addr × Nat) × (Option Addr × Nat) => .tuple #[.slice x.1.1 recs.length x.1.2, .slice x.2.1 (bndP recs l).length x.2.2]) (fun x w' => BindR recs l w.heap.size x w') := by
  refine enter (args := [_, _]) Try.func11 rfl Try.ntmps11 (by kernel_rfl) rfl ?_
  refine V.seq (V.region (VL.op (R.asS rfl) (VL.op (R.asS rfl) (VL.nil (V.seq (V.region (VL.op (R.mvS rfl) (VL.op (R.mvS rfl) (VL.callX Try.call26 rfl (split_spec recs l ra la rc lc _ hm1 hm2 (hR.ext (Mod.refl _ _)) (hL.ext (Mod.refl _ _))) fun x1 w1 hS e1 => VL.op (R.mvT rfl) (VL.op (R.extr rfl rfl) (VL.op (R.extr rfl rfl) (VL.op (R.asS rfl) (VL.op (R.asS rfl) (VL.nil (V.seq (V.region (VL.op (R.asS rfl) (VL.nil (V.cut [7, 8] (fun x : Option Addr × Nat => [.slice x1.2.1 (dfR recs l).length x1.2.2, .slice x.1 recs.length x.2]) (fun x w' => Ext w w' ∧ OwnT encI 1 3 w.heap.size w' x.1 x.2 (hds (hdR recs l) recs.length) ∧ OwnT encPr 2 48 w.heap.size w' x1.2.1 x1.2.2 (dfR recs l)) (V.seq (V.region (VL.op (R.mvS rfl) (VL.op (R.lenS Try.runUnderlying49 rfl) (VL.op (R.mvI rfl) (VL.nil (V.block (?_)))))))) (fun rgB0 xB0 wBB0 hBB0 => V.seq (?_)))))))))))))))))))))
  · obtain ⟨c0, hJ0⟩ := hS.cls
    refine V.loop [6, 7, 8, 22, 23] (fun x : Nat × List Int × Option Addr × Nat => [.slice x1.1.1 recs.length x1.1.2, .slice x1.2.1 (dfR recs l).length x1.2.2, .slice x.2.2.1 (hds (hdR recs l) x.1).length x.2.2.2, .int .i64 recs.length, .int .i64 (x.1 : Nat)])
      (fun x w' => x.1 ≤ recs.length ∧ Ext w w' ∧ JnS (evs recs 1 (effL l)) recs.length w.heap.size x1.1.1 x1.1.2 (evs recs 1 (effL l)).length x.2.1 w' ∧ OwnT encPr 2 48 w.heap.size w' x1.2.1 x1.2.2 (dfR recs l) ∧ OwnT encI 1 3 w.heap.size w' x.2.2.1 x.2.2.2 (hds (hdR recs l) x.1) ∧ Sep x.2.2.1 x1.1.1 ∧ Sep x.2.2.1 x1.2.1) (fun x => recs.length - x.1)
      (0, c0, none, 0) rfl ⟨Nat.zero_le _, e1, hJ0, hS.prs, OwnT.nil encI 1 3 _ _, Sep.nil _, Sep.nil _⟩ ?_
    rintro ρ ⟨k, c, a8, cap8⟩ w2 ⟨hk, e, hJ, hP, hO, hs1, hs2⟩
    dsimp only at hk e hJ hP hO hs1 hs2 ⊢
    refine V.seq (V.region (VL.op (R.lss rfl rfl) (VL.nil (V.seq (V.condP rfl (fun c24 => V.skip (V.seq (V.block (V.seq (V.region (VL.op (R.mvI rfl) (VL.op (R.asI rfl) (VL.nil (?_))))))))) (fun c24 => V.exit (?_)))))))
    · have hkn : k < recs.length := by omega
      have hrt : rootF c k = hdR recs l k := hJ.root k hkn
      have hol := hds_len (hdR recs l) k
      refine V.region (VL.op (R.mvS rfl) (VL.op (R.mvS rfl) (VL.op (R.mvI rfl) (VL.callY Try.call27 rfl (head_specN x1.1.1 x1.1.2 w.heap.size recs.length c k _ hJ.len (hJ.own.ext (Mod.refl _ _)) hJ.cls hkn hm1) fun c6 w6 ⟨ho6, hA6, m6, s6⟩ => VL.append1 el26 Try.runUnderlying26 Try.sizeOf3 Try.zeroValue3 rfl (((rootF c k : Nat) : Int)) rfl rfl rfl (hO.mod m6 hs1) rfl rfl rfl (by omega) (by unfold maxLen; omega) (by have := e.size; omega) fun a7 cap7 w7 vt ho7 m7 hf7 => VL.op (R.asS rfl) (VL.nil (V.region (VL.op (R.add rfl rfl (by omega) (by omega)) (VL.op (R.mvI rfl) (VL.nil (⟨(k + 1, c6, a7, cap7), ?_, ⟨?_, ?_, ?_, ?_, ?_, ?_, ?_⟩, ?_⟩))))))))))
      · exact congrArg (fun z : Nat => [Value.slice x1.1.1 recs.length x1.1.2, .slice x1.2.1 (dfR recs l).length x1.2.2, .slice a7 z cap7, .int .i64 recs.length, .int .i64 ((k + 1 : Nat) : Int)]) (show (hds (hdR recs l) k).length + 1 = (hds (hdR recs l) (k + 1)).length by rw [hds_len, hds_len])
      · dsimp only; omega
      · exact Mod.ownA (Mod.ownA e m6 fun y hy => hJ.own.ge y hy) m7 fun y hy => hO.ge y hy
      · exact ⟨ho6.mod m7 fun y hy h => hs1 y h hy, hA6.cls, hA6.len.trans hJ.len, fun j hj => (hA6.root j (by rw [hJ.len]; exact hj)).trans (hJ.root j hj)⟩
      · exact (hP.mod m6 fun y hy h => hS.sep y h hy).mod m7 fun y hy h => hs2 y h hy
      · dsimp only
        rw [hds_succ, ← hrt]; exact ho7
      · exact hs1.grown hf7 fun y hy => ho6.lt y hy
      · exact hs2.grown hf7 fun y hy => by have := hP.lt y hy; omega
      · dsimp only; omega
    · have hkn : k = recs.length := by omega
      subst hkn
      exact ⟨(a8, cap8), by rw [hds_len]; rfl, e, hO, hP⟩
  obtain ⟨E0, hH, hP⟩ := hBB0
  refine V.region (VL.op (R.asS rfl) (VL.nil (V.seq (V.seq (V.region (VL.op (R.mvS rfl) (VL.op (R.lenS Try.runUnderlying27 rfl) (VL.op (R.mvI rfl) (VL.nil (V.block (?_)))))))))))
  have hdl := dfR_len recs l
  refine V.loop [8, 10, 33, 34, 35] (fun x : Nat × Option Addr × Nat => [.slice xB0.1 recs.length xB0.2, .slice x.2.1 (((dfR recs l).take x.1).filterMap (dfP (hdR recs l))).length x.2.2, .slice x1.2.1 (dfR recs l).length x1.2.2, .int .i64 (dfR recs l).length, .int .i64 (x.1 : Nat)])
    (fun x w' => x.1 ≤ (dfR recs l).length ∧ Ext w w' ∧ OwnT encI 1 3 w.heap.size w' xB0.1 xB0.2 (hds (hdR recs l) recs.length) ∧ OwnT encPr 2 48 w.heap.size w' x1.2.1 x1.2.2 (dfR recs l) ∧ OwnT encPr 2 48 w.heap.size w' x.2.1 x.2.2 (((dfR recs l).take x.1).filterMap (dfP (hdR recs l))) ∧ Sep x.2.1 xB0.1 ∧ Sep x.2.1 x1.2.1) (fun x => (dfR recs l).length - x.1)
    (0, none, 0) rfl ⟨Nat.zero_le _, E0, hH, hP, OwnT.nil encPr 2 48 _ _, Sep.nil _, Sep.nil _⟩ ?_
  rintro ρ ⟨k, a10, cap10⟩ w2 ⟨hk, e, hH, hP, hO, hs1, hs2⟩
  dsimp only at hk e hH hP hO hs1 hs2 ⊢
  refine V.seq (V.region (VL.op (R.lss rfl rfl) (VL.nil (V.seq (V.condP rfl (fun c36 => V.skip (V.seq (V.block (V.seq (V.region (VL.op (R.ixS Try.runUnderlying27 Try.sizeOf48 rfl rfl (by omega) (by omega) ((hP.sl).some (i := k) (by omega))) (VL.op (R.ldA Try.isAgg48 Try.sizeOf48 rfl rfl ((((hP.sl).ext (Mod.refl _ _)).row (i := k) (by omega))) rfl) (VL.allocSt (v := .agg (encPr ((dfR recs l).getD k default)).toArray) Try.zeroValue48 Try.sizeOf48 rfl rfl rfl rfl rfl fun b11_2 w11_2 hb11_2 e11_2 hB11_2 => VL.nil (V.seq (?_)))))))))) (fun c36 => V.exit (V.seq (?_))))))))
  · have hkn : k < (dfR recs l).length := by omega
    obtain ⟨x, y, hpe, hx, hy⟩ := dfR_mem recs l ((dfR recs l).getD k default) (by rw [show (dfR recs l).getD k default = (dfR recs l)[k] by simp [List.getD, hkn]]; exact List.getElem_mem _)
    have hsn := filterMap_take (dfP (hdR recs l)) (dfR recs l) k hkn
    generalize (dfR recs l).getD k default = p at *
    have hp1 : 0 ≤ p.1 ∧ p.1.toNat < recs.length := by rw [hpe]; unfold mkP; constructor <;> dsimp only <;> omega
    have hp2 : 0 ≤ p.2 ∧ p.2.toNat < recs.length := by rw [hpe]; unfold mkP; constructor <;> dsimp only <;> omega
    have hhl := hds_len (hdR recs l) recs.length
    have hH11 := hH.ext e11_2
    refine V.regionQ mixed 12 (by kernel_rfl) rfl (fun w' => Ext _ w') (Ext.drawn _) (VQ.op (fun wq eq => R.mvS rfl) (VQ.op (fun wq eq => R.ixA Try.runUnderlying48 Try.sizeOf3 rfl rfl (by decide) (by decide)) (VQ.op (fun wq eq => R.ld1 Try.isAgg3 rfl ((hB11_2.ext eq).cell 0)) (VQ.op (fun wq eq => R.ixS Try.runUnderlying26 Try.sizeOf3 rfl rfl (by omega) (by omega) (hH11.sl.some (i := p.1.toNat) (by omega))) (VQ.op (fun wq eq => R.ld1 Try.isAgg3 rfl ((((hH11.sl.ext eq).row (i := p.1.toNat) (by omega)).cell (i := 0) rfl))) (VQ.op (fun wq eq => R.mvS rfl) (VQ.op (fun wq eq => R.ixA Try.runUnderlying48 Try.sizeOf3 rfl rfl (by decide) (by decide)) (VQ.op (fun wq eq => R.ld1 Try.isAgg3 rfl ((hB11_2.ext eq).cell 1)) (VQ.op (fun wq eq => R.ixS Try.runUnderlying26 Try.sizeOf3 rfl rfl (by omega) (by omega) (hH11.sl.some (i := p.2.toNat) (by omega))) (VQ.op (fun wq eq => R.ld1 Try.isAgg3 rfl ((((hH11.sl.ext eq).row (i := p.2.toNat) (by omega)).cell (i := 0) rfl))) (VQ.op (fun wq eq => R.asI rfl) (VQ.op (fun wq eq => R.asI rfl) (VQ.nil fun w12q e12q => VL.nil (V.seq (V.region (VL.op (R.mvI rfl) (VL.op (R.mvI rfl) (VL.op (R.neq rfl rfl) (VL.nil (V.condP rfl (fun c51 => ?_) (fun c51 => V.skip (V.region (VL.op (R.add rfl rfl (by omega) (by omega)) (VL.op (R.mvI rfl) (VL.nil (?_))))))))))))))))))))))))))
    · have hv1 := hds_get (hdR recs l) recs.length _ hp1.2
      have hv2 := hds_get (hdR recs l) recs.length _ hp2.2
      have E12 := e11_2.trans e12q
      have hne : dfP (hdR recs l) p = some (mkP ((hds (hdR recs l) recs.length).getD p.1.toNat default) ((hds (hdR recs l) recs.length).getD p.2.toNat default)) := by
        rw [hv1, hv2] at c51 ⊢
        unfold dfP
        rw [if_neg (fun h => c51 (by rw [h]))]
      rw [hne] at hsn
      have hol : (((dfR recs l).take k).filterMap (dfP (hdR recs l))).length ≤ 1000000 := Nat.le_trans (List.length_filterMap_le _ _) (by rw [List.length_take]; omega)
      refine V.region (VL.op (R.mvS rfl) (VL.op (R.mvI rfl) (VL.op (R.mvI rfl) (VL.op (R.min rfl rfl) (VL.op (R.mvI rfl) (VL.op (R.mvI rfl) (VL.op (R.max rfl rfl) (VL.op (R.buildArr Try.zeroValue48 Try.runUnderlying48 Try.sizeOf3 rfl) (VL.append1 el27 Try.runUnderlying27 Try.sizeOf48 Try.zeroValue48 rfl (mkP ((hds (hdR recs l) recs.length).getD p.1.toNat default) ((hds (hdR recs l) recs.length).getD p.2.toNat default)) rfl rfl rfl (hO.ext E12) rfl rfl rfl (by omega) (by unfold maxLen; omega) (by have := e.size; have := E12.size; omega) fun a14 cap14 w14 vt ho14 m14 hf14 => VL.op (R.asS rfl) (VL.nil (V.region (VL.op (R.add rfl rfl (by omega) (by omega)) (VL.op (R.mvI rfl) (VL.nil (⟨(k + 1, a14, cap14), ?_, ⟨?_, ?_, ?_, ?_, ?_, ?_, ?_⟩, ?_⟩)))))))))))))))
      · exact congrArg (fun z : Nat => [Value.slice xB0.1 recs.length xB0.2, .slice a14 z cap14, .slice x1.2.1 (dfR recs l).length x1.2.2, .int .i64 (dfR recs l).length, .int .i64 ((k + 1 : Nat) : Int)]) (show (((dfR recs l).take k).filterMap (dfP (hdR recs l))).length + 1 = (((dfR recs l).take (k + 1)).filterMap (dfP (hdR recs l))).length by rw [hsn, List.length_append]; rfl)
      · dsimp only; omega
      · exact Mod.ownA (e.trans E12) m14 fun y hy => hO.ge y hy
      · exact (hH.ext E12).mod m14 fun y hy h => hs1 y h hy
      · exact (hP.ext E12).mod m14 fun y hy h => hs2 y h hy
      · dsimp only
        rw [hsn]; exact ho14
      · exact hs1.grown hf14 fun y hy => by have := hH.lt y hy; have := E12.size; omega
      · exact hs2.grown hf14 fun y hy => by have := hP.lt y hy; have := E12.size; omega
      · dsimp only; omega
    · have hv1 := hds_get (hdR recs l) recs.length _ hp1.2
      have hv2 := hds_get (hdR recs l) recs.length _ hp2.2
      have E12 := e11_2.trans e12q
      have hne : dfP (hdR recs l) p = none := by
        have c51 := Classical.not_not.1 c51
        rw [hv1, hv2] at c51
        unfold dfP
        rw [if_pos (by omega)]
      rw [hne, List.append_nil] at hsn
      exact ⟨(k + 1, a10, cap10), by dsimp only; rw [hsn]; rfl, ⟨by dsimp only; omega, e.trans E12, hH.ext E12, hP.ext E12, by dsimp only; rw [hsn]; exact hO.ext E12, hs1, hs2⟩, by dsimp only; omega⟩
  · have hkl : k = (dfR recs l).length := by omega
    subst hkl
    rw [List.take_length] at hO
    have hol : ((dfR recs l).filterMap (dfP (hdR recs l))).length ≤ 1000000 := Nat.le_trans (List.length_filterMap_le _ _) (by omega)
    have hs := sorted_own a10 cap10 _ _ w2 hO hol
    rw [show (dfR recs l).filterMap (dfP (hdR recs l)) = ((dfR recs l).take (dfR recs l).length).filterMap (dfP (hdR recs l)) by rw [List.take_length]] at hs
    refine V.region (VL.op (R.mvS rfl) (VL.op (R.mvS rfl) (VL.callY Try.call28 rfl (hs) fun _ w16 ⟨hT, m16⟩ => VL.op (R.asS rfl) (VL.op (R.asS rfl) (VL.nil (V.ret (fret2 (v := .slice _ _ _) (x := .slice _ _ _) rfl rfl rfl rfl rfl (?_))))))))
    rw [List.take_length] at hT
    exact ⟨(xB0, (a10, cap10)), by rw [List.take_length]; rfl, ⟨hH.mod m16 fun y hy h => hs1 y h hy, hT⟩, Mod.ownA e m16 fun y hy => hO.ge y hy⟩
end Go.Proofs.Ytlefkkelohhnkaa
