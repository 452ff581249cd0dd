/- Hyper: the reference: the minimal sets. -/
import Derived.Test.YtoengpialdolbaaGreatDoorQ1
import Derived.Test.YtoengpialdolbaaGreatDoorVcRef
import Derived.Test.YtoengpialdolbaaGreatDoorH4
namespace Go.Proofs.YtoengpialdolbaaGreatDoor
open Go.Vc
/-- The sets of the next round, one after another. -/
structure NxJ (e : List Int) (L : List (List Int)) (k : Nat) (dn : Bool) (v : List (List Int)) : Prop where
  no : dn = false → v = (L.take k).filter (fun f => !subB e f) ∧ ∀ f ∈ (L.take k).filter (fun f => !subB e f), lexB f e = true
  yes : dn = true → v = insU lexB e ((L.take k).filter fun f => !subB e f) ∧ ∃ f ∈ (L.take k).filter (fun f => !subB e f), lexB e f = true
theorem NxJ.skip {e : List Int} {L v : List (List Int)} {k : Nat} {dn : Bool} (h : NxJ e L k dn v) {f : List Int} (hk : L[k]? = some f) (hs : subB e f = true) : NxJ e L (k + 1) dn v := by
  obtain ⟨hkl, hf⟩ := List.getElem?_eq_some_iff.1 hk
  have : (L.take (k + 1)).filter (fun f => !subB e f) = (L.take k).filter (fun f => !subB e f) := by
    rw [List.take_succ_eq_append_getElem hkl, List.filter_append, hf]; simp [hs]
  exact ⟨fun hd => by rw [this]; exact h.no hd, fun hd => by rw [this]; exact h.yes hd⟩
theorem NxJ.filt {e : List Int} {L : List (List Int)} {k : Nat} {f : List Int} (hk : L[k]? = some f) (hs : subB e f = false) : (L.take (k + 1)).filter (fun f => !subB e f) = (L.take k).filter (fun f => !subB e f) ++ [f] := by
  obtain ⟨hkl, hf⟩ := List.getElem?_eq_some_iff.1 hk
  rw [List.take_succ_eq_append_getElem hkl, List.filter_append, hf]; simp [hs]
theorem NxJ.put {e : List Int} {L v : List (List Int)} {k : Nat} (h : NxJ e L k true v) {f : List Int} (hk : L[k]? = some f) (hs : subB e f = false) : NxJ e L (k + 1) true (v ++ [f]) := by
  obtain ⟨h1, h2⟩ := h.yes rfl
  refine ⟨(fun hd => by cases hd), fun _ => ?_⟩
  rw [NxJ.filt hk hs]
  obtain ⟨g, hg, hl⟩ := h2
  exact ⟨by rw [insU_snoc ⟨g, hg, hl⟩, h1], g, List.mem_append.2 (.inl hg), hl⟩
theorem NxJ.mid {e : List Int} {L v : List (List Int)} {k : Nat} (h : NxJ e L k false v) {f : List Int} (hk : L[k]? = some f) (hs : subB e f = false) (hl : lexB e f = true) : NxJ e L (k + 1) true (v ++ [e] ++ [f]) := by
  obtain ⟨h1, h2⟩ := h.no rfl
  refine ⟨(fun hd => by cases hd), fun _ => ?_⟩
  rw [NxJ.filt hk hs]
  exact ⟨by rw [insU_at hl h2, h1]; simp, f, by simp, hl⟩
theorem NxJ.low {e : List Int} {L v : List (List Int)} {k : Nat} (h : NxJ e L k false v) {f : List Int} (hk : L[k]? = some f) (hs : subB e f = false) (hl : lexB e f = false) : NxJ e L (k + 1) false (v ++ [f]) := by
  obtain ⟨h1, h2⟩ := h.no rfl
  refine ⟨fun _ => ?_, (fun hd => by cases hd)⟩
  rw [NxJ.filt hk hs]
  refine ⟨by rw [h1], fun g hg => ?_⟩
  rcases List.mem_append.1 hg with hg | hg
  · exact h2 g hg
  · rw [List.mem_singleton] at hg
    subst hg
    cases hh : lexB g e with
    | true => rfl
    | false =>
      have := lexB_sto.tot _ _ hl hh
      rw [this, subB_refl] at hs; cases hs
set_option maxRecDepth 100000 in
set_option maxHeartbeats 8000000 in
theorem rminimal_spec (a0 : Option Addr) (c0 : Nat) (E : List SlI) (w : World) (hm : E.length ≤ 1000000) (hE : LL w a0 E) (hx : ∀ x ∈ E, x.l.length ≤ 1000000) :
    RetsX Tryz.prog 19 #[.slice a0 E.length c0] w (fun z : List SlI × Option Addr × Nat => .slice z.2.1 z.1.length z.2.2) (fun z w' => vals z.1 = minF (vals E) ∧ LL w' z.2.1 z.1 ∧ (∀ k, aBlk z.2.1 k → w.heap.size ≤ k) ∧ (z.1.length ≤ E.length ∧ ∀ x ∈ z.1, x.l.length ≤ 1000000) ∧ ∀ x ∈ z.1, x.l.length ≤ x.c ∧ ∀ k, aBlk x.a k → w.heap.size ≤ k) := by
  refine enter (args := [_]) Tryz.func19 rfl Tryz.ntmps19 (by kernel_rfl) rfl ?_
  refine V.seq (V.region (VL.op (R.asS rfl) (VL.nil (V.seq (V.region (VL.op (R.asS rfl) (VL.nil (V.seq (V.seq (V.region (VL.op (R.asI rfl) (VL.nil (V.block (?_))))))))))))))
  refine V.loop [0, 3, 4] (fun z : Nat × List SlI × Option Addr × Nat => [.slice a0 E.length c0, .slice z.2.2.1 z.2.1.length z.2.2.2, .int .i64 (z.1 : Nat)])
    (fun z w' => z.1 ≤ E.length ∧ vals z.2.1 = minF (vals (E.take z.1)) ∧ z.2.1.length ≤ z.1 ∧ (∀ x ∈ z.2.1, x.l.length ≤ 1000000) ∧ KeptI w.heap.size w' z.2.2.1 z.2.2.2 z.2.1 ∧ Ext w w') (fun z => E.length - z.1) (0, [], none, 0) rfl ⟨Nat.zero_le _, rfl, Nat.le_refl _, (fun x hx => by cases hx), KeptI.nil _ _, Vc.Mod.refl _ _⟩ ?_
  rintro ρ ⟨i, M, a, c⟩ w1 ⟨hi, hv, hMl, hMx, hK, e1⟩
  dsimp only at hi hv hMl hMx hK e1 ⊢
  have hE1 := hE.ext e1
  refine V.seq (V.seq (V.region (VL.op (R.mvI rfl) (VL.op (R.mvS rfl) (VL.op (R.lenS Tryz.runUnderlying23 rfl) (VL.op (R.lss rfl rfl) (VL.nil (V.condP rfl (fun c14 => V.skip (V.seq (V.block (V.seq (?_))))) (fun c14 => V.exit (V.seq (V.region (VL.op (R.mvS rfl) (VL.op (R.asS rfl) (VL.nil (V.ret (fret1 (v := .slice _ _ _) rfl rfl rfl (?_)))))))))))))))))
  · have hil : i < E.length := by omega
    have hxi := hx _ (gmem hil)
    have hss := setF_len (E.getD i default).l
    have hMi : ∀ f ∈ M, Inc f.l ∧ f.l ≠ [] := fun f hf => minF_inc (E := vals (E.take i)) (by rw [← hv]; exact List.mem_map_of_mem hf)
    have hvt : vals (E.take (i + 1)) = vals (E.take i) ++ [(E.getD i default).l] := by rw [List.take_succ_eq_append_getElem hil, gget hil]; unfold vals; rw [List.map_append]; rfl
    refine V.region (VL.op (R.mvS rfl) (VL.op (R.mvI rfl) (VL.op (R.ixS Tryz.runUnderlying23 Tryz.sizeOf22 rfl rfl (by omega) (by omega) ((hE1.sl).some (i := i) (by omega))) (VL.op (R.ld1 Tryz.isAgg22 rfl (((((hE1.sl).ext (Mod.refl _ _)).row (i := i) (by omega)).cell (i := 0) rfl))) (VL.callX Tryz.call28 rfl (rset_spec (E.getD i default).a (E.getD i default).c (E.getD i default).l w1 hxi (hE1.at hil)) fun s5 w5 hS5 e5 => VL.op (R.asS rfl) (VL.nil (V.seq (V.seq (V.region (VL.op (R.mvS rfl) (VL.op (R.lenS Tryz.runUnderlying22 rfl) (VL.op (R.eql rfl rfl) (VL.nil (V.condP rfl (fun c24 => V.exit (V.region (VL.op (R.mvI rfl) (VL.op (R.add rfl rfl (by omega) (by omega)) (VL.op (R.asI rfl) (VL.nil (?_))))))) (fun c24 => V.skip (V.seq (V.region (VL.op (R.asB rfl) (VL.nil (V.cut [0, 3, 4, 5, 6] (fun kp : Bool => [.slice a0 E.length c0, .slice a M.length c, .int .i64 (i : Nat), .slice s5.1 (setF (E.getD i default).l).length s5.2, .bool kp]) (fun kp w' => kp = (!aboveB (setF (E.getD i default).l) (vals M)) ∧ Ext w5 w') (V.seq (V.region (VL.op (R.asI rfl) (VL.nil (V.block (?_)))))) (fun rgB2 xB2 wBB2 hBB2 => V.seq (V.seq (?_)))))))))))))))))))))))
    · have hx0 : (E.getD i default).l = [] := setF_nil.1 (List.eq_nil_of_length_eq_zero (by omega))
      exact ⟨(i + 1, M, a, c), rfl, ⟨by dsimp only; omega, by dsimp only; rw [hvt, hx0, minF_skip0, hv], by dsimp only; omega, hMx, hK.ext e5, e1.trans e5⟩, by dsimp only; omega⟩
    · have hab : (!aboveB (setF (E.getD i default).l) (vals M)) = M.all fun f => !contF (setF (E.getD i default).l) f.l := by
        refine Bool.eq_iff_iff.2 ?_
        rw [List.all_eq_true]
        constructor
        · intro h f hf
          rw [contF_sub (setF_inc _) (hMi f hf).1]
          cases hs : subB f.l (setF (E.getD i default).l) with
          | false => rfl
          | true =>
            rw [aboveB_iff.2 ⟨f.l, List.mem_map_of_mem hf, hs⟩] at h; cases h
        · intro h
          cases ha : aboveB (setF (E.getD i default).l) (vals M) with
          | false => rfl
          | true =>
            obtain ⟨f, hf, hs⟩ := aboveB_iff.1 ha
            obtain ⟨y, hy, rfl⟩ := List.mem_map.1 hf
            have := h y hy
            rw [contF_sub (setF_inc _) (hMi y hy).1, hs] at this
            cases this
      refine V.loop [0, 3, 4, 5, 6, 7] (fun x : Nat × Bool => [.slice a0 E.length c0, .slice a M.length c, .int .i64 (i : Nat), .slice s5.1 (setF (E.getD i default).l).length s5.2, .bool x.2, .int .i64 (x.1 : Nat)]) (fun x w' => x.1 ≤ M.length ∧ x.2 = ((M.take x.1).all fun f => !contF (setF (E.getD i default).l) f.l) ∧ Ext w5 w') (fun x => M.length - x.1) (0, true) rfl ⟨Nat.zero_le _, rfl, Vc.Mod.refl _ _⟩ ?_
      rintro ρ ⟨k, kp⟩ w6 ⟨hk, hkp, e6⟩
      dsimp only at hk hkp e6 ⊢
      have hL6 := (hK.ext (e5.trans e6)).LL
      refine V.seq (V.seq (V.region (VL.op (R.mvI rfl) (VL.op (R.mvS rfl) (VL.op (R.lenS Tryz.runUnderlying23 rfl) (VL.op (R.lss rfl rfl) (VL.nil (V.condP rfl (fun c28 => V.skip (V.seq (V.block (?_)))) (fun c28 => V.exit (?_))))))))))
      · have hkl : k < M.length := by omega
        have hat : ((M.take (k + 1)).all fun f => !contF (setF (E.getD i default).l) f.l) = (kp && !contF (setF (E.getD i default).l) (M.getD k default).l) := by
          rw [List.take_succ_eq_append_getElem hkl, ← gget hkl, List.all_append, ← hkp]; simp
        have hmk := hMx _ (gmem hkl)
        cases kp with
        | false => refine V.region (VL.op (R.mvB rfl) (VL.op (R.mvB rfl) (VL.gF rfl rfl (VL.gF rfl rfl (VL.gF rfl rfl (VL.gF rfl rfl (VL.gF rfl rfl (VL.gF rfl rfl (VL.gF rfl rfl (VL.op (R.pickFB rfl rfl) (VL.op (R.asB rfl) (VL.nil (V.region (VL.op (R.mvI rfl) (VL.op (R.add rfl rfl (by omega) (by omega)) (VL.op (R.asI rfl) (VL.nil (⟨(k + 1, false), rfl, ⟨by dsimp only; omega, by rw [hat]; rfl, e6⟩, by dsimp only; omega⟩))))))))))))))))))
        | true => refine V.region (VL.op (R.mvB rfl) (VL.op (R.mvB rfl) (VL.gT rfl rfl (VL.op (R.mvS rfl) (VL.gT rfl rfl (VL.op (R.mvS rfl) (VL.gT rfl rfl (VL.op (R.mvI rfl) (VL.gT rfl rfl (VL.op (R.ixS Tryz.runUnderlying23 Tryz.sizeOf22 rfl rfl (by omega) (by omega) ((hL6.sl).some (i := k) (by omega))) (VL.gT rfl rfl (VL.op (R.ld1 Tryz.isAgg22 rfl (((((hL6.sl).ext (Mod.refl _ _)).row (i := k) (by omega)).cell (i := 0) rfl))) (VL.gT rfl rfl (VL.callP Tryz.call32 rfl (cont_spec s5.1 (M.getD k default).a s5.2 (M.getD k default).c (setF (E.getD i default).l) (M.getD k default).l _ (by omega) (by omega) ((OwnT.sl hS5).ext e6) (hL6.at hkl)) fun w11_7 e11_7 => VL.gT rfl rfl (VL.op (R.not rfl) (VL.op (R.pickTB rfl rfl) (VL.op (R.asB rfl) (VL.nil (V.region (VL.op (R.mvI rfl) (VL.op (R.add rfl rfl (by omega) (by omega)) (VL.op (R.asI rfl) (VL.nil (⟨(k + 1, !contF (setF (E.getD i default).l) (M.getD k default).l), rfl, ⟨by dsimp only; omega, by rw [hat]; rfl, e6.trans e11_7⟩, by dsimp only; omega⟩))))))))))))))))))))))))
      · have hke : k = M.length := by omega
        subst hke
        rw [List.take_length, ← hab] at hkp
        exact ⟨kp, rfl, hkp, e6⟩
    · obtain ⟨hkp, e6⟩ := hBB2
      have E6 := e1.trans (e5.trans e6)
      have hne : (E.getD i default).l ≠ [] := fun h => by rw [h] at c24; exact c24 rfl
      refine V.region (VL.op (R.mvB rfl) (VL.op (R.not rfl) (VL.nil (V.cond rfl (fun c42 => V.exit (V.region (VL.op (R.mvI rfl) (VL.op (R.add rfl rfl (by omega) (by omega)) (VL.op (R.asI rfl) (VL.nil (?_))))))) (fun c42 => V.skip (V.seq (V.region (VL.op (R.asS rfl) (VL.nil (V.seq (V.region (VL.op (R.asB rfl) (VL.nil (V.cut [0, 4, 5, 8, 9] (fun x : (List SlI × Option Addr × Nat) × Bool => [.slice a0 E.length c0, .int .i64 (i : Nat), .slice s5.1 (setF (E.getD i default).l).length s5.2, .slice x.1.2.1 x.1.1.length x.1.2.2, .bool x.2]) (fun x w' => NxJ (setF (E.getD i default).l) (vals M) M.length x.2 (vals x.1.1) ∧ x.1.1.length ≤ i + 1 ∧ (x.2 = false → x.1.1.length ≤ i) ∧ (∀ y ∈ x.1.1, y ∈ M ∨ y = (SlI.mk s5.1 s5.2 (setF (E.getD i default).l))) ∧ OwnT encSl 1 22 wBB2.heap.size w' x.1.2.1 x.1.2.2 x.1.1 ∧ Ext wBB2 w') (V.seq (V.region (VL.op (R.asI rfl) (VL.nil (V.block (?_)))))) (fun rgB4 xB4 wBB4 hBB4 => V.seq (V.seq (?_)))))))))))))))))
      · have hkf : xB2 = false := by simpa using c42
        rw [hkf] at hkp
        have ha : aboveB (setF (E.getD i default).l) (minF (vals (E.take i))) = true := by rw [← hv]; simpa using hkp.symm
        exact ⟨(i + 1, M, a, c), rfl, ⟨by dsimp only; omega, by dsimp only; rw [hvt, minF_skip ha, hv], by dsimp only; omega, hMx, hK.ext (e5.trans e6), E6⟩, by dsimp only; omega⟩
      · refine V.loop [0, 3, 4, 5, 8, 9, 10] (fun x : Nat × (List SlI × Option Addr × Nat) × Bool => [.slice a0 E.length c0, .slice a M.length c, .int .i64 (i : Nat), .slice s5.1 (setF (E.getD i default).l).length s5.2, .slice x.2.1.2.1 x.2.1.1.length x.2.1.2.2, .bool x.2.2, .int .i64 (x.1 : Nat)]) (fun x w' => x.1 ≤ M.length ∧ NxJ (setF (E.getD i default).l) (vals M) x.1 x.2.2 (vals x.2.1.1) ∧ x.2.1.1.length ≤ x.1 + 1 ∧ (x.2.2 = false → x.2.1.1.length ≤ x.1) ∧ (∀ y ∈ x.2.1.1, y ∈ M ∨ y = (SlI.mk s5.1 s5.2 (setF (E.getD i default).l))) ∧ OwnT encSl 1 22 wBB2.heap.size w' x.2.1.2.1 x.2.1.2.2 x.2.1.1 ∧ Ext wBB2 w') (fun x => M.length - x.1) (0, ([], none, 0), false) rfl ⟨Nat.zero_le _, ⟨fun _ => ⟨rfl, (fun f hf => by cases hf)⟩, (fun h => by cases h)⟩, Nat.zero_le _, fun _ => Nat.zero_le _, (fun y hy => by cases hy), OwnT.nil _ _ _ _ _, Vc.Mod.refl _ _⟩ ?_
        rintro ρ ⟨k, ⟨M8, a8, c8⟩, dn⟩ w7 ⟨hk, hJ, hl1, hl2, hmem, ho, e7⟩
        dsimp only at hk hJ hl1 hl2 hmem ho e7 ⊢
        have hL7 := (hK.ext ((e5.trans e6).trans e7)).LL
        have hS7 := (OwnT.sl hS5).ext (e6.trans e7)
        refine V.seq (V.seq (V.region (VL.op (R.mvI rfl) (VL.op (R.mvS rfl) (VL.op (R.lenS Tryz.runUnderlying23 rfl) (VL.op (R.lss rfl rfl) (VL.nil (V.condP rfl (fun c46 => V.skip (V.seq (V.block (V.seq (V.seq (?_)))))) (fun c46 => V.exit (?_))))))))))
        · have hkl : k < M.length := by omega
          have hkf : (vals M)[k]? = some (M.getD k default).l := by rw [gget hkl]; simp [vals, hkl]
          have hcs : contF (M.getD k default).l (setF (E.getD i default).l) = subB (setF (E.getD i default).l) (M.getD k default).l := contF_sub (hMi _ (gmem hkl)).1 (setF_inc _)
          have hmk := hMx _ (gmem hkl)
          have hmm : (M.getD k default) ∈ M := gmem hkl
          have hsz := e7.size
          refine V.region (VL.op (R.mvS rfl) (VL.op (R.mvI rfl) (VL.op (R.ixS Tryz.runUnderlying23 Tryz.sizeOf22 rfl rfl (by omega) (by omega) ((hL7.sl).some (i := k) (by omega))) (VL.op (R.ld1 Tryz.isAgg22 rfl (((((hL7.sl).ext (Mod.refl _ _)).row (i := k) (by omega)).cell (i := 0) rfl))) (VL.op (R.mvS rfl) (VL.callP Tryz.call32 rfl (cont_spec (M.getD k default).a s5.1 (M.getD k default).c s5.2 (M.getD k default).l (setF (E.getD i default).l) _ (by omega) (by omega) (hL7.at hkl) hS7) fun w18_5 e18_5 => VL.nil (V.cond rfl (fun c54 => V.exit (V.region (VL.op (R.mvI rfl) (VL.op (R.add rfl rfl (by omega) (by omega)) (VL.op (R.asI rfl) (VL.nil (?_))))))) (fun c54 => V.skip (V.seq (V.seq (?_)))))))))))
          · rw [hcs] at c54
            exact ⟨(k + 1, (M8, a8, c8), dn), rfl, ⟨by dsimp only; omega, hJ.skip hkf c54, by dsimp only; omega, fun h => by have := hl2 h; dsimp only; omega, hmem, ho.ext e18_5, e7.trans e18_5⟩, by dsimp only; omega⟩
          · have hsb : subB (setF (E.getD i default).l) (M.getD k default).l = false := by rw [hcs] at c54; exact c54
            have ho1 := ho.ext e18_5
            have e71 := e7.trans e18_5
            have hL1 := hL7.ext e18_5
            have hS1 := hS7.ext e18_5
            have hsz1 := e71.size
            cases dn with
            | true =>
              refine V.region (VL.op (R.mvB rfl) (VL.op (R.not rfl) (VL.op (R.mvB rfl) (VL.gF rfl rfl (VL.gF rfl rfl (VL.gF rfl rfl (VL.gF rfl rfl (VL.gF rfl rfl (VL.gF rfl rfl (VL.op (R.pickFB rfl rfl) (VL.nil (V.condF rfl (V.skip (V.region (VL.op (R.mvS rfl) (VL.op (R.mvS rfl) (VL.op (R.mvI rfl) (VL.op (R.ixS Tryz.runUnderlying23 Tryz.sizeOf22 rfl rfl (by omega) (by omega) ((hL1.sl).some (i := k) (by omega))) (VL.op (R.ld1 Tryz.isAgg22 rfl (((((hL1.sl).ext (Mod.refl _ _)).row (i := k) (by omega)).cell (i := 0) rfl))) (VL.append1 el23 Tryz.runUnderlying23 Tryz.sizeOf22 Tryz.zeroValue22 rfl ((M.getD k default)) rfl rfl rfl ho1 rfl rfl rfl (by omega) (by unfold maxLen; omega) hsz1 fun a22 c22 w22 vt22 ho22 m22 hf22 => VL.op (R.asS rfl) (VL.nil (V.region (VL.op (R.mvI rfl) (VL.op (R.add rfl rfl (by omega) (by omega)) (VL.op (R.asI rfl) (VL.nil (?_)))))))))))))))))))))))))))
              refine ⟨(k + 1, (M8 ++ [(M.getD k default)], a22, c22), true), by dsimp only; rw [List.length_append]; rfl, ⟨by dsimp only; omega, ?_, by dsimp only; rw [List.length_append, List.length_singleton]; omega, (fun h => by cases h), fun y hy => ?_, ho22, e71.ownA m22 fun q hq => ho1.ge q hq⟩, by dsimp only; omega⟩
              · have := hJ.put hkf hsb
                dsimp only; rw [show vals (M8 ++ [(M.getD k default)]) = vals M8 ++ [(M.getD k default).l] by simp [vals]]; exact this
              · rcases List.mem_append.1 hy with h | h
                · exact hmem y h
                · rw [List.mem_singleton] at h; rw [h]; exact .inl hmm
            | false =>
              have hl3 := hl2 rfl
              refine V.region (VL.op (R.mvB rfl) (VL.op (R.not rfl) (VL.op (R.mvB rfl) (VL.gT rfl rfl (VL.op (R.mvS rfl) (VL.gT rfl rfl (VL.op (R.mvS rfl) (VL.gT rfl rfl (VL.op (R.mvI rfl) (VL.gT rfl rfl (VL.op (R.ixS Tryz.runUnderlying23 Tryz.sizeOf22 rfl rfl (by omega) (by omega) ((hL1.sl).some (i := k) (by omega))) (VL.gT rfl rfl (VL.op (R.ld1 Tryz.isAgg22 rfl (((((hL1.sl).ext (Mod.refl _ _)).row (i := k) (by omega)).cell (i := 0) rfl))) (VL.gT rfl rfl (VL.callP Tryz.call31 rfl (less_spec s5.1 (M.getD k default).a s5.2 (M.getD k default).c (setF (E.getD i default).l) (M.getD k default).l _ (by omega) (by omega) hS1 (hL1.at hkl)) fun w19_8 e19_8 => VL.op (R.pickTB rfl rfl) (VL.nil (V.cond rfl (fun c64 => V.seq (?_)) (fun c64 => V.skip (?_)))))))))))))))))))
              · have ho2 := ho1.ext e19_8
                have e72 := e71.trans e19_8
                refine V.region (VL.op (R.mvS rfl) (VL.op (R.mvS rfl) (VL.append1 el23 Tryz.runUnderlying23 Tryz.sizeOf22 Tryz.zeroValue22 rfl ((SlI.mk s5.1 s5.2 (setF (E.getD i default).l))) rfl rfl rfl ho2 rfl rfl rfl (by omega) (by unfold maxLen; omega) e72.size fun a20 c20 w20 vt20 ho20 m20 hf20 => VL.op (R.asS rfl) (VL.nil (V.region (VL.op (R.asB rfl) (VL.nil (?_))))))))
                have e73 := e72.ownA m20 fun q hq => ho2.ge q hq
                have hL3 := (hK.ext ((e5.trans e6).trans e73)).LL
                have hMl2 : (M8 ++ [(SlI.mk s5.1 s5.2 (setF (E.getD i default).l))]).length = M8.length + 1 := by rw [List.length_append, List.length_singleton]
                rw [show M8.length + 1 = (M8 ++ [(SlI.mk s5.1 s5.2 (setF (E.getD i default).l))]).length from hMl2.symm]
                refine V.region (VL.op (R.mvS rfl) (VL.op (R.mvS rfl) (VL.op (R.mvI rfl) (VL.op (R.ixS Tryz.runUnderlying23 Tryz.sizeOf22 rfl rfl (by omega) (by omega) ((hL3.sl).some (i := k) (by omega))) (VL.op (R.ld1 Tryz.isAgg22 rfl (((((hL3.sl).ext (Mod.refl _ _)).row (i := k) (by omega)).cell (i := 0) rfl))) (VL.append1 el23 Tryz.runUnderlying23 Tryz.sizeOf22 Tryz.zeroValue22 rfl ((M.getD k default)) rfl rfl rfl ho20 rfl rfl rfl (by omega) (by unfold maxLen; omega) e73.size fun a22 c22 w22 vt22 ho22 m22 hf22 => VL.op (R.asS rfl) (VL.nil (V.region (VL.op (R.mvI rfl) (VL.op (R.add rfl rfl (by omega) (by omega)) (VL.op (R.asI rfl) (VL.nil (?_)))))))))))))
                refine ⟨(k + 1, ((M8 ++ [(SlI.mk s5.1 s5.2 (setF (E.getD i default).l))]) ++ [(M.getD k default)], a22, c22), true), by dsimp only; rw [show ((M8 ++ [(SlI.mk s5.1 s5.2 (setF (E.getD i default).l))]) ++ [(M.getD k default)]).length = (M8 ++ [(SlI.mk s5.1 s5.2 (setF (E.getD i default).l))]).length + 1 by rw [List.length_append]; rfl]; rfl, ⟨by dsimp only; omega, ?_, by dsimp only; rw [List.length_append, List.length_singleton]; omega, (fun h => by cases h), fun y hy => ?_, ho22, e73.ownA m22 fun q hq => ho20.ge q hq⟩, by dsimp only; omega⟩
                · have := hJ.mid hkf hsb c64
                  dsimp only; rw [show vals ((M8 ++ [(SlI.mk s5.1 s5.2 (setF (E.getD i default).l))]) ++ [(M.getD k default)]) = vals M8 ++ [(setF (E.getD i default).l)] ++ [(M.getD k default).l] by simp [vals]]; exact this
                · rcases List.mem_append.1 hy with h | h
                  · rcases List.mem_append.1 h with h | h
                    · exact hmem y h
                    · rw [List.mem_singleton] at h; exact .inr h
                  · rw [List.mem_singleton] at h; rw [h]; exact .inl hmm
              · have ho2 := ho1.ext e19_8
                have e72 := e71.trans e19_8
                have hL2 := hL1.ext e19_8
                refine V.region (VL.op (R.mvS rfl) (VL.op (R.mvS rfl) (VL.op (R.mvI rfl) (VL.op (R.ixS Tryz.runUnderlying23 Tryz.sizeOf22 rfl rfl (by omega) (by omega) ((hL2.sl).some (i := k) (by omega))) (VL.op (R.ld1 Tryz.isAgg22 rfl (((((hL2.sl).ext (Mod.refl _ _)).row (i := k) (by omega)).cell (i := 0) rfl))) (VL.append1 el23 Tryz.runUnderlying23 Tryz.sizeOf22 Tryz.zeroValue22 rfl ((M.getD k default)) rfl rfl rfl ho2 rfl rfl rfl (by omega) (by unfold maxLen; omega) e72.size fun a22 c22 w22 vt22 ho22 m22 hf22 => VL.op (R.asS rfl) (VL.nil (V.region (VL.op (R.mvI rfl) (VL.op (R.add rfl rfl (by omega) (by omega)) (VL.op (R.asI rfl) (VL.nil (?_)))))))))))))
                refine ⟨(k + 1, (M8 ++ [(M.getD k default)], a22, c22), false), by dsimp only; rw [List.length_append]; rfl, ⟨by dsimp only; omega, ?_, by dsimp only; rw [List.length_append, List.length_singleton]; omega, fun _ => by dsimp only; rw [List.length_append, List.length_singleton]; omega, fun y hy => ?_, ho22, e72.ownA m22 fun q hq => ho2.ge q hq⟩, by dsimp only; omega⟩
                · have := hJ.low hkf hsb c64
                  dsimp only; rw [show vals (M8 ++ [(M.getD k default)]) = vals M8 ++ [(M.getD k default).l] by simp [vals]]; exact this
                · rcases List.mem_append.1 hy with h | h
                  · exact hmem y h
                  · rw [List.mem_singleton] at h; rw [h]; exact .inl hmm
        · have hke : k = M.length := by omega
          subst hke
          exact ⟨((M8, a8, c8), dn), rfl, hJ, by dsimp only; omega, fun h => by have := hl2 h; dsimp only; omega, hmem, ho, e7⟩
      · obtain ⟨hJ, hl1, hl2, hmem, ho, e7⟩ := hBB4
        obtain ⟨⟨M8, a8, c8⟩, dn⟩ := xB4
        dsimp only at hJ hl1 hl2 hmem ho e7 ⊢
        have hkt : xB2 = true := by simpa using c42
        rw [hkt] at hkp
        have ha : aboveB (setF (E.getD i default).l) (minF (vals (E.take i))) = false := by rw [← hv]; simpa using hkp.symm
        have hins := minF_ins hne ha
        rw [← hv, show (vals M).filter (fun f => !subB (setF (E.getD i default).l) f) = ((vals M).take M.length).filter (fun f => !subB (setF (E.getD i default).l) f) by rw [List.take_of_length_le (by simp [vals])]] at hins
        have h1s := e1.size
        have h5s := e5.size
        have h6s := e6.size
        have key : ∀ {w' : World} {a' : Option Addr} {c' : Nat} {M' : List SlI}, OwnT encSl 1 22 wBB2.heap.size w' a' c' M' → Ext wBB2 w' → (∀ y ∈ M', y ∈ M ∨ y = (SlI.mk s5.1 s5.2 (setF (E.getD i default).l))) → KeptI w.heap.size w' a' c' M' := fun {w' a' c' M'} ho' e' hm' => by
          refine ⟨ho'.weaken (by omega), fun y hy => ?_⟩
          have h7 := e'.size
          rcases hm' y hy with h | h
          · have := (hK.ext ((e5.trans e6).trans e')).each y h
            refine ⟨this.1, this.2.1, fun q hq => ⟨(this.2.2 q hq).1, (this.2.2 q hq).2.1, fun hh => ?_⟩⟩
            have h8 := (hK.each y h).2.2 q hq
            have := ho'.ge q hh
            omega
          · rw [h]
            have := hS5.ext (e6.trans e')
            exact ⟨this.sl, this.cap, fun q hq => ⟨by have := hS5.ge q hq; omega, this.lt q hq, fun hh => by have h8 := hS5.lt q hq; have := ho'.ge q hh; omega⟩⟩
        have hlx : ∀ {M' : List SlI}, (∀ y ∈ M', y ∈ M ∨ y = (SlI.mk s5.1 s5.2 (setF (E.getD i default).l))) → ∀ y ∈ M', y.l.length ≤ 1000000 := fun hm' y hy => by
          rcases hm' y hy with h | h
          · exact hMx y h
          · rw [h]; show (setF (E.getD i default).l).length ≤ _; omega
        cases dn with
        | true =>
          refine V.region (VL.op (R.mvB rfl) (VL.op (R.not rfl) (VL.nil (V.condF rfl (V.skip (V.region (VL.op (R.mvS rfl) (VL.op (R.asS rfl) (VL.nil (V.region (VL.op (R.mvI rfl) (VL.op (R.add rfl rfl (by omega) (by omega)) (VL.op (R.asI rfl) (VL.nil (?_)))))))))))))))
          exact ⟨(i + 1, M8, a8, c8), rfl, ⟨by dsimp only; omega, by dsimp only; rw [hvt, hins]; exact (hJ.yes rfl).1, by dsimp only; omega, hlx hmem, key ho e7 hmem, E6.trans e7⟩, by dsimp only; omega⟩
        | false =>
          have hl3 := hl2 rfl
          refine V.region (VL.op (R.mvB rfl) (VL.op (R.not rfl) (VL.nil (V.condT rfl (V.region (VL.op (R.mvS rfl) (VL.op (R.mvS rfl) (VL.append1 el23 Tryz.runUnderlying23 Tryz.sizeOf22 Tryz.zeroValue22 rfl ((SlI.mk s5.1 s5.2 (setF (E.getD i default).l))) rfl rfl rfl ho rfl rfl rfl (by omega) (by unfold maxLen; omega) e7.size fun a24 c24 w24 vt24 ho24 m24 hf24 => VL.op (R.asS rfl) (VL.nil (V.region (VL.op (R.mvS rfl) (VL.op (R.asS rfl) (VL.nil (V.region (VL.op (R.mvI rfl) (VL.op (R.add rfl rfl (by omega) (by omega)) (VL.op (R.asI rfl) (VL.nil (?_)))))))))))))))))))
          have e8 := e7.ownA m24 fun q hq => ho.ge q hq
          have hm' : ∀ y ∈ M8 ++ [(SlI.mk s5.1 s5.2 (setF (E.getD i default).l))], y ∈ M ∨ y = (SlI.mk s5.1 s5.2 (setF (E.getD i default).l)) := fun y hy => by
            rcases List.mem_append.1 hy with h | h
            · exact hmem y h
            · rw [List.mem_singleton] at h; exact .inr h
          refine ⟨(i + 1, M8 ++ [(SlI.mk s5.1 s5.2 (setF (E.getD i default).l))], a24, c24), by dsimp only; rw [List.length_append]; rfl, ⟨by dsimp only; omega, ?_, by dsimp only; rw [List.length_append, List.length_singleton]; omega, hlx hm', key ho24 e8 hm', E6.trans e8⟩, by dsimp only; omega⟩
          obtain ⟨j1, j2⟩ := hJ.no rfl
          dsimp only
          rw [hvt, hins, insU_end j2, ← j1]; simp [vals]
  · have hie : i = E.length := by omega
    subst hie
    rw [List.take_length] at hv
    exact ⟨(M, a, c), rfl, ⟨hv, ⟨hK.own.sl, fun x hx => (hK.each x hx).1⟩, fun q hq => hK.own.ge q hq, ⟨hMl, hMx⟩, fun x hx => ⟨(hK.each x hx).2.1, fun q hq => ((hK.each x hx).2.2 q hq).1⟩⟩, e1⟩
end Go.Proofs.YtoengpialdolbaaGreatDoor
