/- SurviveNothing's walk. -/
import Derived.Test.YtbckofoibdljgaaL9
import Derived.Test.YtbckofoibdljgaaP6
namespace Go.Proofs.Ytbckofoibdljgaa
open Go.Vc Go.Sort
/-- The three lists so far. -/
structure NoJ (l : List Cell) (t : List Int) (w0 : World) (k : Nat) (c d p : Option Addr × Nat) (w : World) : Prop where
  e : Ext w0 w
  hc : OwnT encCell 5 34 w0.heap.size w c.1 c.2 (cL l k)
  hd : OwnT encI 1 3 w0.heap.size w d.1 d.2 (tL l t k)
  hp : OwnT encI 1 3 w0.heap.size w p.1 p.2 (pL l k)
  cd : Sep c.1 d.1
  cp : Sep c.1 p.1
  dp : Sep d.1 p.1
set_option maxRecDepth 100000 in
set_option maxHeartbeats 4000000 in
theorem law7_spec (by_ : Int) (a b : Option Addr) (ca cb : Nat) (l : List Cell) (t : List Int) (w : World) (hm : l.length ≤ 9223372036854775807) (hm2 : t.length ≤ 9223372036854775807) (hS : CellSl w a l) (hT : IntSl w b t) :
    RetsP Try.prog 7 #[.int .i64 by_, .slice a l.length ca, .slice b t.length cb] w (.bool true) := by
  refine enter (args := [_, _, _]) Try.func7 rfl Try.ntmps7 (by kernel_rfl) rfl ?_
  refine V.seq (V.region (VL.op (R.asB rfl) (VL.nil (V.seq (V.region (VL.callP Try.call10 rfl (head_spec _) fun w1_0 e1_0 => VL.op (R.asB rfl) (VL.nil (V.seq (V.seq (V.regionCut [16, 17, 18, 19, 20, 21, 22, 23, 24, 25] 25 (.bool (!fewB l 30 || decide (t.length ≠ l.length))) (fun w' => Ext _ w') rfl (VL.op (R.mvS rfl) (VL.callP Try.call11 rfl (few_spec a ca l 30 _ hm (hS.ext e1_0)) fun w2_1 e2_1 => VL.op (R.not rfl) (VL.op (R.mvB rfl) (VL.or rfl rfl (fun g2_3 => VL.op (R.mvS rfl) (VL.gT rfl rfl (VL.op (R.lenS Try.runUnderlying23 rfl) (VL.gT rfl rfl (VL.op (R.mvS rfl) (VL.gT rfl rfl (VL.op (R.lenS Try.runUnderlying22 rfl) (VL.gT rfl rfl (VL.op (R.neq rfl rfl) (VL.op (R.pickFB rfl rfl) (VL.nil ⟨rfl, cutB rfl ?_, e2_1⟩))))))))))) (fun g2_3 => VL.gF rfl rfl (VL.gF rfl rfl (VL.gF rfl rfl (VL.gF rfl rfl (VL.op (R.pickTB rfl rfl) (VL.nil ⟨rfl, cutB rfl ?_, e2_1⟩)))))))))) (fun rg2 w2c e2c => V.cond rfl (fun c25 => V.seq (V.region (VL.op (R.mvB rfl) (VL.op (R.asB rfl) (VL.nil (V.ret (fret1 (v := .bool _) rfl rfl rfl (⟨rfl, (e1_0.trans e2c)⟩)))))))) (fun c25 => V.skip (V.seq (?_))))))))))))))
  any_goals first | (simp_all; done) | (simp_all; omega)
  simp only [Bool.or_eq_false_iff, decide_eq_false_iff_not, Bool.not_eq_false'] at c25
  obtain ⟨hf, hlt⟩ := c25
  have hl := few_len hf
  have hlt : t.length = l.length := by omega
  have E0 := e1_0.trans e2c
  have hS := hS.ext E0
  have hT := hT.ext E0
  refine V.region (VL.op (R.asS rfl) (VL.nil (V.seq (V.region (VL.op (R.asS rfl) (VL.nil (V.seq (V.region (VL.op (R.asS rfl) (VL.nil (V.cut [0, 1, 2, 7, 8, 9, 10] (fun x : (Option Addr × Nat) × (Option Addr × Nat) × (Option Addr × Nat) => [.int .i64 by_, .slice a l.length ca, .slice b t.length cb, .bool true, .slice x.1.1 (cL l l.length).length x.1.2, .slice x.2.1.1 (tL l t l.length).length x.2.1.2, .slice x.2.2.1 (pL l l.length).length x.2.2.2]) (fun x w' => NoJ l t w2c l.length x.1 x.2.1 x.2.2 w') (V.seq (V.region (VL.op (R.asI rfl) (VL.nil (V.block (?_)))))) (fun rgB0 xB0 wBB0 hBB0 => V.seq (?_)))))))))))))
  · refine V.loop [0, 1, 2, 7, 8, 9, 10, 11] (fun x : Nat × (Option Addr × Nat) × (Option Addr × Nat) × (Option Addr × Nat) => [.int .i64 by_, .slice a l.length ca, .slice b t.length cb, .bool true, .slice x.2.1.1 (cL l x.1).length x.2.1.2, .slice x.2.2.1.1 (tL l t x.1).length x.2.2.1.2, .slice x.2.2.2.1 (pL l x.1).length x.2.2.2.2, .int .i64 x.1])
      (fun x w' => x.1 ≤ l.length ∧ NoJ l t w2c x.1 x.2.1 x.2.2.1 x.2.2.2 w') (fun x => l.length - x.1) (0, (none, 0), (none, 0), (none, 0)) rfl ⟨Nat.zero_le _, ⟨Mod.refl _ _, OwnT.nil _ _ _ _ _, OwnT.nil _ _ _ _ _, OwnT.nil _ _ _ _ _, Sep.nil _, Sep.nil _, Sep.nil _⟩⟩ ?_
    rintro ρ ⟨k, c, d, p⟩ w1 ⟨hk, hJ⟩
    dsimp only at hk hJ ⊢
    have lc := idxK_len l k
    have l1 := cL_len l k
    have l2 := tL_len l t k
    have l3 := pL_len l k
    have e := hJ.e
    refine V.seq (V.seq (V.region (VL.op (R.mvI rfl) (VL.op (R.mvS rfl) (VL.op (R.lenS Try.runUnderlying22 rfl) (VL.op (R.lss rfl rfl) (VL.nil (V.condP rfl (fun c30 => V.skip (V.seq (V.block (V.seq (V.region (VL.op (R.mvS rfl) (VL.op (R.mvI rfl) (VL.op (R.ixS Try.runUnderlying22 Try.sizeOf34 rfl rfl (by omega) (by omega) ((hS.ext e).some (i := k) (by omega))) (VL.op (R.ldA Try.isAgg34 Try.sizeOf34 rfl rfl ((((hS.ext e).ext (Mod.refl _ _)).row (i := k) (by omega))) rfl) (VL.callP Try.call18 rfl (counts_spec (l.getD k default) _) fun w10_4 e10_4 => VL.nil (V.cond rfl (fun c37 => V.seq (V.region (VL.op (R.mvS rfl) (VL.op (R.mvS rfl) (VL.op (R.mvI rfl) (VL.op (R.ixS Try.runUnderlying22 Try.sizeOf34 rfl rfl (by omega) (by omega) ((hS.ext e).some (i := k) (by omega))) (VL.op (R.ldA Try.isAgg34 Try.sizeOf34 rfl rfl ((((hS.ext e).ext e10_4).row (i := k) (by omega))) rfl) (VL.append1 el22 Try.runUnderlying22 Try.sizeOf34 Try.zeroValue34 rfl (l.getD k default) rfl rfl rfl (hJ.hc.ext e10_4) rfl rfl rfl (by omega) (by unfold maxLen; omega) (e.trans e10_4).size fun a3 cc3 w3 vt3 ho3 m3 hf3 => VL.op (R.asS rfl) (VL.nil (V.seq (?_))))))))))) (fun c37 => V.skip (V.region (VL.op (R.mvI rfl) (VL.op (R.add rfl rfl (by omega) (by omega)) (VL.op (R.asI rfl) (VL.nil (⟨(k + 1, c, d, p), ?_, ⟨by dsimp only; omega, ?_⟩, by dsimp only; omega⟩)))))))))))))))))) (fun c30 => V.exit (?_))))))))))
    · have hi : idxK l (k + 1) = idxK l k ++ [k] := by rw [idxK_succ, if_pos c37]
      have s1 := (hJ.hd.ext e10_4)
      have hd3 := s1.mod m3 hJ.cd.symm
      have hp3 := (hJ.hp.ext e10_4).mod m3 hJ.cp.symm
      have cd3 := hJ.cd.grown hf3 s1.lt
      have cp3 := hJ.cp.grown hf3 (hJ.hp.ext e10_4).lt
      have e3 : Ext w2c w3 := Mod.ownA (e.trans e10_4) m3 hJ.hc.ge
      refine V.region (VL.op (R.mvS rfl) (VL.op (R.mvS rfl) (VL.op (R.mvI rfl) (VL.op (R.ixS Try.runUnderlying23 Try.sizeOf3 rfl rfl (by omega) (by omega) ((hT.ext e3).some (i := k) (by omega))) (VL.op (R.ld1 Try.isAgg3 rfl (((((hT.ext e3).ext (Mod.refl _ _)).row (i := k) (by omega)).cell (i := 0) rfl))) (VL.append1 el23 Try.runUnderlying23 Try.sizeOf3 Try.zeroValue3 rfl (t.getD k 0) rfl rfl rfl hd3 rfl rfl rfl (by omega) (by unfold maxLen; omega) e3.size fun a4 cc4 w4 vt4 ho4 m4 hf4 => VL.op (R.asS rfl) (VL.nil (?_))))))))
      have hc4 := ho3.mod m4 cd3
      have hp4 := hp3.mod m4 hJ.dp.symm
      have cd4 := (cd3.symm.grown hf4 ho3.lt).symm
      have dp4 := hJ.dp.grown hf4 hp3.lt
      have e4 : Ext w2c w4 := Mod.ownA e3 m4 hd3.ge
      refine V.region (VL.op (R.mvS rfl) (VL.op (R.mvI rfl) (VL.append1 el23 Try.runUnderlying23 Try.sizeOf3 Try.zeroValue3 rfl (((k : Nat) : Int)) rfl rfl rfl hp4 rfl rfl rfl (by omega) (by unfold maxLen; omega) e4.size fun a5 cc5 w5 vt5 ho5 m5 hf5 => VL.op (R.asS rfl) (VL.nil (V.region (VL.op (R.mvI rfl) (VL.op (R.add rfl rfl (by omega) (by omega)) (VL.op (R.asI rfl) (VL.nil (⟨(k + 1, (a3, cc3), (a4, cc4), (a5, cc5)), ?_, ⟨by dsimp only; omega, ?_⟩, by dsimp only; omega⟩))))))))))
      · have q1 : (cL l (k + 1)).length = (cL l k).length + 1 := by simp [cL, hi]
        have q2 : (tL l t (k + 1)).length = (tL l t k).length + 1 := by simp [tL, hi]
        have q3 : (pL l (k + 1)).length = (pL l k).length + 1 := by simp [pL, hi]
        dsimp only; rw [q1, q2, q3]; rfl
      · dsimp only
        refine ⟨Mod.ownA e4 m5 hp4.ge, ?_, ?_, ?_, cd4, (cp3.symm.grown hf5 hc4.lt).symm, (dp4.symm.grown hf5 ho4.lt).symm⟩
        · have := hc4.mod m5 cp3
          unfold cL; rw [hi, List.map_append]; exact this
        · have := ho4.mod m5 dp4
          unfold tL; rw [hi, List.map_append]; exact this
        · unfold pL; rw [hi, List.map_append]; exact ho5
    · have hi : idxK l (k + 1) = idxK l k := by rw [idxK_succ, if_neg (by rw [c37]; decide)]
      dsimp only
      unfold cL tL pL; rw [hi]; rfl
    · have hi : idxK l (k + 1) = idxK l k := by rw [idxK_succ, if_neg (by rw [c37]; decide)]
      dsimp only
      refine ⟨e.trans e10_4, ?_, ?_, ?_, hJ.cd, hJ.cp, hJ.dp⟩
      · have := hJ.hc.ext e10_4; unfold cL at *; rw [hi]; exact this
      · have := hJ.hd.ext e10_4; unfold tL at *; rw [hi]; exact this
      · have := hJ.hp.ext e10_4; unfold pL at *; rw [hi]; exact this
    · have hkl : k = l.length := by omega
      subst hkl
      exact ⟨(c, d, p), rfl, hJ⟩
  · obtain ⟨c, d, p⟩ := xB0
    dsimp only at hBB0 ⊢
    have l1 := cL_len l l.length
    have l2 := tL_len l t l.length
    have l3 := pL_len l l.length
    have l0 := idxK_len l l.length
    have e := hBB0.e
    have hcS := hBB0.hc.sl
    have hdS := hBB0.hd.sl
    have hpS := hBB0.hp.sl
    have hol : (othersF by_ l t).length ≤ l.length := Nat.le_trans (othK_len _ _ _) (rankL_len by_ l t)
    have hol2 : (othersF by_ (cL l l.length) (tL l t l.length)).length ≤ (cL l l.length).length := Nat.le_trans (othK_len _ _ _) (rankL_len _ _ _)
    have hall := all_cL l t by_ hlt
    obtain ⟨Y, hY⟩ : ∃ Y, Y = allF by_ (cL l l.length) (tL l t l.length) := ⟨_, rfl⟩
    have hYl : Y.length = (allF by_ l t).length := by rw [hall, hY]; simp
    have hYl2 : (allF by_ l t).length ≤ 40 := by show (othersF by_ l t).length + 1 ≤ 40; omega
    have hYm : ∀ k, k < Y.length → -1 ≤ Y.getD k default ∧ Y.getD k default < (cL l l.length).length ∧ (allF by_ l t).getD k default = if Y.getD k default < 0 then -1 else ((plF l (Y.getD k default).toNat : Nat) : Int) := by
      intro k hk
      have h1 : Y.getD k default ∈ Y := by simp [List.getD, hk]
      have h2 := h1
      rw [hY] at h2
      have h2 := all_mem h2
      rw [← hY] at h2
      refine ⟨h2.1, h2.2, ?_⟩
      rw [hall, ← hY]
      simp [List.getD, hk]
    refine V.region (VL.op (R.mvI rfl) (VL.op (R.mvS rfl) (VL.op (R.mvS rfl) (VL.callP Try.call12 rfl (choose_spec by_ a b ca cb l t _ (by omega) (by omega) (hS.ext (e.trans (Mod.refl _ _))) (hT.ext (e.trans (Mod.refl _ _)))) fun w14_3 e14_3 => VL.buildSl Try.runUnderlying23 Try.sizeOf3 Try.zeroValue3 rfl rfl rfl fun b14 w14 hb14 e14 hX14 => VL.op (R.mvI rfl) (VL.op (R.mvS rfl) (VL.op (R.mvS rfl) (VL.callX Try.call15 rfl (others_spec by_ a b ca cb l t _ (by omega) (by omega) (hS.ext (e.trans (e14_3.trans e14))) (hT.ext (e.trans (e14_3.trans e14)))) fun x w15 hx e15 => VL.appendT el23 (fun _ => rfl) rfl rfl (((OwnT.of1 encI 1 (chooseF by_ l t) hX14 (by rw [hb14]; exact (e14_3).size) rfl rfl).ext e15)) rfl rfl ((OwnT.sl hx)) ((OwnT.hax hx)) (by simp; omega) (by simp [maxLen]; omega) (((e14_3.trans e14).trans e15)).size (show _ = (allF by_ l t).length from Nat.add_comm _ _) fun a16 cc16 w16 ho16 m16 hf16 => VL.op (R.asS rfl) (VL.nil (V.seq (?_))))))))))
    have E16 : Ext w2c w16 := Mod.ownA (e.trans (e14_3.trans (e14.trans e15))) m16 fun k hk => by have := aBlk_some hk; have := e.size; have := e14_3.size; omega
    have Ed : Ext wBB0 w16 := Mod.ownA (e14_3.trans (e14.trans e15)) m16 fun k hk => by have := aBlk_some hk; have := e14_3.size; omega
    refine V.region (VL.op (R.mvI rfl) (VL.op (R.mvS rfl) (VL.op (R.mvS rfl) (VL.callP Try.call12 rfl (choose_spec by_ c.1 d.1 c.2 d.2 (cL l l.length) (tL l t l.length) _ (by omega) (by omega) (hcS.ext (Ed.trans (Mod.refl _ _))) (hdS.ext (Ed.trans (Mod.refl _ _)))) fun w15_3 e15_3 => VL.buildSl Try.runUnderlying23 Try.sizeOf3 Try.zeroValue3 rfl rfl rfl fun b17 w17 hb17 e17 hX17 => VL.op (R.mvI rfl) (VL.op (R.mvS rfl) (VL.op (R.mvS rfl) (VL.callX Try.call15 rfl (others_spec by_ c.1 d.1 c.2 d.2 (cL l l.length) (tL l t l.length) _ (by omega) (by omega) (hcS.ext (Ed.trans (e15_3.trans e17))) (hdS.ext (Ed.trans (e15_3.trans e17)))) fun y w18 hy e18 => VL.appendT el23 (fun _ => rfl) rfl rfl (((OwnT.of1 encI 1 (chooseF by_ (cL l l.length) (tL l t l.length)) hX17 (by rw [hb17]; exact (e15_3).size) rfl rfl).ext e18)) rfl rfl ((OwnT.sl hy)) ((OwnT.hax hy)) (by simp; omega) (by simp [maxLen]; omega) (((e15_3.trans e17).trans e18)).size (show _ = (allF by_ (cL l l.length) (tL l t l.length)).length from Nat.add_comm _ _) fun a19 cc19 w19 ho19 m19 hf19 => VL.op (R.asS rfl) (VL.nil (V.seq (V.seq (V.region (VL.op (R.mvS rfl) (VL.op (R.lenS Try.runUnderlying23 rfl) (VL.op (R.mvS rfl) (VL.op (R.lenS Try.runUnderlying23 rfl) (VL.op (R.neq rfl rfl) (VL.nil (V.condP rfl (fun c80 => V.seq (V.region (VL.op (R.asB rfl) (VL.nil (V.ret (fret1 (v := .bool _) rfl rfl rfl (⟨?_, E0.trans (E16.trans (Mod.ownA ((e15_3.trans e17).trans e18) m19 (fun k hk => (OwnSl.blk ((OwnT.of1 encI 1 (chooseF by_ (cL l l.length) (tL l t l.length)) hX17 (by rw [hb17]; exact (e15_3).size) rfl rfl).ext e18) k hk).1)))⟩))))))) (fun c80 => V.skip (V.seq (V.seq (V.region (VL.op (R.asI rfl) (VL.nil (V.block (?_))))))))))))))))))))))))))
    · exact absurd (by rw [← hYl, hY]) c80
    · have hc16 := (ho16.ext (e15_3.trans (e17.trans e18))).mod m19 fun k h1 h2 => by
        have := ho16.lt k h1
        have := aBlk_some h2
        have := e15_3.size
        omega
      have Ey : Ext w16 w19 := Mod.ownA (e15_3.trans (e17.trans e18)) m19 fun k hk => by have := aBlk_some hk; have := e15_3.size; omega
      have hpS := hpS.ext (Ed.trans Ey)
      have hxS := OwnT.sl hc16
      have hyS := OwnT.sl ho19
      have E19 := E0.trans (E16.trans Ey)
      have hyS : TSl encI 1 w19 a19 Y := by rw [hY]; exact hyS
      rw [← hY]
      refine V.loop [7, 10, 12, 13, 14] (fun k : Nat => [.bool true, .slice p.1 (pL l l.length).length p.2, .slice a16 (allF by_ l t).length cc16, .slice a19 Y.length cc19, .int .i64 k])
        (fun k w' => k ≤ Y.length ∧ Ext w19 w') (fun k => Y.length - k) 0 rfl ⟨Nat.zero_le _, Mod.refl _ _⟩ ?_
      rintro ρ k w1 ⟨hk, e⟩
      have hxS : TSl encI 1 w19 a16 (allF by_ l t) := hxS
      have hm := fun h => hYm k h
      refine V.seq (V.seq (V.region (VL.op (R.mvI rfl) (VL.op (R.mvS rfl) (VL.op (R.lenS Try.runUnderlying23 rfl) (VL.op (R.lss rfl rfl) (VL.nil (V.condP rfl (fun c84 => V.skip (V.seq (V.block (V.seq (V.regionQCut mixed 42 (by kernel_rfl) rfl (fun w' => Ext _ w') (Ext.drawn _) [87, 88, 89, 90, 91, 92, 93, 94, 95, 96, 97, 98, 99, 100, 101, 102, 103, 104, 105, 106, 107, 108, 109, 110, 111, 112, 113, 114, 115, 116, 117, 118, 119, 120, 121, 122, 123, 124, 125, 126, 127, 128] 128 (.bool (false)) rfl (VQ.op (fun wq eq => R.mvS rfl) (VQ.op (fun wq eq => R.mvI rfl) (VQ.op (fun wq eq => R.ixS Try.runUnderlying23 Try.sizeOf3 rfl rfl (by have := hm (by omega); omega) (by have := hm (by omega); omega) ((hyS).some (i := k) (by have := hm (by omega); omega))) (VQ.op (fun wq eq => R.ld1 Try.isAgg3 rfl (((((hyS).ext (e.trans eq)).row (i := k) (by have := hm (by omega); omega)).cell (i := 0) rfl))) (VQ.op (fun wq eq => R.mvS rfl) (VQ.op (fun wq eq => R.lenS Try.runUnderlying23 rfl) (VQ.op (fun wq eq => R.geq rfl rfl) (VQ.op (fun wq eq => R.mvB rfl) (VQ.orP rfl rfl (fun g21_7 => VQ.op (fun wq eq => R.mvS rfl) (VQ.gT rfl rfl (VQ.op (fun wq eq => R.mvI rfl) (VQ.gT rfl rfl (VQ.op (fun wq eq => R.ixS Try.runUnderlying23 Try.sizeOf3 rfl rfl (by have := hm (by omega); omega) (by have := hm (by omega); omega) ((hyS).some (i := k) (by have := hm (by omega); omega))) (VQ.gT rfl rfl (VQ.op (fun wq eq => R.ld1 Try.isAgg3 rfl (((((hyS).ext (e.trans eq)).row (i := k) (by have := hm (by omega); omega)).cell (i := 0) rfl))) (VQ.gT rfl rfl (VQ.op (fun wq eq => R.lss rfl rfl) (VQ.gT rfl rfl (VQ.op (fun wq eq => R.mvB rfl) (VQ.andP rfl rfl (fun g21_13 => VQ.op (fun wq eq => R.mvS rfl) (VQ.gT rfl rfl (VQ.op (fun wq eq => R.mvI rfl) (VQ.gT rfl rfl (VQ.op (fun wq eq => R.ixS Try.runUnderlying23 Try.sizeOf3 rfl rfl (by have := hm (by omega); omega) (by have := hm (by omega); omega) ((hxS).some (i := k) (by have := hm (by omega); omega))) (VQ.gT rfl rfl (VQ.op (fun wq eq => R.ld1 Try.isAgg3 rfl (((((hxS).ext (e.trans eq)).row (i := k) (by have := hm (by omega); omega)).cell (i := 0) rfl))) (VQ.gT rfl rfl (VQ.op (fun wq eq => R.neq rfl rfl) (VQ.gT rfl rfl (VQ.op (fun wq eq => R.pickTB rfl rfl) (VQ.op (fun wq eq => R.pickFB rfl rfl) (VQ.op (fun wq eq => R.mvB rfl) (VQ.orP rfl rfl (fun g21_21 => VQ.op (fun wq eq => R.mvS rfl) (VQ.gT rfl rfl (VQ.op (fun wq eq => R.mvI rfl) (VQ.gT rfl rfl (VQ.op (fun wq eq => R.ixS Try.runUnderlying23 Try.sizeOf3 rfl rfl (by have := hm (by omega); omega) (by have := hm (by omega); omega) ((hyS).some (i := k) (by have := hm (by omega); omega))) (VQ.gT rfl rfl (VQ.op (fun wq eq => R.ld1 Try.isAgg3 rfl (((((hyS).ext (e.trans eq)).row (i := k) (by have := hm (by omega); omega)).cell (i := 0) rfl))) (VQ.gT rfl rfl (VQ.op (fun wq eq => R.geq rfl rfl) (VQ.gT rfl rfl (VQ.op (fun wq eq => R.mvB rfl) (VQ.andP rfl rfl (fun g21_27 => VQ.op (fun wq eq => R.mvS rfl) (VQ.gT rfl rfl (VQ.op (fun wq eq => R.mvI rfl) (VQ.gT rfl rfl (VQ.op (fun wq eq => R.ixS Try.runUnderlying23 Try.sizeOf3 rfl rfl (by have := hm (by omega); omega) (by have := hm (by omega); omega) ((hxS).some (i := k) (by have := hm (by omega); omega))) (VQ.gT rfl rfl (VQ.op (fun wq eq => R.ld1 Try.isAgg3 rfl (((((hxS).ext (e.trans eq)).row (i := k) (by have := hm (by omega); omega)).cell (i := 0) rfl))) (VQ.gT rfl rfl (VQ.op (fun wq eq => R.mvS rfl) (VQ.gT rfl rfl (VQ.op (fun wq eq => R.mvS rfl) (VQ.gT rfl rfl (VQ.op (fun wq eq => R.mvI rfl) (VQ.gT rfl rfl (VQ.op (fun wq eq => R.ixS Try.runUnderlying23 Try.sizeOf3 rfl rfl (by have := hm (by omega); omega) (by have := hm (by omega); omega) ((hyS).some (i := k) (by have := hm (by omega); omega))) (VQ.gT rfl rfl (VQ.op (fun wq eq => R.ld1 Try.isAgg3 rfl (((((hyS).ext (e.trans eq)).row (i := k) (by have := hm (by omega); omega)).cell (i := 0) rfl))) (VQ.gT rfl rfl (VQ.op (fun wq eq => R.ixS Try.runUnderlying23 Try.sizeOf3 rfl rfl (by have := hm (by omega); omega) (by have := hm (by omega); omega) ((hpS).some (i := (Y.getD k default).toNat) (by have := hm (by omega); omega))) (VQ.gT rfl rfl (VQ.op (fun wq eq => R.ld1 Try.isAgg3 rfl (((((hpS).ext (e.trans eq)).row (i := (Y.getD k default).toNat) (by have := hm (by omega); omega)).cell (i := 0) rfl))) (VQ.gT rfl rfl (VQ.op (fun wq eq => R.neq rfl rfl) (VQ.gT rfl rfl (VQ.op (fun wq eq => R.pickTB rfl rfl) (VQ.op (fun wq eq => R.pickFB rfl rfl) (VQ.nil (cutB rfl ?_)))))))))))))))))))))))))))) (fun g21_27 => VQ.gF rfl rfl (VQ.gF rfl rfl (VQ.gF rfl rfl (VQ.gF rfl rfl (VQ.gF rfl rfl (VQ.gF rfl rfl (VQ.gF rfl rfl (VQ.gF rfl rfl (VQ.gF rfl rfl (VQ.gF rfl rfl (VQ.gF rfl rfl (VQ.gT rfl rfl (VQ.op (fun wq eq => R.pickFB rfl rfl) (VQ.op (fun wq eq => R.pickFB rfl rfl) (VQ.nil (cutB rfl ?_)))))))))))))))))))))))))))) (fun g21_21 => VQ.gF rfl rfl (VQ.gF rfl rfl (VQ.gF rfl rfl (VQ.gF rfl rfl (VQ.gF rfl rfl (VQ.gU rfl rfl (VQ.gU rfl rfl (VQ.gU rfl rfl (VQ.gU rfl rfl (VQ.gU rfl rfl (VQ.gU rfl rfl (VQ.gU rfl rfl (VQ.gU rfl rfl (VQ.gU rfl rfl (VQ.gU rfl rfl (VQ.gU rfl rfl (VQ.gU rfl rfl (VQ.gF rfl rfl (VQ.op (fun wq eq => R.pickTB rfl rfl) (VQ.nil (cutB rfl ?_))))))))))))))))))))))))))))))))))) (fun g21_13 => VQ.gF rfl rfl (VQ.gF rfl rfl (VQ.gF rfl rfl (VQ.gF rfl rfl (VQ.gT rfl rfl (VQ.op (fun wq eq => R.pickFB rfl rfl) (VQ.op (fun wq eq => R.pickFB rfl rfl) (VQ.op (fun wq eq => R.mvB rfl) (VQ.gT rfl rfl (VQ.op (fun wq eq => R.mvS rfl) (VQ.gT rfl rfl (VQ.op (fun wq eq => R.mvI rfl) (VQ.gT rfl rfl (VQ.op (fun wq eq => R.ixS Try.runUnderlying23 Try.sizeOf3 rfl rfl (by have := hm (by omega); omega) (by have := hm (by omega); omega) ((hyS).some (i := k) (by have := hm (by omega); omega))) (VQ.gT rfl rfl (VQ.op (fun wq eq => R.ld1 Try.isAgg3 rfl (((((hyS).ext (e.trans eq)).row (i := k) (by have := hm (by omega); omega)).cell (i := 0) rfl))) (VQ.gT rfl rfl (VQ.op (fun wq eq => R.geq rfl rfl) (VQ.gT rfl rfl (VQ.op (fun wq eq => R.mvB rfl) (VQ.andP rfl rfl (fun g21_27 => VQ.op (fun wq eq => R.mvS rfl) (VQ.gT rfl rfl (VQ.op (fun wq eq => R.mvI rfl) (VQ.gT rfl rfl (VQ.op (fun wq eq => R.ixS Try.runUnderlying23 Try.sizeOf3 rfl rfl (by have := hm (by omega); omega) (by have := hm (by omega); omega) ((hxS).some (i := k) (by have := hm (by omega); omega))) (VQ.gT rfl rfl (VQ.op (fun wq eq => R.ld1 Try.isAgg3 rfl (((((hxS).ext (e.trans eq)).row (i := k) (by have := hm (by omega); omega)).cell (i := 0) rfl))) (VQ.gT rfl rfl (VQ.op (fun wq eq => R.mvS rfl) (VQ.gT rfl rfl (VQ.op (fun wq eq => R.mvS rfl) (VQ.gT rfl rfl (VQ.op (fun wq eq => R.mvI rfl) (VQ.gT rfl rfl (VQ.op (fun wq eq => R.ixS Try.runUnderlying23 Try.sizeOf3 rfl rfl (by have := hm (by omega); omega) (by have := hm (by omega); omega) ((hyS).some (i := k) (by have := hm (by omega); omega))) (VQ.gT rfl rfl (VQ.op (fun wq eq => R.ld1 Try.isAgg3 rfl (((((hyS).ext (e.trans eq)).row (i := k) (by have := hm (by omega); omega)).cell (i := 0) rfl))) (VQ.gT rfl rfl (VQ.op (fun wq eq => R.ixS Try.runUnderlying23 Try.sizeOf3 rfl rfl (by have := hm (by omega); omega) (by have := hm (by omega); omega) ((hpS).some (i := (Y.getD k default).toNat) (by have := hm (by omega); omega))) (VQ.gT rfl rfl (VQ.op (fun wq eq => R.ld1 Try.isAgg3 rfl (((((hpS).ext (e.trans eq)).row (i := (Y.getD k default).toNat) (by have := hm (by omega); omega)).cell (i := 0) rfl))) (VQ.gT rfl rfl (VQ.op (fun wq eq => R.neq rfl rfl) (VQ.gT rfl rfl (VQ.op (fun wq eq => R.pickTB rfl rfl) (VQ.op (fun wq eq => R.pickFB rfl rfl) (VQ.nil (cutB rfl ?_)))))))))))))))))))))))))))) (fun g21_27 => VQ.gF rfl rfl (VQ.gF rfl rfl (VQ.gF rfl rfl (VQ.gF rfl rfl (VQ.gF rfl rfl (VQ.gF rfl rfl (VQ.gF rfl rfl (VQ.gF rfl rfl (VQ.gF rfl rfl (VQ.gF rfl rfl (VQ.gF rfl rfl (VQ.gT rfl rfl (VQ.op (fun wq eq => R.pickFB rfl rfl) (VQ.op (fun wq eq => R.pickFB rfl rfl) (VQ.nil (cutB rfl ?_))))))))))))))))))))))))))))))))))))))))))))))))) (fun g21_7 => VQ.gF rfl rfl (VQ.gF rfl rfl (VQ.gF rfl rfl (VQ.gF rfl rfl (VQ.gF rfl rfl (VQ.gU rfl rfl (VQ.gU rfl rfl (VQ.gU rfl rfl (VQ.gU rfl rfl (VQ.gU rfl rfl (VQ.gF rfl rfl (VQ.op (fun wq eq => R.pickTB rfl rfl) (VQ.op (fun wq eq => R.mvB rfl) (VQ.gF rfl rfl (VQ.gF rfl rfl (VQ.gF rfl rfl (VQ.gF rfl rfl (VQ.gF rfl rfl (VQ.gF rfl rfl (VQ.gU rfl rfl (VQ.gU rfl rfl (VQ.gU rfl rfl (VQ.gU rfl rfl (VQ.gU rfl rfl (VQ.gU rfl rfl (VQ.gU rfl rfl (VQ.gU rfl rfl (VQ.gU rfl rfl (VQ.gU rfl rfl (VQ.gU rfl rfl (VQ.gU rfl rfl (VQ.gF rfl rfl (VQ.op (fun wq eq => R.pickTB rfl rfl) (VQ.nil (cutB rfl ?_)))))))))))))))))))))))))))))))))))))))))))) (fun rg21 w21c e21c => V.cond rfl (fun c128 => V.seq (V.region (VL.op (R.asB rfl) (VL.nil (V.ret (fret1 (v := .bool _) rfl rfl rfl (⟨?_, E19.trans (e.trans e21c)⟩))))))) (fun c128 => V.skip (V.region (VL.op (R.mvI rfl) (VL.op (R.add rfl rfl (by omega) (by omega)) (VL.op (R.asI rfl) (VL.nil (⟨k + 1, rfl, ⟨by omega, (e.trans e21c)⟩, by omega⟩))))))))))))) (fun c84 => V.exit (V.seq (V.region (VL.op (R.mvB rfl) (VL.op (R.asB rfl) (VL.nil (V.ret (fret1 (v := .bool _) rfl rfl rfl (⟨?_, E19.trans e⟩)))))))))))))))))
      any_goals (exfalso; omega)
      any_goals rfl
      all_goals first
        | (exfalso; have h3 := (hm (by omega)).2.2; rw [if_pos g21_13] at h3; exact g21_21 h3; done)
        | (cases c128; done)
        | (have h3 := hm (by omega)
           have h4 := h3.2.2
           rw [if_neg g21_13] at h4
           apply decide_eq_false
           rw [h4, show (pL l l.length).getD (Y.getD k default).toNat default = _ from pL_get l (by omega)]
           simp; done)
end Go.Proofs.Ytbckofoibdljgaa
