/- Bond: BondOpens' walk. -/
import Derived.Test.YtlefkkelohhnkaaL4
import Derived.Test.YtlefkkelohhnkaaVcApp
namespace Go.Proofs.Ytlefkkelohhnkaa
open Go.Vc
theorem take_opn (l : List Dec) (k : Nat) (hk : k < l.length) : l ++ (l.take (k + 1)).map opn = (l ++ (l.take k).map opn) ++ [opn (l.getD k default)] := by
  rw [List.take_succ_eq_append_getElem hk, List.map_append, List.append_assoc]
  simp [List.getD, hk]
set_option maxRecDepth 100000 in
set_option maxHeartbeats 4000000 in
theorem law7_spec (ra la : Option Addr) (rc lc : Nat) (recs : List Rec) (l : List Dec) (w : World) (hm1 : recs.length ≤ 9223372036854775807) (hm2 : l.length ≤ 9223372036854775807) (hR : RecSl w ra recs) (hL : DecSl w la l) (hax : la = none → lc = 0) :
    RetsP Try.prog 7 #[.slice ra recs.length rc, .slice la l.length lc] w (.bool true) := by
  refine enter (args := [_, _]) Try.func7 rfl Try.ntmps7 (by kernel_rfl) rfl ?_
  refine V.seq (V.region (VL.op (R.asB rfl) (VL.nil (V.seq (V.region (VL.callP Try.call9 rfl (lhead_spec _) fun w1_0 e1_0 => VL.op (R.asB rfl) (VL.nil (V.seq (V.seq (V.region (VL.op (R.mvS rfl) (VL.op (R.lenS Try.runUnderlying22 rfl) (VL.op (R.gtr rfl rfl) (VL.op (R.mvB rfl) (VL.orP rfl rfl (fun g2_3 => VL.op (R.mvS rfl) (VL.gT rfl rfl (VL.op (R.lenS Try.runUnderlying23 rfl) (VL.gT rfl rfl (VL.op (R.gtr rfl rfl) (VL.op (R.pickFB rfl rfl) (VL.nil (V.condP rfl (fun c19 => V.seq (V.region (VL.op (R.mvB rfl) (VL.op (R.asB rfl) (VL.nil (V.ret (fret1 (v := .bool _) rfl rfl rfl (⟨rfl, e1_0⟩)))))))) (fun c19 => V.skip (V.seq (?_))))))))))) (fun g2_3 => VL.gF rfl rfl (VL.gF rfl rfl (VL.op (R.pickTB rfl rfl) (VL.nil (V.condT rfl (V.seq (V.region (VL.op (R.mvB rfl) (VL.op (R.asB rfl) (VL.nil (V.ret (fret1 (v := .bool _) rfl rfl rfl (⟨rfl, e1_0⟩))))))))))))))))))))))))))))
  have h1 : recs.length ≤ 30 := by omega
  have h2 : l.length ≤ 30 := by omega
  have hR := hR.ext e1_0
  have hL := hL.ext e1_0
  refine V.region (VL.buildSl Try.runUnderlying23 Try.sizeOf39 Try.zeroValue39 rfl rfl rfl fun b5 w5 hb5 e5 hX5 => VL.op (R.mvS rfl) (VL.appendT el23 (fun _ => rfl) rfl (rfl) ((OwnT.of0 encDec 7 hX5 (Nat.le_of_eq (Eq.symm hb5)))) rfl (rfl) ((hL.ext e5)) (hax) (by simp; omega) (by simp [maxLen]; omega) (e5).size rfl fun a6 c6 w6 ho6 m6 hf6 => VL.op (R.asS rfl) (VL.nil (V.cut [0, 1, 5, 6] (fun x : Option Addr × Nat => [.slice ra recs.length rc, .slice la l.length lc, .bool true, .slice x.1 (l ++ l.map opn).length x.2]) (fun x w' => Ext w1_0 w' ∧ OwnT encDec 7 39 w1_0.heap.size w' x.1 x.2 (l ++ l.map opn)) (V.seq (V.region (VL.op (R.asI rfl) (VL.nil (V.block (?_)))))) (fun rgB0 xB0 wBB0 hBB0 => V.seq (?_))))))
  · have E6 : Ext w1_0 w6 := Mod.ownA e5 m6 fun k hk => by have := aBlk_some hk; omega
    have hz : 0 + l.length = (l ++ (l.take 0).map opn).length := by simp
    have ho6 : OwnT encDec 7 39 w1_0.heap.size w6 a6 c6 (l ++ (l.take 0).map opn) := by simpa using ho6
    rw [hz]
    refine V.loop [0, 1, 5, 6, 7] (fun x : Nat × Option Addr × Nat => [.slice ra recs.length rc, .slice la l.length lc, .bool true, .slice x.2.1 (l ++ (l.take x.1).map opn).length x.2.2, .int .i64 (x.1 : Nat)])
      (fun x w' => x.1 ≤ l.length ∧ Ext w1_0 w' ∧ OwnT encDec 7 39 w1_0.heap.size w' x.2.1 x.2.2 (l ++ (l.take x.1).map opn)) (fun x => l.length - x.1) (0, a6, c6) rfl ⟨Nat.zero_le _, E6, ho6⟩ ?_
    rintro ρ ⟨k, a, cap⟩ w2 ⟨hk, e, hO⟩
    dsimp only at hk e hO ⊢
    have hol : (l ++ (l.take k).map opn).length = l.length + k := by simp; omega
    refine V.seq (V.seq (V.region (VL.op (R.mvI rfl) (VL.op (R.mvS rfl) (VL.op (R.lenS Try.runUnderlying23 rfl) (VL.op (R.lss rfl rfl) (VL.nil (V.condP rfl (fun c27 => V.skip (V.seq (V.block (V.regionW mixed 13 12 (by kernel_rfl) rfl (C0B _) (C1B _ encDec 7 39 (opn (l.getD k default))) (C0B.drawn _) (VW.op (fun wq eq => R.mvS rfl) (VW.op (fun wq eq => R.mvS rfl) (VW.op (fun wq eq => R.mvI rfl) (VW.op (fun wq eq => R.ixS Try.runUnderlying23 Try.sizeOf39 rfl rfl (by omega) (by omega) ((hL.ext e).some (i := k) (by omega))) (VW.op (fun wq eq => R.fld' (o := 1) Try.runUnderlying39 rfl rfl Try.sizeOf37 rfl rfl) (VW.op0 (fun wq ⟨eq, _⟩ => R.ldA Try.isAgg37 Try.sizeOf37 rfl rfl ((show RowAt _ _ _ (encKey (l.getD k default).a) from ((((hL.ext e).ext eq).row (i := k) (by omega)).sub 1 3 rfl))) rfl) (VW.op (fun wq eq => R.mvS rfl) (VW.op (fun wq eq => R.mvI rfl) (VW.op (fun wq eq => R.ixS Try.runUnderlying23 Try.sizeOf39 rfl rfl (by omega) (by omega) ((hL.ext e).some (i := k) (by omega))) (VW.op (fun wq eq => R.fld' (o := 4) Try.runUnderlying39 rfl rfl Try.sizeOf37 rfl rfl) (VW.op0 (fun wq ⟨eq, _⟩ => R.ldA Try.isAgg37 Try.sizeOf37 rfl rfl ((show RowAt _ _ _ (encKey (l.getD k default).b) from ((((hL.ext e).ext eq).row (i := k) (by omega)).sub 4 3 rfl))) rfl) (VW.op (fun wq eq => R.build Try.zeroValue39 Try.runUnderlying39 pl39 rfl) (VW.build1 Try.runUnderlying23 Try.sizeOf39 Try.zeroValue39 rfl rfl rfl _ rfl rfl rfl (VW.nil fun w8 h8 => VL.appendT el23 (fun _ => rfl) rfl (rfl) ((hO.ext h8.e)) rfl ( (show 1 = [opn (l.getD k default)].length from rfl)) ((OwnT.sl h8.o)) ((fun h => by cases h)) (by simp; omega) (by simp [maxLen]; omega) (by have := e.size; have := (h8.e).size; omega) rfl fun a8 cap8 w9 ho8 m8 hf8 => VL.op (R.asS rfl) (VL.nil (V.region (VL.op (R.mvI rfl) (VL.op (R.add rfl rfl (by omega) (by omega)) (VL.op (R.asI rfl) (VL.nil (⟨(k + 1, a8, cap8), ?_, ⟨?_, ?_, ?_⟩, ?_⟩))))))))))))))))))))))))) (fun c27 => V.exit (?_))))))))))
    · exact congrArg (fun z : Nat => [Value.slice ra recs.length rc, .slice la l.length lc, .bool true, .slice a8 z cap8, .int .i64 ((k + 1 : Nat) : Int)]) (show (l ++ (l.take k).map opn).length + 1 = (l ++ (l.take (k + 1)).map opn).length by rw [take_opn l k (by omega)]; simp; omega)
    · dsimp only; omega
    · exact Mod.ownA (e.trans h8.e) m8 fun y hy => hO.ge y hy
    · dsimp only; rw [take_opn l k (by omega)]; exact ho8
    · dsimp only; omega
    · have hkl : k = l.length := by omega
      subst hkl
      rw [List.take_length] at hO
      exact ⟨(a, cap), by rw [List.take_length]; rfl, e, hO⟩
  · obtain ⟨E0, hO⟩ := hBB0
    have hol : (l ++ l.map opn).length = l.length + l.length := by simp
    have hh : hds (hdR recs (l ++ l.map opn)) recs.length = hds (fun i => i) recs.length := hds_congr fun i _ => open_hd recs l i
    have hR := hR.ext E0
    refine V.region (VL.op (R.mvS rfl) (VL.op (R.mvS rfl) (VL.callX Try.call11 rfl (bind_is hh (open_bnd recs l) ra xB0.1 rc xB0.2 _ (by omega) (by omega) hR hO.sl) fun x w9 hx e9 => VL.op (R.mvT rfl) (VL.op (R.extr rfl rfl) (VL.op (R.extr rfl rfl) (VL.op (R.asS rfl) (VL.op (R.asS rfl) (VL.nil (V.seq (V.seq (?_)))))))))))
    obtain ⟨hI, hP⟩ := hx
    have hil := hds_len (fun i => i) recs.length
    have hig : ∀ i, i < recs.length → (hds (fun i => i) recs.length).getD i default = ((i : Nat) : Int) := fun i hi => hds_get (fun i => i) recs.length i hi
    have hO9 := hO.ext e9
    have hR9 := hR.ext e9
    refine V.region (VL.op (R.asI rfl) (VL.nil (V.block (?_))))
    refine V.loop [0, 5, 6, 8, 9, 10] (fun k : Nat => [.slice ra recs.length rc, .bool true, .slice xB0.1 (l ++ l.map opn).length xB0.2, .slice x.1.1 (hds (fun i => i) recs.length).length x.1.2, .slice x.2.1 0 x.2.2, .int .i64 (k : Nat)])
      (fun k w' => k ≤ recs.length ∧ Ext w9 w') (fun k => recs.length - k) 0 rfl ⟨Nat.zero_le _, Mod.refl _ _⟩ ?_
    rintro ρ k w2 ⟨hk, e⟩
    have hc := contra_is (open_con recs l) ra xB0.1 rc xB0.2
    have hc2 := effective_is (effL_open l) xB0.1 xB0.2
    refine V.seq (V.seq (V.region (VL.op (R.mvI rfl) (VL.op (R.mvS rfl) (VL.op (R.lenS Try.runUnderlying26 rfl) (VL.op (R.lss rfl rfl) (VL.nil (V.condP rfl (fun c53 => V.skip (V.seq (V.block (V.seq (V.region (VL.op (R.mvS rfl) (VL.op (R.mvI rfl) (VL.op (R.ixS Try.runUnderlying26 Try.sizeOf3 rfl rfl (by omega) (by omega) ((hI.ext e).some (i := k) (by omega))) (VL.op (R.ld1 Try.isAgg3 rfl (((((hI.ext e).ext (Mod.refl _ _)).row (i := k) (by omega)).cell (i := 0) rfl))) (VL.op (R.mvI rfl) (VL.op (R.neq rfl rfl) (VL.nil (V.condP rfl (fun c61 => V.seq (V.region (VL.op (R.asB rfl) (VL.nil (V.ret (fret1 (v := .bool _) rfl rfl rfl (⟨?_, (e1_0.trans (E0.trans (e9.trans e))).trans (Mod.refl _ _)⟩))))))) (fun c61 => V.skip (V.region (VL.op (R.mvI rfl) (VL.op (R.add rfl rfl (by omega) (by omega)) (VL.op (R.asI rfl) (VL.nil (⟨k + 1, rfl, ⟨by omega, e.trans (Mod.refl _ _)⟩, by omega⟩)))))))))))))))))))) (fun c53 => V.exit (V.seq (V.region (VL.op (R.mvB rfl) (VL.op (R.mvB rfl) (VL.and rfl rfl (fun g15_1 => VL.op (R.mvS rfl) (VL.gT rfl rfl (VL.op (R.lenS Try.runUnderlying26 rfl) (VL.gT rfl rfl (VL.op (R.mvS rfl) (VL.gT rfl rfl (VL.op (R.lenS Try.runUnderlying22 rfl) (VL.gT rfl rfl (VL.op (R.eql rfl rfl) (VL.op (R.pickTB rfl rfl) (VL.op (R.mvB rfl) (VL.andP rfl rfl (fun g15_8 => VL.op (R.mvS rfl) (VL.gT rfl rfl (VL.op (R.lenS Try.runUnderlying27 rfl) (VL.gT rfl rfl (VL.op (R.eql rfl rfl) (VL.op (R.pickTB rfl rfl) (VL.op (R.mvB rfl) (VL.andP rfl rfl (fun g15_13 => VL.op (R.mvS rfl) (VL.gT rfl rfl (VL.callX Try.call16 rfl (hc2 _ (by omega) (hO9.sl.ext (e.trans (Mod.refl _ _)))) fun y w10 hy e10 => VL.gT rfl rfl (VL.op (R.lenS Try.runUnderlying23 rfl) (VL.gT rfl rfl (VL.op (R.eql rfl rfl) (VL.op (R.pickTB rfl rfl) (VL.op (R.mvB rfl) (VL.andP rfl rfl (fun g15_19 => VL.op (R.mvS rfl) (VL.gT rfl rfl (VL.op (R.mvS rfl) (VL.gT rfl rfl (VL.callX Try.call18 rfl (hc _ (by omega) (by omega) (hR9.ext (e.trans e10)) (hO9.sl.ext (e.trans e10))) fun z w11 hz11 e11 => VL.gT rfl rfl (VL.op (R.lenS Try.runUnderlying27 rfl) (VL.gT rfl rfl (VL.op (R.eql rfl rfl) (VL.op (R.pickTB rfl rfl) (VL.op (R.asB rfl) (VL.nil (V.ret (fret1 (v := .bool _) rfl rfl rfl (⟨?_, (e1_0.trans (E0.trans (e9.trans e))).trans (e10.trans e11)⟩)))))))))))))) (fun g15_19 => VL.gF rfl rfl (VL.gF rfl rfl (VL.gF rfl rfl (VL.gF rfl rfl (VL.op (R.pickFB rfl rfl) (VL.op (R.asB rfl) (VL.nil (V.ret (fret1 (v := .bool _) rfl rfl rfl (⟨?_, (e1_0.trans (E0.trans (e9.trans e))).trans e10⟩))))))))))))))))))) (fun g15_13 => VL.gF rfl rfl (VL.gF rfl rfl (VL.gF rfl rfl (VL.op (R.pickFB rfl rfl) (VL.op (R.mvB rfl) (VL.gF rfl rfl (VL.gF rfl rfl (VL.gF rfl rfl (VL.gF rfl rfl (VL.gF rfl rfl (VL.op (R.pickFB rfl rfl) (VL.op (R.asB rfl) (VL.nil (V.ret (fret1 (v := .bool _) rfl rfl rfl (⟨?_, (e1_0.trans (E0.trans (e9.trans e))).trans (Mod.refl _ _)⟩)))))))))))))))))))))))) (fun g15_8 => VL.gF rfl rfl (VL.gF rfl rfl (VL.op (R.pickFB rfl rfl) (VL.op (R.mvB rfl) (VL.gF rfl rfl (VL.gF rfl rfl (VL.gF rfl rfl (VL.gF rfl rfl (VL.op (R.pickFB rfl rfl) (VL.op (R.mvB rfl) (VL.gF rfl rfl (VL.gF rfl rfl (VL.gF rfl rfl (VL.gF rfl rfl (VL.gF rfl rfl (VL.op (R.pickFB rfl rfl) (VL.op (R.asB rfl) (VL.nil (V.ret (fret1 (v := .bool _) rfl rfl rfl (⟨?_, (e1_0.trans (E0.trans (e9.trans e))).trans (Mod.refl _ _)⟩))))))))))))))))))))))))))))))))) (fun g15_1 => VL.gF rfl rfl (VL.gF rfl rfl (VL.gF rfl rfl (VL.gF rfl rfl (VL.op (R.pickFB rfl rfl) (VL.op (R.mvB rfl) (VL.gF rfl rfl (VL.gF rfl rfl (VL.gF rfl rfl (VL.op (R.pickFB rfl rfl) (VL.op (R.mvB rfl) (VL.gF rfl rfl (VL.gF rfl rfl (VL.gF rfl rfl (VL.gF rfl rfl (VL.op (R.pickFB rfl rfl) (VL.op (R.mvB rfl) (VL.gF rfl rfl (VL.gF rfl rfl (VL.gF rfl rfl (VL.gF rfl rfl (VL.gF rfl rfl (VL.op (R.pickFB rfl rfl) (VL.op (R.asB rfl) (VL.nil (V.ret (fret1 (v := .bool _) rfl rfl rfl (⟨?_, (e1_0.trans (E0.trans (e9.trans e))).trans (Mod.refl _ _)⟩))))))))))))))))))))))))))))))))))))))))))
    · exact absurd (hig k (by omega)) c61
    · rfl
    · exact absurd rfl g15_19
    · exact absurd rfl g15_13
    · exfalso; omega
    · cases g15_1
end Go.Proofs.Ytlefkkelohhnkaa
