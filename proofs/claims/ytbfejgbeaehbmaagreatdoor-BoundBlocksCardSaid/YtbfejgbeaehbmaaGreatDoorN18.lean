/- Bound: the reference's Quick and Range. -/
import Derived.Test.YtbfejgbeaehbmaaGreatDoorN17
import Derived.Test.YtbfejgbeaehbmaaGreatDoorQ6
import Derived.Test.YtbfejgbeaehbmaaGreatDoorN15
namespace Go.Proofs.YtbfejgbeaehbmaaGreatDoor
open Go.Vc
theorem wyB_pos {n : Int} {x : WyI} (h : wyB n (wyV x) = true) : Inc x.p.l := by
  unfold wyB wyV at h
  rw [Bool.and_eq_true] at h
  exact (setB_iff.1 h.1).1
theorem take_all {α : Type} [Inhabited α] (f : α → Bool) (l : List α) {k : Nat} (hk : k < l.length) : (l.take (k + 1)).all f = ((l.take k).all f && f (l.getD k default)) := by
  rw [List.take_succ_eq_append_getElem hk, List.all_append, gget hk]; simp
theorem rquick_spec (g : GrW) (W : List WyI) (a : Option Addr) (c : Nat) (w : World) (hG : GOk w g) (hl : GLen g) (hW : WL w a W) (hwm : W.length ≤ 9223372036854775807) (hwl : ∀ x ∈ W, WLen x) :
    RetsP Tryz.prog 15 #[.agg (encGr g).toArray, .slice a W.length c] w (.int .i64 (quickF (grV g) (W.map wyV))) := by
  refine enter (args := [_, _]) Tryz.func15 rfl Tryz.ntmps15 (by kernel_rfl) rfl ?_
  refine V.seq (V.region (VL.box (v := .agg _) rfl fun b0_0 w0_0 hb0_0 e0_0 hB0_0 => VL.op (R.asI rfl) (VL.nil (V.seq (V.seq (V.region (VL.op (R.ldA Tryz.isAgg25 Tryz.sizeOf25 rfl rfl ((show RowAt _ _ _ (encGr g) from (hB0_0.rowAt 0 3))) rfl) (VL.op (R.mvS rfl) (VL.callP Tryz.call21 rfl (rready_spec g W a c _ (hG.ext e0_0) hl (hW.ext e0_0) hwm hwl) fun w1_2 e1_2 => VL.op (R.not rfl) (VL.nil (V.cond rfl (fun c10 => V.seq (V.region (VL.op (R.asI rfl) (VL.nil (V.ret (fret1 (v := .int _ _) rfl rfl rfl (⟨?_, (e0_0.trans e1_2)⟩))))))) (fun c10 => V.skip (V.seq (?_))))))))))))))
  · have h : readyG (grV g) (W.map wyV) = false := by simpa using c10
    unfold quickF
    rw [if_neg (by rw [h]; decide)]
  · have hr : readyG (grV g) (W.map wyV) = true := by simpa using c10
    obtain ⟨hv, hlen, hwy⟩ := ready_iff.1 hr
    have hE : ∀ e ∈ vals g.edges, Inc e := fun e he => ((validG_iff.1 hv).2.2.1 e he).2.1
    refine V.region (VL.op (R.asB rfl) (VL.nil (V.seq (V.seq (V.region (VL.op (R.asI rfl) (VL.nil (V.block (?_)))))))))
    refine V.loop [1, 2, 5, 6] (fun k : Nat => [.slice a W.length c, .pointer (some ⟨b0_0, 0, none⟩), .bool ((W.take k).all fun x => neverW (vals g.edges) (wyV x)), .int .i64 (k : Nat)]) (fun k w' => k ≤ W.length ∧ (∀ i, i < k → certW (vals g.edges) (wyV (W.getD i default)) = false) ∧ Ext w0_0 w') (fun k => W.length - k) 0 rfl ⟨Nat.zero_le _, fun i h => absurd h (Nat.not_lt_zero i), e1_2⟩ ?_
    rintro ρ k w2 ⟨hk, hi, e⟩
    have hB2 := hB0_0.ext e
    have eT := e0_0.trans e
    have hW2 := hW.ext eT
    refine V.seq (V.seq (V.region (VL.op (R.mvI rfl) (VL.op (R.mvS rfl) (VL.op (R.lenS Tryz.runUnderlying26 rfl) (VL.op (R.lss rfl rfl) (VL.nil (V.condP rfl (fun c14 => V.skip (V.seq (V.block (V.seq (V.seq (?_)))))) (fun c14 => V.exit (V.seq (V.seq (V.region (VL.op (R.mvB rfl) (VL.nil (V.cond rfl (fun c32 => V.seq (V.region (VL.op (R.asI rfl) (VL.nil (V.ret (fret1 (v := .int _ _) rfl rfl rfl (?_))))))) (fun c32 => V.skip (V.seq (V.region (VL.op (R.asI rfl) (VL.nil (V.ret (fret1 (v := .int _ _) rfl rfl rfl (?_)))))))))))))))))))))))
    · have hkl : k < W.length := by omega
      refine V.regionQ mixed 6 (by kernel_rfl) rfl (fun w' => Ext _ w') (Ext.drawn _) (VQ.op (fun wq eq => R.ldA Tryz.isAgg25 Tryz.sizeOf25 rfl rfl ((show RowAt _ _ _ (encGr g) from (hB2.ext eq).rowAt 0 3)) rfl) (VQ.op (fun wq eq => R.mvS rfl) (VQ.op (fun wq eq => R.mvI rfl) (VQ.op (fun wq eq => R.ixS Tryz.runUnderlying26 Tryz.sizeOf46 rfl rfl (by omega) (by omega) ((hW2.sl.ext eq).some (i := k) hkl)) (VQ.op (fun wq eq => R.ldA Tryz.isAgg46 Tryz.sizeOf46 rfl rfl ((show RowAt _ _ _ (encWy (W.getD k default)) from ((hW2.sl.ext eq).row (i := k) hkl))) rfl) (VQ.callP (fun _ _ h k => Mod.trans h k) Tryz.call41 rfl (fun wq eq => rcertain_spec g (W.getD k default) _ (hG.ext (eT.trans eq)) hl ((hW2.at hkl).ext eq) (hwl _ (gmem hkl))) (VQ.nil fun w7q e7q => VL.nil (V.cond rfl (fun c22 => V.seq (V.region (VL.op (R.asI rfl) (VL.nil (V.ret (fret1 (v := .int _ _) rfl rfl rfl (⟨?_, eT.trans e7q⟩))))))) (fun c22 => V.skip (?_))))))))))
      · congr 1
        unfold quickF
        rw [if_pos hr, if_pos (show (W.map wyV).any (certW (grV g).edges) = true from List.any_eq_true.2 ⟨_, List.mem_map_of_mem (gmem hkl), c22⟩)]
      · have e7 : Ext w2 w7q := e7q
        refine V.regionQ mixed 10 (by kernel_rfl) rfl (fun w' => Ext _ w') (Ext.drawn _) (VQ.op (fun wq eq => R.mvB rfl) (VQ.op (fun wq eq => R.mvB rfl) (VQ.and rfl rfl (fun g9_1 => VQ.op (fun wq eq => R.ldA Tryz.isAgg25 Tryz.sizeOf25 rfl rfl ((show RowAt _ _ _ (encGr g) from ((hB2.ext e7).ext eq).rowAt 0 3)) rfl) (VQ.gT rfl rfl (VQ.op (fun wq eq => R.mvS rfl) (VQ.gT rfl rfl (VQ.op (fun wq eq => R.mvI rfl) (VQ.gT rfl rfl (VQ.op (fun wq eq => R.ixS Tryz.runUnderlying26 Tryz.sizeOf46 rfl rfl (by omega) (by omega) (((hW2.sl.ext e7).ext eq).some (i := k) hkl)) (VQ.gT rfl rfl (VQ.op (fun wq eq => R.ldA Tryz.isAgg46 Tryz.sizeOf46 rfl rfl ((show RowAt _ _ _ (encWy (W.getD k default)) from (((hW2.sl.ext e7).ext eq).row (i := k) hkl))) rfl) (VQ.gT rfl rfl (VQ.callP (fun _ _ h k => Mod.trans h k) Tryz.call42 rfl (fun wq eq => rnever_spec g (W.getD k default) _ (hG.ext ((eT.trans e7).trans eq)) hl (((hW2.at hkl).ext e7).ext eq) (hwl _ (gmem hkl)) hE (wyB_pos (hwy _ (List.mem_map_of_mem (gmem hkl))))) (VQ.op (fun wq eq => R.pickTB rfl rfl) (VQ.op (fun wq eq => R.asB rfl) (VQ.nil fun w9q e9q => VL.nil (V.region (VL.op (R.mvI rfl) (VL.op (R.add rfl rfl (by omega) (by omega)) (VL.op (R.asI rfl) (VL.nil (⟨k + 1, ?_, ⟨by omega, fun i h => ?_, e.trans (e7.trans e9q)⟩, by omega⟩)))))))))))))))))))) (fun g9_1 => VQ.gF rfl rfl (VQ.gF rfl rfl (VQ.gF rfl rfl (VQ.gF rfl rfl (VQ.gF rfl rfl (VQ.op (fun wq eq => R.pickFB rfl rfl) (VQ.op (fun wq eq => R.asB rfl) (VQ.nil fun w9q e9q => VL.nil (V.region (VL.op (R.mvI rfl) (VL.op (R.add rfl rfl (by omega) (by omega)) (VL.op (R.asI rfl) (VL.nil (⟨k + 1, ?_, ⟨by omega, fun i h => ?_, e.trans (e7.trans e9q)⟩, by omega⟩)))))))))))))))))
        · rw [take_all _ W hkl, g9_1, Bool.true_and]; rfl
        · by_cases h2 : i = k
          · subst h2; exact c22
          · exact hi i (by omega)
        · rw [take_all _ W hkl, g9_1, Bool.false_and]; rfl
        · by_cases h2 : i = k
          · subst h2; exact c22
          · exact hi i (by omega)
    all_goals
      have hke : k = W.length := by omega
      subst hke
      rw [List.take_length] at c32
      refine ⟨?_, eT⟩
      congr 1
      unfold quickF
      have h1 : (W.map wyV).any (certW (grV g).edges) = false := List.any_eq_false.2 fun y hy => by
        obtain ⟨x, hx, rfl⟩ := List.mem_map.1 hy
        obtain ⟨i, hil, rfl⟩ := List.getElem_of_mem hx
        rw [← gget hil, show certW (grV g).edges _ = _ from hi i hil]; decide
      have h2 : (W.map wyV).all (neverW (grV g).edges) = W.all fun x => neverW (vals g.edges) (wyV x) := by rw [List.all_map]; rfl
      rw [if_pos hr, if_neg (by rw [h1]; decide), h2, c32]
      rfl
theorem rng_one {E : List (List Int)} {ws c : List Int} (h : c.length = 1) (hb : barE E (c.getD 0 default) = false) : rngC E ws c = (wtF ws (c.getD 0 default), wtF ws (c.getD 0 default)) := by
  match c, h with
  | [v], _ =>
    unfold rngC
    rw [if_neg (by rw [hb]; exact fun h => nomatch h), if_pos (by rfl)]
    simp [minP, maxP]
theorem rng_bar {E : List (List Int)} {ws c : List Int} (h : c.length = 1) (hb : barE E (c.getD 0 default) = true) : rngC E ws c = (0, 0) := by
  unfold rngC
  rw [if_pos (by rw [hb, decide_eq_true h]; rfl)]
theorem rng_blk {E : List (List Int)} {ws c : List Int} (h : c.length ≠ 1) (hb : blockB E c = true) : rngC E ws c = (minP (c.map (wtF ws)) c.length, maxP (c.map (wtF ws)) c.length) := by
  unfold rngC
  rw [if_neg (by rw [decide_eq_false h, Bool.and_false]; exact fun h => nomatch h), if_pos (by rw [hb, Bool.or_true])]
theorem rng_gen {E : List (List Int)} {ws c : List Int} (h : c.length ≠ 1) (hb : blockB E c = false) : rngC E ws c = (belP (c.map (wtF ws)) c.length, abvP (c.map (wtF ws)) c.length) := by
  unfold rngC
  rw [if_neg (by rw [decide_eq_false h, Bool.and_false]; exact fun h => nomatch h), if_neg (by rw [hb, decide_eq_false h]; exact fun h => nomatch h)]
theorem parts_bnd {l : List Int} (hb : ∀ x ∈ l, -1000000000 ≤ x ∧ x ≤ 1000000000) {k : Nat} (hk : k ≤ l.length) : (-(1000000000 * (k : Int)) ≤ belP l k ∧ belP l k ≤ 1000000000 * (k : Int)) ∧ (-(1000000000 * (k : Int)) ≤ abvP l k ∧ abvP l k ≤ 1000000000 * (k : Int)) := by
  unfold belP abvP
  have h1 := sm_bnd (M := 1000000000) (l := (l.take k).map fun n => min n 0) fun x hx => by
    obtain ⟨y, hy, rfl⟩ := List.mem_map.1 hx
    have := hb y (List.mem_of_mem_take hy)
    omega
  have h2 := sm_bnd (M := 1000000000) (l := (l.take k).map fun n => max n 0) fun x hx => by
    obtain ⟨y, hy, rfl⟩ := List.mem_map.1 hx
    have := hb y (List.mem_of_mem_take hy)
    omega
  rw [List.length_map, List.length_take, Nat.min_eq_left hk] at h1 h2
  exact ⟨h1, h2⟩
def loS (E : List (List Int)) (ws : List Int) (z : List SlI) (k : Nat) : Int := sm ((z.take k).map fun c => (rngC E ws c.l).1)
def hiS (E : List (List Int)) (ws : List Int) (z : List SlI) (k : Nat) : Int := sm ((z.take k).map fun c => (rngC E ws c.l).2)
theorem loS_succ {E : List (List Int)} {ws : List Int} {z : List SlI} {k : Nat} (hk : k < z.length) : loS E ws z (k + 1) = loS E ws z k + (rngC E ws (z.getD k default).l).1 := by
  unfold loS; rw [List.take_succ_eq_append_getElem hk, List.map_append, List.map_cons, List.map_nil, sm_snoc, gget hk]
theorem hiS_succ {E : List (List Int)} {ws : List Int} {z : List SlI} {k : Nat} (hk : k < z.length) : hiS E ws z (k + 1) = hiS E ws z k + (rngC E ws (z.getD k default).l).2 := by
  unfold hiS; rw [List.take_succ_eq_append_getElem hk, List.map_append, List.map_cons, List.map_nil, sm_snoc, gget hk]
set_option maxRecDepth 100000 in
set_option maxHeartbeats 4000000 in
theorem rrange_spec (g : GrW) (wa : Option Addr) (wc : Nat) (ws : List Int) (w : World) (hG : GOk w g) (hl : GLen g) (hW : IntSl w wa ws) (hm : ws.length ≤ 1000000) :
    RetsP Tryz.prog 13 #[.agg (encGr g).toArray, .slice wa ws.length wc] w (.tuple #[.int .i64 (sumsF (grV g) ws).1, .int .i64 (sumsF (grV g) ws).2.1, .int .i64 (sumsF (grV g) ws).2.2]) := by
  have bad : ¬ wtB (grV g) ws = true → sumsF (grV g) ws = (0, 0, 1) := fun h => by unfold sumsF; rw [if_neg h]
  refine enter (args := [_, _]) Tryz.func13 rfl Tryz.ntmps13 (by kernel_rfl) rfl ?_
  refine V.seq (V.region (VL.box (v := .agg _) rfl fun b0_0 w0_0 hb0_0 e0_0 hB0_0 => VL.op (R.asI rfl) (VL.op (R.asI rfl) (VL.op (R.asI rfl) (VL.nil (V.seq (V.seq (V.region (VL.op (R.ldA Tryz.isAgg25 Tryz.sizeOf25 rfl rfl ((show RowAt _ _ _ (encGr g) from (hB0_0.rowAt 0 3))) rfl) (VL.callP Tryz.call32 rfl (rvalid_spec g _ (hG.ext e0_0) hl) fun w1_1 e1_1 => VL.op (R.not rfl) (VL.op (R.mvB rfl) (VL.or rfl rfl (fun g1_3 => VL.op (R.mvS rfl) (VL.gT rfl rfl (VL.op (R.lenS Tryz.runUnderlying22 rfl) (VL.gT rfl rfl (VL.op (R.fld' (o := 0) Tryz.runUnderlying25 rfl rfl Tryz.sizeOf3 rfl rfl) (VL.gT rfl rfl (VL.op (R.ld1 Tryz.isAgg3 rfl ((show w1_1.cell? ⟨b0_0, 0, none⟩ = some (Value.int .i64 g.n) from (hB0_0.ext e1_1).cell 0))) (VL.gT rfl rfl (VL.op (R.neq rfl rfl) (VL.op (R.pickFB rfl rfl) (VL.nil (V.condP rfl (fun c28 => V.seq (V.region (VL.op (R.asI rfl) (VL.op (R.asI rfl) (VL.op (R.asI rfl) (VL.nil (V.ret (fret3 (v := .int _ _) (x := .int _ _) (y := .int _ _) rfl rfl rfl rfl rfl rfl rfl (⟨?_, (e0_0.trans e1_1)⟩))))))))) (fun c28 => V.skip (V.seq (V.seq (?_)))))))))))))))) (fun g1_3 => VL.gF rfl rfl (VL.gF rfl rfl (VL.gF rfl rfl (VL.gF rfl rfl (VL.op (R.pickTB rfl rfl) (VL.nil (V.condT rfl (V.seq (V.region (VL.op (R.asI rfl) (VL.op (R.asI rfl) (VL.op (R.asI rfl) (VL.nil (V.ret (fret3 (v := .int _ _) (x := .int _ _) (y := .int _ _) rfl rfl rfl rfl rfl rfl rfl (⟨?_, (e0_0.trans e1_1)⟩))))))))))))))))))))))))))))
  · rw [bad fun h => by
      have h1 := (wtB_iff.1 h).2.1
      rw [show (grV g).n = g.n from rfl] at h1
      contradiction]
  · have hv : validG (grV g) = true := by simpa using g1_3
    have hn := costB_iff.1 (validG_iff.1 hv).1
    obtain ⟨N, hN⟩ : ∃ N : Nat, g.n = (N : Int) := ⟨g.n.toNat, by have h0 : 0 ≤ g.n := hn.1; omega⟩
    have hN4 : N ≤ 4000 := by have h0 : g.n ≤ 4000 := hn.2.1; omega
    have hwl : ws.length = N := by
      have : (ws.length : Int) = g.n := by simpa using c28
      omega
    refine V.region (VL.op (R.asI rfl) (VL.nil (V.block (?_))))
    refine V.loop [1, 2, 7] (fun k : Nat => [.slice wa ws.length wc, .pointer (some ⟨b0_0, 0, none⟩), .int .i64 (k : Nat)]) (fun k w' => k ≤ ws.length ∧ (∀ i, i < k → -1000000000 ≤ ws.getD i default ∧ ws.getD i default ≤ 1000000000) ∧ Ext w0_0 w') (fun k => ws.length - k) 0 rfl ⟨Nat.zero_le _, fun i h => absurd h (Nat.not_lt_zero i), e1_1⟩ ?_
    rintro ρ k w2 ⟨hk, hi, e⟩
    have hB2 := hB0_0.ext e
    have hW2 := hW.ext (e0_0.trans e)
    refine V.seq (V.seq (V.region (VL.op (R.mvI rfl) (VL.op (R.fld' (o := 0) Tryz.runUnderlying25 rfl rfl Tryz.sizeOf3 rfl rfl) (VL.op (R.ld1 Tryz.isAgg3 rfl ((show w2.cell? ⟨b0_0, 0, none⟩ = some (Value.int .i64 g.n) from hB2.cell 0))) (VL.op (R.lss rfl rfl) (VL.nil (V.condP rfl (fun c32 => V.skip (V.seq (V.block (V.seq (?_))))) (fun c32 => V.exit (V.seq (?_)))))))))))
    · have hkl : k < ws.length := by omega
      refine V.region (VL.op (R.mvS rfl) (VL.op (R.mvI rfl) (VL.op (R.ixS Tryz.runUnderlying22 Tryz.sizeOf3 rfl rfl (by omega) (by omega) ((hW2).some (i := k) (by omega))) (VL.op (R.ld1 Tryz.isAgg3 rfl (((((hW2).ext (Mod.refl _ _)).row (i := k) (by omega)).cell (i := 0) rfl))) (VL.op (R.lss rfl rfl) (VL.op (R.mvB rfl) (VL.orP rfl rfl (fun g6_5 => VL.op (R.mvS rfl) (VL.gT rfl rfl (VL.op (R.mvI rfl) (VL.gT rfl rfl (VL.op (R.ixS Tryz.runUnderlying22 Tryz.sizeOf3 rfl rfl (by omega) (by omega) ((hW2).some (i := k) (by omega))) (VL.gT rfl rfl (VL.op (R.ld1 Tryz.isAgg3 rfl (((((hW2).ext (Mod.refl _ _)).row (i := k) (by omega)).cell (i := 0) rfl))) (VL.gT rfl rfl (VL.op (R.gtr rfl rfl) (VL.op (R.pickFB rfl rfl) (VL.nil (V.condP rfl (fun c46 => V.seq (V.region (VL.op (R.asI rfl) (VL.op (R.asI rfl) (VL.op (R.asI rfl) (VL.nil (V.ret (fret3 (v := .int _ _) (x := .int _ _) (y := .int _ _) rfl rfl rfl rfl rfl rfl rfl (⟨?_, (e0_0.trans e).trans (Mod.refl _ _)⟩))))))))) (fun c46 => V.skip (V.region (VL.op (R.mvI rfl) (VL.op (R.add rfl rfl (by omega) (by omega)) (VL.op (R.asI rfl) (VL.nil (⟨k + 1, rfl, ⟨by omega, fun i h => ?_, e.trans (Mod.refl _ _)⟩, by omega⟩))))))))))))))))))) (fun g6_5 => VL.gF rfl rfl (VL.gF rfl rfl (VL.gF rfl rfl (VL.gF rfl rfl (VL.op (R.pickTB rfl rfl) (VL.nil (V.condT rfl (V.seq (V.region (VL.op (R.asI rfl) (VL.op (R.asI rfl) (VL.op (R.asI rfl) (VL.nil (V.ret (fret3 (v := .int _ _) (x := .int _ _) (y := .int _ _) rfl rfl rfl rfl rfl rfl rfl (⟨?_, (e0_0.trans e).trans (Mod.refl _ _)⟩)))))))))))))))))))))))
      · rw [bad fun h => by
          have h1 := (wtB_iff.1 h).2.2 _ (gmem hkl)
          omega]
      · by_cases h2 : i = k
        · subst h2; omega
        · exact hi i (by omega)
      · rw [bad fun h => by
          have h1 := (wtB_iff.1 h).2.2 _ (gmem hkl)
          omega]
    · have hke : k = ws.length := by omega
      subst hke
      have hwb : ∀ x ∈ ws, -1000000000 ≤ x ∧ x ≤ 1000000000 := fun x hx => by
        obtain ⟨i, hil, rfl⟩ := List.getElem_of_mem hx
        rw [← gget hil]; exact hi i hil
      have e3 := e
      have hwt : wtB (grV g) ws = true := wtB_iff.2 ⟨hv, by rw [show (grV g).n = g.n from rfl]; omega, hwb⟩
      have hB3 := hB0_0.ext e3
      have E3 := e0_0.trans e3
      refine V.region (VL.op (R.asI rfl) (VL.nil (V.seq (V.region (VL.op (R.asI rfl) (VL.nil (V.seq (V.region (VL.op (R.ldA Tryz.isAgg25 Tryz.sizeOf25 rfl rfl ((show RowAt _ _ _ (encGr g) from hB3.rowAt 0 3)) rfl) (VL.callX Tryz.call33 rfl (rcomps_spec g _ (hG.ext E3) hl) fun z w5 h5 e5 => VL.op (R.asS rfl) (VL.nil (V.seq (V.seq (V.region (VL.op (R.asI rfl) (VL.nil (V.block (?_))))))))))))))))))
      obtain ⟨hz, hZ⟩ := h5
      have hzl : z.1.length ≤ 4000 := by
        have h1 := comps_len hv
        rw [← hz, List.length_map, show (grV g).n = g.n from rfl, hN] at h1
        omega
      have E5 := E3.trans e5
      have hB5 := hB3.ext e5
      have hW5 := hW.ext E5
      have hmem : ∀ k, k < z.1.length → (z.1.getD k default).l ∈ compsG (grV g) := fun k hk => by rw [← hz]; exact List.mem_map_of_mem (gmem hk)
      have hbd : ∀ k, k < z.1.length → ∀ x ∈ (z.1.getD k default).l.map (wtF ws), -1000000000 ≤ x ∧ x ≤ 1000000000 := fun k hk x hx => by
        obtain ⟨v, hv2, rfl⟩ := List.mem_map.1 hx
        have := (setB_iff.1 (comps_set hv (hmem k hk))).2 v hv2
        rw [show (grV g).n = g.n from rfl] at this
        exact hwb _ (wtF_at this.1 (by omega))
      have hcl : ∀ k, k < z.1.length → 0 < (z.1.getD k default).l.length ∧ (z.1.getD k default).l.length ≤ 4000 := fun k hk => by
        have h1 := comp_pos hv (hmem k hk)
        have h2 := comp_len hv (hmem k hk)
        rw [show (grV g).n = g.n from rfl, hN] at h2
        omega
      have hlob : ∀ k, k ≤ z.1.length → -(4000000000000 * (k : Int)) ≤ loS (vals g.edges) ws z.1 k ∧ loS (vals g.edges) ws z.1 k ≤ 4000000000000 * (k : Int) := fun k hk => sm_part (fun i hi => by
        have h1 := rngC_bnd (vals g.edges) ws _ (hcl i hi).1 (hbd i hi)
        have h2 := (hcl i hi).2
        omega) hk
      have hhib : ∀ k, k ≤ z.1.length → -(4000000000000 * (k : Int)) ≤ hiS (vals g.edges) ws z.1 k ∧ hiS (vals g.edges) ws z.1 k ≤ 4000000000000 * (k : Int) := fun k hk => sm_part (fun i hi => by
        have h1 := rngC_bnd (vals g.edges) ws _ (hcl i hi).1 (hbd i hi)
        have h2 := (hcl i hi).2
        omega) hk
      refine V.loop [1, 2, 8, 9, 10, 11] (fun k : Nat => [.slice wa ws.length wc, .pointer (some ⟨b0_0, 0, none⟩), .int .i64 (loS (vals g.edges) ws z.1 k), .int .i64 (hiS (vals g.edges) ws z.1 k), .slice z.2.1 z.1.length z.2.2, .int .i64 (k : Nat)]) (fun k w' => k ≤ z.1.length ∧ Ext w5 w') (fun k => z.1.length - k) 0 rfl ⟨Nat.zero_le _, Vc.Mod.refl _ _⟩ ?_
      rintro ρ k w6 ⟨hk, e6⟩
      have hZ6 := hZ.ext e6
      have hB6 := hB5.ext e6
      have hW6 := hW5.ext e6
      have hG6 := hG.ext (E5.trans e6)
      refine V.seq (V.seq (V.region (VL.op (R.mvI rfl) (VL.op (R.mvS rfl) (VL.op (R.lenS Tryz.runUnderlying23 rfl) (VL.op (R.lss rfl rfl) (VL.nil (V.condP rfl (fun c52 => V.skip (V.seq (V.block (V.seq (?_))))) (fun c52 => V.exit (V.seq (V.region (VL.op (R.mvI rfl) (VL.op (R.mvI rfl) (VL.op (R.asI rfl) (VL.op (R.asI rfl) (VL.op (R.asI rfl) (VL.nil (V.ret (fret3 (v := .int _ _) (x := .int _ _) (y := .int _ _) rfl rfl rfl rfl rfl rfl rfl (?_))))))))))))))))))))
      · have hkl : k < z.1.length := by omega
        obtain ⟨C, hCd⟩ : ∃ C, C = z.1.getD k default := ⟨_, rfl⟩
        have hC := hcl k hkl
        have hCm := hmem k hkl
        have hCb := hbd k hkl
        have hl1 := hlob k hk
        have hh1 := hhib k hk
        have hlk := loS_succ (E := vals g.edges) (ws := ws) hkl
        have hhk := hiS_succ (E := vals g.edges) (ws := ws) hkl
        have hx6 := hZ6.at hkl
        refine V.region (VL.op (R.mvS rfl) (VL.op (R.mvI rfl) (VL.op (R.ixS Tryz.runUnderlying23 Tryz.sizeOf22 rfl rfl (by omega) (by omega) ((hZ6.sl).some (i := k) (by omega))) (VL.op (R.ld1 Tryz.isAgg22 rfl (((((hZ6.sl).ext (Mod.refl _ _)).row (i := k) (by omega)).cell (i := 0) rfl))) (VL.op (R.asS rfl) (VL.nil (V.seq (V.seq (?_)))))))))
        rw [← hCd] at hC hCm hCb hlk hhk hx6 ⊢
        have hCs : ∀ v ∈ C.l, 0 ≤ v ∧ v < (ws.length : Int) := fun v hv2 => by
          have := (setB_iff.1 (comps_set hv hCm)).2 v hv2
          rw [show (grV g).n = g.n from rfl] at this
          omega
        have hC0 := hCs _ (gmem hC.1)
        have hw0 : -1000000000 ≤ ws.getD (C.l.getD 0 default).toNat default ∧ ws.getD (C.l.getD 0 default).toNat default ≤ 1000000000 := hwb _ (gmem (by omega))
        refine V.region (VL.op (R.mvS rfl) (VL.op (R.lenS Tryz.runUnderlying22 rfl) (VL.op (R.eql rfl rfl) (VL.nil (V.condP rfl (fun c61 => V.seq (V.seq (V.regionQ mixed 6 (by kernel_rfl) rfl (fun w' => Ext _ w') (Ext.drawn _) (VQ.op (fun wq eq => R.ldA Tryz.isAgg25 Tryz.sizeOf25 rfl rfl ((show RowAt _ _ _ (encGr g) from (hB6.ext eq).rowAt 0 3)) rfl) (VQ.op (fun wq eq => R.mvS rfl) (VQ.op (fun wq eq => R.ixS Tryz.runUnderlying22 Tryz.sizeOf3 rfl rfl (by omega) (by omega) ((hx6.ext eq).some (i := 0) hC.1)) (VQ.op (fun wq eq => R.ld1 Tryz.isAgg3 rfl ((((hx6.ext eq).row (i := 0) hC.1).cell (i := 0) rfl))) (VQ.callP (fun _ _ h k => Mod.trans h k) Tryz.call34 rfl (fun wq eq => rbarred_spec g (C.l.getD 0 default) _ (hG6.ext eq) hl) (VQ.op (fun wq eq => R.not rfl) (VQ.nil fun w16q e16q => VL.nil (V.cond rfl (fun c67 => V.seq (?_)) (fun c67 => V.skip (V.exit (V.region (VL.op (R.mvI rfl) (VL.op (R.add rfl rfl (by omega) (by omega)) (VL.op (R.asI rfl) (VL.nil (?_))))))))))))))))))) (fun c61 => V.skip (V.seq (?_))))))))
        · have hr : rngC (vals g.edges) ws C.l = (ws.getD (C.l.getD 0 default).toNat default, ws.getD (C.l.getD 0 default).toNat default) := rng_one (by omega) (by simpa using c67)
          rw [hr] at hlk hhk
          have hx16 := hx6.ext e16q
          have hW16 := hW6.ext e16q
          refine V.region (VL.op (R.mvI rfl) (VL.op (R.mvS rfl) (VL.op (R.mvS rfl) (VL.op (R.ixS Tryz.runUnderlying22 Tryz.sizeOf3 rfl rfl (by omega) (by omega) (hx16.some (i := 0) hC.1)) (VL.op (R.ld1 Tryz.isAgg3 rfl (((hx16.row (i := 0) hC.1).cell (i := 0) rfl))) (VL.op (R.ixS Tryz.runUnderlying22 Tryz.sizeOf3 rfl rfl (by omega) (by omega) (hW16.some (i := (C.l.getD 0 default).toNat) (by omega))) (VL.op (R.ld1 Tryz.isAgg3 rfl (((hW16.row (i := (C.l.getD 0 default).toNat) (by omega)).cell (i := 0) rfl))) (VL.op (R.add rfl rfl (by omega) (by omega)) (VL.op (R.asI rfl) (VL.nil (V.region (VL.op (R.mvI rfl) (VL.op (R.mvS rfl) (VL.op (R.mvS rfl) (VL.op (R.ixS Tryz.runUnderlying22 Tryz.sizeOf3 rfl rfl (by omega) (by omega) (hx16.some (i := 0) hC.1)) (VL.op (R.ld1 Tryz.isAgg3 rfl (((hx16.row (i := 0) hC.1).cell (i := 0) rfl))) (VL.op (R.ixS Tryz.runUnderlying22 Tryz.sizeOf3 rfl rfl (by omega) (by omega) (hW16.some (i := (C.l.getD 0 default).toNat) (by omega))) (VL.op (R.ld1 Tryz.isAgg3 rfl (((hW16.row (i := (C.l.getD 0 default).toNat) (by omega)).cell (i := 0) rfl))) (VL.op (R.add rfl rfl (by omega) (by omega)) (VL.op (R.asI rfl) (VL.nil (V.exit (V.region (VL.op (R.mvI rfl) (VL.op (R.add rfl rfl (by omega) (by omega)) (VL.op (R.asI rfl) (VL.nil (⟨k + 1, ?_, ⟨by omega, (e6.trans e16q).trans (Mod.refl _ _)⟩, by omega⟩))))))))))))))))))))))))))))
          rw [hlk, hhk]; rfl
        · have hr : rngC (vals g.edges) ws C.l = (0, 0) := rng_bar (by omega) (by simpa using c67)
          rw [hr, Int.add_zero] at hlk hhk
          exact ⟨k + 1, by rw [hlk, hhk]; rfl, ⟨by omega, e6.trans e16q⟩, by omega⟩
        · have hL : (C.l.map (wtF ws)).length = C.l.length := List.length_map _
          have hwg : ∀ q, q < C.l.length → ws.getD (C.l.getD q default).toNat default = (C.l.map (wtF ws)).getD q default := fun q hq => (gmap (wtF ws) C.l default hq).symm
          refine V.region (VL.op (R.mvS rfl) (VL.op (R.mvS rfl) (VL.op (R.ixS Tryz.runUnderlying22 Tryz.sizeOf3 rfl rfl (by omega) (by omega) (hx6.some (i := 0) hC.1)) (VL.op (R.ld1 Tryz.isAgg3 rfl (((hx6.row (i := 0) hC.1).cell (i := 0) rfl))) (VL.op (R.ixS Tryz.runUnderlying22 Tryz.sizeOf3 rfl rfl (by omega) (by omega) (hW6.some (i := (C.l.getD 0 default).toNat) (by omega))) (VL.op (R.ld1 Tryz.isAgg3 rfl (((hW6.row (i := (C.l.getD 0 default).toNat) (by omega)).cell (i := 0) rfl))) (VL.op (R.asI rfl) (VL.nil (V.seq (V.region (VL.op (R.mvS rfl) (VL.op (R.mvS rfl) (VL.op (R.ixS Tryz.runUnderlying22 Tryz.sizeOf3 rfl rfl (by omega) (by omega) (hx6.some (i := 0) hC.1)) (VL.op (R.ld1 Tryz.isAgg3 rfl (((hx6.row (i := 0) hC.1).cell (i := 0) rfl))) (VL.op (R.ixS Tryz.runUnderlying22 Tryz.sizeOf3 rfl rfl (by omega) (by omega) (hW6.some (i := (C.l.getD 0 default).toNat) (by omega))) (VL.op (R.ld1 Tryz.isAgg3 rfl (((hW6.row (i := (C.l.getD 0 default).toNat) (by omega)).cell (i := 0) rfl))) (VL.op (R.asI rfl) (VL.nil (V.seq (V.region (VL.op (R.asI rfl) (VL.nil (V.seq (V.region (VL.op (R.asI rfl) (VL.nil (V.seq (V.seq (V.region (VL.op (R.asI rfl) (VL.nil (V.block (?_)))))))))))))))))))))))))))))))))
          refine V.loop [1, 2, 8, 9, 10, 11, 12, 13, 14, 15, 16, 17] (fun q : Nat => [.slice wa ws.length wc, .pointer (some ⟨b0_0, 0, none⟩), .int .i64 (loS (vals g.edges) ws z.1 k), .int .i64 (hiS (vals g.edges) ws z.1 k), .slice z.2.1 z.1.length z.2.2, .int .i64 (k : Nat), .slice C.a C.l.length C.c, .int .i64 (minP (C.l.map (wtF ws)) q), .int .i64 (maxP (C.l.map (wtF ws)) q), .int .i64 (belP (C.l.map (wtF ws)) q), .int .i64 (abvP (C.l.map (wtF ws)) q), .int .i64 (q : Nat)]) (fun q w' => q ≤ C.l.length ∧ Ext w6 w') (fun q => C.l.length - q) 0 (by rw [hwg 0 hC.1]; rfl) ⟨Nat.zero_le _, Vc.Mod.refl _ _⟩ ?_
          rintro ρ q w7 ⟨hq, e7⟩
          have hx7 := hx6.ext e7
          have hW7 := hW6.ext e7
          have hbq := parts_bnd hCb (k := q) (by omega)
          refine V.seq (V.seq (V.region (VL.op (R.mvI rfl) (VL.op (R.mvS rfl) (VL.op (R.lenS Tryz.runUnderlying22 rfl) (VL.op (R.lss rfl rfl) (VL.nil (V.condP rfl (fun c99 => V.skip (V.seq (V.block (V.seq (?_))))) (fun c99 => V.exit (V.seq (V.seq (?_))))))))))))
          · have hql : q < C.l.length := by omega
            have hCq := hCs _ (gmem hql)
            have hwq := hCb _ (gmem (l := C.l.map (wtF ws)) (i := q) (by omega))
            have hgq := hwg q hql
            refine V.region (VL.op (R.mvS rfl) (VL.op (R.mvS rfl) (VL.op (R.mvI rfl) (VL.op (R.ixS Tryz.runUnderlying22 Tryz.sizeOf3 rfl rfl (by omega) (by omega) (hx7.some (i := q) hql)) (VL.op (R.ld1 Tryz.isAgg3 rfl (((hx7.row (i := q) hql).cell (i := 0) rfl))) (VL.op (R.ixS Tryz.runUnderlying22 Tryz.sizeOf3 rfl rfl (by omega) (by omega) (hW7.some (i := (C.l.getD q default).toNat) (by omega))) (VL.op (R.ld1 Tryz.isAgg3 rfl (((hW7.row (i := (C.l.getD q default).toNat) (by omega)).cell (i := 0) rfl))) (VL.op (R.asI rfl) (VL.nil (V.seq (V.region (VL.op (R.mvI rfl) (VL.op (R.mvI rfl) (VL.op (R.min rfl rfl) (VL.op (R.asI rfl) (VL.nil (V.seq (V.region (VL.op (R.mvI rfl) (VL.op (R.mvI rfl) (VL.op (R.max rfl rfl) (VL.op (R.asI rfl) (VL.nil (V.seq (V.region (VL.op (R.mvI rfl) (VL.op (R.mvI rfl) (VL.op (R.min rfl rfl) (VL.op (R.add rfl rfl (by omega) (by omega)) (VL.op (R.asI rfl) (VL.nil (V.region (VL.op (R.mvI rfl) (VL.op (R.mvI rfl) (VL.op (R.max rfl rfl) (VL.op (R.add rfl rfl (by omega) (by omega)) (VL.op (R.asI rfl) (VL.nil (V.region (VL.op (R.mvI rfl) (VL.op (R.add rfl rfl (by omega) (by omega)) (VL.op (R.asI rfl) (VL.nil (⟨q + 1, ?_, ⟨by omega, e7.trans (Mod.refl _ _)⟩, by omega⟩))))))))))))))))))))))))))))))))))))))))))))
            rw [minP_succ (by omega), maxP_succ (by omega), belP_succ (by omega), abvP_succ (by omega), ← hgq]
            rfl
          · have hqe : q = C.l.length := by omega
            subst hqe
            have hG7 := hG6.ext e7
            have hB7 := hB6.ext e7
            have hblk := rblock_spec g C.a C.c C.l w7 hG7 hl hx7 (by omega)
            rw [show blkR (vals g.edges) C.l = blockB (vals g.edges) C.l from blkR_block hv hCm] at hblk
            have hm1 := hCb _ (minP_spec (l := C.l.map (wtF ws)) (k := C.l.length) (by omega) (by omega)).1
            have hm2 := hCb _ (maxP_spec (l := C.l.map (wtF ws)) (k := C.l.length) (by omega) (by omega)).1
            refine V.region (VL.op (R.ldA Tryz.isAgg25 Tryz.sizeOf25 rfl rfl ((show RowAt _ _ _ (encGr g) from hB7.rowAt 0 3)) rfl) (VL.op (R.mvS rfl) (VL.callP Tryz.call22 rfl (hblk) fun w31_2 e31_2 => VL.nil (V.cond rfl (fun c125 => V.seq (V.region (VL.op (R.mvI rfl) (VL.op (R.asI rfl) (VL.nil (V.region (VL.op (R.mvI rfl) (VL.op (R.asI rfl) (VL.nil (V.seq (V.region (VL.op (R.mvI rfl) (VL.op (R.mvI rfl) (VL.op (R.add rfl rfl (by omega) (by omega)) (VL.op (R.asI rfl) (VL.nil (V.region (VL.op (R.mvI rfl) (VL.op (R.mvI rfl) (VL.op (R.add rfl rfl (by omega) (by omega)) (VL.op (R.asI rfl) (VL.nil (V.region (VL.op (R.mvI rfl) (VL.op (R.add rfl rfl (by omega) (by omega)) (VL.op (R.asI rfl) (VL.nil (⟨k + 1, ?_, ⟨by omega, (e6.trans e7).trans e31_2⟩, by omega⟩)))))))))))))))))))))))))))) (fun c125 => V.skip (V.seq (V.region (VL.op (R.mvI rfl) (VL.op (R.mvI rfl) (VL.op (R.add rfl rfl (by omega) (by omega)) (VL.op (R.asI rfl) (VL.nil (V.region (VL.op (R.mvI rfl) (VL.op (R.mvI rfl) (VL.op (R.add rfl rfl (by omega) (by omega)) (VL.op (R.asI rfl) (VL.nil (V.region (VL.op (R.mvI rfl) (VL.op (R.add rfl rfl (by omega) (by omega)) (VL.op (R.asI rfl) (VL.nil (⟨k + 1, ?_, ⟨by omega, (e6.trans e7).trans e31_2⟩, by omega⟩))))))))))))))))))))))))
            · rw [hlk, hhk, rng_blk (by omega) c125]; rfl
            · rw [hlk, hhk, rng_gen (by omega) c125]; rfl
      · have hke : k = z.1.length := by omega
        subst hke
        refine ⟨?_, E5.trans e6⟩
        have h1 : loS (vals g.edges) ws z.1 z.1.length = sm ((compsG (grV g)).map fun c => (rngC (vals g.edges) ws c).1) := by
          unfold loS; rw [List.take_length, ← hz]; unfold vals; rw [List.map_map]; rfl
        have h2 : hiS (vals g.edges) ws z.1 z.1.length = sm ((compsG (grV g)).map fun c => (rngC (vals g.edges) ws c).2) := by
          unfold hiS; rw [List.take_length, ← hz]; unfold vals; rw [List.map_map]; rfl
        unfold sumsF
        rw [if_pos hwt, h1, h2]; rfl
  · rw [bad fun h => by
      have h1 := (wtB_iff.1 h).1
      rw [h1] at g1_3; cases g1_3]
end Go.Proofs.YtbfejgbeaehbmaaGreatDoor
