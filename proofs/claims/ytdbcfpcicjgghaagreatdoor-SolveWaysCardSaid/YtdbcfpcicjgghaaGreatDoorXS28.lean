/- Solve: what is few. -/
import Derived.Test.YtdbcfpcicjgghaaGreatDoorXS24
import Derived.Test.YtdbcfpcicjgghaaGreatDoorXHG
import Derived.Test.YtdbcfpcicjgghaaGreatDoorXJL
import Derived.Test.YtdbcfpcicjgghaaGreatDoorXS17
import Derived.Test.YtdbcfpcicjgghaaGreatDoorXR5
import Derived.Test.YtdbcfpcicjgghaaGreatDoorXS20
import Derived.Test.YtdbcfpcicjgghaaGreatDoorXL8
namespace Go.Proofs.YtdbcfpcicjgghaaGreatDoor
open Go.Vc
set_option maxRecDepth 100000
set_option maxHeartbeats 16000000
structure FewW (W : List WyI) (m n : Int) : Prop where
 w : (W.length : Int) ≤ m
 e : ∀ y ∈ W, (y.p.l.length : Int) ≤ n ∧ (y.n.l.length : Int) ≤ n
theorem rfew29_spec (wa : Option Addr) (wc : Nat) (W : List WyI) (m n : Int) (w : World) (hW : WL w wa W) (hWm : W.length ≤ 9223372036854775807) (hWe : ∀ y ∈ W, y.p.l.length ≤ 9223372036854775807 ∧ y.n.l.length ≤ 9223372036854775807) :
  RetsX Tryz.prog 20 #[.slice wa W.length wc, .int .i64 m, .int .i64 n] w (fun b : Bool => .bool b) (fun b _ => b = true → FewW W m n) := by
 refine enter (args := [_, _, _]) Tryz.func20 rfl Tryz.ntmps20 (by kernel_rfl) rfl ?_
 refine V.seq (V.region (VL.op (R.asB rfl) (VL.nil (V.seq (V.seq (V.region (VL.op (R.asI rfl) (VL.nil (V.block (?_))))))))))
 refine V.loop [0, 1, 2, 7] (fun k : Nat => [.slice wa W.length wc, .int .i64 m, .int .i64 n, .int .i64 (k : Nat)]) (fun k w' => k ≤ W.length ∧ (∀ i, i < k → ((W.getD i default).p.l.length : Int) ≤ n ∧ ((W.getD i default).n.l.length : Int) ≤ n) ∧ Ext w w') (fun k => W.length - k) 0 rfl ⟨Nat.zero_le _, fun i h => absurd h (Nat.not_lt_zero i), Vc.Mod.refl _ _⟩ ?_
 rintro ρ k w2 ⟨hk, hf, e⟩
 have hW2 := hW.ext e
 refine V.seq (V.seq (V.region (VL.op (R.mvI rfl) (VL.op (R.mvS rfl) (VL.op (R.lenS Tryz.runUnderlying26 rfl) (VL.op (R.lss rfl rfl) (VL.nil (V.condP rfl (fun c11 => V.skip (V.seq (V.block (V.seq (?_))))) (fun c11 => V.exit (V.seq (?_)))))))))))
 ·have hkn : k < W.length := by omega
  have h1 := hWe _ (gmem hkn)
  refine V.region (VL.op (R.mvS rfl) (VL.op (R.mvI rfl) (VL.op (R.ixS Tryz.runUnderlying26 Tryz.sizeOf53 rfl rfl (by omega) (by omega) (hW2.sl.some (i := k) hkn)) (VL.op (R.fld' (o := 0) Tryz.runUnderlying53 rfl rfl Tryz.sizeOf22 rfl rfl) (VL.op (R.ld1 Tryz.isAgg22 rfl (((hW2.sl.row (i := k) hkn).cell (i := 0) rfl))) (VL.op (R.lenS Tryz.runUnderlying22 rfl) (VL.op (R.mvI rfl) (VL.op (R.gtr rfl rfl) (VL.op (R.mvB rfl) (VL.orP rfl rfl (fun g4_8 => VL.op (R.mvS rfl) (VL.gT rfl rfl (VL.op (R.mvI rfl) (VL.gT rfl rfl (VL.op (R.ixS Tryz.runUnderlying26 Tryz.sizeOf53 rfl rfl (by omega) (by omega) (hW2.sl.some (i := k) hkn)) (VL.gT rfl rfl (VL.op (R.fld' (o := 1) Tryz.runUnderlying53 rfl rfl Tryz.sizeOf22 rfl rfl) (VL.gT rfl rfl (VL.op (R.ld1 Tryz.isAgg22 rfl (((hW2.sl.row (i := k) hkn).cell (i := 1) rfl))) (VL.gT rfl rfl (VL.op (R.lenS Tryz.runUnderlying22 rfl) (VL.gT rfl rfl (VL.op (R.mvI rfl) (VL.gT rfl rfl (VL.op (R.gtr rfl rfl) (VL.op (R.pickFB rfl rfl) (VL.nil (V.condP rfl (fun c31 => V.seq (V.region (VL.op (R.asB rfl) (VL.nil (V.ret (fret1 (v := .bool _) rfl rfl rfl (⟨false, rfl, (fun h => nomatch h), e⟩))))))) (fun c31 => V.skip (V.region (VL.op (R.mvI rfl) (VL.op (R.add rfl rfl (by omega) (by omega)) (VL.op (R.asI rfl) (VL.nil (⟨k + 1, rfl, ⟨by omega, fun i hi => ?_, e⟩, by omega⟩))))))))))))))))))))))))) (fun g4_8 => VL.gF rfl rfl (VL.gF rfl rfl (VL.gF rfl rfl (VL.gF rfl rfl (VL.gF rfl rfl (VL.gF rfl rfl (VL.gF rfl rfl (VL.op (R.pickTB rfl rfl) (VL.nil (V.condT rfl (V.seq (V.region (VL.op (R.asB rfl) (VL.nil (V.ret (fret1 (v := .bool _) rfl rfl rfl (⟨false, rfl, (fun h => nomatch h), e⟩)))))))))))))))))))))))))))
  by_cases h : i = k
  ·subst h; omega
  ·exact hf i (by omega)
 ·have hkn : k = W.length := by omega
  subst hkn
  have hall : ∀ y ∈ W, (y.p.l.length : Int) ≤ n ∧ (y.n.l.length : Int) ≤ n := fun y hy => by
   obtain ⟨i, hi, rfl⟩ := List.getElem_of_mem hy
   have := hf i hi
   rwa [gget hi] at this
  refine V.region (VL.op (R.mvS rfl) (VL.op (R.lenS Tryz.runUnderlying26 rfl) (VL.op (R.mvI rfl) (VL.op (R.leq rfl rfl) (VL.op (R.asB rfl) (VL.nil (V.ret (fret1 (v := .bool _) rfl rfl rfl (⟨_, rfl, fun h => ?_, e⟩)))))))))
  exact ⟨of_decide_eq_true h, hall⟩
structure FewL (g : GrW) (W : List WyI) (m : Int) : Prop where
 n : g.n ≤ m
 c : (g.cost.length : Int) ≤ m
 e : FewE g.edges 40
 w : FewW W 12 12
theorem few29_spec (g : GrW) (wa : Option Addr) (wc : Nat) (W : List WyI) (n : Int) (w : World) (hI : GIn w g) (hW : WL w wa W) (hWm : W.length ≤ 9223372036854775807) (hWe : ∀ y ∈ W, y.p.l.length ≤ 9223372036854775807 ∧ y.n.l.length ≤ 9223372036854775807) :
  RetsX Tryz.prog 11 #[.agg (encGr g).toArray, .slice wa W.length wc, .int .i64 n] w (fun b : Bool => .bool b) (fun b _ => b = true → FewL g W n) := by
 refine enter (args := [_, _, _]) Tryz.func11 rfl Tryz.ntmps11 (by kernel_rfl) rfl ?_
 refine V.seq (V.region (VL.box (v := .agg _) rfl fun b0_0 w0_0 hb0_0 e0_0 hB0_0 => VL.op (R.asB rfl) (VL.nil (V.seq (V.region (VL.op (R.ldA Tryz.isAgg25 Tryz.sizeOf25 rfl rfl ((show RowAt _ _ _ (encGr g) from hB0_0.rowAt 0 3)) rfl) (VL.op (R.mvI rfl) (VL.callX Tryz.call19 rfl (small_spec g n 40 _ (hI.ok.ext e0_0) hI.c hI.e.len) fun b1 w1 h1 e1 => VL.op (R.mvB rfl) (VL.and rfl rfl (fun g1_3 => VL.op (R.mvS rfl) (VL.gT rfl rfl (VL.callX Tryz.call20 rfl (rfew29_spec wa wc W 12 12 _ (hW.ext (e0_0.trans e1)) hWm hWe) fun b2 w2 h2 e2 => VL.op (R.pickTB rfl rfl) (VL.op (R.asB rfl) (VL.nil (V.ret (fret1 (v := .bool _) rfl rfl rfl (?_)))))))) (fun g1_3 => VL.gF rfl rfl (VL.op (R.pickFB rfl rfl) (VL.op (R.asB rfl) (VL.nil (V.ret (fret1 (v := .bool _) rfl rfl rfl (?_))))))))))))))))
 ·have h3 := h1 (by assumption)
  exact ⟨b2, rfl, fun h => ⟨h3.1, h3.2.1, h3.2.2, h2 h⟩, (e0_0.trans e1).trans e2⟩
 ·exact ⟨false, rfl, (fun h => nomatch h), e0_0.trans e1⟩
end Go.Proofs.YtdbcfpcicjgghaaGreatDoor

/- Solve: what is answered. Plain. -/
namespace Go.Proofs.YtdbcfpcicjgghaaGreatDoor
open Go.Vc
structure FstR (g : Gr) (W : List Wy) (h : Bool) (R : List Int) : Prop where
 r : IsRep g R
 s : someW W R = h
 f : ∀ X, IsRep g X → someW W X = h → X = R ∨ lexB R X = true
theorem checkA_pos {g : Gr} {W : List Wy} {h : Bool} {S : List St4} (hk : checkA g W h S = true) : 0 < S.length ∧ S.length ≤ 100000 := by
 unfold checkA at hk
 rw [Bool.and_eq_true, Bool.and_eq_true, decide_eq_true_eq] at hk
 exact hk.2.1
theorem err_cases (g : Gr) (W : List Wy) : errG g W = 0 ∨ errG g W = 1 ∨ errG g W = 17 := by
 unfold errG
 split
 ·split
  ·exact .inr (.inr rfl)
  ·exact .inl rfl
 ·exact .inr (.inl rfl)
theorem exists_cases {g : Gr} {W : List Wy} {h : Bool} (he : errG g W = 0) : (∃ R, existsF g W h = (R, [], 0) ∧ FstR g W h R) ∨ (∃ S, existsF g W h = ([], S, 0) ∧ checkA g W h S = true) ∨ existsF g W h = ([], [], 3) := by
 have hr := err_ready he
 have hord := ord_ok hr
 unfold existsF
 rw [if_pos he]
 unfold srchG
 cases hs : srchF ⟨g.n, g.edges, W, h, []⟩ 100000 (sgN g W ++ ptN g W) (-1) (zerS g) [] with
 | full => exact .inr (.inr rfl)
 | found st =>
  obtain ⟨h1, h2, h3, h4⟩ := srch_best hr hord hs
  exact .inl ⟨_, rfl, (ext_rep h2).1, h3, h4⟩
 | proof S => exact .inr (.inl ⟨S, rfl, srch_check hr hord.rng hord.nd hs⟩)
theorem exists_err {g : Gr} {W : List Wy} {h : Bool} (he : errG g W ≠ 0) : existsF g W h = ([], [], errG g W) := by
 unfold existsF; rw [if_neg he]
theorem exists_small {g : Gr} {W : List Wy} {h : Bool} (he : errG g W = 0) (hn : g.n ≤ 4000) (hp : (ptI g W).length ≤ 15) : existsF g W h ≠ ([], [], 3) := by
 have hr := err_ready he
 have hord := ord_ok hr
 have hok := ready_ok hr h []
 have hn0 := costB_iff.1 (validG_iff.1 hok.v).1
 have h1 := srch_bnd hok (M := 100000) (pt := ptN g W) (sgN g W) (fun v hv => ⟨hord.rng v (List.mem_append.2 (.inl hv)), hord.sing v hv⟩) (-1) (zerS g) [] (by simp [zerS]; omega) ?_
 ·unfold existsF
  rw [if_pos he]
  unfold srchG
  rcases h1 with ⟨st, h2⟩ | ⟨S, h2, _⟩
  ·rw [h2]
   intro h3
   have := congrArg (fun q => q.2.2) h3
   cases this
  ·rw [h2]
   intro h3
   have := congrArg (fun q => q.2.2) h3
   cases this
 ·have h2 : (sgN g W).length ≤ 4000 := by
   unfold sgN
   rw [List.length_map]
   have := sgL_len W (compsG g)
   have := ncomps_len hok.v
   omega
  have h3 : (ptN g W).length ≤ 15 := by unfold ptN; rw [List.length_map]; exact hp
  unfold bndS
  have h4 : 2 ^ ((ptN g W).length + 1) ≤ 2 ^ 16 := Nat.pow_le_pow_right (by decide) (by omega)
  rw [List.length_nil]
  omega
theorem decide_err {g : Gr} {W : List Wy} (he : errG g W ≠ 0) : decideF g W = ((0, [], [], []), errG g W) := by
 unfold decideF
 rw [exists_err he]
 exact if_pos he
theorem decide_cases {g : Gr} {W : List Wy} (he : errG g W = 0) :
  (∃ R Q, decideF g W = ((2, R, Q, []), 0) ∧ existsF g W true = (R, [], 0) ∧ existsF g W false = (Q, [], 0) ∧ FstR g W true R ∧ FstR g W false Q) ∨ (∃ R S, decideF g W = ((1, R, [], S), 0) ∧ existsF g W true = (R, [], 0) ∧ existsF g W false = ([], S, 0) ∧ FstR g W true R ∧ checkA g W false S = true) ∨ (∃ Q S, decideF g W = ((3, [], Q, S), 0) ∧ existsF g W true = ([], S, 0) ∧ existsF g W false = (Q, [], 0) ∧ FstR g W false Q ∧ checkA g W true S = true) ∨
  (decideF g W = ((0, [], [], []), 3) ∧ (existsF g W true = ([], [], 3) ∨ existsF g W false = ([], [], 3))) := by
 unfold decideF
 rcases exists_cases (h := true) he with ⟨R, h1, h2⟩ | ⟨S, h1, h2⟩ | h1
 ·rcases exists_cases (h := false) he with ⟨Q, h3, h4⟩ | ⟨T, h3, h4⟩ | h3
  ·rw [h1, h3]; exact .inl ⟨R, Q, rfl, rfl, rfl, h2, h4⟩
  ·rw [h1, h3]
   refine .inr (.inl ⟨R, T, ?_, rfl, rfl, h2, h4⟩)
   dsimp only
   rw [if_neg (by decide), if_neg (by decide), if_neg (by decide), if_pos (checkA_pos h4).1]
  ·rw [h1, h3]; exact .inr (.inr (.inr ⟨rfl, .inr rfl⟩))
 ·have hp := (checkA_pos h2).1
  rcases exists_cases (h := false) he with ⟨Q, h3, h4⟩ | ⟨T, h3, h4⟩ | h3
  ·rw [h1, h3]
   refine .inr (.inr (.inl ⟨Q, S, ?_, rfl, rfl, h4, h2⟩))
   dsimp only
   rw [if_neg (by decide), if_neg (by decide), if_pos hp]
  ·exfalso
   have hv := (ready_ok (err_ready he) true []).v
   obtain ⟨X, hX⟩ := List.exists_mem_of_ne_nil _ (reps_ne hv)
   have hX := (reps_mem hv).1 hX
   have a1 := check_sound h2 hX
   have a2 := check_sound h4 hX
   rw [a1] at a2; cases a2
  ·rw [h1, h3]; exact .inr (.inr (.inr ⟨rfl, .inr rfl⟩))
 ·rw [h1]; exact .inr (.inr (.inr ⟨rfl, .inl rfl⟩))
end Go.Proofs.YtdbcfpcicjgghaaGreatDoor

/- Solve: the walk of law SolveProves. -/
namespace Go.Proofs.YtdbcfpcicjgghaaGreatDoor
open Go.Vc
set_option maxRecDepth 100000
set_option maxHeartbeats 16000000
structure WIn29 (w : World) (a : Option Addr) (W : List WyI) : Prop where
 ok : WL w a W
 m : W.length ≤ 9223372036854775807
 e : ∀ y ∈ W, y.p.l.length ≤ 9223372036854775807 ∧ y.n.l.length ≤ 9223372036854775807
 h : ∀ y ∈ W, (y.p.a = none → y.p.c = 0) ∧ (y.n.a = none → y.n.c = 0)
theorem GIn.ext {w w' : World} {g : GrW} (h : GIn w g) (e : Ext w w') : GIn w' g := ⟨h.ok.ext e, h.c, h.e, h.hc, h.he⟩
theorem FewW.wl {W : List WyI} {m n : Int} (h : FewW W m n) (hn : n ≤ 1000000) : ∀ y ∈ W, WLen y := fun y hy => by have := h.e y hy; exact ⟨by omega, by omega⟩
theorem fst_len {g : Gr} {W : List Wy} {h : Bool} {R : List Int} (hR : FstR g W h R) (hv : validG g = true) : R.length ≤ 4000 := by
 have h1 := setB_iff.1 hR.r.set
 have h2 := (costB_iff.1 (validG_iff.1 hv).1)
 have h3 := h2.2.1
 have := set_len h1.1 h1.2 h2.1
 omega
theorem dc_err {g : Gr} {W : List Wy} (h : (decideF g W).2 ≠ 0) : decideF g W = ((0, [], [], []), (decideF g W).2) ∧ ((decideF g W).2 = 1 ∨ (decideF g W).2 = 17 ∨ (decideF g W).2 = 3) := by
 by_cases he : errG g W = 0
 ·rcases decide_cases he with ⟨R, Q, h1, _⟩ | ⟨R, S, h1, _⟩ | ⟨Q, S, h1, _⟩ | ⟨h1, _⟩
  ·rw [h1] at h; exact absurd rfl h
  ·rw [h1] at h; exact absurd rfl h
  ·rw [h1] at h; exact absurd rfl h
  ·rw [h1]; exact ⟨rfl, .inr (.inr rfl)⟩
 ·rw [decide_err he]
  refine ⟨rfl, ?_⟩
  rcases err_cases g W with h | h | h
  ·exact absurd h he
  ·exact .inl h
  ·exact .inr (.inl h)
theorem dc_proves {g : Gr} {W : List Wy} (h : (decideF g W).2 = 0) : provesB g W (decideF g W).1.1 (decideF g W).1.2.1 (decideF g W).1.2.2.1 (decideF g W).1.2.2.2 = true := by
 have he : errG g W = 0 := Classical.byContradiction fun he => by rw [decide_err he] at h; exact he h
 have hv := (ready_ok (err_ready he) true []).v
 rcases decide_cases he with ⟨R, Q, h1, _, _, h2, h3⟩ | ⟨R, S, h1, _, _, h2, h3⟩ | ⟨Q, S, h1, _, _, h2, h3⟩ | ⟨h1, _⟩
 ·rw [h1]
  unfold provesB
  rw [if_neg (show ¬ (2 : Int) = 1 by decide), if_neg (show ¬ (2 : Int) = 3 by decide), if_pos rfl, (isB_iff hv).2 h2.r, (isB_iff hv).2 h3.r, h2.s, h3.s]
  rfl
 ·rw [h1]
  unfold provesB
  rw [if_pos rfl, (isB_iff hv).2 h2.r, h2.s, h3]
  rfl
 ·rw [h1]
  unfold provesB
  rw [if_neg (show ¬ (3 : Int) = 1 by decide), if_pos rfl, (isB_iff hv).2 h2.r, h2.s, h3]
  rfl
 ·rw [h1] at h; cases h
theorem dc_len {g : Gr} {W : List Wy} : (decideF g W).1.2.1.length ≤ 4000 ∧ (decideF g W).1.2.2.1.length ≤ 4000 ∧ (decideF g W).1.2.2.2.length ≤ 100000 := by
 by_cases he : errG g W = 0
 ·have hv := (ready_ok (err_ready he) true []).v
  rcases decide_cases he with ⟨R, Q, h1, _, _, h2, h3⟩ | ⟨R, S, h1, _, _, h2, h3⟩ | ⟨Q, S, h1, _, _, h2, h3⟩ | ⟨h1, _⟩
  ·rw [h1]; exact ⟨fst_len h2 hv, fst_len h3 hv, Nat.zero_le _⟩
  ·rw [h1]; exact ⟨fst_len h2 hv, Nat.zero_le _, (checkA_pos h3).2⟩
  ·rw [h1]; exact ⟨Nat.zero_le _, fst_len h2 hv, (checkA_pos h3).2⟩
  ·rw [h1]; exact ⟨Nat.zero_le _, Nat.zero_le _, Nat.zero_le _⟩
 ·rw [decide_err he]; exact ⟨Nat.zero_le _, Nat.zero_le _, Nat.zero_le _⟩
theorem proves_law (g : GrW) (wa : Option Addr) (wc : Nat) (W : List WyI) (B : Nat) (w : World) (hI : GIn w g) (hW : WIn29 w wa W) (hB : B ≤ w.heap.size) (hT : TabW B w) :
  RetsP Tryz.prog 4 #[.agg (encGr g).toArray, .slice wa W.length wc] w (.bool true) := by
 refine enter (args := [_, _]) Tryz.func4 rfl Tryz.ntmps4 (by kernel_rfl) rfl ?_
 refine V.seq (V.region (VL.box (v := .agg _) rfl fun b0_0 w0_0 hb0_0 e0_0 hB0_0 => VL.op (R.asB rfl) (VL.nil (V.seq (V.region (VL.callP Tryz.call10 rfl (head29_spec B _ (Nat.le_trans hB (Vc.Mod.size e0_0)) (hT.ext hB e0_0)) fun w1_0 e1_0 => VL.op (R.asB rfl) (VL.nil (V.seq (V.seq (V.region (VL.op (R.ldA Tryz.isAgg25 Tryz.sizeOf25 rfl rfl ((show RowAt _ _ _ (encGr g) from (hB0_0.ext e1_0).rowAt 0 3)) rfl) (VL.callX Tryz.call19 rfl (small_spec g 40 60 _ (hI.ok.ext (e0_0.trans e1_0)) hI.c hI.e.len) fun b2 w2 h2 e2 => VL.op (R.not rfl) (VL.op (R.mvB rfl) (VL.or rfl rfl (fun g2_3 => VL.op (R.mvS rfl) (VL.gT rfl rfl (VL.callX Tryz.call20 rfl (rfew29_spec wa wc W 12 12 _ (hW.ok.ext ((e0_0.trans e1_0).trans e2)) hW.m hW.e) fun b3 w3 h3 e3 => VL.gT rfl rfl (VL.op (R.not rfl) (VL.op (R.pickFB rfl rfl) (VL.nil (V.cond rfl (fun c16 => V.seq (V.region (VL.op (R.mvB rfl) (VL.op (R.asB rfl) (VL.nil (V.ret (fret1 (v := .bool _) rfl rfl rfl (⟨rfl, (((e0_0.trans e1_0).trans e2).trans e3)⟩)))))))) (fun c16 => V.skip (V.seq (?_)))))))))) (fun g2_3 => VL.gF rfl rfl (VL.gF rfl rfl (VL.op (R.pickTB rfl rfl) (VL.nil (V.condT rfl (V.seq (V.region (VL.op (R.mvB rfl) (VL.op (R.asB rfl) (VL.nil (V.ret (fret1 (v := .bool _) rfl rfl rfl (⟨rfl, ((e0_0.trans e1_0).trans e2)⟩)))))))))))))))))))))))))))
 have hf := h2 (by simpa using g2_3)
 have hfw := h3 (by simpa using c16)
 have hgl := hI.glen hf.2.2
 have hwl := hfw.wl (by decide)
 have hw12 := hfw.w
 have E3 : Ext w w3 := (e0_0.trans e1_0).trans (e2.trans e3)
 have hX3 := hB0_0.ext (e1_0.trans (e2.trans e3))
 refine V.region (VL.op (R.ldA Tryz.isAgg25 Tryz.sizeOf25 rfl rfl ((show RowAt _ _ _ (encGr g) from hX3.rowAt 0 3)) rfl) (VL.op (R.mvS rfl) (VL.callX Tryz.call13 rfl (decide29_spec g wa wc W B w3 (hI.ok.ext E3) hgl (hW.ok.ext E3) hwl hW.h (by omega) (Nat.le_trans hB E3.size) (hT.ext hB E3)) fun z4 w4 h4 e4 => VL.op (R.mvT rfl) (VL.op (R.extr rfl rfl) (VL.op (R.extr rfl rfl) (VL.allocSt (v := .agg _) Tryz.zeroValue33 Tryz.sizeOf33 rfl rfl rfl rfl rfl fun b4_6 w4_6 hb4_6 e4_6 hB4_6 => VL.op (R.asI rfl) (VL.nil (V.seq (V.seq (?_))))))))))
 have E4 : Ext w w4_6 := E3.trans (e4.trans e4_6)
 have hY : Blk w4_6 b4_6 (.cells (Value.agg (encCm z4.1).toArray).cells 33 (0, 0)) := hB4_6
 have hX4 := hX3.ext (e4.trans e4_6)
 have hD := h4.e
 have hlen := dc_len (g := grV g) (W := W.map wyV)
 rw [← hD] at hlen
 dsimp only at hlen
 clear hB4_6
 refine V.region (VL.op (R.mvI rfl) (VL.op (R.neq rfl rfl) (VL.nil (V.condP rfl (fun c25 => V.seq (?_)) (fun c25 => V.skip (V.seq (?_)))))))
 ·have hne : (decideF (grV g) (W.map wyV)).2 ≠ 0 := by rw [← hD]; exact c25
  obtain ⟨k1, k2⟩ := dc_err hne
  have k3 := hD.trans k1
  simp only [Prod.mk.injEq] at k3
  obtain ⟨⟨k4, k5, k6, k7⟩, k8⟩ := k3
  rw [← hD] at k2
  dsimp only at k2
  have l5 : z4.1.i.l.length = 0 := by rw [k5]; rfl
  have l6 : z4.1.o.l.length = 0 := by rw [k6]; rfl
  have l7 : z4.1.p.S.length = 0 := by rw [k7]; rfl
  refine V.regionCut [4, 26, 27, 28, 29, 30, 31, 32, 33, 34, 35, 36, 37, 38, 39, 40, 41, 42, 43, 44, 45, 46, 47, 48, 49, 50, 51, 52, 53, 54, 55, 56, 57, 58] 4 (.bool (true)) (fun w' => Ext _ w') rfl (VL.op (R.mvB rfl) (VL.op (R.mvB rfl) (VL.gT rfl rfl (VL.op (R.mvI rfl) (VL.gT rfl rfl (VL.op (R.eql rfl rfl) (VL.gT rfl rfl (VL.op (R.mvB rfl) (VL.orP rfl rfl (fun g6_4 => VL.op (R.mvI rfl) (VL.gT rfl rfl (VL.op (R.eql rfl rfl) (VL.gT rfl rfl (VL.op (R.pickFB rfl rfl) (VL.gT rfl rfl (VL.op (R.mvB rfl) (VL.orP rfl rfl (fun g6_8 => VL.op (R.mvI rfl) (VL.gT rfl rfl (VL.op (R.eql rfl rfl) (VL.gT rfl rfl (VL.op (R.pickFB rfl rfl) (VL.op (R.pickTB rfl rfl) (VL.op (R.mvB rfl) (VL.andP rfl rfl (fun g6_13 => VL.op (R.fld' (o := 0) Tryz.runUnderlying33 rfl rfl Tryz.sizeOf3 rfl rfl) (VL.gT rfl rfl (VL.op (R.ld1 Tryz.isAgg3 rfl ((show _ = some (Value.int .i64 z4.1.v) from hY.cell 0))) (VL.gT rfl rfl (VL.op (R.eql rfl rfl) (VL.op (R.pickTB rfl rfl) (VL.op (R.mvB rfl) (VL.andP rfl rfl (fun g6_18 => VL.op (R.fld' (o := 1) Tryz.runUnderlying33 rfl rfl Tryz.sizeOf22 rfl rfl) (VL.gT rfl rfl (VL.op (R.ld1 Tryz.isAgg22 rfl ((show _ = some (Value.slice z4.1.i.a z4.1.i.l.length z4.1.i.c) from hY.cell 1))) (VL.gT rfl rfl (VL.op (R.lenS Tryz.runUnderlying22 rfl) (VL.gT rfl rfl (VL.op (R.fld' (o := 2) Tryz.runUnderlying33 rfl rfl Tryz.sizeOf22 rfl rfl) (VL.gT rfl rfl (VL.op (R.ld1 Tryz.isAgg22 rfl ((show _ = some (Value.slice z4.1.o.a z4.1.o.l.length z4.1.o.c) from hY.cell 2))) (VL.gT rfl rfl (VL.op (R.lenS Tryz.runUnderlying22 rfl) (VL.gT rfl rfl (VL.op (R.add rfl rfl (by omega) (by omega)) (VL.gT rfl rfl (VL.op (R.fld' (o := 3) Tryz.runUnderlying33 rfl rfl Tryz.sizeOf31 rfl rfl) (VL.gT rfl rfl (VL.op (R.fld' (o := 0) Tryz.runUnderlying31 rfl rfl Tryz.sizeOf29 rfl rfl) (VL.gT rfl rfl (VL.op (R.ld1 Tryz.isAgg29 rfl ((show _ = some (Value.slice z4.1.p.a z4.1.p.S.length z4.1.p.c) from hY.cell 3))) (VL.gT rfl rfl (VL.op (R.lenS Tryz.runUnderlying29 rfl) (VL.gT rfl rfl (VL.op (R.add rfl rfl (by omega) (by omega)) (VL.gT rfl rfl (VL.op (R.eql rfl rfl) (VL.op (R.pickTB rfl rfl) (VL.op (R.asB rfl) (VL.nil ⟨rfl, cutB rfl ?_, Mod.refl _ _⟩)))))))))))))))))))))))))))) (fun g6_18 => VL.gF rfl rfl (VL.gF rfl rfl (VL.gF rfl rfl (VL.gF rfl rfl (VL.gF rfl rfl (VL.gF rfl rfl (VL.gF rfl rfl (VL.gF rfl rfl (VL.gF rfl rfl (VL.gF rfl rfl (VL.gF rfl rfl (VL.gF rfl rfl (VL.op (R.pickFB rfl rfl) (VL.op (R.asB rfl) (VL.nil ⟨rfl, cutB rfl ?_, Mod.refl _ _⟩))))))))))))))))))))))) (fun g6_13 => VL.gF rfl rfl (VL.gF rfl rfl (VL.op (R.pickFB rfl rfl) (VL.op (R.mvB rfl) (VL.gF rfl rfl (VL.gF rfl rfl (VL.gF rfl rfl (VL.gF rfl rfl (VL.gF rfl rfl (VL.gF rfl rfl (VL.gF rfl rfl (VL.gF rfl rfl (VL.gF rfl rfl (VL.gF rfl rfl (VL.gF rfl rfl (VL.gF rfl rfl (VL.gF rfl rfl (VL.op (R.pickFB rfl rfl) (VL.op (R.asB rfl) (VL.nil ⟨rfl, cutB rfl ?_, Mod.refl _ _⟩)))))))))))))))))))))))))))) (fun g6_8 => VL.gF rfl rfl (VL.gT rfl rfl (VL.op (R.pickTB rfl rfl) (VL.op (R.pickTB rfl rfl) (VL.op (R.mvB rfl) (VL.gT rfl rfl (VL.op (R.fld' (o := 0) Tryz.runUnderlying33 rfl rfl Tryz.sizeOf3 rfl rfl) (VL.gT rfl rfl (VL.op (R.ld1 Tryz.isAgg3 rfl ((show _ = some (Value.int .i64 z4.1.v) from hY.cell 0))) (VL.gT rfl rfl (VL.op (R.eql rfl rfl) (VL.op (R.pickTB rfl rfl) (VL.op (R.mvB rfl) (VL.andP rfl rfl (fun g6_18 => VL.op (R.fld' (o := 1) Tryz.runUnderlying33 rfl rfl Tryz.sizeOf22 rfl rfl) (VL.gT rfl rfl (VL.op (R.ld1 Tryz.isAgg22 rfl ((show _ = some (Value.slice z4.1.i.a z4.1.i.l.length z4.1.i.c) from hY.cell 1))) (VL.gT rfl rfl (VL.op (R.lenS Tryz.runUnderlying22 rfl) (VL.gT rfl rfl (VL.op (R.fld' (o := 2) Tryz.runUnderlying33 rfl rfl Tryz.sizeOf22 rfl rfl) (VL.gT rfl rfl (VL.op (R.ld1 Tryz.isAgg22 rfl ((show _ = some (Value.slice z4.1.o.a z4.1.o.l.length z4.1.o.c) from hY.cell 2))) (VL.gT rfl rfl (VL.op (R.lenS Tryz.runUnderlying22 rfl) (VL.gT rfl rfl (VL.op (R.add rfl rfl (by omega) (by omega)) (VL.gT rfl rfl (VL.op (R.fld' (o := 3) Tryz.runUnderlying33 rfl rfl Tryz.sizeOf31 rfl rfl) (VL.gT rfl rfl (VL.op (R.fld' (o := 0) Tryz.runUnderlying31 rfl rfl Tryz.sizeOf29 rfl rfl) (VL.gT rfl rfl (VL.op (R.ld1 Tryz.isAgg29 rfl ((show _ = some (Value.slice z4.1.p.a z4.1.p.S.length z4.1.p.c) from hY.cell 3))) (VL.gT rfl rfl (VL.op (R.lenS Tryz.runUnderlying29 rfl) (VL.gT rfl rfl (VL.op (R.add rfl rfl (by omega) (by omega)) (VL.gT rfl rfl (VL.op (R.eql rfl rfl) (VL.op (R.pickTB rfl rfl) (VL.op (R.asB rfl) (VL.nil ⟨rfl, cutB rfl ?_, Mod.refl _ _⟩)))))))))))))))))))))))))))) (fun g6_18 => VL.gF rfl rfl (VL.gF rfl rfl (VL.gF rfl rfl (VL.gF rfl rfl (VL.gF rfl rfl (VL.gF rfl rfl (VL.gF rfl rfl (VL.gF rfl rfl (VL.gF rfl rfl (VL.gF rfl rfl (VL.gF rfl rfl (VL.gF rfl rfl (VL.op (R.pickFB rfl rfl) (VL.op (R.asB rfl) (VL.nil ⟨rfl, cutB rfl ?_, Mod.refl _ _⟩))))))))))))))))))))))))))))))))))))) (fun g6_4 => VL.gF rfl rfl (VL.gT rfl rfl (VL.op (R.pickTB rfl rfl) (VL.gT rfl rfl (VL.op (R.mvB rfl) (VL.gF rfl rfl (VL.gF rfl rfl (VL.gT rfl rfl (VL.op (R.pickTB rfl rfl) (VL.op (R.pickTB rfl rfl) (VL.op (R.mvB rfl) (VL.gT rfl rfl (VL.op (R.fld' (o := 0) Tryz.runUnderlying33 rfl rfl Tryz.sizeOf3 rfl rfl) (VL.gT rfl rfl (VL.op (R.ld1 Tryz.isAgg3 rfl ((show _ = some (Value.int .i64 z4.1.v) from hY.cell 0))) (VL.gT rfl rfl (VL.op (R.eql rfl rfl) (VL.op (R.pickTB rfl rfl) (VL.op (R.mvB rfl) (VL.andP rfl rfl (fun g6_18 => VL.op (R.fld' (o := 1) Tryz.runUnderlying33 rfl rfl Tryz.sizeOf22 rfl rfl) (VL.gT rfl rfl (VL.op (R.ld1 Tryz.isAgg22 rfl ((show _ = some (Value.slice z4.1.i.a z4.1.i.l.length z4.1.i.c) from hY.cell 1))) (VL.gT rfl rfl (VL.op (R.lenS Tryz.runUnderlying22 rfl) (VL.gT rfl rfl (VL.op (R.fld' (o := 2) Tryz.runUnderlying33 rfl rfl Tryz.sizeOf22 rfl rfl) (VL.gT rfl rfl (VL.op (R.ld1 Tryz.isAgg22 rfl ((show _ = some (Value.slice z4.1.o.a z4.1.o.l.length z4.1.o.c) from hY.cell 2))) (VL.gT rfl rfl (VL.op (R.lenS Tryz.runUnderlying22 rfl) (VL.gT rfl rfl (VL.op (R.add rfl rfl (by omega) (by omega)) (VL.gT rfl rfl (VL.op (R.fld' (o := 3) Tryz.runUnderlying33 rfl rfl Tryz.sizeOf31 rfl rfl) (VL.gT rfl rfl (VL.op (R.fld' (o := 0) Tryz.runUnderlying31 rfl rfl Tryz.sizeOf29 rfl rfl) (VL.gT rfl rfl (VL.op (R.ld1 Tryz.isAgg29 rfl ((show _ = some (Value.slice z4.1.p.a z4.1.p.S.length z4.1.p.c) from hY.cell 3))) (VL.gT rfl rfl (VL.op (R.lenS Tryz.runUnderlying29 rfl) (VL.gT rfl rfl (VL.op (R.add rfl rfl (by omega) (by omega)) (VL.gT rfl rfl (VL.op (R.eql rfl rfl) (VL.op (R.pickTB rfl rfl) (VL.op (R.asB rfl) (VL.nil ⟨rfl, cutB rfl ?_, Mod.refl _ _⟩)))))))))))))))))))))))))))) (fun g6_18 => VL.gF rfl rfl (VL.gF rfl rfl (VL.gF rfl rfl (VL.gF rfl rfl (VL.gF rfl rfl (VL.gF rfl rfl (VL.gF rfl rfl (VL.gF rfl rfl (VL.gF rfl rfl (VL.gF rfl rfl (VL.gF rfl rfl (VL.gF rfl rfl (VL.op (R.pickFB rfl rfl) (VL.op (R.asB rfl) (VL.nil ⟨rfl, cutB rfl ?_, Mod.refl _ _⟩)))))))))))))))))))))))))))))))))))))))))))) (fun rg6 w6c e6c => V.ret (fret1 (v := .bool _) rfl rfl rfl (⟨rfl, E4.trans e6c⟩)))
  all_goals first | exact decide_eq_true (by omega) | (exfalso; omega)
 ·have hz : (decideF (grV g) (W.map wyV)).2 = 0 := by rw [← hD]; simpa using c25
  have hp := dc_proves hz
  rw [← hD] at hp
  have hspec := rproves29_spec g wa wc W z4.1 w4_6 (hI.ok.ext E4) hgl (hW.ok.ext E4) hwl (by omega) (h4.i.ext e4_6).sl (by omega) (fun h => h4.i.hax h) (h4.o.ext e4_6).sl (by omega) (fun h => h4.o.hax h) (h4.s.ext e4_6).sl (by omega)
  rw [hp] at hspec
  refine V.region (VL.op (R.mvB rfl) (VL.op (R.mvB rfl) (VL.gT rfl rfl (VL.op (R.ldA Tryz.isAgg25 Tryz.sizeOf25 rfl rfl ((show RowAt _ _ _ (encGr g) from hX4.rowAt 0 3)) rfl) (VL.gT rfl rfl (VL.op (R.mvS rfl) (VL.gT rfl rfl (VL.op (R.ldA Tryz.isAgg33 Tryz.sizeOf33 rfl rfl ((show RowAt _ _ _ (encCm z4.1) from hY.rowAt 0 4)) rfl) (VL.gT rfl rfl (VL.callP Tryz.call15 rfl (hspec) fun w7_5 e7_5 => VL.op (R.pickTB rfl rfl) (VL.op (R.asB rfl) (VL.nil (V.ret (fret1 (v := .bool _) rfl rfl rfl (⟨rfl, E4.trans e7_5⟩)))))))))))))))
end Go.Proofs.YtdbcfpcicjgghaaGreatDoor

/- Solve: the walk of law SolveFirst. -/
namespace Go.Proofs.YtdbcfpcicjgghaaGreatDoor
open Go.Vc
set_option maxRecDepth 100000
set_option maxHeartbeats 16000000
theorem lex_no {a b : List Int} (h : a = b ∨ lexB b a = true) : lexB a b = false := by
 cases h2 : lexB a b with
 | false => rfl
 | true =>
  rcases h with h | h
  ·subst h; rw [lexB_sto.irr] at h2; cases h2
  ·have := lexB_sto.trans _ _ _ h h2; rw [lexB_sto.irr] at this; cases this
theorem dc_first {g : Gr} {W : List Wy} (h : (decideF g W).2 = 0) {X : List Int} (hX : IsRep g X) : (someW W X = true → (decideF g W).1.1 ≠ 3 ∧ lexB X (decideF g W).1.2.1 = false) ∧ (someW W X = false → (decideF g W).1.1 ≠ 1 ∧ lexB X (decideF g W).1.2.2.1 = false) := by
 have he : errG g W = 0 := Classical.byContradiction fun he => by rw [decide_err he] at h; exact he h
 rcases decide_cases he with ⟨R, Q, h1, _, _, h2, h3⟩ | ⟨R, S, h1, _, _, h2, h3⟩ | ⟨Q, S, h1, _, _, h2, h3⟩ | ⟨h1, _⟩
 ·rw [h1]
  exact ⟨fun hs => ⟨by show (2 : Int) ≠ 3; decide, lex_no (h2.f X hX hs)⟩, fun hs => ⟨by show (2 : Int) ≠ 1; decide, lex_no (h3.f X hX hs)⟩⟩
 ·rw [h1]
  refine ⟨fun hs => ⟨by show (1 : Int) ≠ 3; decide, lex_no (h2.f X hX hs)⟩, fun hs => ?_⟩
  have := check_sound h3 hX
  rw [hs] at this; cases this
 ·rw [h1]
  refine ⟨fun hs => ?_, fun hs => ⟨by show (3 : Int) ≠ 1; decide, lex_no (h2.f X hX hs)⟩⟩
  have := check_sound h3 hX
  rw [hs] at this; cases this
 ·rw [h1] at h; cases h
theorem dc_verdict {g : Gr} {W : List Wy} (h : (decideF g W).2 = 0) : ((decideF g W).1.1 = 1 ∧ ∀ X, IsRep g X → someW W X = true) ∨ ((decideF g W).1.1 = 3 ∧ ∀ X, IsRep g X → someW W X = false) ∨ ((decideF g W).1.1 = 2 ∧ (∃ X, IsRep g X ∧ someW W X = true) ∧ ∃ X, IsRep g X ∧ someW W X = false) := by
 have he : errG g W = 0 := Classical.byContradiction fun he => by rw [decide_err he] at h; exact he h
 rcases decide_cases he with ⟨R, Q, h1, _, _, h2, h3⟩ | ⟨R, S, h1, _, _, h2, h3⟩ | ⟨Q, S, h1, _, _, h2, h3⟩ | ⟨h1, _⟩
 ·rw [h1]; exact .inr (.inr ⟨rfl, ⟨R, h2.r, h2.s⟩, ⟨Q, h3.r, h3.s⟩⟩)
 ·rw [h1]; exact .inl ⟨rfl, fun X hX => check_sound h3 hX⟩
 ·rw [h1]; exact .inr (.inl ⟨rfl, fun X hX => check_sound h3 hX⟩)
 ·rw [h1] at h; cases h
theorem first_law (g : GrW) (wa : Option Addr) (wc : Nat) (W : List WyI) (sa : Option Addr) (sc : Nat) (S : List Int) (B : Nat) (w : World) (hI : GIn w g) (hW : WIn29 w wa W) (hS : IntSl w sa S) (hSm : S.length ≤ 9223372036854775807) (hB : B ≤ w.heap.size) (hT : TabW B w) :
  RetsP Tryz.prog 5 #[.agg (encGr g).toArray, .slice wa W.length wc, .slice sa S.length sc] w (.bool true) := by
 refine enter (args := [_, _, _]) Tryz.func5 rfl Tryz.ntmps5 (by kernel_rfl) rfl ?_
 refine V.seq (V.region (VL.box (v := .agg _) rfl fun b0_0 w0_0 hb0_0 e0_0 hB0_0 => VL.op (R.asB rfl) (VL.nil (V.seq (V.region (VL.callP Tryz.call10 rfl (head29_spec B _ (Nat.le_trans hB (Vc.Mod.size e0_0)) (hT.ext hB e0_0)) fun w1_0 e1_0 => VL.op (R.asB rfl) (VL.nil (V.seq (V.seq (V.region (VL.op (R.ldA Tryz.isAgg25 Tryz.sizeOf25 rfl rfl ((show RowAt _ _ _ (encGr g) from (hB0_0.ext e1_0).rowAt 0 3)) rfl) (VL.op (R.mvS rfl) (VL.callX Tryz.call11 rfl (few29_spec g wa wc W 14 _ (hI.ext (e0_0.trans e1_0)) (hW.ok.ext (e0_0.trans e1_0)) hW.m hW.e) fun b2 w2 h2 e2 => VL.op (R.not rfl) (VL.op (R.mvB rfl) (VL.or rfl rfl (fun g2_4 => VL.op (R.mvS rfl) (VL.gT rfl rfl (VL.op (R.lenS Tryz.runUnderlying22 rfl) (VL.gT rfl rfl (VL.op (R.gtr rfl rfl) (VL.op (R.pickFB rfl rfl) (VL.nil (V.condP rfl (fun c21 => V.seq (V.region (VL.op (R.mvB rfl) (VL.op (R.asB rfl) (VL.nil (V.ret (fret1 (v := .bool _) rfl rfl rfl (⟨rfl, ((e0_0.trans e1_0).trans e2)⟩)))))))) (fun c21 => V.skip (V.seq (?_))))))))))) (fun g2_4 => VL.gF rfl rfl (VL.gF rfl rfl (VL.op (R.pickTB rfl rfl) (VL.nil (V.condT rfl (V.seq (V.region (VL.op (R.mvB rfl) (VL.op (R.asB rfl) (VL.nil (V.ret (fret1 (v := .bool _) rfl rfl rfl (⟨rfl, ((e0_0.trans e1_0).trans e2)⟩))))))))))))))))))))))))))))
 have hf := h2 (by simpa using g2_4)
 have hS14 : S.length ≤ 14 := by omega
 have hgl := hI.glen hf.e
 have hwl := hf.w.wl (by decide)
 have hw12 := hf.w.w
 have E2 : Ext w w2 := e0_0.trans (e1_0.trans e2)
 have hX2 := hB0_0.ext (e1_0.trans e2)
 refine V.region (VL.op (R.ldA Tryz.isAgg25 Tryz.sizeOf25 rfl rfl ((show RowAt _ _ _ (encGr g) from hX2.rowAt 0 3)) rfl) (VL.op (R.mvS rfl) (VL.callX Tryz.call13 rfl (decide29_spec g wa wc W B w2 (hI.ok.ext E2) hgl (hW.ok.ext E2) hwl hW.h (by omega) (Nat.le_trans hB E2.size) (hT.ext hB E2)) fun z4 w4 h4 e4 => VL.op (R.mvT rfl) (VL.op (R.extr rfl rfl) (VL.op (R.extr rfl rfl) (VL.allocSt (v := .agg _) Tryz.zeroValue33 Tryz.sizeOf33 rfl rfl rfl rfl rfl fun b4_6 w4_6 hb4_6 e4_6 hB4_6 => VL.op (R.asI rfl) (VL.nil (V.seq (?_)))))))))
 have E4 : Ext w w4_6 := E2.trans (e4.trans e4_6)
 have hY : Blk w4_6 b4_6 (.cells (Value.agg (encCm z4.1).toArray).cells 33 (0, 0)) := hB4_6
 have hX4 := hX2.ext (e4.trans e4_6)
 have hD := h4.e
 have hlen := dc_len (g := grV g) (W := W.map wyV)
 rw [← hD] at hlen
 dsimp only at hlen
 clear hB4_6
 refine V.region (VL.op (R.ldA Tryz.isAgg25 Tryz.sizeOf25 rfl rfl ((show RowAt _ _ _ (encGr g) from hX4.rowAt 0 3)) rfl) (VL.op (R.mvS rfl) (VL.callX Tryz.call21 rfl (extend_spec g sa sc S B _ (hI.ok.ext E4) hgl (hS.ext E4) (by omega) (Nat.le_trans hB E4.size) (hT.ext hB E4)) fun z5 w5 h5 e5 => VL.op (R.mvT rfl) (VL.op (R.extr rfl rfl) (VL.op (R.extr rfl rfl) (VL.op (R.asS rfl) (VL.op (R.asI rfl) (VL.nil (V.seq (V.seq (V.region (VL.op (R.mvI rfl) (VL.op (R.neq rfl rfl) (VL.op (R.mvB rfl) (VL.orP rfl rfl (fun g6_2 => VL.op (R.mvI rfl) (VL.gT rfl rfl (VL.op (R.neq rfl rfl) (VL.op (R.pickFB rfl rfl) (VL.nil (V.condP rfl (fun c40 => V.seq (V.region (VL.op (R.mvB rfl) (VL.op (R.asB rfl) (VL.nil (V.ret (fret1 (v := .bool _) rfl rfl rfl (⟨rfl, E4.trans e5⟩)))))))) (fun c40 => V.skip (V.seq (V.seq (?_)))))))))) (fun g6_2 => VL.gF rfl rfl (VL.op (R.pickTB rfl rfl) (VL.nil (V.condT rfl (V.seq (V.region (VL.op (R.mvB rfl) (VL.op (R.asB rfl) (VL.nil (V.ret (fret1 (v := .bool _) rfl rfl rfl (⟨rfl, E4.trans e5⟩)))))))))))))))))))))))))))
 have hz : (decideF (grV g) (W.map wyV)).2 = 0 := by rw [← hD]; simpa using g6_2
 obtain ⟨ho5, hv5⟩ := h5
 have hz5 : z5.2 = 0 := by simpa using c40
 have hld : loadB (grV g) S = true := by
  cases hl : loadB (grV g) S with
  | true => rfl
  | false =>
   rw [hl, if_neg (by decide)] at hv5
   have := congrArg Prod.snd hv5
   dsimp only at this
   rw [hz5] at this; cases this
 rw [hld, if_pos rfl] at hv5
 have hX := (ext_rep hld).1
 have hl5 : z5.1.l = extF (grV g) S := congrArg Prod.fst hv5
 rw [← hl5] at hX
 have hv := (loadB_iff.1 hld).1
 obtain ⟨d1, d2⟩ := dc_first hz hX
 rw [← hD] at d1 d2
 dsimp only at d1 d2
 have hl5 : z5.1.l.length ≤ 4000 := by
  have h1 := setB_iff.1 hX.set
  have h2 := costB_iff.1 (validG_iff.1 hv).1
  have h3 := h2.2.1
  have := set_len h1.1 h1.2 h2.1
  omega
 have E5 : Ext w w5 := E4.trans e5
 have hY5 := hY.ext e5
 have hI5 := (h4.i.ext (e4_6.trans e5)).sl
 have hO5 := (h4.o.ext (e4_6.trans e5)).sl
 have hsm : ∀ {w' : World}, Ext w5 w' → RetsP Tryz.prog 22 #[.slice wa W.length wc, .slice z5.1.a z5.1.l.length z5.1.c] w' (.bool (someW (W.map wyV) z5.1.l)) := fun e => rsome29_spec wa wc W z5.1.a z5.1.c z5.1.l _ (hW.ok.ext (E5.trans e)) hwl (by omega) (ho5.sl.ext e) (by omega)
 cases hs : someW (W.map wyV) z5.1.l with
 | true =>
  obtain ⟨k1, k2⟩ := d1 hs
  rw [hs] at hsm
  have hless : ∀ {w' : World}, Ext w5 w' → RetsP Tryz.prog 23 #[.slice z5.1.a z5.1.l.length z5.1.c, .slice z4.1.i.a z4.1.i.l.length z4.1.i.c] w' (.bool false) := fun e => by
   have := less_spec z5.1.a z4.1.i.a z5.1.c z4.1.i.c z5.1.l z4.1.i.l _ (by omega) (by omega) (ho5.sl.ext e) (hI5.ext e)
   rwa [k2] at this
  refine V.region (VL.op (R.mvS rfl) (VL.op (R.mvS rfl) (VL.callP Tryz.call22 rfl (hsm (Vc.Mod.refl _ _)) fun w8_2 e8_2 => VL.nil (V.condT rfl (V.seq (V.region (VL.op (R.mvB rfl) (VL.op (R.mvB rfl) (VL.gT rfl rfl (VL.op (R.fld' (o := 0) Tryz.runUnderlying33 rfl rfl Tryz.sizeOf3 rfl rfl) (VL.gT rfl rfl (VL.op (R.ld1 Tryz.isAgg3 rfl ((show _ = some (Value.int .i64 z4.1.v) from (hY5.ext e8_2).cell 0))) (VL.gT rfl rfl (VL.op (R.lit (R.neq rfl rfl) ((decide_eq_true (by omega)))) (VL.op (R.pickTB rfl rfl) (VL.op (R.mvB rfl) (VL.gT rfl rfl (VL.op (R.mvS rfl) (VL.gT rfl rfl (VL.op (R.fld' (o := 1) Tryz.runUnderlying33 rfl rfl Tryz.sizeOf22 rfl rfl) (VL.gT rfl rfl (VL.op (R.ld1 Tryz.isAgg22 rfl ((show _ = some (Value.slice z4.1.i.a z4.1.i.l.length z4.1.i.c) from (hY5.ext e8_2).cell 1))) (VL.gT rfl rfl (VL.callP Tryz.call23 rfl (hless e8_2) fun w9_10 e9_10 => VL.gT rfl rfl (VL.op (R.not rfl) (VL.op (R.pickTB rfl rfl) (VL.op (R.asB rfl) (VL.nil (V.ret (fret1 (v := .bool _) rfl rfl rfl (⟨rfl, E5.trans (e8_2.trans e9_10)⟩)))))))))))))))))))))))))))))))
 | false =>
  obtain ⟨k1, k2⟩ := d2 hs
  rw [hs] at hsm
  have hless : ∀ {w' : World}, Ext w5 w' → RetsP Tryz.prog 23 #[.slice z5.1.a z5.1.l.length z5.1.c, .slice z4.1.o.a z4.1.o.l.length z4.1.o.c] w' (.bool false) := fun e => by
   have := less_spec z5.1.a z4.1.o.a z5.1.c z4.1.o.c z5.1.l z4.1.o.l _ (by omega) (by omega) (ho5.sl.ext e) (hO5.ext e)
   rwa [k2] at this
  refine V.region (VL.op (R.mvS rfl) (VL.op (R.mvS rfl) (VL.callP Tryz.call22 rfl (hsm (Vc.Mod.refl _ _)) fun w8_2 e8_2 => VL.nil (V.condF rfl (V.skip (V.seq (V.region (VL.op (R.mvB rfl) (VL.op (R.mvB rfl) (VL.gT rfl rfl (VL.op (R.fld' (o := 0) Tryz.runUnderlying33 rfl rfl Tryz.sizeOf3 rfl rfl) (VL.gT rfl rfl (VL.op (R.ld1 Tryz.isAgg3 rfl ((show _ = some (Value.int .i64 z4.1.v) from (hY5.ext e8_2).cell 0))) (VL.gT rfl rfl (VL.op (R.lit (R.neq rfl rfl) ((decide_eq_true (by omega)))) (VL.op (R.pickTB rfl rfl) (VL.op (R.mvB rfl) (VL.gT rfl rfl (VL.op (R.mvS rfl) (VL.gT rfl rfl (VL.op (R.fld' (o := 2) Tryz.runUnderlying33 rfl rfl Tryz.sizeOf22 rfl rfl) (VL.gT rfl rfl (VL.op (R.ld1 Tryz.isAgg22 rfl ((show _ = some (Value.slice z4.1.o.a z4.1.o.l.length z4.1.o.c) from (hY5.ext e8_2).cell 2))) (VL.gT rfl rfl (VL.callP Tryz.call23 rfl (hless e8_2) fun w10_10 e10_10 => VL.gT rfl rfl (VL.op (R.not rfl) (VL.op (R.pickTB rfl rfl) (VL.op (R.asB rfl) (VL.nil (V.ret (fret1 (v := .bool _) rfl rfl rfl (⟨rfl, E5.trans (e8_2.trans e10_10)⟩))))))))))))))))))))))))))))))))
end Go.Proofs.YtdbcfpcicjgghaaGreatDoor
