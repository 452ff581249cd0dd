/- Cluster: gather. -/
import Derived.Test.YtglaigeellpikaaXC2
import Derived.Test.YtglaigeellpikaaXVcClW
import Derived.Test.YtglaigeellpikaaXVcClu
import Derived.Test.YtglaigeellpikaaXVcApp2
import Derived.Test.YtglaigeellpikaaXVcComp
namespace Go.Proofs.Ytglaigeellpikaa
open Go.Vc

/-- The weights between classes, and the pairs of classes that are different, as maps. -/
def gWs (same : List Int) (W : List ((Int × Int) × Int)) (e : Ed) : List ((Int × Int) × Int) :=
  if at_ same e.a ≠ at_ same e.b then tset W (ordF (at_ same e.a) (at_ same e.b)) ((tget W (ordF (at_ same e.a) (at_ same e.b))).getD 0 + e.w) else W
def gW (same : List Int) (edges : List Ed) : List ((Int × Int) × Int) := edges.foldl (gWs same) []
def gAs (same : List Int) (A : List ((Int × Int) × Bool)) (p : Int × Int) : List ((Int × Int) × Bool) :=
  if at_ same p.1 ≠ at_ same p.2 then tset A (ordF (at_ same p.1) (at_ same p.2)) true else A
def gA (same : List Int) (other : List (Int × Int)) : List ((Int × Int) × Bool) := other.foldl (gAs same) []
theorem gW_succ {same : List Int} {edges : List Ed} {k : Nat} (hk : k < edges.length) : gW same (edges.take (k + 1)) = gWs same (gW same (edges.take k)) (edges.getD k default) := by
  unfold gW; rw [List.take_succ_eq_append_getElem hk, List.foldl_append]; simp [List.getD, hk]
theorem gA_succ {same : List Int} {other : List (Int × Int)} {k : Nat} (hk : k < other.length) : gA same (other.take (k + 1)) = gAs same (gA same (other.take k)) (other.getD k default) := by
  unfold gA; rw [List.take_succ_eq_append_getElem hk, List.foldl_append]; simp [List.getD, hk]
theorem getD_mem {α : Type} [Inhabited α] {l : List α} {k : Nat} (h : k < l.length) : l.getD k default ∈ l := by rw [show l.getD k default = l[k] by simp [List.getD, h]]; exact List.getElem_mem _
theorem gW_bnd {same : List Int} {n : Int} {edges : List Ed} (hl : linkB n edges = true) : ∀ (k : Nat), k ≤ edges.length → ∀ p, -(1000000000 * (k : Int)) ≤ (tget (gW same (edges.take k)) p).getD 0 ∧ (tget (gW same (edges.take k)) p).getD 0 ≤ 1000000000 * (k : Int)
  | 0, _, p => by simp [gW, tget]
  | k + 1, hk, p => by
    have hb := (linkB_iff.1 hl).2 _ (getD_mem (l := edges) (k := k) (by omega))
    have ih := gW_bnd (same := same) hl k (by omega)
    rw [gW_succ (by omega)]
    unfold gWs
    have i1 := ih p
    split
    · rw [tget_tset]
      split
      · have i2 := ih (ordF (at_ same (edges.getD k default).a) (at_ same (edges.getD k default).b))
        simp only [Option.getD_some]
        omega
      · omega
    · omega
/-- What is known of evidence that has been gathered. -/
structure EvAt (w : World) (r1 r2 : Nat) (W : List ((Int × Int) × Int)) (A : List ((Int × Int) × Bool)) : Prop where
  wt : MapIs w r1 encP (tenc vI W)
  ap : MapIs w r2 encP (tenc vB A)
  ne : r1 ≠ r2
theorem EvAt.mod {S : Nat → Prop} {w w' : World} {r1 r2 : Nat} {W : List ((Int × Int) × Int)} {A : List ((Int × Int) × Bool)} (h : EvAt w r1 r2 W A) (m : Vc.Mod S w w') (h1 : ¬ S r1) (h2 : ¬ S r2) : EvAt w' r1 r2 W A := ⟨h.wt.mod m h1, h.ap.mod m h2, h.ne⟩
theorem EvAt.ext {w w' : World} {r1 r2 : Nat} {W : List ((Int × Int) × Int)} {A : List ((Int × Int) × Bool)} (h : EvAt w r1 r2 W A) (m : Ext w w') : EvAt w' r1 r2 W A := h.mod m (fun e => e) (fun e => e)
def evV (sa : Option Addr) (n cs r1 r2 : Nat) : Value := .agg #[.slice sa n cs, .map (some r1), .map (some r2)]
set_option maxHeartbeats 4000000 in
theorem gather_spec (a sa oa : Option Addr) (c cs co : Nat) (edges : List Ed) (same : List Int) (other : List (Int × Int)) (w : World) (hm : edges.length ≤ 1000) (hmo : other.length ≤ 1000)
    (hl : linkB same.length edges = true) (hp : pairB same.length other = true) (hS : EdSl w a edges) (hI : IntSl w sa same) (hO : PrSl w oa other) :
    RetsX Try.prog 28 #[.slice a edges.length c, .slice sa same.length cs, .slice oa other.length co] w (fun x : Nat × Nat => evV sa same.length cs x.1 x.2)
      (fun x w' => EvAt w' x.1 x.2 (gW same edges) (gA same other) ∧ w.heap.size ≤ x.1 ∧ w.heap.size ≤ x.2) := by
  refine enter (args := [_, _, _]) Try.func28 rfl Try.ntmps28 (by kernel_rfl) rfl ?_
  refine V.seq (V.region (VL.alloc Try.zeroValue52 fun b6 w6 hb6 e6 hB6 => VL.nil (V.seq (V.region (VL.op (R.mvS rfl) (VL.makeMap fun r1 w1 hr1 e1 hR1 => VL.makeMap fun r2 w2 hr2 e2 hR2 => VL.op (R.build Try.zeroValue52 Try.runUnderlying52 pl52 rfl) (VL.allocSt (v := .agg _) Try.zeroValue52 Try.sizeOf52 rfl rfl rfl rfl rfl fun b7 w7 hb7 e7 hB7 => VL.nil (V.seq (V.seq (V.region (VL.op (R.mvS rfl) (VL.op (R.lenS Try.runUnderlying22 rfl) (VL.op (R.mvI rfl) (VL.nil (V.block (?_))))))))))))))))
  have hB6 : Blk w6 b6 (.cells #[.slice none 0 0, .map none, .map none] 52 (0, 0)) := hB6
  have hB7 : Blk w7 b7 (.cells #[.slice sa same.length cs, .map (some r1), .map (some r2)] 52 (0, 0)) := hB7
  have z6 := e6.size
  have z1 := e1.size
  have z2 := e2.size
  have z7 := e7.size
  have l6 := hB6.lt
  have l1 := hR1.lt
  have l2 := hR2.lt
  have l7 := hB7.lt
  have s6 : b6 < r1 := by omega
  have E7 := e6.trans (e1.trans (e2.trans e7))
  have h0 : EvAt w7 r1 r2 (gW same (edges.take 0)) (gA same (other.take 0)) := ⟨(MapIs.empty hR1).ext (e2.trans e7), (MapIs.empty hR2).ext e7, by omega⟩
  refine V.loop [1, 2, 6, 7, 20, 21, 22] (fun k : Nat => [.slice sa same.length cs, .slice oa other.length co, .pointer (some ⟨b6, 0, none⟩), .pointer (some ⟨b7, 0, none⟩), .slice a edges.length c, .int .i64 edges.length, .int .i64 k])
    (fun k w' => k ≤ edges.length ∧ Ext w w' ∧ w7.heap.size ≤ w'.heap.size ∧ EvAt w' r1 r2 (gW same (edges.take k)) (gA same (other.take 0)) ∧ Blk w' b7 (.cells #[.slice sa same.length cs, .map (some r1), .map (some r2)] 52 (0, 0)) ∧ Blk w' b6 (.cells #[.slice none 0 0, .map none, .map none] 52 (0, 0))) (fun k => edges.length - k) 0 rfl ⟨by omega, E7, Nat.le_refl _, h0, hB7, hB6.ext (e1.trans (e2.trans e7))⟩ ?_
  · rintro ρ k w2 ⟨hk, e, hz, hEv, h7, h6⟩
    refine V.seq (V.region (VL.op (R.lss rfl rfl) (VL.nil (V.seq (V.condP rfl (fun c23 => V.skip (V.seq (V.block (V.seq (V.region (VL.op (R.ixS Try.runUnderlying22 Try.sizeOf40 rfl rfl (by have := (linkB_iff.1 hl).2 _ (getD_mem (l := edges) (k := k) (by omega)); omega) (by have := (linkB_iff.1 hl).2 _ (getD_mem (l := edges) (k := k) (by omega)); omega) ((hS).some (i := k) (by have := (linkB_iff.1 hl).2 _ (getD_mem (l := edges) (k := k) (by omega)); omega))) (VL.op (R.ldA Try.isAgg40 Try.sizeOf40 rfl rfl ((show RowAt _ _ _ (encEd (edges.getD k default)) from (((hS).ext e).row (i := k) (by have := (linkB_iff.1 hl).2 _ (getD_mem (l := edges) (k := k) (by omega)); omega)))) rfl) (VL.allocSt (v := .agg (encEd (edges.getD k default)).toArray) Try.zeroValue40 Try.sizeOf40 rfl rfl rfl rfl rfl fun b4_2 w4_2 hb4_2 e4_2 hB4_2 => VL.nil (V.seq (V.regionQ mixed 12 (by kernel_rfl) rfl (fun w' => Ext _ w') (Ext.drawn _) (VQ.op (fun wq eq => R.mvS rfl) (VQ.op (fun wq eq => R.fld' (o := 0) Try.runUnderlying40 rfl rfl Try.sizeOf3 rfl rfl) (VQ.op (fun wq eq => R.ld1 Try.isAgg3 rfl (((hB4_2.ext eq).cell _))) (VQ.op (fun wq eq => R.ixS Try.runUnderlying23 Try.sizeOf3 rfl rfl (by have := (linkB_iff.1 hl).2 _ (getD_mem (l := edges) (k := k) (by omega)); omega) (by have := (linkB_iff.1 hl).2 _ (getD_mem (l := edges) (k := k) (by omega)); omega) ((hI).some (i := (edges.getD k default).a.toNat) (by have := (linkB_iff.1 hl).2 _ (getD_mem (l := edges) (k := k) (by omega)); omega))) (VQ.op (fun wq eq => R.ld1 Try.isAgg3 rfl (((((hI).ext ((e.trans e4_2).trans eq)).row (i := (edges.getD k default).a.toNat) (by have := (linkB_iff.1 hl).2 _ (getD_mem (l := edges) (k := k) (by omega)); omega)).cell (i := 0) rfl))) (VQ.op (fun wq eq => R.mvS rfl) (VQ.op (fun wq eq => R.fld' (o := 1) Try.runUnderlying40 rfl rfl Try.sizeOf3 rfl rfl) (VQ.op (fun wq eq => R.ld1 Try.isAgg3 rfl (((hB4_2.ext eq).cell _))) (VQ.op (fun wq eq => R.ixS Try.runUnderlying23 Try.sizeOf3 rfl rfl (by have := (linkB_iff.1 hl).2 _ (getD_mem (l := edges) (k := k) (by omega)); omega) (by have := (linkB_iff.1 hl).2 _ (getD_mem (l := edges) (k := k) (by omega)); omega) ((hI).some (i := (edges.getD k default).b.toNat) (by have := (linkB_iff.1 hl).2 _ (getD_mem (l := edges) (k := k) (by omega)); omega))) (VQ.op (fun wq eq => R.ld1 Try.isAgg3 rfl (((((hI).ext ((e.trans e4_2).trans eq)).row (i := (edges.getD k default).b.toNat) (by have := (linkB_iff.1 hl).2 _ (getD_mem (l := edges) (k := k) (by omega)); omega)).cell (i := 0) rfl))) (VQ.op (fun wq eq => R.asI rfl) (VQ.op (fun wq eq => R.asI rfl) (VQ.nil fun w5q e5q => VL.nil (V.seq (V.region (VL.op (R.mvI rfl) (VL.op (R.mvI rfl) (VL.op (R.neq rfl rfl) (VL.nil (V.condP rfl (fun c38 => ?_) (fun c38 => V.skip (V.region (VL.op (R.add rfl rfl (by omega) (by omega)) (VL.op (R.mvI rfl) (VL.nil (⟨k + 1, rfl, ⟨by omega, ((e.trans e4_2).trans e5q), ?_⟩, by omega⟩)))))))))))))))))))))))))))))))))))) (fun c23 => V.exit (V.seq (V.seq (?_)))))))))
    · obtain ⟨es, c0, hMA⟩ := hEv.wt
      obtain ⟨p, hpd⟩ : ∃ p, p = ordF (at_ same (edges.getD k default).a) (at_ same (edges.getD k default).b) := ⟨_, rfl⟩
      obtain ⟨u, hu⟩ : ∃ u, u = (tget (gW same (edges.take k)) p).getD 0 := ⟨_, rfl⟩
      have hv0 : (mget (tenc vI (gW same (edges.take k))) p).getD (.int .i64 0) = .int .i64 u := by rw [tget_enc, hu]; cases tget (gW same (edges.take k)) p <;> rfl
      have hbd := gW_bnd (same := same) hl k (by omega) p
      have hwb := (linkB_iff.1 hl).2 _ (getD_mem (l := edges) (k := k) (by omega))
      rw [← hu] at hbd
      have eA : Ext w2 w5q := e4_2.trans e5q
      refine V.regionW mixed 11 9 (by kernel_rfl) rfl (fun w' => Ext w5q w') (fun w' => MapEnt r1 encP (mset (tenc vI (gW same (edges.take k))) p (.int .i64 u)) p (stampOf (tenc vI (gW same (edges.take k))) es c0 p) w5q w') (Ext.drawn _) ?_
      refine VW.op (fun wq eq => R.fld' (o := 1) Try.runUnderlying52 rfl rfl Try.sizeOf49 rfl rfl) (VW.op0 (fun wq eq => R.ld1 Try.isAgg49 rfl ((h7.ext (eA.trans eq)).cell _)) (VW.op (fun wq eq => R.mvI rfl) (VW.op (fun wq eq => R.mvI rfl) (VW.callP0 (v := encP p) (fun _ _ h k => h.trans k) Try.call50 rfl (fun wq eq => by rw [hpd]; exact ordered_spec _ _ wq) (VW.op (v := .int .i64 u) (fun wq eq => ?_) (VW.op (fun wq eq => R.fld' (o := 2) Try.runUnderlying40 rfl rfl Try.sizeOf3 rfl rfl) (VW.op0 (fun wq eq => R.ld1 Try.isAgg3 rfl ((hB4_2.ext (e5q.trans eq)).cell _)) (VW.op (fun wq eq => R.add rfl rfl (by omega) (by omega)) (VW.wr (v := .tuple #[.int .i64 u, .int .i64 (stampOf (tenc vI (gW same (edges.take k))) es c0 p : Nat)]) (fun wq eq => ?_) (VW.op (fun wq eq => R.extr rfl rfl) (VW.nil fun w9 h9 => VL.entryStore rfl rfl rfl h9 fun w9b hM9 m9 => VL.nil ?_)))))))))))
      · rcases eq with eq | eq
        · exact R.lookupV key42 Try.runUnderlying49 Try.zeroValue3 ((hEv.wt.ext eA).ext eq) hv0 rfl rfl
        · exact R.lookupV key42 Try.runUnderlying49 Try.zeroValue3 eq.is (by rw [mget_mset, if_pos rfl]; rfl) rfl rfl
      · exact R.mapEntryV key42 Try.runUnderlying49 Try.zeroValue3 eq ((hMA.mod eA fun e => e).mod eq fun e => e) hv0 rfl rfl
      · rw [mset_mset] at hM9
        have hne : ∀ b, b ≠ r1 → ¬ one r1 b := fun b h e => h e
        refine V.region (VL.op (R.add rfl rfl (by omega) (by omega)) (VL.op (R.mvI rfl) (VL.nil (⟨k + 1, rfl, ⟨by omega, Mod.ownA (e.trans eA) m9 (fun x hx => by have hx : x = r1 := hx; omega), by have := m9.size; have := eA.size; omega, ⟨?_, (hEv.ap.ext eA).mod m9 (hne _ (by omega)), hEv.ne⟩, (h7.ext eA).mod m9 (hne _ (by omega)), (h6.ext eA).mod m9 (hne _ (by omega))⟩, by omega⟩))))
        rw [gW_succ (by omega)]
        unfold gWs
        rw [if_pos (show at_ same (edges.getD k default).a ≠ at_ same (edges.getD k default).b from c38), ← hpd, ← hu, tset_enc]
        exact hM9
    · have E := e4_2.trans e5q
      refine ⟨by have := E.size; omega, ?_, h7.ext E, h6.ext E⟩
      rw [gW_succ (by omega)]
      unfold gWs
      rw [if_neg (show ¬ at_ same (edges.getD k default).a ≠ at_ same (edges.getD k default).b from c38)]
      exact hEv.ext E
    · have hkl : k = edges.length := by omega
      subst hkl
      rw [List.take_length] at hEv
      refine V.region (VL.op (R.mvS rfl) (VL.op (R.lenS Try.runUnderlying24 rfl) (VL.op (R.mvI rfl) (VL.nil (V.block (?_))))))
      refine V.loop [1, 6, 7, 51, 52, 53] (fun k : Nat => [.slice sa same.length cs, .pointer (some ⟨b6, 0, none⟩), .pointer (some ⟨b7, 0, none⟩), .slice oa other.length co, .int .i64 other.length, .int .i64 k])
        (fun k w' => k ≤ other.length ∧ Ext w w' ∧ w7.heap.size ≤ w'.heap.size ∧ EvAt w' r1 r2 (gW same edges) (gA same (other.take k)) ∧ Blk w' b7 (.cells #[.slice sa same.length cs, .map (some r1), .map (some r2)] 52 (0, 0)) ∧ Blk w' b6 (.cells #[.slice none 0 0, .map none, .map none] 52 (0, 0))) (fun k => other.length - k) 0 rfl ⟨by omega, e, hz, hEv, h7, h6⟩ ?_
      rintro ρ k w2 ⟨hk, e, hz, hEv, h7, h6⟩
      refine V.seq (V.region (VL.op (R.lss rfl rfl) (VL.nil (V.seq (V.condP rfl (fun c54 => V.skip (V.seq (V.block (V.seq (V.region (VL.op (R.ixS Try.runUnderlying24 Try.sizeOf42 rfl rfl (by have := pairB_iff.1 hp _ (getD_mem (l := other) (k := k) (by omega)); omega) (by have := pairB_iff.1 hp _ (getD_mem (l := other) (k := k) (by omega)); omega) ((hO).some (i := k) (by have := pairB_iff.1 hp _ (getD_mem (l := other) (k := k) (by omega)); omega))) (VL.op (R.ldA Try.isAgg42 Try.sizeOf42 rfl rfl ((show RowAt _ _ _ (encPr (other.getD k default)) from (((hO).ext e).row (i := k) (by have := pairB_iff.1 hp _ (getD_mem (l := other) (k := k) (by omega)); omega)))) rfl) (VL.allocSt (v := .agg (encPr (other.getD k default)).toArray) Try.zeroValue42 Try.sizeOf42 rfl rfl rfl rfl rfl fun b11_2 w11_2 hb11_2 e11_2 hB11_2 => VL.nil (V.seq (V.regionQ mixed 12 (by kernel_rfl) rfl (fun w' => Ext _ w') (Ext.drawn _) (VQ.op (fun wq eq => R.mvS rfl) (VQ.op (fun wq eq => R.ixA Try.runUnderlying42 Try.sizeOf3 rfl rfl (by decide) (by decide)) (VQ.op (fun wq eq => R.ld1 Try.isAgg3 rfl (((hB11_2.ext eq).cell _))) (VQ.op (fun wq eq => R.ixS Try.runUnderlying23 Try.sizeOf3 rfl rfl (by have := pairB_iff.1 hp _ (getD_mem (l := other) (k := k) (by omega)); omega) (by have := pairB_iff.1 hp _ (getD_mem (l := other) (k := k) (by omega)); omega) ((hI).some (i := (other.getD k default).1.toNat) (by have := pairB_iff.1 hp _ (getD_mem (l := other) (k := k) (by omega)); omega))) (VQ.op (fun wq eq => R.ld1 Try.isAgg3 rfl (((((hI).ext ((e.trans e11_2).trans eq)).row (i := (other.getD k default).1.toNat) (by have := pairB_iff.1 hp _ (getD_mem (l := other) (k := k) (by omega)); omega)).cell (i := 0) rfl))) (VQ.op (fun wq eq => R.mvS rfl) (VQ.op (fun wq eq => R.ixA Try.runUnderlying42 Try.sizeOf3 rfl rfl (by decide) (by decide)) (VQ.op (fun wq eq => R.ld1 Try.isAgg3 rfl (((hB11_2.ext eq).cell _))) (VQ.op (fun wq eq => R.ixS Try.runUnderlying23 Try.sizeOf3 rfl rfl (by have := pairB_iff.1 hp _ (getD_mem (l := other) (k := k) (by omega)); omega) (by have := pairB_iff.1 hp _ (getD_mem (l := other) (k := k) (by omega)); omega) ((hI).some (i := (other.getD k default).2.toNat) (by have := pairB_iff.1 hp _ (getD_mem (l := other) (k := k) (by omega)); omega))) (VQ.op (fun wq eq => R.ld1 Try.isAgg3 rfl (((((hI).ext ((e.trans e11_2).trans eq)).row (i := (other.getD k default).2.toNat) (by have := pairB_iff.1 hp _ (getD_mem (l := other) (k := k) (by omega)); omega)).cell (i := 0) rfl))) (VQ.op (fun wq eq => R.asI rfl) (VQ.op (fun wq eq => R.asI rfl) (VQ.nil fun w12q e12q => VL.nil (V.seq (V.region (VL.op (R.mvI rfl) (VL.op (R.mvI rfl) (VL.op (R.neq rfl rfl) (VL.nil (V.condP rfl (fun c69 => V.regionQ mixed 5 (by kernel_rfl) rfl (fun w' => Ext _ w') (Ext.drawn _) (VQ.op (fun wq eq => R.fld' (o := 2) Try.runUnderlying52 rfl rfl Try.sizeOf50 rfl rfl) (VQ.op (fun wq eq => R.ld1 Try.isAgg50 rfl ((h7.ext (e11_2.trans (e12q.trans eq))).cell 2)) (VQ.op (fun wq eq => R.mvI rfl) (VQ.op (fun wq eq => R.mvI rfl) (VQ.callP (fun _ _ h k => Mod.trans h k) Try.call50 rfl (fun wq eq => ordered_spec _ _ _) (VQ.nil fun w14q e14q => VL.mapUpdate key42 Try.runUnderlying50 rfl (k := (ordF (at_ same (other.getD k default).1) (at_ same (other.getD k default).2))) rfl rfl ((hEv.ap.ext (e11_2.trans (e12q.trans e14q)))) fun w14 hM14 m14 => VL.nil (V.region (VL.op (R.add rfl rfl (by omega) (by omega)) (VL.op (R.mvI rfl) (VL.nil (⟨k + 1, rfl, ⟨by omega, (Mod.ownA (((e.trans e11_2).trans e12q).trans e14q) m14 (fun x hx => by have hx : x = r2 := hx; omega)), ?_⟩, by omega⟩)))))))))))) (fun c69 => V.skip (V.region (VL.op (R.add rfl rfl (by omega) (by omega)) (VL.op (R.mvI rfl) (VL.nil (⟨k + 1, rfl, ⟨by omega, ((e.trans e11_2).trans e12q), ?_⟩, by omega⟩)))))))))))))))))))))))))))))))))))) (fun c54 => V.exit (V.seq (?_))))))))
      · have E := e11_2.trans (e12q.trans e14q)
        have hne : ∀ b, b ≠ r2 → ¬ one r2 b := fun b h e => h e
        refine ⟨by have := E.size; have := m14.size; omega, ⟨(hEv.wt.ext E).mod m14 (hne _ hEv.ne), ?_, hEv.ne⟩, (h7.ext E).mod m14 (hne _ (by omega)), (h6.ext E).mod m14 (hne _ (by omega))⟩
        rw [gA_succ (by omega)]
        unfold gAs
        rw [if_pos (show at_ same (other.getD k default).1 ≠ at_ same (other.getD k default).2 from c69), tset_enc]
        exact hM14
      · have E := e11_2.trans e12q
        refine ⟨by have := E.size; omega, ?_, h7.ext E, h6.ext E⟩
        rw [gA_succ (by omega)]
        unfold gAs
        rw [if_neg (show ¬ at_ same (other.getD k default).1 ≠ at_ same (other.getD k default).2 from c69)]
        exact hEv.ext E
      · have hkl : k = other.length := by omega
        subst hkl
        rw [List.take_length] at hEv
        refine V.region (VL.op (R.ldA Try.isAgg52 Try.sizeOf52 rfl rfl (h7.rowAt 0 3) rfl) (VL.store (v := .agg _) Try.sizeOf52 rfl rfl rfl rfl h6 rfl rfl fun w16 m16 hs16 hB16 => VL.nil (V.ret (fretC rfl rfl rfl Try.isAgg52 Try.sizeOf52 rfl (hB16.rowAt 0 3) rfl (⟨(r1, r2), rfl, ⟨hEv.mod m16 (fun h => by have h : r1 = b6 := h; omega) (fun h => by have h : r2 = b6 := h; omega), by dsimp only; omega, by dsimp only; omega⟩, Mod.ownA e m16 (fun x hx => by have hx : x = b6 := hx; omega)⟩)))))
end Go.Proofs.Ytglaigeellpikaa

/- Cluster: the neighbours of the classes, as a map of lists. -/
namespace Go.Proofs.Ytglaigeellpikaa
open Go.Vc

/-- A list in memory, with its slice. -/
structure Sl where
  a : Option Addr
  cap : Nat
  l : List Int
instance : Inhabited Sl := ⟨⟨none, 0, []⟩⟩
def encSl (x : Sl) : Value := .slice x.a x.l.length x.cap
def slOf (M : List (Int × Sl)) (k : Int) : Sl := (tget M k).getD ⟨none, 0, []⟩
structure NearAt (w : World) (r B : Nat) (M : List (Int × Sl)) : Prop where
  map : MapIs w r vI (tenc encSl M)
  own : ∀ k, OwnT encI 1 3 B w (slOf M k).a (slOf M k).cap (slOf M k).l
  sep : ∀ k k', k ≠ k' → Sep (slOf M k).a (slOf M k').a
theorem slOf_val (M : List (Int × Sl)) (k : Int) : (mget (tenc encSl M) k).getD (.slice none 0 0) = encSl (slOf M k) := by
  rw [tget_enc]; unfold slOf; cases tget M k <;> rfl
theorem slOf_set (M : List (Int × Sl)) (k k' : Int) (x : Sl) : slOf (tset M k x) k' = if k' = k then x else slOf M k' := by
  unfold slOf; rw [tget_tset]; split <;> rfl
theorem NearAt.mod {S : Nat → Prop} {w w' : World} {r B : Nat} {M : List (Int × Sl)} (h : NearAt w r B M) (m : Vc.Mod S w w') (hr : ¬ S r) (hS : ∀ k, S k → k < B ∨ w.heap.size ≤ k) : NearAt w' r B M :=
  ⟨h.map.mod m hr, fun k => (h.own k).mod m fun x hx hs => by have h1 := (h.own k).ge x hx; have h2 := (h.own k).lt x hx; rcases hS x hs with h3 | h3 <;> omega, h.sep⟩
theorem NearAt.ext {w w' : World} {r B : Nat} {M : List (Int × Sl)} (h : NearAt w r B M) (m : Ext w w') : NearAt w' r B M := h.mod m (fun e => e) fun _ e => e.elim
/-- An element more in one of the lists. -/
theorem NearAt.add {w w1 w2 : World} {r B : Nat} {M : List (Int × Sl)} (h : NearAt w r B M) {k x : Int} {a' : Option Addr} {cap' : Nat} (ho : OwnT encI 1 3 B w1 a' cap' ((slOf M k).l ++ [x])) (m1 : Vc.Mod (aBlk (slOf M k).a) w w1) (hf : ∀ b, aBlk a' b → aBlk (slOf M k).a b ∨ w.heap.size ≤ b)
    (hm : MapIs w2 r vI (mset (tenc encSl M) k (encSl ⟨a', cap', (slOf M k).l ++ [x]⟩))) (m2 : Vc.Mod (one r) w1 w2) (hr : r < B) : NearAt w2 r B (tset M k ⟨a', cap', (slOf M k).l ++ [x]⟩) := by
  have hnr : ∀ {a : Option Addr} {cap : Nat} {l : List Int} {w : World}, OwnT encI 1 3 B w a cap l → ∀ b, aBlk a b → ¬ one r b := fun ho b hb e => by
    have e : b = r := e
    have := ho.ge b hb
    omega
  refine ⟨by rw [tset_enc]; exact hm, fun k' => ?_, fun k1 k2 hne => ?_⟩
  · rw [slOf_set]
    split
    · exact ho.mod m2 (hnr ho)
    · rename_i hne
      exact ((h.own k').mod m1 (h.sep k' k hne)).mod m2 (hnr (h.own k'))
  · rw [slOf_set, slOf_set]
    have key : ∀ k', k' ≠ k → Sep a' (slOf M k').a := fun k' hne => Sep.grown (h.sep k k' (Ne.symm hne)) hf (h.own k').lt
    split
    · split
      · rename_i e1 e2; exact absurd (e1.trans e2.symm) hne
      · rename_i e1 e2; exact key k2 e2
    · split
      · rename_i e1 e2; exact (key k1 e1).symm
      · exact h.sep k1 k2 hne
/-- What the lists hold when the entries of 'P' have been read. -/
def NbOk (M : List (Int × Sl)) (D : List ((Int × Int) × Int)) : Prop := ∀ c d, d ∈ (slOf M c).l ↔ ∃ q ∈ D, 0 < q.2 ∧ (q.1 = (c, d) ∨ q.1 = (d, c))
theorem NbOk.perm {M : List (Int × Sl)} {D D' : List ((Int × Int) × Int)} (h : NbOk M D) (hp : D.Perm D') : NbOk M D' := fun c d => (h c d).trans ⟨fun ⟨q, h1, h2⟩ => ⟨q, hp.mem_iff.1 h1, h2⟩, fun ⟨q, h1, h2⟩ => ⟨q, hp.mem_iff.2 h1, h2⟩⟩
theorem NbOk.skip {M : List (Int × Sl)} {D : List ((Int × Int) × Int)} (h : NbOk M D) {p : (Int × Int) × Int} (hp : ¬ 0 < p.2) : NbOk M (p :: D) := fun c d => by
  rw [h c d]
  constructor
  · rintro ⟨q, h1, h2⟩; exact ⟨q, List.mem_cons_of_mem _ h1, h2⟩
  · rintro ⟨q, h1, h2⟩
    rcases List.mem_cons.1 h1 with h1 | h1
    · rw [h1] at h2; exact absurd h2.1 hp
    · exact ⟨q, h1, h2⟩
theorem NbOk.add {M M1 M2 : List (Int × Sl)} {D : List ((Int × Int) × Int)} (h : NbOk M D) {p : (Int × Int) × Int} (hp : 0 < p.2) (h1 : ∀ c, (slOf M1 c).l = if c = p.1.1 then (slOf M p.1.1).l ++ [p.1.2] else (slOf M c).l)
    (h2 : ∀ c, (slOf M2 c).l = if c = p.1.2 then (slOf M1 p.1.2).l ++ [p.1.1] else (slOf M1 c).l) : NbOk M2 (p :: D) := by
  intro c d
  have key : d ∈ (slOf M2 c).l ↔ d ∈ (slOf M c).l ∨ (p.1 = (c, d) ∨ p.1 = (d, c)) := by
    obtain ⟨⟨x, y⟩, v⟩ := p
    dsimp only at h1 h2 ⊢
    rw [h2 c]
    by_cases e2 : c = y
    · subst e2
      rw [if_pos rfl, List.mem_append, List.mem_singleton, h1 c]
      by_cases e1 : c = x
      · subst e1
        rw [if_pos rfl, List.mem_append, List.mem_singleton]
        simp only [Prod.mk.injEq, true_and, and_true]
        constructor
        · rintro ((h | h) | h)
          · exact .inl h
          · exact .inr (.inl h.symm)
          · exact .inr (.inl h.symm)
        · rintro (h | h | h)
          · exact .inl (.inl h)
          · exact .inr h.symm
          · exact .inr h.symm
      · rw [if_neg e1]
        simp only [Prod.mk.injEq, and_true]
        constructor
        · rintro (h | h)
          · exact .inl h
          · exact .inr (.inr h.symm)
        · rintro (h | h | h)
          · exact .inl h
          · exact absurd h.1.symm e1
          · exact .inr h.symm
    · rw [if_neg e2, h1 c]
      by_cases e1 : c = x
      · subst e1
        rw [if_pos rfl, List.mem_append, List.mem_singleton]
        simp only [Prod.mk.injEq, true_and]
        constructor
        · rintro (h | h)
          · exact .inl h
          · exact .inr (.inl h.symm)
        · rintro (h | h | h)
          · exact .inl h
          · exact .inr h.symm
          · exact absurd h.2.symm e2
      · rw [if_neg e1]
        simp only [Prod.mk.injEq]
        constructor
        · exact .inl
        · rintro (h | h | h)
          · exact h
          · exact absurd h.1.symm e1
          · exact absurd h.2.symm e2
  rw [key, h c d]
  constructor
  · rintro (⟨q, h1, h2⟩ | h3)
    · exact ⟨q, List.mem_cons_of_mem _ h1, h2⟩
    · exact ⟨p, List.mem_cons_self, hp, h3⟩
  · rintro ⟨q, h1, h2⟩
    rcases List.mem_cons.1 h1 with h1 | h1
    · rw [h1] at h2; exact .inr h2.2
    · exact .inl ⟨q, h1, h2⟩
end Go.Proofs.Ytglaigeellpikaa

/- Cluster: the search for components: visit. -/
namespace Go.Proofs.Ytglaigeellpikaa
open Go.Vc

/-- How many have no mark yet. -/
def unv (mk : List Int) : Nat → Nat
  | 0 => 0
  | n + 1 => unv mk n + if mk.getD n default < 0 then 1 else 0
theorem unv_le {mk mk' : List Int} (h : ∀ x : Nat, 0 ≤ mk.getD x default → mk'.getD x default = mk.getD x default) : ∀ n, unv mk' n ≤ unv mk n
  | 0 => Nat.le_refl _
  | n + 1 => by
    have ih := unv_le h n
    unfold unv
    by_cases e : mk.getD n default < 0
    · rw [if_pos e]; split <;> omega
    · rw [if_neg e, h n (by omega), if_neg e]; exact ih
theorem unv_same {mk mk' : List Int} : ∀ n, (∀ x : Nat, x < n → mk'.getD x default = mk.getD x default) → unv mk' n = unv mk n
  | 0, _ => rfl
  | n + 1, h => by
    unfold unv
    rw [unv_same n fun x hx => h x (by omega), h n (by omega)]
theorem set_get {mk : List Int} {c : Nat} {v : Int} (hc : c < mk.length) (x : Nat) : (mk.set c v).getD x default = if x = c then v else mk.getD x default := by
  by_cases e : x = c
  · subst e; rw [if_pos rfl]; simp [List.getD, hc]
  · rw [if_neg e]; simp [List.getD, Ne.symm e]
theorem unv_set {mk : List Int} {c : Nat} {v : Int} (hc : c < mk.length) (h1 : mk.getD c default < 0) (hv : 0 ≤ v) : ∀ n, c < n → unv (mk.set c v) n + 1 = unv mk n
  | 0, h => absurd h (Nat.not_lt_zero _)
  | n + 1, h => by
    unfold unv
    by_cases e : c = n
    · subst e
      have e1 : unv (mk.set c v) c = unv mk c := unv_same c fun x hx => by rw [set_get hc, if_neg (by omega)]
      rw [e1, set_get hc, if_pos rfl, if_neg (by omega), if_pos h1]
    · have ih := unv_set hc h1 hv n (by omega)
      rw [set_get hc]
      have e2 : ¬ n = c := fun e' => e e'.symm
      simp only [if_neg e2]
      omega
/-- What a visit does to the marks. -/
structure Vis (nb : Int → List Int) (mk mk' : List Int) (c : Int) (name : Int) : Prop where
  len : mk'.length = mk.length
  keep : ∀ x : Nat, 0 ≤ mk.getD x default → mk'.getD x default = mk.getD x default
  root : 0 ≤ mk'.getD c.toNat default
  new : ∀ x : Nat, mk.getD x default < 0 → 0 ≤ mk'.getD x default → mk'.getD x default = name ∧ ∀ f : Nat → Nat, (∀ a d, d ∈ nb a → f a.toNat = f d.toNat) → f x = f c.toNat
  clo : ∀ x : Int, 0 ≤ x → mk.getD x.toNat default < 0 → 0 ≤ mk'.getD x.toNat default → ∀ d ∈ nb x, 0 ≤ mk'.getD d.toNat default
/-- The state: places and neighbours. -/
structure VsM (b3 b6 b8 rn B bm n : Nat) (M : List (Int × Sl)) (mk : List Int) (w : World) : Prop where
  hb3 : Blk w b3 (.cells #[.map (some rn)] 70 (0, 0))
  hb6 : Blk w b6 (.cells #[.slice (some ⟨bm, 0, none⟩) n n] 23 (0, 0))
  hb8 : Blk w b8 (.cells #[.func (.func 51) #[] #[.pointer (some ⟨b6, 0, none⟩), .pointer (some ⟨b3, 0, none⟩), .pointer (some ⟨b8, 0, none⟩)]] 71 (0, 0))
  near : NearAt w rn B M
  own : OwnT encI 1 3 bm w (some ⟨bm, 0, none⟩) n mk
  len : mk.length = n
  lo : rn < bm ∧ b3 < bm ∧ bm < b6 ∧ bm < b8
  nb : ∀ k, ¬ aBlk (slOf M k).a bm
section
variable {b3 b6 b8 rn B bm n : Nat} {M : List (Int × Sl)} {mk : List Int} {w w' : World}
theorem VsM.ext (h : VsM b3 b6 b8 rn B bm n M mk w) (e : Ext w w') : VsM b3 b6 b8 rn B bm n M mk w' := ⟨h.hb3.ext e, h.hb6.ext e, h.hb8.ext e, h.near.ext e, h.own.ext e, h.len, h.lo, h.nb⟩
theorem VsM.turn {mk' : List Int} (h : VsM b3 b6 b8 rn B bm n M mk w) (m : Vc.Mod (one bm) w w') (ho : OwnT encI 1 3 bm w' (some ⟨bm, 0, none⟩) n mk') (hl : mk'.length = n) : VsM b3 b6 b8 rn B bm n M mk' w' := by
  have hlo := h.lo
  have no : ∀ b, b ≠ bm → ¬ one bm b := fun b h e => h e
  exact ⟨h.hb3.mod m (no _ (by omega)), h.hb6.mod m (no _ (by omega)), h.hb8.mod m (no _ (by omega)), ⟨h.near.map.mod m (no _ (by omega)), fun k => (h.near.own k).mod m fun x hx hs => h.nb k ((show x = bm from hs) ▸ hx), h.near.sep⟩, ho, hl, hlo, h.nb⟩
end
/-- The same, while the first 'k' neighbours have been visited. -/
structure VisK (nb : Int → List Int) (mk mk' : List Int) (c : Int) (name : Int) (k : Nat) : Prop where
  len : mk'.length = mk.length
  keep : ∀ x : Nat, 0 ≤ mk.getD x default → mk'.getD x default = mk.getD x default
  root : 0 ≤ mk'.getD c.toNat default
  new : ∀ x : Nat, mk.getD x default < 0 → 0 ≤ mk'.getD x default → mk'.getD x default = name ∧ ∀ f : Nat → Nat, (∀ a d, d ∈ nb a → f a.toNat = f d.toNat) → f x = f c.toNat
  clo : ∀ x : Int, 0 ≤ x → x ≠ c → mk.getD x.toNat default < 0 → 0 ≤ mk'.getD x.toNat default → ∀ d ∈ nb x, 0 ≤ mk'.getD d.toNat default
  own : ∀ d ∈ (nb c).take k, 0 ≤ mk'.getD d.toNat default
  nm : 0 ≤ name → mk'.getD c.toNat default = name
theorem VisK.start {nb : Int → List Int} {mk : List Int} {c name : Int} (hc : c.toNat < mk.length) (h1 : mk.getD c.toNat default < 0) (hn : 0 ≤ name) (h0 : 0 ≤ c := by omega) : VisK nb mk (mk.set c.toNat name) c name 0 := by
  refine ⟨by simp, fun x hx => ?_, by rw [set_get hc, if_pos rfl]; exact hn, fun x h2 h3 => ?_, fun x hx hne h2 h3 => ?_, fun d hd => by simp at hd, fun _ => by rw [set_get hc, if_pos rfl]⟩
  · rw [set_get hc, if_neg (fun e => by rw [e] at hx; omega)]
  · rw [set_get hc] at h3 ⊢
    by_cases e : x = c.toNat
    · rw [if_pos e]; exact ⟨rfl, fun f _ => by rw [e]⟩
    · rw [if_neg e] at h3; omega
  · rw [set_get hc, if_neg (by omega)] at h3; omega
theorem VisK.step {nb : Int → List Int} {mk mk2 mk3 : List Int} {c name : Int} {k : Nat} (h : VisK nb mk mk2 c name k) (hk : k < (nb c).length) (v : Vis nb mk2 mk3 ((nb c).getD k default) name) : VisK nb mk mk3 c name (k + 1) := by
  have kp : ∀ x : Nat, 0 ≤ mk2.getD x default → 0 ≤ mk3.getD x default := fun x hx => by rw [v.keep x hx]; exact hx
  refine ⟨v.len.trans h.len, fun x hx => ?_, kp _ h.root, fun x h1 h2 => ?_, fun x hx hne h1 h2 d hd => ?_, fun d hd => ?_, fun hn => by rw [v.keep _ h.root]; exact h.nm hn⟩
  · rw [v.keep x (by rw [h.keep x hx]; exact hx), h.keep x hx]
  · by_cases e : 0 ≤ mk2.getD x default
    · rw [v.keep x e]; exact h.new x h1 e
    · obtain ⟨n1, n2⟩ := v.new x (by omega) h2
      exact ⟨n1, fun f hf => (n2 f hf).trans (hf c _ (by rw [show (nb c).getD k default = (nb c)[k] by simp [List.getD, hk]]; exact List.getElem_mem _)).symm⟩
  · by_cases e : 0 ≤ mk2.getD x.toNat default
    · exact kp _ (h.clo x hx hne h1 e d hd)
    · exact v.clo x hx (by omega) h2 d hd
  · rw [List.take_succ_eq_append_getElem hk, List.mem_append, List.mem_singleton] at hd
    rcases hd with hd | hd
    · exact kp _ (h.own d hd)
    · have := v.root
      rw [show (nb c).getD k default = (nb c)[k] by simp [List.getD, hk], ← hd] at this
      exact this
theorem VisK.keepS {nb : Int → List Int} {mk mk2 : List Int} {c name : Int} {k : Nat} (h : VisK nb mk mk2 c name k) (hc : c.toNat < mk.length) (hn : 0 ≤ name) : ∀ x : Nat, 0 ≤ (mk.set c.toNat name).getD x default → mk2.getD x default = (mk.set c.toNat name).getD x default := fun x hx => by
  rw [set_get hc] at hx ⊢
  by_cases e : x = c.toNat
  · rw [if_pos e, e]; exact h.nm hn
  · rw [if_neg e] at hx ⊢; exact h.keep x hx
theorem VisK.done {nb : Int → List Int} {mk mk' : List Int} {c name : Int} (h : VisK nb mk mk' c name (nb c).length) : Vis nb mk mk' c name := by
  refine ⟨h.len, h.keep, h.root, h.new, fun x hx h1 h2 d hd => ?_⟩
  by_cases e : x = c
  · subst e; exact h.own d (by rw [List.take_length]; exact hd)
  · exact h.clo x hx e h1 h2 d hd
theorem eltI : Elt encI 1 := ⟨fun _ => rfl, fun _ => rfl, by decide⟩
set_option maxHeartbeats 4000000 in
theorem visit_spec (b3 b6 b8 rn B bm n : Nat) (M : List (Int × Sl)) (hn : n ≤ 1000) (hnb : ∀ c, (slOf M c).l.length ≤ 1000000) (hrg : ∀ c, ∀ d ∈ (slOf M c).l, 0 ≤ d ∧ d < n) :
    ∀ (f : Nat) (mk : List Int) (c name : Int) (w : World), VsM b3 b6 b8 rn B bm n M mk w → unv mk n ≤ f → 0 ≤ c → c < n → 0 ≤ name →
      RetsY Try.prog 51 ([.int .i64 c, .int .i64 name] ++ [.pointer (some ⟨b6, 0, none⟩), .pointer (some ⟨b3, 0, none⟩), .pointer (some ⟨b8, 0, none⟩)] : List Value).toArray w (fun _ : List Int => .tuple #[])
        (fun mk' w' => VsM b3 b6 b8 rn B bm n M mk' w' ∧ Vis (fun c => (slOf M c).l) mk mk' c name ∧ Vc.Mod (one bm) w w') := by
  intro f
  induction f with
  | zero =>
    intro mk c name w hV hf hc0 hcn hnm
    have hl := hV.len
    have hc : 0 ≤ mk.getD c.toNat default := by
      refine Classical.byContradiction fun h => ?_
      have := unv_set (v := 0) (c := c.toNat) (mk := mk) (by omega) (by omega) (by omega) n (by omega)
      omega
    refine enter (args := [_, _, _, _, _]) Try.func51 rfl Try.ntmps51 (by kernel_rfl) rfl ?_
    refine V.seq (V.seq (V.region (VL.op (R.ld1 Try.isAgg23 rfl ((show w.cell? ⟨b6, 0, none⟩ = some (Value.slice (some ⟨bm, 0, none⟩) n n) from hV.hb6.cell 0))) (VL.op (R.mvI rfl) (VL.op (R.ixS Try.runUnderlying23 Try.sizeOf3 rfl rfl (by omega) (by omega) ((hV.own.sl).some (i := c.toNat) (by omega))) (VL.op (R.ld1 Try.isAgg3 rfl (((((hV.own.sl).ext (Mod.refl _ _)).row (i := c.toNat) (by omega)).cell (i := 0) rfl))) (VL.op (R.geq rfl rfl) (VL.nil (V.condP rfl (fun c13 => V.ret (fret0 rfl (?_))) (fun c13 => V.skip (V.seq (?_))))))))))))
    · exact ⟨mk, rfl, hV, ⟨rfl, fun _ _ => rfl, hc, fun x h1 h2 => by omega, fun x _ h1 h2 => by omega⟩, Mod.refl _ _⟩
    · exfalso; omega
  | succ f ih =>
    intro mk c name w hV hf hc0 hcn hnm
    have hl := hV.len
    refine enter (args := [_, _, _, _, _]) Try.func51 rfl Try.ntmps51 (by kernel_rfl) rfl ?_
    refine V.seq (V.seq (V.region (VL.op (R.ld1 Try.isAgg23 rfl ((show w.cell? ⟨b6, 0, none⟩ = some (Value.slice (some ⟨bm, 0, none⟩) n n) from hV.hb6.cell 0))) (VL.op (R.mvI rfl) (VL.op (R.ixS Try.runUnderlying23 Try.sizeOf3 rfl rfl (by omega) (by omega) ((hV.own.sl).some (i := c.toNat) (by omega))) (VL.op (R.ld1 Try.isAgg3 rfl (((((hV.own.sl).ext (Mod.refl _ _)).row (i := c.toNat) (by omega)).cell (i := 0) rfl))) (VL.op (R.geq rfl rfl) (VL.nil (V.condP rfl (fun c13 => V.ret (fret0 rfl (?_))) (fun c13 => V.skip (V.seq (?_))))))))))))
    · exact ⟨mk, rfl, hV, ⟨rfl, fun _ _ => rfl, by omega, fun x h1 h2 => by omega, fun x _ h1 h2 => by omega⟩, Mod.refl _ _⟩
    · have hlo := hV.lo
      have hneg : mk.getD c.toNat default < 0 := by omega
      have hu := unv_set (v := name) (c := c.toNat) (mk := mk) (by omega) hneg hnm n (by omega)
      refine V.region (VL.op (R.ld1 Try.isAgg23 rfl ((show w.cell? ⟨b6, 0, none⟩ = some (Value.slice (some ⟨bm, 0, none⟩) n n) from hV.hb6.cell 0))) (VL.op (R.mvI rfl) (VL.op (R.mvI rfl) (VL.op (R.ixS Try.runUnderlying23 Try.sizeOf3 rfl rfl (by omega) (by omega) (hV.own.sl.some (i := c.toNat) (by omega))) (VL.ownSt eltI (v := .int _ _) Try.sizeOf3 (hV.own) c.toNat 0 name rfl rfl (by omega) rfl rfl rfl rfl rfl fun w1 ho1 m1 hs1 => VL.nil (V.seq (?_)))))))
      have hV1 := hV.turn (w' := w1) (m1.weaken fun x _ hx => aBlk_some hx) ho1 (by rw [List.length_set]; exact hl)
      have hm1 : Vc.Mod (one bm) w w1 := m1.weaken fun x _ hx => aBlk_some hx
      have hll := hnb c
      refine V.region (VL.op (R.ld1 Try.isAgg70 rfl ((show w1.cell? ⟨b3, 0, none⟩ = some (Value.map (some rn)) from hV1.hb3.cell 0))) (VL.op (R.mvI rfl) (VL.op (R.lookupV key3 Try.runUnderlying70 Try.zeroValue23 hV1.near.map (slOf_val M c) rfl rfl) (VL.op (R.lenS Try.runUnderlying23 rfl) (VL.op (R.mvI rfl) (VL.nil (V.block (?_))))))))
      refine V.loop [1, 2, 3, 4, 20, 21, 22] (fun x : Nat × List Int => [.int .i64 name, .pointer (some ⟨b6, 0, none⟩), .pointer (some ⟨b3, 0, none⟩), .pointer (some ⟨b8, 0, none⟩), .slice (slOf M c).a (slOf M c).l.length (slOf M c).cap, .int .i64 ((slOf M c).l.length : Nat), .int .i64 x.1])
        (fun x w' => x.1 ≤ (slOf M c).l.length ∧ VsM b3 b6 b8 rn B bm n M x.2 w' ∧ Vc.Mod (one bm) w w' ∧ VisK (fun c => (slOf M c).l) mk x.2 c name x.1) (fun x => (slOf M c).l.length - x.1) (0, mk.set c.toNat name) rfl ⟨Nat.zero_le _, hV1, hm1, VisK.start (by omega) hneg hnm⟩ ?_
      rintro ρ ⟨k, mk2⟩ w2 ⟨hk, hV2, hm2, hK⟩
      dsimp only at hk hV2 hm2 hK ⊢
      refine V.seq (V.region (VL.op (R.lss rfl rfl) (VL.nil (V.seq (V.condP rfl (fun c23 => V.skip (V.seq (V.block (V.seq (V.region (VL.op (R.ixS Try.runUnderlying23 Try.sizeOf3 rfl rfl (by omega) (by omega) (((hV2.near.own c).sl).some (i := k) (by omega))) (VL.op (R.ld1 Try.isAgg3 rfl ((((((hV2.near.own c).sl).ext (Mod.refl _ _)).row (i := k) (by omega)).cell (i := 0) rfl))) (VL.op (R.asI rfl) (VL.nil (?_)))))))))) (fun c23 => V.exit (fend0 rfl (?_))))))))
      · have hkn : k < (slOf M c).l.length := by omega
        have hrd := hrg c _ (getD_mem hkn)
        have hu2 : unv mk2 n ≤ f := by
          have h1 := unv_le (mk := mk.set c.toNat name) (mk' := mk2) (hK.keepS (by omega) hnm) n
          omega
        have hsp := ih mk2 ((slOf M c).l.getD k default) name w2 hV2 hu2 hrd.1 hrd.2 hnm
        refine V.region (VL.op (R.ld1 Try.isAgg71 rfl ((show w2.cell? ⟨b8, 0, none⟩ = some (Value.func (.func 51) #[] #[.pointer (some ⟨b6, 0, none⟩), .pointer (some ⟨b3, 0, none⟩), .pointer (some ⟨b8, 0, none⟩)]) from hV2.hb8.cell 0))) (VL.op (R.mvI rfl) (VL.op (R.mvI rfl) (VL.callCY rfl (Try.call51) rfl (hsp) fun mk3 w3 ⟨hV3, hVis, hm3⟩ => VL.nil (V.region (VL.op (R.add rfl rfl (by omega) (by omega)) (VL.op (R.mvI rfl) (VL.nil (⟨(k + 1, mk3), rfl, ⟨?_, hV3, ?_, ?_⟩, ?_⟩)))))))))
        · dsimp only; omega
        · exact hm2.then hm3 fun _ _ h => h
        · exact hK.step hkn hVis
        · dsimp only; omega
      · have hkn : k = (slOf M c).l.length := by omega
        subst hkn
        exact ⟨mk2, rfl, hV2, hK.done, hm2⟩
end Go.Proofs.Ytglaigeellpikaa

/- Cluster: what the marks are when all have been visited. No program. -/
namespace Go.Proofs.Ytglaigeellpikaa
open Go.Vc

/-- The keys of the weights are pairs of classes in order. -/
def WOk (same : List Int) (W : List ((Int × Int) × Int)) : Prop := ∀ q ∈ W, 0 ≤ q.1.1 ∧ q.1.1 < q.1.2 ∧ q.1.2 < same.length ∧ at_ same q.1.1 = q.1.1 ∧ at_ same q.1.2 = q.1.2
/-- The pairs that components join. -/
def jC (same : List Int) (W : List ((Int × Int) × Int)) : List (Nat × Nat) :=
  (List.range same.length).map (fun i => (i, (same.getD i default).toNat)) ++ (W.filter fun q => decide (0 < q.2)).map fun q => (q.1.1.toNat, q.1.2.toNat)
def cmpR (same : List Int) (W : List ((Int × Int) × Int)) : Nat → Nat := compR (jC same W)
def marksF (same : List Int) (W : List ((Int × Int) × Int)) : List Int := (List.range same.length).map fun i => ((cmpR same W i : Nat) : Int)
theorem jC_mem {same : List Int} {W : List ((Int × Int) × Int)} {p : Nat × Nat} : p ∈ jC same W ↔ (∃ i, i < same.length ∧ p = (i, (same.getD i default).toNat)) ∨ ∃ q ∈ W, 0 < q.2 ∧ p = (q.1.1.toNat, q.1.2.toNat) := by
  unfold jC
  rw [List.mem_append, List.mem_map, List.mem_map]
  constructor
  · rintro (⟨i, hi, e⟩ | ⟨q, hq, e⟩)
    · exact .inl ⟨i, by simpa using hi, e.symm⟩
    · rw [List.mem_filter, decide_eq_true_eq] at hq; exact .inr ⟨q, hq.1, hq.2, e.symm⟩
  · rintro (⟨i, hi, e⟩ | ⟨q, h1, h2, e⟩)
    · exact .inl ⟨i, by simpa using hi, e.symm⟩
    · exact .inr ⟨q, by rw [List.mem_filter, decide_eq_true_eq]; exact ⟨h1, h2⟩, e.symm⟩
theorem jC_lt {same : List Int} {W : List ((Int × Int) × Int)} (hv : ∀ i, i < same.length → 0 ≤ same.getD i default ∧ same.getD i default ≤ i ∧ same.getD (same.getD i default).toNat default = same.getD i default) (hW : WOk same W) : ∀ p ∈ jC same W, p.1 < same.length ∧ p.2 < same.length := by
  intro p hp
  rcases jC_mem.1 hp with ⟨i, hi, rfl⟩ | ⟨q, h1, h2, rfl⟩
  · have := hv i hi; dsimp only; omega
  · have := hW q h1; dsimp only; omega
theorem cmpR_is {same : List Int} {W : List ((Int × Int) × Int)} (hv : ∀ i, i < same.length → 0 ≤ same.getD i default ∧ same.getD i default ≤ i ∧ same.getD (same.getD i default).toNat default = same.getD i default) (hW : WOk same W) : IsComp same.length (jC same W) (cmpR same W) := compR_is _ _ (jC_lt hv hW)
/-- What is so of the marks when the first 'i' records have been seen. -/
structure CmpK (same : List Int) (nb : Int → List Int) (mk : List Int) (i : Nat) : Prop where
  len : mk.length = same.length
  cls : ∀ x : Nat, x < same.length → same.getD x default = x → 0 ≤ mk.getD x default → mk.getD x default ≤ x ∧ mk.getD (mk.getD x default).toNat default = mk.getD x default ∧ at_ same (mk.getD x default) = mk.getD x default ∧
    (∀ f : Nat → Nat, (∀ a d, d ∈ nb a → f a.toNat = f d.toNat) → f (mk.getD x default).toNat = f x) ∧ ∀ d ∈ nb x, mk.getD d.toNat default = mk.getD x default
  seen : ∀ x : Nat, x < i → same.getD x default = x → 0 ≤ mk.getD x default
  rec_ : ∀ j : Nat, j < i → mk.getD j default = mk.getD (same.getD j default).toNat default
theorem CmpK.step {same : List Int} {nb : Int → List Int} {mk mk' : List Int} {i : Nat} (h : CmpK same nb mk i) (hi : i < same.length) (hv : ∀ i, i < same.length → 0 ≤ same.getD i default ∧ same.getD i default ≤ i ∧ same.getD (same.getD i default).toNat default = same.getD i default)
    (hnb : ∀ a, ∀ d ∈ nb a, 0 ≤ a ∧ a < same.length ∧ 0 ≤ d ∧ d < same.length ∧ at_ same a = a ∧ at_ same d = d ∧ a ∈ nb d) (v : Vis nb mk mk' (same.getD i default) (same.getD i default)) :
    CmpK same nb (mk'.set i (mk'.getD (same.getD i default).toNat default)) (i + 1) := by
  have hvi := hv i hi
  obtain ⟨c, hc⟩ : ∃ c : Nat, same.getD i default = c := ⟨(same.getD i default).toNat, by omega⟩
  rw [hc] at v hvi ⊢
  simp only [Int.toNat_natCast] at hvi ⊢
  have hcn : c < same.length := by omega
  have hcc : same.getD c default = c := hvi.2.2
  have hl' : mk'.length = same.length := v.len.trans h.len
  -- what is new is a class
  have hcl : ∀ x : Nat, mk.getD x default < 0 → 0 ≤ mk'.getD x default → x < same.length ∧ same.getD x default = x := fun x h1 h2 => by
    have h3 := (v.new x h1 h2).2 (fun a => if same.getD a default = a ∧ a < same.length then 1 else 0) fun a d hd => by
      obtain ⟨a1, a2, a3, a4, a5, a6, _⟩ := hnb a d hd
      unfold at_ at a5 a6
      rw [if_pos ⟨by omega, by omega⟩, if_pos ⟨by omega, by omega⟩]
    simp only [Int.toNat_natCast] at h3
    rw [if_pos (show same.getD c default = c ∧ c < same.length from ⟨hcc, hcn⟩)] at h3
    by_cases e : same.getD x default = x ∧ x < same.length
    · exact ⟨e.2, e.1⟩
    · rw [if_neg e] at h3; cases h3
  -- if the class has been seen, nothing is new
  have hold : 0 ≤ mk.getD c default → ∀ x : Nat, mk.getD x default < 0 → 0 ≤ mk'.getD x default → False := fun h0 x h1 h2 => by
    have hx := hcl x h1 h2
    have h3 := (v.new x h1 h2).2 (fun a => if same.getD a default = a ∧ a < same.length ∧ 0 ≤ mk.getD a default then 1 else 0) fun a d hd => by
      obtain ⟨a1, a2, a3, a4, a5, a6, a7⟩ := hnb a d hd
      unfold at_ at a5 a6
      have e : 0 ≤ mk.getD a.toNat default ↔ 0 ≤ mk.getD d.toNat default := by
        constructor
        · intro h4
          have h5 := (h.cls a.toNat (by omega) (by omega) h4).2.2.2.2 d (by rw [Int.toNat_of_nonneg a1]; exact hd)
          omega
        · intro h4
          have h5 := (h.cls d.toNat (by omega) (by omega) h4).2.2.2.2 a (by rw [Int.toNat_of_nonneg a3]; exact a7)
          omega
      by_cases h4 : 0 ≤ mk.getD a.toNat default
      · rw [if_pos ⟨by omega, by omega, h4⟩, if_pos ⟨by omega, by omega, e.1 h4⟩]
      · rw [if_neg (fun h5 => h4 h5.2.2), if_neg (fun h5 => h4 (e.2 h5.2.2))]
    simp only [Int.toNat_natCast] at h3
    rw [if_pos (show same.getD c default = c ∧ c < same.length ∧ 0 ≤ mk.getD c default from ⟨hcc, hcn, h0⟩)] at h3
    by_cases e : same.getD x default = x ∧ x < same.length ∧ 0 ≤ mk.getD x default
    · have := e.2.2; omega
    · rw [if_neg e] at h3; cases h3
  have hroot : 0 ≤ mk'.getD c default := by have := v.root; simpa using this
  have hnewc : ∀ x : Nat, mk.getD x default < 0 → 0 ≤ mk'.getD x default → c = i ∧ i ≤ x ∧ mk'.getD x default = c := fun x h1 h2 => by
    have h3 : mk.getD c default < 0 := by
      refine Classical.byContradiction fun h4 => hold (by omega) x h1 h2
    have h4 : c = i := by
      refine Classical.byContradiction fun h5 => ?_
      have := h.seen c (by omega) hcc
      omega
    have hx := hcl x h1 h2
    have h5 : i ≤ x := by
      refine Classical.byContradiction fun h6 => ?_
      have := h.seen x (by omega) hx.2
      omega
    exact ⟨h4, h5, (v.new x h1 h2).1⟩
  -- the marks of classes behind the visit
  have cls' : ∀ x : Nat, x < same.length → same.getD x default = x → 0 ≤ mk'.getD x default → mk'.getD x default ≤ x ∧ mk'.getD (mk'.getD x default).toNat default = mk'.getD x default ∧ at_ same (mk'.getD x default) = mk'.getD x default ∧
    (∀ f : Nat → Nat, (∀ a d, d ∈ nb a → f a.toNat = f d.toNat) → f (mk'.getD x default).toNat = f x) ∧ ∀ d ∈ nb x, mk'.getD d.toNat default = mk'.getD x default := fun x hx hxc h2 => by
    by_cases h1 : 0 ≤ mk.getD x default
    · have hk := v.keep x h1
      obtain ⟨b1, b2, b3, b4, b5⟩ := h.cls x hx hxc h1
      rw [hk]
      refine ⟨b1, ?_, b3, b4, fun d hd => ?_⟩
      · rw [v.keep _ (by rw [b2]; exact h1), b2]
      · rw [v.keep _ (by rw [b5 d hd]; exact h1), b5 d hd]
    · obtain ⟨n1, n2, n3⟩ := hnewc x (by omega) h2
      have hcneg : mk.getD c default < 0 := by
        refine Classical.byContradiction fun h4 => hold (by omega) x (by omega) h2
      have hcv := (hnewc c hcneg hroot).2.2
      rw [n3]
      refine ⟨by omega, by simpa using hcv, by unfold at_; simpa using hcc, fun f hf => ?_, fun d hd => ?_⟩
      · have := (v.new x (by omega) h2).2 f hf
        simpa using this.symm
      · obtain ⟨a1, a2, a3, a4, a5, a6, a7⟩ := hnb _ d hd
        have hd2 := v.clo x (by omega) (by simpa using (by omega : mk.getD x default < 0)) (by simpa using h2) d hd
        have hd1 : mk.getD d.toNat default < 0 := by
          refine Classical.byContradiction fun h4 => ?_
          unfold at_ at a6
          have h5 := (h.cls d.toNat (by omega) (by omega) (by omega)).2.2.2.2 x (by rw [Int.toNat_of_nonneg a3]; exact a7)
          simp only [Int.toNat_natCast] at h5
          omega
        exact (hnewc d.toNat hd1 hd2).2.2
  have hsv : ∀ x : Nat, (x ≠ i ∨ same.getD i default = i) → (mk'.set i (mk'.getD c default)).getD x default = mk'.getD x default := fun x hx => by
    rw [set_get (by omega)]
    by_cases e : x = i
    · subst e
      rcases hx with hx | hx
      · exact absurd rfl hx
      · rw [if_pos rfl]
        have : c = x := by omega
        rw [this]
    · rw [if_neg e]
  have hcls : ∀ x : Nat, same.getD x default = x → (mk'.set i (mk'.getD c default)).getD x default = mk'.getD x default := fun x hx => hsv x (by
    by_cases e : x = i
    · subst e; exact .inr hx
    · exact .inl e)
  refine ⟨by rw [List.length_set]; exact hl', fun x hx hxc h0 => ?_, fun x hx hxc => ?_, fun j hj => ?_⟩
  · rw [hcls x hxc] at h0 ⊢
    obtain ⟨b1, b2, b3, b4, b5⟩ := cls' x hx hxc h0
    refine ⟨b1, ?_, b3, b4, fun d hd => ?_⟩
    · rw [hcls _ (by unfold at_ at b3; omega)]; exact b2
    · obtain ⟨a1, a2, a3, a4, a5, a6, a7⟩ := hnb _ d hd
      rw [hcls _ (by unfold at_ at a6; omega)]; exact b5 d hd
  · rw [hcls x hxc]
    by_cases e : x = i
    · have : x = c := by rw [e] at hxc; omega
      rw [this]; exact hroot
    · have h1 := h.seen x (by omega) hxc
      rw [v.keep x h1]; exact h1
  · by_cases e : j = i
    · subst e
      rw [set_get (by omega), if_pos rfl, hc, Int.toNat_natCast, hcls c hcc]
    · have hvj := hv j (by omega)
      have hjc : same.getD (same.getD j default).toNat default = ((same.getD j default).toNat : Nat) := by omega
      rw [hsv j (.inl e), hcls _ hjc]
      have h2 : 0 ≤ mk.getD (same.getD j default).toNat default := h.seen _ (by omega) hjc
      have h1 := h.rec_ j (by omega)
      rw [v.keep j (by omega), v.keep _ h2, h1]
theorem CmpK.done {same : List Int} {W : List ((Int × Int) × Int)} {M : List (Int × Sl)} {mk : List Int} (h : CmpK same (fun c => (slOf M c).l) mk same.length) (hok : NbOk M W) (hW : WOk same W) (hv : ∀ i, i < same.length → 0 ≤ same.getD i default ∧ same.getD i default ≤ i ∧ same.getD (same.getD i default).toNat default = same.getD i default) :
    mk = marksF same W := by
  have hcl : ∀ i, i < same.length → ∃ c : Nat, same.getD i default = c ∧ c ≤ i ∧ same.getD c default = c ∧ 0 ≤ mk.getD c default ∧ mk.getD i default = mk.getD c default := fun i hi => by
    have hvi := hv i hi
    refine ⟨(same.getD i default).toNat, by omega, by omega, by omega, h.seen _ (by omega) (by omega), h.rec_ i hi⟩
  have hnbf : ∀ f : Nat → Nat, (∀ p ∈ jC same W, f p.1 = f p.2) → ∀ a d, d ∈ (slOf M a).l → f a.toNat = f d.toNat := fun f hf a d hd => by
    obtain ⟨q, h1, h2, h3⟩ := (hok a d).1 hd
    have h4 := hf _ (jC_mem.2 (.inr ⟨q, h1, h2, rfl⟩))
    rcases h3 with h3 | h3 <;> (rw [h3] at h4; first | exact h4 | exact h4.symm)
  have hI : IsComp same.length (jC same W) fun i => (mk.getD i default).toNat := by
    refine ⟨fun i hi => ?_, fun i hi => ?_, fun p hp => ?_, fun f hf i hi => ?_⟩
    · obtain ⟨c, e1, e2, e3, e4, e5⟩ := hcl i hi
      have := (h.cls c (by omega) e3 e4).1
      omega
    · obtain ⟨c, e1, e2, e3, e4, e5⟩ := hcl i hi
      have := (h.cls c (by omega) e3 e4).2.1
      show Int.toNat _ = Int.toNat _
      rw [e5, this]
    · rcases jC_mem.1 hp with ⟨i, hi, rfl⟩ | ⟨q, h1, h2, rfl⟩
      · exact congrArg Int.toNat (h.rec_ i hi)
      · obtain ⟨a1, a2, a3, a4, a5⟩ := hW q h1
        unfold at_ at a4 a5
        have hs := h.seen q.1.1.toNat (by omega) (by omega)
        have := (h.cls q.1.1.toNat (by omega) (by omega) hs).2.2.2.2 q.1.2 ((hok _ _).2 ⟨q, h1, h2, .inl (by rw [Int.toNat_of_nonneg a1])⟩)
        show Int.toNat _ = Int.toNat _
        rw [this]
    · obtain ⟨c, e1, e2, e3, e4, e5⟩ := hcl i hi
      have h1 := (h.cls c (by omega) e3 e4).2.2.2.1 f (hnbf f hf)
      have h2 : f i = f (same.getD i default).toNat := hf _ (jC_mem.2 (.inl ⟨i, hi, rfl⟩))
      show f (mk.getD i default).toNat = f i
      rw [e1, Int.toNat_natCast] at h2
      rw [e5, h1, h2]
  have hu := hI.unique (cmpR_is hv hW) (cmpR_is hv hW).join hI.join
  refine getD_ext (by rw [h.len]; simp [marksF]) fun i hi => ?_
  have hi' : i < same.length := by rw [← h.len]; exact hi
  obtain ⟨c, e1, e2, e3, e4, e5⟩ := hcl i hi'
  have h1 : (marksF same W).getD i 0 = ((cmpR same W i : Nat) : Int) := by unfold marksF; simp [List.getD, hi']
  rw [h1, ← hu i hi']
  show mk.getD i default = _
  have : 0 ≤ mk.getD i default := by rw [e5]; exact e4
  omega
theorem CmpK.start {same : List Int} {nb : Int → List Int} {mk : List Int} (hl : mk.length = same.length) (h : ∀ x : Nat, x < same.length → mk.getD x default < 0) : CmpK same nb mk 0 :=
  ⟨hl, fun x hx _ h0 => by have := h x hx; omega, fun x hx => absurd hx (Nat.not_lt_zero _), fun x hx => absurd hx (Nat.not_lt_zero _)⟩
end Go.Proofs.Ytglaigeellpikaa
