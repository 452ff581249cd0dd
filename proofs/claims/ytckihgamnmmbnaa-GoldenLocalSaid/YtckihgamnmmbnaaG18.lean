/- Golden: the reference's members and entities. -/
import Derived.Test.YtckihgamnmmbnaaG15
namespace Go.Proofs.Ytckihgamnmmbnaa
open Go.Vc Go.Sort

set_option maxRecDepth 100000 in
set_option maxHeartbeats 4000000 in
theorem rmem_spec (L : List Int) (h : Int) (la : Option Addr) (lc : Nat) (w : World) (hm : L.length ≤ 1000000) (hL : IntSl w la L) :
    RetsX Try.prog 18 #[.slice la L.length lc, .int .i64 h] w (fun x : Option Addr × Nat => .slice x.1 (grpF L h L.length).length x.2) (fun x w' => OwnT encI 1 3 w.heap.size w' x.1 x.2 (grpF L h L.length)) := by
  refine enter (args := [_, _]) Try.func18 rfl Try.ntmps18 (by kernel_rfl) rfl ?_
  refine V.seq (V.region (VL.op (R.asS rfl) (VL.nil (V.seq (V.region (VL.op (R.asS rfl) (VL.nil (V.seq (V.seq (V.region (VL.op (R.asI rfl) (VL.nil (V.block (?_))))))))))))))
  refine V.loop [0, 1, 5, 6] (fun x : Nat × Option Addr × Nat => [.slice la L.length lc, .int .i64 h, .slice x.2.1 (grpF L h x.1).length x.2.2, .int .i64 (x.1 : Nat)])
    (fun x w' => x.1 ≤ L.length ∧ Ext w w' ∧ OwnT encI 1 3 w.heap.size w' x.2.1 x.2.2 (grpF L h x.1)) (fun x => L.length - x.1) (0, none, 0) rfl ⟨Nat.zero_le _, Mod.refl _ _, OwnT.nil encI 1 3 _ _⟩ ?_
  rintro ρ ⟨k, a, ca⟩ w1 ⟨hk, e1, hO⟩
  dsimp only at hk e1 hO ⊢
  have hL1 := hL.ext e1
  have hl := grpF_len L h k
  have hsu := grpF_succ L h k
  have hsz := e1.size
  refine V.seq (V.seq (V.region (VL.op (R.mvI rfl) (VL.op (R.mvS rfl) (VL.op (R.lenS Try.runUnderlying34 rfl) (VL.op (R.lss rfl rfl) (VL.nil (V.condP rfl (fun c10 => V.skip (V.seq (V.block (V.seq (V.region (VL.op (R.mvS rfl) (VL.op (R.mvI rfl) (VL.op (R.ixS Try.runUnderlying34 Try.sizeOf3 rfl rfl (by omega) (by omega) ((hL1).some (i := k) (by omega))) (VL.op (R.ld1 Try.isAgg3 rfl (((((hL1).ext (Mod.refl _ _)).row (i := k) (by omega)).cell (i := 0) rfl))) (VL.op (R.mvI rfl) (VL.op (R.eql rfl rfl) (VL.nil (V.condP rfl (fun c18 => V.region (VL.op (R.mvS rfl) (VL.op (R.mvI rfl) (VL.append1 el34 Try.runUnderlying34 Try.sizeOf3 Try.zeroValue3 rfl (((k : Nat) : Int)) rfl rfl rfl hO rfl rfl rfl (by omega) (by unfold maxLen; omega) (by omega) fun a5 ca5 w5 vt5 ho5 m5 hf5 => VL.op (R.asS rfl) (VL.nil (V.region (VL.op (R.mvI rfl) (VL.op (R.add rfl rfl (by omega) (by omega)) (VL.op (R.asI rfl) (VL.nil (?_))))))))))) (fun c18 => V.skip (V.region (VL.op (R.mvI rfl) (VL.op (R.add rfl rfl (by omega) (by omega)) (VL.op (R.asI rfl) (VL.nil (?_)))))))))))))))))))) (fun c10 => V.exit (V.seq (V.region (VL.op (R.mvS rfl) (VL.op (R.asS rfl) (VL.nil (V.ret (fret1 (v := .slice _ _ _) rfl rfl rfl (?_)))))))))))))))))
  · rw [if_pos (by assumption)] at hsu
    refine ⟨(k + 1, a5, ca5), ?_, ⟨by dsimp only; omega, Mod.ownA e1 m5 hO.ge, by dsimp only; rw [hsu]; exact ho5⟩, by dsimp only; omega⟩
    dsimp only; rw [hsu, List.length_append]; rfl
  · rw [if_neg (by assumption), List.append_nil] at hsu
    refine ⟨(k + 1, a, ca), by dsimp only; rw [hsu]; rfl, ⟨by dsimp only; omega, e1, by dsimp only; rw [hsu]; exact hO⟩, by dsimp only; omega⟩
  · have hkl : k = L.length := by omega
    subst hkl
    exact ⟨(a, ca), rfl, hO, e1⟩
set_option maxRecDepth 100000 in
set_option maxHeartbeats 4000000 in
theorem rents_spec (s : Set_) (recs : List Rec) (L : List Int) (ra la : Option Addr) (rc lc : Nat) (w : World) (hs : Small s recs L) (hS : SetW w s) (hR : RecsW w ra recs) (hL : IntSl w la L) :
    RetsP Try.prog 35 #[.agg (encSet s).toArray, .slice ra recs.length rc, .slice la L.length lc] w (.bool (entB s recs L)) := by
  have hms := hs.nm
  have hnr := hs.nr
  have hnt := hs.nt
  refine enter (args := [_, _, _]) Try.func35 rfl Try.ntmps35 (by kernel_rfl) rfl ?_
  refine V.seq (V.region (VL.box (v := .agg _) rfl fun b1 w1 hb1 e1 hX1 => VL.op (R.asB rfl) (VL.nil (V.seq (V.seq (V.region (VL.op (R.mvS rfl) (VL.op (R.lenS Try.runUnderlying34 rfl) (VL.op (R.mvS rfl) (VL.op (R.lenS Try.runUnderlying33 rfl) (VL.op (R.neq rfl rfl) (VL.nil (V.condP rfl (fun c13 => V.seq (?_)) (fun c13 => V.skip (V.seq (V.seq (?_)))))))))))))))))
  · have hb : entB s recs L = false := decide_eq_false fun h => by omega
    rw [hb]
    refine V.region (VL.op (R.asB rfl) (VL.nil (V.ret (fret1 (v := .bool _) rfl rfl rfl (⟨rfl, e1⟩)))))
  · have hlen : L.length = recs.length := by omega
    have hS1 := hS.ext e1
    have hR1 := hR.ext e1
    have hL1 := hL.ext e1
    refine V.region (VL.op (R.asI rfl) (VL.nil (V.block (?_))))
    refine V.loop [1, 2, 3, 7] (fun k : Nat => [.slice ra recs.length rc, .slice la L.length lc, .pointer (some ⟨b1, 0, none⟩), .int .i64 (k : Nat)])
      (fun k w' => k ≤ L.length ∧ (∀ i, i < k → entAt s recs L i) ∧ Ext w1 w') (fun k => L.length - k) 0 rfl ⟨Nat.zero_le _, fun i h => absurd h (Nat.not_lt_zero i), Mod.refl _ _⟩ ?_
    rintro ρ k w4 ⟨hk, hi, e4⟩
    have hS4 := hS1.ext e4
    have hR4 := hR1.ext e4
    have hL4 := hL1.ext e4
    have hX14 := hX1.ext e4
    refine V.seq (V.seq (V.region (VL.op (R.mvI rfl) (VL.op (R.mvS rfl) (VL.op (R.lenS Try.runUnderlying34 rfl) (VL.op (R.lss rfl rfl) (VL.nil (V.condP rfl (fun c17 => V.skip (V.seq (V.block (V.seq (?_))))) (fun c17 => V.exit (V.seq (?_)))))))))))
    · have hkl : k < L.length := by omega
      refine V.region (VL.op (R.mvS rfl) (VL.op (R.mvI rfl) (VL.op (R.ixS Try.runUnderlying34 Try.sizeOf3 rfl rfl (by omega) (by omega) ((hL4).some (i := k) (by omega))) (VL.op (R.ld1 Try.isAgg3 rfl (((((hL4).ext (Mod.refl _ _)).row (i := k) (by omega)).cell (i := 0) rfl))) (VL.op (R.asI rfl) (VL.nil (V.seq (V.regionQCut mixed 37 (by kernel_rfl) rfl (fun w' => Ext _ w') (Ext.drawn _) [24, 25, 26, 27, 28, 29, 30, 31, 32, 33, 34, 35, 36, 37, 38, 39, 40, 41, 42, 43, 44, 45, 46, 47, 48, 49, 50, 51, 52, 53, 54, 55, 56, 57, 58, 59, 60] 60 (.bool (!decide (entAt s recs L k))) rfl (VQ.op (fun wq eq => R.mvI rfl) (VQ.op (fun wq eq => R.lss rfl rfl) (VQ.op (fun wq eq => R.mvB rfl) (VQ.orP rfl rfl (fun g7_2 => VQ.op (fun wq eq => R.mvI rfl) (VQ.gT rfl rfl (VQ.op (fun wq eq => R.mvI rfl) (VQ.gT rfl rfl (VQ.op (fun wq eq => R.gtr rfl rfl) (VQ.op (fun wq eq => R.pickFB rfl rfl) (VQ.op (fun wq eq => R.mvB rfl) (VQ.orP rfl rfl (fun g7_7 => VQ.op (fun wq eq => R.mvS rfl) (VQ.gT rfl rfl (VQ.op (fun wq eq => R.mvI rfl) (VQ.gT rfl rfl (VQ.op (fun wq eq => R.ixS Try.runUnderlying34 Try.sizeOf3 rfl rfl (by omega) (by omega) (hL4.some (i := (L.getD k default).toNat) (by omega))) (VQ.gT rfl rfl (VQ.op (fun wq eq => R.ld1 Try.isAgg3 rfl ((((hL4.ext eq).row (i := (L.getD k default).toNat) (by omega)).cell (i := 0) rfl))) (VQ.gT rfl rfl (VQ.op (fun wq eq => R.mvI rfl) (VQ.gT rfl rfl (VQ.op (fun wq eq => R.neq rfl rfl) (VQ.op (fun wq eq => R.pickFB rfl rfl) (VQ.op (fun wq eq => R.mvB rfl) (VQ.orP rfl rfl (fun g7_15 => VQ.op (fun wq eq => R.ldA Try.isAgg32 Try.sizeOf32 rfl rfl ((show RowAt _ _ _ (encSet s) from (hX14.ext eq).rowAt 0 7)) rfl) (VQ.gT rfl rfl (VQ.op (fun wq eq => R.mvS rfl) (VQ.gT rfl rfl (VQ.op (fun wq eq => R.mvI rfl) (VQ.gT rfl rfl (VQ.op (fun wq eq => R.ixS Try.runUnderlying33 Try.sizeOf53 rfl rfl (by omega) (by omega) (hR4.sl.some (i := k) (by omega))) (VQ.gT rfl rfl (VQ.op (fun wq eq => R.ldA Try.isAgg53 Try.sizeOf53 rfl rfl ((show RowAt _ _ _ (encRec (recs.getD k default)) from ((hR4.sl.ext eq).row (i := k) (by omega)))) rfl) (VQ.gT rfl rfl (VQ.callP (fun _ _ h k => Mod.trans h k) Try.call42 rfl (fun wq eq => rformed_spec s (recs.getD k default) _ (by omega) (hS4.ext eq)) (VQ.gT rfl rfl (VQ.op (fun wq eq => R.not rfl) (VQ.op (fun wq eq => R.pickFB rfl rfl) (VQ.op (fun wq eq => R.mvB rfl) (VQ.or rfl rfl (fun g7_24 => VQ.op (fun wq eq => R.mvS rfl) (VQ.gT rfl rfl (VQ.op (fun wq eq => R.mvI rfl) (VQ.gT rfl rfl (VQ.op (fun wq eq => R.ixS Try.runUnderlying33 Try.sizeOf53 rfl rfl (by omega) (by omega) (hR4.sl.some (i := (L.getD k default).toNat) (by omega))) (VQ.gT rfl rfl (VQ.op (fun wq eq => R.fld' (o := 3) Try.runUnderlying53 rfl rfl Try.sizeOf3 rfl rfl) (VQ.gT rfl rfl (VQ.op (fun wq eq => R.ld1 Try.isAgg3 rfl ((((hR4.sl.ext eq).row (i := (L.getD k default).toNat) (by omega)).cell (i := 3) rfl))) (VQ.gT rfl rfl (VQ.op (fun wq eq => R.mvS rfl) (VQ.gT rfl rfl (VQ.op (fun wq eq => R.mvI rfl) (VQ.gT rfl rfl (VQ.op (fun wq eq => R.ixS Try.runUnderlying33 Try.sizeOf53 rfl rfl (by omega) (by omega) (hR4.sl.some (i := k) (by omega))) (VQ.gT rfl rfl (VQ.op (fun wq eq => R.fld' (o := 3) Try.runUnderlying53 rfl rfl Try.sizeOf3 rfl rfl) (VQ.gT rfl rfl (VQ.op (fun wq eq => R.ld1 Try.isAgg3 rfl ((((hR4.sl.ext eq).row (i := k) (by omega)).cell (i := 3) rfl))) (VQ.gT rfl rfl (VQ.op (fun wq eq => R.neq rfl rfl) (VQ.op (fun wq eq => R.pickFB rfl rfl) (VQ.nil (cutB rfl ?_)))))))))))))))))))))))) (fun g7_24 => VQ.gF rfl rfl (VQ.gF rfl rfl (VQ.gF rfl rfl (VQ.gF rfl rfl (VQ.gF rfl rfl (VQ.gF rfl rfl (VQ.gF rfl rfl (VQ.gF rfl rfl (VQ.gF rfl rfl (VQ.gF rfl rfl (VQ.op (fun wq eq => R.pickTB rfl rfl) (VQ.nil (cutB rfl ?_))))))))))))))))))))))))))))) (fun g7_15 => VQ.gF rfl rfl (VQ.gF rfl rfl (VQ.gF rfl rfl (VQ.gF rfl rfl (VQ.gF rfl rfl (VQ.gF rfl rfl (VQ.op (fun wq eq => R.pickTB rfl rfl) (VQ.op (fun wq eq => R.mvB rfl) (VQ.gF rfl rfl (VQ.gF rfl rfl (VQ.gF rfl rfl (VQ.gF rfl rfl (VQ.gF rfl rfl (VQ.gF rfl rfl (VQ.gF rfl rfl (VQ.gF rfl rfl (VQ.gF rfl rfl (VQ.gF rfl rfl (VQ.gF rfl rfl (VQ.op (fun wq eq => R.pickTB rfl rfl) (VQ.nil (cutB rfl ?_)))))))))))))))))))))))))))))))))))) (fun g7_7 => VQ.gF rfl rfl (VQ.gF rfl rfl (VQ.gF rfl rfl (VQ.gF rfl rfl (VQ.gF rfl rfl (VQ.op (fun wq eq => R.pickTB rfl rfl) (VQ.op (fun wq eq => R.mvB rfl) (VQ.gF rfl rfl (VQ.gF rfl rfl (VQ.gF rfl rfl (VQ.gF rfl rfl (VQ.gF rfl rfl (VQ.gF rfl rfl (VQ.gF rfl rfl (VQ.op (fun wq eq => R.pickTB rfl rfl) (VQ.op (fun wq eq => R.mvB rfl) (VQ.gF rfl rfl (VQ.gF rfl rfl (VQ.gF rfl rfl (VQ.gF rfl rfl (VQ.gF rfl rfl (VQ.gF rfl rfl (VQ.gF rfl rfl (VQ.gF rfl rfl (VQ.gF rfl rfl (VQ.gF rfl rfl (VQ.gF rfl rfl (VQ.op (fun wq eq => R.pickTB rfl rfl) (VQ.nil (cutB rfl ?_)))))))))))))))))))))))))))))))))))))) (fun g7_2 => VQ.gF rfl rfl (VQ.gF rfl rfl (VQ.op (fun wq eq => R.pickTB rfl rfl) (VQ.op (fun wq eq => R.mvB rfl) (VQ.gF rfl rfl (VQ.gF rfl rfl (VQ.gF rfl rfl (VQ.gF rfl rfl (VQ.gF rfl rfl (VQ.gF rfl rfl (VQ.op (fun wq eq => R.pickTB rfl rfl) (VQ.op (fun wq eq => R.mvB rfl) (VQ.gF rfl rfl (VQ.gF rfl rfl (VQ.gF rfl rfl (VQ.gF rfl rfl (VQ.gF rfl rfl (VQ.gF rfl rfl (VQ.gF rfl rfl (VQ.op (fun wq eq => R.pickTB rfl rfl) (VQ.op (fun wq eq => R.mvB rfl) (VQ.gF rfl rfl (VQ.gF rfl rfl (VQ.gF rfl rfl (VQ.gF rfl rfl (VQ.gF rfl rfl (VQ.gF rfl rfl (VQ.gF rfl rfl (VQ.gF rfl rfl (VQ.gF rfl rfl (VQ.gF rfl rfl (VQ.gF rfl rfl (VQ.op (fun wq eq => R.pickTB rfl rfl) (VQ.nil (cutB rfl ?_))))))))))))))))))))))))))))))))))))))) (fun rg7 w7c e7c => V.cond rfl (fun c60 => V.seq (?_)) (fun c60 => V.skip (V.region (VL.op (R.mvI rfl) (VL.op (R.add rfl rfl (by omega) (by omega)) (VL.op (R.asI rfl) (VL.nil (?_))))))))))))))))
      · cases hd : decide (entAt s recs L k) with
        | true =>
          have h := of_decide_eq_true hd
          exact decide_eq_false fun hh => hh h.2.2
        | false =>
          have h := of_decide_eq_false hd
          refine decide_eq_true fun hh => h ⟨⟨by omega, by omega, by omega⟩, by simpa using g7_24, hh⟩
      · rw [decide_eq_false (fun h : entAt s recs L k => by rw [h.2.1] at g7_24; cases g7_24)]; rfl
      · rw [decide_eq_false (fun h : entAt s recs L k => g7_15 h.1.2.2)]; rfl
      · rw [decide_eq_false (fun h : entAt s recs L k => by have := h.1; omega)]; rfl
      · rw [decide_eq_false (fun h : entAt s recs L k => by have := h.1; omega)]; rfl
      · have hb := entB_no hkl (of_decide_eq_false (by simpa using c60) : ¬ entAt s recs L k)
        rw [hb]
        refine V.region (VL.op (R.asB rfl) (VL.nil (V.ret (fret1 (v := .bool _) rfl rfl rfl (⟨rfl, e1.trans (e4.trans e7c)⟩)))))
      · have hok : entAt s recs L k := of_decide_eq_true (by simpa using c60)
        refine ⟨k + 1, rfl, ⟨by omega, fun i hik => ?_, e4.trans e7c⟩, by omega⟩
        by_cases h : i = k
        · subst h; exact hok
        · exact hi i (by omega)
    · have hkl : k = L.length := by omega
      subst hkl
      have hb : entB s recs L = true := decide_eq_true ⟨hlen, hi⟩
      rw [hb]
      refine V.region (VL.op (R.asB rfl) (VL.nil (V.ret (fret1 (v := .bool _) rfl rfl rfl (⟨rfl, e1.trans e4⟩)))))
end Go.Proofs.Ytckihgamnmmbnaa

/- Golden: the reference's facts of an entity. -/
namespace Go.Vc
theorem yieldsR_alloc {P : Program} {ρ : Env} {w : World} {d : Nat} {t ty : TypeId} {p : String} {af : Array Edge} {z : Value} (hz : ∀ w, (zeroValue t).run P w = .ok z w) :
    yieldsR P ρ { dst := some d, op := .alloc t, type := ty, pos := p, after := af, guard := none } w fun u w' => (∃ b, u = .pointer (some ⟨b, 0, none⟩) ∧ w.heap.size ≤ b ∧ Blk w' b (.cells z.cells t (0, 0))) ∧ Ext w w' := by
  have h : run1 P ρ (.alloc t) ty w = .ok (.value (.pointer (some ⟨w.heap.size, 0, none⟩))) (w.alloc (.cells z.cells t)) := by
    simp [run1, execOp, Instr.alloc, go_sem, hz, newVar, newRow]
  unfold yieldsR
  rw [run1_eq, h]
  exact ⟨⟨_, rfl, Nat.le_refl _, Blk.alloc _ _⟩, Ext.alloc _ _⟩
theorem yieldsR_run {P : Program} {ρ : Env} {w : World} {d : Nat} {q : Op} {ty : TypeId} {p : String} {af : Array Edge} {v : Value} {K : Value → World → Prop} (hr : run1 P ρ q ty w = .ok (.value v) w) (h : K v w) :
    yieldsR P ρ { dst := some d, op := q, type := ty, pos := p, after := af, guard := none } w K := by
  unfold yieldsR
  rw [run1_eq, hr]
  exact h
theorem OwnT.ty {α : Type} {enc : α → List Value} {s e B : Nat} {w : World} {a : Option Addr} {cap : Nat} {l : List α} (h : OwnT enc s e B w a cap l) {b : Nat} {c : Array Value} {T : TypeId} {z : Nat × Nat} (hb : Blk w b (.cells c T z)) (hk : aBlk a b) : T = e := by
  obtain ⟨ad, rfl, rfl⟩ := hk
  rcases h.own.2 with ⟨hv, _⟩ | ⟨g, cap', cur, hv, hB, hg, _⟩
  · cases hv
  · injection hv with ha _ _
    injection ha with ha
    subst ha
    have := hb.symm.trans hg
    injection this with this
    injection this
end Go.Vc
namespace Go.Proofs.Ytckihgamnmmbnaa
open Go.Vc Go.Sort

theorem vIn_full (recs : List Rec) (mem : List Int) (t : Int) (base : List Val) (c : Nat) (oth : List Int) (o : List Fac) (j : Nat) (h : 5 ≤ (vIn recs mem t base c oth j o).length) (i : Nat) : vIn recs mem t base c oth (j + i) o = vIn recs mem t base c oth j o := by
  induction i with
  | zero => rfl
  | succ i ih => rw [← Nat.add_assoc, vIn, ih, if_neg (by omega)]
/-- The facts while the reference makes them. -/
structure RJ (B : Nat) (w2 : World) (F : List Fac) (l : List Fct) (a : Option Addr) (cap : Nat) (w : World) : Prop where
  ex : Ext w2 w
  fs : FctsW w B a cap l
  ge : ∀ k, aBlk a k → w2.heap.size ≤ k
  eq : l.map (·.f) = F
theorem RJ.len {B : Nat} {w2 : World} {F : List Fac} {l : List Fct} {a : Option Addr} {cap : Nat} {w : World} (h : RJ B w2 F l a cap w) : l.length = F.length := by rw [← h.eq, List.length_map]
theorem RJ.later {B : Nat} {w2 : World} {F : List Fac} {l : List Fct} {a : Option Addr} {cap : Nat} {w w' : World} (h : RJ B w2 F l a cap w) (e : Ext w w') : RJ B w2 F l a cap w' := ⟨h.ex.trans e, h.fs.ext e, h.ge, h.eq⟩
theorem memB_pos {s : Set_} {recs : List Rec} {mem : List Int} (h : memB s recs mem = true) : 0 < mem.length := (of_decide_eq_true h).1
set_option maxRecDepth 100000 in
set_option maxHeartbeats 8000000 in
theorem rentity_spec (s : Set_) (recs : List Rec) (mem : List Int) (ra ma : Option Addr) (rc mc B : Nat) (w : World) (hs : Small s recs mem) (hS : SetW w s) (hR : RecsW w ra recs) (hM : IntSl w ma mem) (hmem : memB s recs mem = true) (hlo : ∀ k, aBlk ma k → B ≤ k) (hBw : B ≤ w.heap.size) :
    RetsX Try.prog 36 #[.agg (encSet s).toArray, .slice ra recs.length rc, .slice ma mem.length mc] w (fun x : List Fct × Option Addr × Nat => .slice x.2.1 x.1.length x.2.2)
      (fun x w' => FctsW w' B x.2.1 x.2.2 x.1 ∧ x.1.map (·.f) = factsG s recs mem (recs.getD (mem.getD 0 default).toNat default).table) := by
  have hpos := memB_pos hmem
  have hmlt := intSl_lt hM hpos
  have hok := memB_ok hmem
  have hbase := rbase_spec s recs mem ra ma rc mc
  rw [hmem] at hbase
  simp only [if_true] at hbase
  obtain ⟨t, ht⟩ : ∃ t, t = (recs.getD (mem.getD 0 default).toNat default).table := ⟨_, rfl⟩
  rw [← ht] at hok hbase ⊢
  have hms := hs.nm
  have hnc := hok.ncol_le hs
  have hbl := baseG_len s recs mem t
  obtain ⟨h01, h02, _⟩ := hok.mem _ (gmem hpos)
  refine enter (args := [_, _, _]) Try.func36 rfl Try.ntmps36 (by kernel_rfl) rfl ?_
  refine V.seq (V.region (VL.box (v := .agg _) rfl fun b1 w1 hb1 e1 hX1 => VL.op (R.asS rfl) (VL.nil (V.seq (V.region (VL.op (R.ldA Try.isAgg32 Try.sizeOf32 rfl rfl ((show RowAt _ _ _ (encSet s) from (hX1.ext (Mod.refl _ _)).rowAt 0 7)) rfl) (VL.op (R.mvS rfl) (VL.op (R.mvS rfl) (VL.callX Try.call12 rfl (hbase _ hs (hS.ext e1) (hR.ext e1) (hM.ext e1)) fun xb w2 hxb e2 => VL.op (R.mvT rfl) (VL.op (R.extr rfl rfl) (VL.op (R.extr rfl rfl) (VL.op (R.asS rfl) (VL.op (R.asI rfl) (VL.nil (V.seq (?_))))))))))))))))
  obtain ⟨base, hbase⟩ : ∃ base, base = baseG s recs mem t := ⟨_, rfl⟩
  rw [← hbase] at hxb hbl ⊢
  have hS2 := hS.ext (e1.trans e2)
  have hR2 := hR.ext (e1.trans e2)
  have hM2 := hM.ext (e1.trans e2)
  have hX2 := hX1.ext e2
  obtain ⟨f0, hf0⟩ : ∃ f0 : Fct, f0 = ⟨⟨t, mem.getD 0 default, 0, base, 0, mem⟩, xb.1, xb.2, ma, mc⟩ := ⟨_, rfl⟩
  refine V.regionS mixed 14 (by kernel_rfl) rfl (fun us => VS.op (fun wq eq => R.mvS rfl) (VS.op (fun wq eq => R.mvS rfl) (VS.op (fun wq eq => R.ixS Try.runUnderlying34 Try.sizeOf3 rfl rfl (by omega) (by omega) (hM2.some (i := 0) (by omega))) (VS.op (fun wq eq => R.ld1 Try.isAgg3 rfl ((((hM2.ext eq).row (i := 0) (by omega)).cell (i := 0) rfl))) (VS.op (fun wq eq => R.ixS Try.runUnderlying33 Try.sizeOf53 rfl rfl (by omega) (by omega) (hR2.sl.some (i := (mem.getD 0 default).toNat) (by omega))) (VS.op (fun wq eq => R.fld' (o := 3) Try.runUnderlying53 rfl rfl Try.sizeOf3 rfl rfl) (VS.op (fun wq eq => R.ld1 Try.isAgg3 rfl ((((hR2.sl.ext eq).row (i := (mem.getD 0 default).toNat) (by omega)).cell (i := 3) rfl))) (VS.op (fun wq eq => R.mvS rfl) (VS.op (fun wq eq => R.ixS Try.runUnderlying34 Try.sizeOf3 rfl rfl (by omega) (by omega) (hM2.some (i := 0) (by omega))) (VS.op (fun wq eq => R.ld1 Try.isAgg3 rfl ((((hM2.ext eq).row (i := 0) (by omega)).cell (i := 0) rfl))) (VS.op (fun wq eq => R.mvS rfl) (VS.op (fun wq eq => R.mvS rfl) (VS.op (fun wq eq => R.build Try.zeroValue48 Try.runUnderlying48 pl48 rfl) (VS.spec (fun u w' => ∃ b, u = .pointer (some ⟨b, 0, none⟩) ∧ w2.heap.size ≤ b ∧ Blk w' b (.cells (Try.t48.zero.getD undef).cells 48 (0, 0))) (fun u a b _ ⟨x, hx, h1, h2⟩ eb => ⟨x, hx, h1, h2.ext eb⟩) rfl (fun wq eq hq => yieldsR_mono (yieldsR_alloc Try.zeroValue48) fun u w' ⟨⟨b, h1, h2, h3⟩, he⟩ => ⟨⟨b, h1, Nat.le_trans eq.size h2, h3⟩, he⟩) (VS.nil (fun w3 e3 h3 => ?_)))))))))))))))) rfl
  obtain ⟨b9, hb9, hge9, hB9⟩ := h3 13
  rw [hb9]
  rw [← ht]
  have s1 := e1.size
  have s2 := e2.size
  have s3 := e3.size
  refine VL.store (v := .agg _) Try.sizeOf48 rfl rfl rfl rfl hB9 rfl rfl fun w4 m4 hs4 hB4 => VL.nil (V.seq (?_))
  have hB4 : Blk w4 b9 (.cells (encFct f0).toArray 48 (0, 0)) := by rw [hf0]; exact hB4
  have E4 : Ext w2 w4 := Mod.ownA e3 m4 fun k hk => by have hk : k = b9 := hk; omega
  have s4 := E4.size
  refine V.region (VL.op (R.ldA Try.isAgg48 Try.sizeOf48 rfl rfl ((show RowAt _ _ _ (encFct f0) from (hB4.ext (Mod.refl _ _)).rowAt 0 6)) rfl) (VL.buildSl Try.runUnderlying41 Try.sizeOf48 Try.zeroValue48 rfl rfl rfl fun b5 w5 hb5 e5 hX5 => VL.op (R.asS rfl) (VL.nil (V.seq (V.seq (?_))))))
  have E5 := E4.trans e5
  have s5 := e5.size
  have hx5 : FctW w5 f0 := by
    rw [hf0]
    exact ⟨(hxb.ext E5).sl, hM2.ext E5, fun k hk => (hxb.ext E5).lt k hk, fun k hk => by have := hmlt k hk; omega⟩
  have hJ0 : RJ B w4 (vOut s recs mem t 0) [f0] (some ⟨b5, 0, none⟩) 1 w5 := by
    have hO5 : OwnT encFct 6 48 B w5 (some ⟨b5, 0, none⟩) 1 [f0] := OwnT.of1 encFct 6 _ hX5 (by omega) rfl rfl
    refine ⟨e5, ⟨hO5, fun x hx => ?_, fun x hx => ?_, fun x hx => ?_⟩, fun k hk => by have := aBlk_some hk; omega, by rw [hf0]; show [_] = [_]; rw [hbase]⟩
    · rw [List.mem_singleton] at hx; subst hx; exact hx5
    · rw [List.mem_singleton] at hx; subst hx
      rw [hf0]
      exact ⟨fun k h1 h2 => by have := aBlk_some h1; have := hxb.lt k h2; omega, fun k h1 h2 => by have := aBlk_some h1; have := hmlt k h2; omega⟩
    · rw [List.mem_singleton] at hx; subst hx
      rw [hf0]
      exact ⟨fun k hk => by have := hxb.ge k hk; omega, hlo⟩
  obtain ⟨n, hn⟩ : ∃ n, n = ncol s t := ⟨_, rfl⟩
  rw [← hn] at hbl
  rw [hbl]
  have hS4 := hS2.ext E4
  have hR4 := hR2.ext E4
  have hM4 := hM2.ext E4
  have hX4 := hX2.ext E4
  have hxb4 := hxb.ext E4
  have hcl := fun c : Nat => colL_len recs mem (c : Int)
  have hnk := hs.nk
  clear hx5 hX5 hB9 h3
  refine V.region (VL.op (R.asI rfl) (VL.nil (V.block (?_))))
  refine V.loop [1, 2, 3, 7, 9, 10, 11] (fun x : Nat × List Fct × Option Addr × Nat => [.slice ra recs.length rc, .slice ma mem.length mc, .pointer (some ⟨b1, 0, none⟩), .slice xb.1 n xb.2, .pointer (some ⟨b9, 0, none⟩), .slice x.2.2.1 x.2.1.length x.2.2.2, .int .i64 (x.1 : Nat)])
    (fun x w' => x.1 ≤ n ∧ RJ B w4 (vOut s recs mem t x.1) x.2.1 x.2.2.1 x.2.2.2 w') (fun x => n - x.1) (0, [f0], some ⟨b5, 0, none⟩, 1) rfl ⟨Nat.zero_le _, hJ0⟩ ?_
  rintro ρ ⟨c, l, a, cap⟩ w6 ⟨hc, hJ⟩
  dsimp only at hc hJ ⊢
  have hS6 := hS4.ext hJ.ex
  have hR6 := hR4.ext hJ.ex
  have hM6 := hM4.ext hJ.ex
  have hX6 := hX4.ext hJ.ex
  have hB6 := hB4.ext hJ.ex
  have hvl := vOut_len s recs mem t c
  have hl5 := hJ.len
  refine V.seq (V.seq (V.region (VL.op (R.mvI rfl) (VL.op (R.mvS rfl) (VL.op (R.lenS Try.runUnderlying37 rfl) (VL.op (R.lss rfl rfl) (VL.nil (V.condP rfl (fun c44 => V.skip (V.seq (V.block (V.seq (?_))))) (fun c44 => V.exit (V.seq (V.seq (?_))))))))))))
  · have hcn : c < n := by omega
    have hcl := colL_len recs mem (c : Nat)
    have hcl2 := colT_len s recs mem
    refine V.region (VL.op (R.ldA Try.isAgg32 Try.sizeOf32 rfl rfl ((show RowAt _ _ _ (encSet s) from (hX6.ext (Mod.refl _ _)).rowAt 0 7)) rfl) (VL.op (R.mvS rfl) (VL.op (R.mvS rfl) (VL.op (R.mvI rfl) (VL.callX Try.call28 rfl (rcolumn_spec s recs mem (c : Nat) ra ma rc mc _ (by omega) hs.nm hs.nr hs.no hs.nc (hS6.ext (Mod.refl _ _)) (hR6.ext (Mod.refl _ _)) (hM6.ext (Mod.refl _ _)) (hok.col (by omega))) fun x7 w7 hx7 e7 => VL.op (R.mvT rfl) (VL.op (R.extr rfl rfl) (VL.op (R.extr rfl rfl) (VL.op (R.asS rfl) (VL.op (R.asS rfl) (VL.nil (V.seq (V.region (VL.op (R.ldA Try.isAgg32 Try.sizeOf32 rfl rfl ((show RowAt _ _ _ (encSet s) from (hX6.ext e7).rowAt 0 7)) rfl) (VL.op (R.fld' (o := 0) Try.runUnderlying48 rfl rfl Try.sizeOf3 rfl rfl) (VL.op (R.ld1 Try.isAgg3 rfl ((by rw [hf0] at hB6; exact (hB6.ext e7).cell 0))) (VL.op (R.mvI rfl) (VL.callP Try.call30 rfl (rrule_spec s t (c : Nat) _ (by omega) (hS6.ext e7)) fun w8_4 e8_4 => VL.op (R.mvS rfl) (VL.op (R.mvS rfl) (VL.callX Try.call52 rfl (rothers_spec (ruleG s t (c : Nat)) x7.1.1 x7.2.1 x7.1.2 x7.2.2 (colL recs mem (c : Nat)) (colT s recs mem) _ (by omega) (hx7.1.ext (by assumption)) (hx7.2.1.ext (by assumption))) fun x8 w8 hx8 e8 => VL.op (R.asS rfl) (VL.nil (V.seq (?_))))))))))))))))))))))
    rw [← others_eq] at hx8 ⊢
    obtain ⟨oth, hoth⟩ : ∃ oth, oth = othG s recs mem t (c : Nat) := ⟨_, rfl⟩
    have hol : oth.length ≤ mem.length := by rw [hoth]; exact othG_len _ _ _ _ _
    have hom : ∀ i ∈ oth, 0 ≤ i ∧ i < mem.length := fun i hi => othG_mem (hoth ▸ hi)
    rw [show othersF (ruleG s t (c : Nat)) (colL recs mem (c : Nat)) (colT s recs mem) = oth from hoth.symm] at hx8 ⊢
    obtain ⟨hx71, _, hx73⟩ := hx7
    obtain ⟨hx81, _, hx83⟩ := hx8
    have E8 : Ext w6 w8 := e7.trans (e8_4.trans e8)
    have hc8 := hx71.ext (e8_4.trans e8)
    have hlt7 : ∀ k, aBlk x7.1.1 k → k < w8.heap.size := by
      rintro k ⟨ad, h, rfl⟩
      have hp : 0 < (colL recs mem (c : Nat)).length := by rw [hcl]; exact hpos
      have hc9 := hc8
      rw [h] at hc9
      exact TSl.lt hc9 hp
    have hlt8 : 0 < oth.length → ∀ k, aBlk x8.1 k → k < w8.heap.size := fun hp => intSl_lt hx81 hp
    have s7 := e7.size
    have s84 := e8_4.size
    rw [hcl]
    refine V.region (VL.op (R.asI rfl) (VL.nil (V.block (?_))))
    refine V.loop [1, 2, 3, 7, 9, 10, 11, 12, 14, 15] (fun x : Nat × List Fct × Option Addr × Nat => [.slice ra recs.length rc, .slice ma mem.length mc, .pointer (some ⟨b1, 0, none⟩), .slice xb.1 n xb.2, .pointer (some ⟨b9, 0, none⟩), .slice x.2.2.1 x.2.1.length x.2.2.2, .int .i64 (c : Nat), .slice x7.1.1 mem.length x7.1.2, .slice x8.1 oth.length x8.2, .int .i64 (x.1 : Nat)])
      (fun x w' => x.1 ≤ oth.length ∧ RJ B w4 (vIn recs mem t base c oth x.1 (vOut s recs mem t c)) x.2.1 x.2.2.1 x.2.2.2 w' ∧ w8.heap.size ≤ w'.heap.size ∧ CellSl w' x7.1.1 (colL recs mem (c : Nat)) ∧ Sep x.2.2.1 x7.1.1 ∧ (0 < oth.length → IntSl w' x8.1 oth ∧ Sep x.2.2.1 x8.1))
      (fun x => oth.length - x.1) (0, l, a, cap) rfl ⟨Nat.zero_le _, hJ.later E8, Nat.le_refl _, hc8, fun k h1 h2 => by have := hx73 k h2; have := hJ.fs.own.lt k h1; omega, fun hp => ⟨hx81, fun k h1 h2 => by have := hx83 k h2; have := hJ.fs.own.lt k h1; omega⟩⟩ ?_
    rintro ρ ⟨j, l2, a2, cap2⟩ w9 ⟨hj, hJ2, hsz, hcs, hsp1, hoo⟩
    dsimp only at hj hJ2 hcs hsp1 hoo ⊢
    have hll := hJ2.len
    have hvi := vIn_len recs mem t base c oth j _ hvl
    have hB7 := hB4.ext hJ2.ex
    have hxb7 := hxb4.ext hJ2.ex
    have hs4' := hJ2.ex.size
    refine V.seq (V.seq (V.region (VL.op (R.mvI rfl) (VL.op (R.mvS rfl) (VL.op (R.lenS Try.runUnderlying34 rfl) (VL.op (R.lss rfl rfl) (VL.op (R.mvB rfl) (VL.andP rfl rfl (fun g10_4 => VL.op (R.mvS rfl) (VL.gT rfl rfl (VL.op (R.lenS Try.runUnderlying41 rfl) (VL.gT rfl rfl (VL.op (R.lss rfl rfl) (VL.op (R.pickTB rfl rfl) (VL.nil (V.condP rfl (fun c71 => V.skip (V.seq (V.block (V.seq (?_))))) (fun c71 => V.exit (V.region (VL.op (R.mvI rfl) (VL.op (R.add rfl rfl (by omega) (by omega)) (VL.op (R.asI rfl) (VL.nil (?_))))))))))))))) (fun g10_4 => VL.gF rfl rfl (VL.gF rfl rfl (VL.op (R.pickFB rfl rfl) (VL.nil (V.condF rfl (V.exit (V.region (VL.op (R.mvI rfl) (VL.op (R.add rfl rfl (by omega) (by omega)) (VL.op (R.asI rfl) (VL.nil (?_))))))))))))))))))))
    · have hjl : j < oth.length := by omega
      have him := hom _ (gmem hjl)
      obtain ⟨ho9, hsp2⟩ := hoo (by omega)
      refine V.region (VL.op (R.ldA Try.isAgg48 Try.sizeOf48 rfl rfl ((show RowAt _ _ _ (encFct f0) from (hB7.ext (Mod.refl _ _)).rowAt 0 6)) rfl) (VL.allocSt (v := .agg (encFct f0).toArray) Try.zeroValue48 Try.sizeOf48 rfl rfl rfl rfl rfl fun b12_1 w12_1 hb12_1 e12_1 hB12_1 => VL.nil (V.seq (V.region (VL.op (R.mvS rfl) (VL.op (R.lenS Try.runUnderlying41 rfl) (VL.op (R.fld' (o := 2) Try.runUnderlying48 rfl rfl Try.sizeOf3 rfl rfl) (VL.store (v := .int _ _) Try.sizeOf3 rfl rfl rfl rfl hB12_1 rfl rfl fun w13_3 m13_3 hs13_3 hB13_3 => VL.nil (V.seq (V.region (VL.op (R.fld' (o := 4) Try.runUnderlying48 rfl rfl Try.sizeOf3 rfl rfl) (VL.store (v := .int _ _) Try.sizeOf3 rfl rfl rfl rfl hB13_3 rfl rfl fun w14_1 m14_1 hs14_1 hB14_1 => VL.nil (V.seq (V.region (VL.buildSl Try.runUnderlying37 Try.sizeOf55 Try.zeroValue55 rfl rfl rfl fun b15 w15 hb15 e15 hX15 => VL.op (R.mvS rfl) (VL.appendT el37 (fun _ => rfl) rfl (rfl) ((OwnT.of0 encVal 3 hX15 (by rw [hb15]; exact ((Mod.own (Mod.own e12_1 m13_3 (Nat.le_of_eq (Eq.symm hb12_1))) m14_1 (Nat.le_of_eq (Eq.symm hb12_1)))).size))) rfl ( hbl.symm) (((hxb7.ext ((Mod.own (Mod.own e12_1 m13_3 (Nat.le_of_eq (Eq.symm hb12_1))) m14_1 (Nat.le_of_eq (Eq.symm hb12_1))).trans e15)).sl)) (hxb7.hax) (by simp; omega) (by simp [maxLen]; omega) (((Mod.own (Mod.own e12_1 m13_3 (Nat.le_of_eq (Eq.symm hb12_1))) m14_1 (Nat.le_of_eq (Eq.symm hb12_1))).trans e15)).size (Nat.zero_add _) fun a16 ca16 w16 ho16 m16 hf16 => VL.op (R.fld' (o := 3) Try.runUnderlying48 rfl rfl Try.sizeOf37 rfl rfl) (VL.store (v := .slice _ _ _) Try.sizeOf37 rfl rfl rfl rfl ((hB14_1.ext e15).mod m16 ?_) rfl rfl fun w15_4 m15_4 hs15_4 hB15_4 => VL.nil (V.seq (?_)))))))))))))))))))
      · have h12 := hB12_1.lt
        intro hk
        have := aBlk_some hk
        have hk : b12_1 = b15 := this
        omega
      · have h12 := hB12_1.lt
        have hs12 := e12_1.size
        have hs15 := e15.size
        have hs16 := m16.size
        have E17 : Ext w9 w15_4 := by
          refine Mod.own (Mod.ownA ((Mod.own (Mod.own e12_1 m13_3 (by show _ ≤ b12_1; omega)) m14_1 (by show _ ≤ b12_1; omega)).trans e15) m16 fun k hk => ?_) m15_4 (by show _ ≤ b12_1; omega)
          have := aBlk_some hk
          omega
        have hBn : Blk w15_4 b12_1 (.cells #[.int .i64 t, .int .i64 (mem.getD 0 default), .int .i64 (l2.length : Nat), .slice a16 n ca16, .int .i64 1, .slice ma mem.length mc] 48 (0, 0)) := by
          rw [hf0] at hB15_4; exact hB15_4
        rw [List.nil_append] at ho16
        have ha16 : ∀ k, aBlk a16 k → w9.heap.size ≤ k ∧ k ≠ b12_1 := fun k hk => by
          have := ho16.ge k hk
          refine ⟨this, fun e => ?_⟩
          rcases hf16 k hk with h | h
          · have := aBlk_some h; omega
          · omega
        have ho17 := ho16.mod m15_4 fun k hk h => (ha16 k hk).2 h
        have hoE := ho9.ext E17
        have hcE := hcs.ext E17
        obtain ⟨v, hv⟩ : ∃ v, v = ((colL recs mem (c : Nat)).getD (oth.getD j default).toNat default).val := ⟨_, rfl⟩
        clear hB15_4 hX15 hB14_1 hB13_3 hB12_1
        refine V.regionQ mixed 11 (by kernel_rfl) rfl (fun w' => Ext _ w') (Ext.drawn _) (VQ.op (fun wq eq => R.fld' (o := 3) Try.runUnderlying48 rfl rfl Try.sizeOf37 rfl rfl) (VQ.op (fun wq eq => R.ld1 Try.isAgg37 rfl (((hBn.ext eq).cell 3))) (VQ.op (fun wq eq => R.mvI rfl) (VQ.op (fun wq eq => R.mvS rfl) (VQ.op (fun wq eq => R.mvS rfl) (VQ.op (fun wq eq => R.mvI rfl) (VQ.op (fun wq eq => R.ixS Try.runUnderlying34 Try.sizeOf3 rfl rfl (by omega) (by omega) (hoE.some (i := j) (by omega))) (VQ.op (fun wq eq => R.ld1 Try.isAgg3 rfl ((((hoE.ext eq).row (i := j) (by omega)).cell (i := 0) rfl))) (VQ.op (fun wq eq => R.ixS Try.runUnderlying51 Try.sizeOf57 rfl rfl (by omega) (by omega) (hcE.some (i := (oth.getD j default).toNat) (by omega))) (VQ.op (fun wq eq => R.fld' (o := 0) Try.runUnderlying57 rfl rfl Try.sizeOf55 rfl rfl) (VQ.op (fun wq eq => R.ldA Try.isAgg55 Try.sizeOf55 rfl rfl ((show RowAt _ _ _ (encVal ((colL recs mem (c : Nat)).getD (oth.getD j default).toNat default).val) from (((hcE.ext eq).row (i := (oth.getD j default).toNat) (by omega)).sub 0 3 rfl))) rfl) (VQ.nil fun w16q e16q => VL.op (R.ixS Try.runUnderlying37 Try.sizeOf55 rfl rfl (by omega) (by omega) (ho17.sl.some (i := c) (by omega))) (VL.ownSt eltV (v := .agg _) Try.sizeOf55 ((ho17.ext e16q)) c 0 ((colL recs mem (c : Nat)).getD (oth.getD j default).toNat default).val rfl rfl (show c < base.length by omega) rfl rfl rfl rfl rfl fun w18 ho18 m18 hs18 => VL.nil (?_))))))))))))))
        rw [← hv] at ho18
        have E18 : Ext w9 w18 := Mod.ownA (E17.trans e16q) m18 ho17.ge
        have hBn := (hBn.ext e16q).mod m18 fun h => (ha16 _ h).2 rfl
        have hrl : (base.set c v).length = n := by rw [List.length_set]; exact hbl
        obtain ⟨f1, hf1⟩ : ∃ f1 : Fct, f1 = ⟨⟨t, mem.getD 0 default, l2.length, base.set c v, 1, mem⟩, a16, ca16, ma, mc⟩ := ⟨_, rfl⟩
        have hBf : Blk w18 b12_1 (.cells (encFct f1).toArray 48 (0, 0)) := by
          have e : encFct f1 = [.int .i64 t, .int .i64 (mem.getD 0 default), .int .i64 (l2.length : Nat), .slice a16 n ca16, .int .i64 1, .slice ma mem.length mc] := by rw [hf1, ← hrl]; rfl
          rw [e]; exact hBn
        have hs18' := E18.size
        have hM18 := (hM4.ext hJ2.ex).ext E18
        refine V.region (VL.op (R.mvS rfl) (VL.op (R.ldA Try.isAgg48 Try.sizeOf48 rfl rfl ((show RowAt _ _ _ (encFct f1) from (hBf.ext (Mod.refl _ _)).rowAt 0 6)) rfl) (VL.append1 el41 Try.runUnderlying41 Try.sizeOf48 Try.zeroValue48 rfl (f1) rfl rfl rfl ((hJ2.later E18).fs.own) rfl rfl rfl (by omega) (by unfold maxLen; omega) (by omega) fun a19 ca19 w19 vt19 ho19 m19 hf19 => VL.op (R.asS rfl) (VL.nil (V.region (VL.op (R.mvI rfl) (VL.op (R.add rfl rfl (by omega) (by omega)) (VL.op (R.asI rfl) (VL.nil (?_))))))))))
        have hf1W : FctW w18 f1 := by
          rw [hf1]
          exact ⟨ho18.sl, hM18, fun k hk => ho18.lt k hk, fun k hk => by have := hmlt k hk; omega⟩
        have hl1 : ∀ k, aBlk a2 k → k < w9.heap.size := fun k hk => hJ2.fs.own.lt k hk
        have hfs19 := (hJ2.later E18).fs.snoc hf1W (by rw [hf1]; exact ⟨fun k h1 h2 => by have := (ha16 k h2).1; have := hl1 k h1; omega, fun k h1 h2 => by have := hJ2.ge k h1; have := hmlt k h2; omega⟩) (by rw [hf1]; exact ⟨fun k hk => by have := (ha16 k hk).1; omega, hlo⟩) ho19 m19 hf19
        refine ⟨(j + 1, l2 ++ [f1], a19, ca19), ?_, ⟨by dsimp only; omega, ⟨Mod.ownA (hJ2.ex.trans E18) m19 hJ2.ge, hfs19, fun k hk => ?_, ?_⟩, ?_, ?_, ?_, ?_⟩, by dsimp only; omega⟩
        · dsimp only; rw [List.length_append]; rfl
        · rcases hf19 k hk with h | h
          · exact hJ2.ge k h
          · omega
        · rw [List.map_append, hJ2.eq, vIn, if_pos (by omega), ← hll, hf1, hv]; rfl
        · have := m19.size; omega
        · exact (hcs.ext E18).mod m19 fun ad had h => hsp1 _ h ⟨ad, had, rfl⟩
        · exact hsp1.grown hf19 fun k hk => by have := hlt7 k hk; omega
        · exact fun _ => ⟨(ho9.ext E18).mod m19 fun ad had h => hsp2 _ h ⟨ad, had, rfl⟩, hsp2.grown hf19 fun k hk => by have := hlt8 (by omega) k hk; omega⟩
    · have hst : vIn recs mem t base c oth oth.length (vOut s recs mem t c) = vIn recs mem t base c oth j (vOut s recs mem t c) := by
        have := vIn_full recs mem t base c oth (vOut s recs mem t c) j (by omega) (oth.length - j)
        rwa [show j + (oth.length - j) = oth.length by omega] at this
      refine ⟨(c + 1, l2, a2, cap2), rfl, ⟨by dsimp only; omega, ?_⟩, by dsimp only; omega⟩
      dsimp only
      rw [vOut, ← hoth, ← hbase, hst]; exact hJ2
    · have hjl : j = oth.length := by omega
      subst hjl
      refine ⟨(c + 1, l2, a2, cap2), rfl, ⟨by dsimp only; omega, ?_⟩, by dsimp only; omega⟩
      dsimp only
      rw [vOut, ← hoth, ← hbase]; exact hJ2
  · have hcn : c = n := by omega
    subst hcn
    have hfg : factsG s recs mem t = vOut s recs mem t c ++ (if mem.length = 1 then [] else (List.range mem.length).map (spF recs mem t)) := by unfold factsG; rw [← hn]
    refine V.region (VL.op (R.asI rfl) (VL.nil (V.block (?_))))
    refine V.loop [1, 2, 9, 10, 17] (fun x : Nat × List Fct × Option Addr × Nat => [.slice ra recs.length rc, .slice ma mem.length mc, .pointer (some ⟨b9, 0, none⟩), .slice x.2.2.1 x.2.1.length x.2.2.2, .int .i64 (x.1 : Nat)])
      (fun x w' => x.1 ≤ mem.length ∧ (mem.length = 1 → x.1 = 0) ∧ RJ B w4 (vOut s recs mem t c ++ (List.range x.1).map (spF recs mem t)) x.2.1 x.2.2.1 x.2.2.2 w') (fun x => mem.length - x.1) (0, l, a, cap) rfl ⟨Nat.zero_le _, fun _ => rfl, by simpa using hJ⟩ ?_
    rintro ρ ⟨k, l2, a2, cap2⟩ w7 ⟨hk, hk1, hJ2⟩
    dsimp only at hk hk1 hJ2 ⊢
    have hll := hJ2.len
    rw [List.length_append, List.length_map, List.length_range] at hll
    have hS7 := hS4.ext hJ2.ex
    have hR7 := hR4.ext hJ2.ex
    have hM7 := hM4.ext hJ2.ex
    have hB7 := hB4.ext hJ2.ex
    rw [hf0] at hB7
    have hs7 := hJ2.ex.size
    refine V.seq (V.seq (V.region (VL.op (R.mvI rfl) (VL.op (R.mvS rfl) (VL.op (R.lenS Try.runUnderlying34 rfl) (VL.op (R.lss rfl rfl) (VL.op (R.mvB rfl) (VL.andP rfl rfl (fun g19_4 => VL.op (R.mvS rfl) (VL.gT rfl rfl (VL.op (R.lenS Try.runUnderlying34 rfl) (VL.gT rfl rfl (VL.op (R.gtr rfl rfl) (VL.op (R.pickTB rfl rfl) (VL.nil (V.condP rfl (fun c107 => V.skip (V.seq (V.block (V.seq (?_))))) (fun c107 => V.exit (V.seq (V.region (VL.op (R.mvS rfl) (VL.op (R.asS rfl) (VL.nil (V.ret (fret1 (v := .slice _ _ _) rfl rfl rfl (?_))))))))))))))))) (fun g19_4 => VL.gF rfl rfl (VL.gF rfl rfl (VL.op (R.pickFB rfl rfl) (VL.nil (V.condF rfl (V.exit (V.seq (V.region (VL.op (R.mvS rfl) (VL.op (R.asS rfl) (VL.nil (V.ret (fret1 (v := .slice _ _ _) rfl rfl rfl (?_))))))))))))))))))))))
    · have hkl : k < mem.length := by omega
      obtain ⟨hm0, hm1, hm2⟩ := hok.mem _ (gmem hkl)
      have hcl := hR7.cell hm1
      have hcb := hs.nc _ (gmem hm1)
      refine V.regionS mixed 19 (by kernel_rfl) rfl (fun us => VS.op (fun wq eq => R.fld' (o := 0) Try.runUnderlying48 rfl rfl Try.sizeOf3 rfl rfl) (VS.op (fun wq eq => R.ld1 Try.isAgg3 rfl (((hB7.ext eq).cell 0))) (VS.op (fun wq eq => R.fld' (o := 1) Try.runUnderlying48 rfl rfl Try.sizeOf3 rfl rfl) (VS.op (fun wq eq => R.ld1 Try.isAgg3 rfl (((hB7.ext eq).cell 1))) (VS.op (fun wq eq => R.mvS rfl) (VS.op (fun wq eq => R.mvS rfl) (VS.op (fun wq eq => R.mvI rfl) (VS.op (fun wq eq => R.ixS Try.runUnderlying34 Try.sizeOf3 rfl rfl (by omega) (by omega) (hM7.some (i := k) (by omega))) (VS.op (fun wq eq => R.ld1 Try.isAgg3 rfl ((((hM7.ext eq).row (i := k) (by omega)).cell (i := 0) rfl))) (VS.op (fun wq eq => R.ixS Try.runUnderlying33 Try.sizeOf53 rfl rfl (by omega) (by omega) (hR7.sl.some (i := (mem.getD k default).toNat) (by omega))) (VS.op (fun wq eq => R.ldA Try.isAgg53 Try.sizeOf53 rfl rfl ((show RowAt _ _ _ (encRec (recs.getD (mem.getD k default).toNat default)) from ((hR7.sl.ext eq).row (i := (mem.getD k default).toNat) (by omega)))) rfl) (VS.callX (fun u w' => ∃ x : Option Addr × Nat, u = .slice x.1 (rowG (recs.getD (mem.getD k default).toNat default)).length x.2 ∧ OwnT encVal 3 55 w7.heap.size w' x.1 x.2 (rowG (recs.getD (mem.getD k default).toNat default))) (fun u a b _ ⟨x, hx, hO⟩ eb => ⟨x, hx, hO.ext eb⟩) Try.call53 rfl (fun wq eq hq => Rets.mono (rrow_spec (recs.getD (mem.getD k default).toNat default) wq hcb (hcl.ext eq)) fun u w' ⟨x, hu, hO, he⟩ => ⟨⟨x, hu, hO.weaken eq.size⟩, he⟩) (VS.op (fun wq eq => R.mvS rfl) (VS.op (fun wq eq => R.mvI rfl) (VS.op (fun wq eq => R.ixS Try.runUnderlying34 Try.sizeOf3 rfl rfl (by omega) (by omega) (hM7.some (i := k) (by omega))) (VS.op (fun wq eq => R.ld1 Try.isAgg3 rfl ((((hM7.ext eq).row (i := k) (by omega)).cell (i := 0) rfl))) (VS.spec (SB1 encI 1 3 w7.heap.size (mem.getD k default)) SB1.mono rfl (fun wq eq hq => yieldsR_build1 Try.runUnderlying34 Try.sizeOf3 Try.zeroValue3 rfl rfl rfl (mem.getD k default) rfl rfl rfl eq.size fun b w2 ho he => ⟨⟨b, rfl, ho⟩, he⟩) (VS.spec (fun u w' => ∃ y : Fct, u = .agg (encFct y).toArray ∧ y.f = ⟨t, mem.getD 0 default, -1, rowG (recs.getD (mem.getD k default).toNat default), 0, [mem.getD k default]⟩ ∧ OwnT encVal 3 55 w7.heap.size w' y.ra y.rc y.f.row ∧ OwnT encI 1 3 w7.heap.size w' y.fa y.fc y.f.frm) (fun u a b _ ⟨x, hx, h1, h2, h3⟩ eb => ⟨x, hx, h1, h2.ext eb, h3.ext eb⟩) rfl (fun wq eq hq => by
            obtain ⟨x, hx, ho⟩ := hq 11 (by kernel_rfl)
            obtain ⟨b, hb, hO⟩ := hq 16 (by kernel_rfl)
            rw [hx, hb]
            exact yieldsR_run (R.build Try.zeroValue48 Try.runUnderlying48 pl48 rfl) ⟨⟨⟨⟨t, mem.getD 0 default, -1, rowG (recs.getD (mem.getD k default).toNat default), 0, [mem.getD k default]⟩, x.1, x.2, some ⟨b, 0, none⟩, 1⟩, rfl, rfl, ho, hO⟩, Mod.refl _ _⟩) (VS.spec (fun u w' => ∃ b, u = .pointer (some ⟨b, 0, none⟩) ∧ w7.heap.size ≤ b ∧ Blk w' b (.cells (Try.t48.zero.getD undef).cells 48 (0, 0))) (fun u a b _ ⟨x, hx, h1, h2⟩ eb => ⟨x, hx, h1, h2.ext eb⟩) rfl (fun wq eq hq => yieldsR_mono (yieldsR_alloc Try.zeroValue48) fun u w' ⟨⟨b, h1, h2, h3⟩, he⟩ => ⟨⟨b, h1, Nat.le_trans eq.size h2, h3⟩, he⟩) (VS.nil (fun w8 e8 h8 => ?_))))))))))))))))))))) rfl
      obtain ⟨y, hy, hyf, hy1, hy2⟩ := h8 17
      obtain ⟨b18, hb18, hge18, hB18⟩ := h8 18
      rw [hy, hb18]
      have hs8 := e8.size
      have hn1 : ¬ aBlk y.ra b18 := fun h => by have := hy1.ty hB18 h; cases this
      have hn2 : ¬ aBlk y.fa b18 := fun h => by have := hy2.ty hB18 h; cases this
      refine VL.store (v := .agg _) Try.sizeOf48 rfl rfl rfl rfl hB18 rfl rfl fun w9 m9 hs9 hB9 => VL.nil (V.cut [1, 2, 9, 10, 17, 18] (fun _ : Unit => [.slice ra recs.length rc, .slice ma mem.length mc, .pointer (some ⟨b9, 0, none⟩), .slice a2 l2.length cap2, .int .i64 (k : Nat), .pointer (some ⟨b18, 0, none⟩)]) (fun _ w' => Ext w7 w' ∧ ∃ y : Fct, Blk w' b18 (.cells (encFct y).toArray 48 (0, 0)) ∧ y.f = spF recs mem t k ∧ OwnT encVal 3 55 w7.heap.size w' y.ra y.rc y.f.row ∧ OwnT encI 1 3 w7.heap.size w' y.fa y.fc y.f.frm) (V.seq (V.region (VL.op (R.mvI rfl) (VL.op (R.eql rfl rfl) (VL.nil (V.condP rfl (fun c129 => V.region (VL.op (R.fld' (o := 4) Try.runUnderlying48 rfl rfl Try.sizeOf3 rfl rfl) (VL.store (v := .int _ _) Try.sizeOf3 rfl rfl rfl rfl hB9 rfl rfl fun w10 m10 hs10 hB10 => VL.nil (?_)))) (fun c129 => V.skip (?_)))))))) (fun rgC129 xC129 wBC129 hBC129 => ?_))
      · have hk0 : k = 0 := by omega
        refine ⟨(), rfl, Mod.own (Mod.own e8 m9 hge18) m10 hge18, ⟨{ y.f with cost := 2 }, y.ra, y.rc, y.fa, y.fc⟩, ?_, ?_, ?_, ?_⟩
        · exact hB10
        · rw [hyf, hk0]; rfl
        · exact (hy1.mod m9 fun q hq h => hn1 ((show q = b18 from h) ▸ hq)).mod m10 fun q hq h => hn1 ((show q = b18 from h) ▸ hq)
        · exact (hy2.mod m9 fun q hq h => hn2 ((show q = b18 from h) ▸ hq)).mod m10 fun q hq h => hn2 ((show q = b18 from h) ▸ hq)
      · have hk0 : ¬ k = 0 := by omega
        refine ⟨(), rfl, Mod.own e8 m9 hge18, y, ?_, ?_, ?_, ?_⟩
        · exact hB9
        · rw [hyf]; unfold spF; rw [if_neg hk0]
        · exact hy1.mod m9 fun q hq h => hn1 ((show q = b18 from h) ▸ hq)
        · exact hy2.mod m9 fun q hq h => hn2 ((show q = b18 from h) ▸ hq)
      · obtain ⟨eC, z, hBz, hzf, hz1, hz2⟩ := hBC129
        have hsC := eC.size
        have hl1 : ∀ q, aBlk a2 q → q < w7.heap.size := fun q hq => hJ2.fs.own.lt q hq
        refine V.region (VL.op (R.mvS rfl) (VL.op (R.ldA Try.isAgg48 Try.sizeOf48 rfl rfl ((show RowAt _ _ _ (encFct z) from (hBz.ext (Mod.refl _ _)).rowAt 0 6)) rfl) (VL.append1 el41 Try.runUnderlying41 Try.sizeOf48 Try.zeroValue48 rfl (z) rfl rfl rfl ((hJ2.later eC).fs.own) rfl rfl rfl (by omega) (by unfold maxLen; omega) (by omega) fun a19 ca19 w19 vt19 ho19 m19 hf19 => VL.op (R.asS rfl) (VL.nil (V.region (VL.op (R.mvI rfl) (VL.op (R.add rfl rfl (by omega) (by omega)) (VL.op (R.asI rfl) (VL.nil (?_))))))))))
        have hzW : FctW wBC129 z := ⟨hz1.sl, hz2.sl, fun q hq => hz1.lt q hq, fun q hq => hz2.lt q hq⟩
        have hfs19 := (hJ2.later eC).fs.snoc hzW ⟨fun q h1 h2 => by have := hz1.ge q h2; have := hl1 q h1; omega, fun q h1 h2 => by have := hz2.ge q h2; have := hl1 q h1; omega⟩ ⟨fun q hq => by have := hz1.ge q hq; omega, fun q hq => by have := hz2.ge q hq; omega⟩ ho19 m19 hf19
        refine ⟨(k + 1, l2 ++ [z], a19, ca19), ?_, ⟨by dsimp only; omega, fun h => by omega, ⟨Mod.ownA (hJ2.ex.trans eC) m19 hJ2.ge, hfs19, fun q hq => ?_, ?_⟩⟩, by dsimp only; omega⟩
        · dsimp only; rw [List.length_append]; rfl
        · rcases hf19 q hq with h | h
          · exact hJ2.ge q h
          · omega
        · rw [List.map_append, hJ2.eq, range_succ_map, List.append_assoc, List.map_singleton, hzf]
    · have hm1 : mem.length = 1 := by omega
      have hk0 := hk1 hm1
      subst hk0
      have := hJ2.eq
      refine ⟨(l2, a2, cap2), rfl, ⟨hJ2.fs, ?_⟩, ((e1.trans e2).trans E4).trans hJ2.ex⟩
      rw [hfg, if_pos hm1]; simpa using this
    · have hkl : k = mem.length := by omega
      have hm1 : ¬ mem.length = 1 := fun h => by have := hk1 h; omega
      subst hkl
      refine ⟨(l2, a2, cap2), rfl, ⟨hJ2.fs, ?_⟩, ((e1.trans e2).trans E4).trans hJ2.ex⟩
      rw [hfg, if_neg hm1]; exact hJ2.eq
end Go.Proofs.Ytckihgamnmmbnaa

/- Golden: the reference's facts. -/
namespace Go.Proofs.Ytckihgamnmmbnaa
open Go.Vc Go.Sort

theorem grp_tab {s : Set_} {recs : List Rec} {L : List Int} (ha : ∀ i, i < L.length → entAt s recs L i) {h m : Int} (hm : m ∈ grpF L h L.length) : (recs.getD m.toNat default).table = tabOf recs h ∧ formedG s (recs.getD m.toNat default) = true := by
  obtain ⟨k, hk, he, rfl⟩ := grpF_mem.1 hm
  obtain ⟨_, h2, h3⟩ := ha k hk
  rw [he] at h3
  exact ⟨h3.symm, h2⟩
theorem grp_memB {s : Set_} {recs : List Rec} {L : List Int} (hl : L.length = recs.length) (ha : ∀ i, i < L.length → entAt s recs L i) {h : Int} (hh : h ∈ headsF L L.length) : memB s recs (grpF L h L.length) = true := by
  have ho := grp_ok hl ha hh
  refine decide_eq_true ⟨ho.pos, fun i hi => ?_⟩
  have hm := gmem hi
  obtain ⟨h1, h2, h3⟩ := ho.mem _ hm
  have h4 := grp_tab ha hm
  refine ⟨⟨h1, h2, fun hp => ?_⟩, h4.2, ?_⟩
  · have := List.pairwise_iff_getElem.1 (grpF_lt L h L.length) (i - 1) i (by omega) hi (by omega)
    simpa [List.getD, hi, show i - 1 < (grpF L h L.length).length by omega] using this
  · rw [h4.1, (grp_tab ha (gmem ho.pos)).1]
theorem flat_len {α β : Type} (f : α → List β) (M : Nat) (l : List α) (h : ∀ x ∈ l, (f x).length ≤ M) : (l.flatMap f).length ≤ l.length * M := by
  induction l with
  | nil => simp
  | cons a l ih =>
    rw [List.flatMap_cons, List.length_append, List.length_cons, Nat.succ_mul]
    have := ih fun x hx => h x (by simp [hx])
    have := h a (by simp)
    omega
def hsU (recs : List Rec) (L : List Int) (t : Nat) : List Int := (List.range t).flatMap fun t => (headsF L L.length).filter fun h => decide (tabOf recs h = (t : Nat))
def hsI (recs : List Rec) (L : List Int) (t e : Nat) : List Int := (headsF L e).filter fun h => decide (tabOf recs h = (t : Nat))
theorem hsU_succ (recs : List Rec) (L : List Int) (t : Nat) : hsU recs L (t + 1) = hsU recs L t ++ hsI recs L t L.length := by
  unfold hsU hsI
  rw [List.range_succ, List.flatMap_append]; simp
theorem hsI_succ (recs : List Rec) (L : List Int) (t e : Nat) : hsI recs L t (e + 1) = hsI recs L t e ++ if L.getD e default = (e : Nat) ∧ tabOf recs (e : Nat) = (t : Nat) then [(e : Int)] else [] := by
  unfold hsI
  rw [headsF_succ, List.filter_append]
  congr 1
  by_cases h : L.getD e default = (e : Nat)
  · rw [if_pos h]
    by_cases h2 : tabOf recs (e : Nat) = (t : Nat)
    · rw [if_pos ⟨h, h2⟩, List.filter_cons_of_pos (by simpa using h2)]; rfl
    · rw [if_neg fun hh => h2 hh.2, List.filter_cons_of_neg (by simpa using h2)]; rfl
  · rw [if_neg h, if_neg fun hh => h hh.1]; rfl
theorem hsI_len (recs : List Rec) (L : List Int) (t e : Nat) : (hsI recs L t e).length ≤ e := Nat.le_trans (List.length_filter_le _ _) (headsF_len L e)
theorem hsU_len (recs : List Rec) (L : List Int) (t : Nat) : (hsU recs L t).length ≤ t * L.length := by
  induction t with
  | zero => simp [hsU]
  | succ t ih =>
    rw [hsU_succ, List.length_append, Nat.succ_mul]
    have := hsI_len recs L t L.length
    omega
theorem entF_len (s : Set_) (recs : List Rec) (L : List Int) (h : Int) : (entF s recs L h).length ≤ 5 + L.length := by
  have h1 := factsG_len s recs (grpF L h L.length) (tabOf recs h)
  have h2 := grpF_len L h L.length
  unfold entF
  omega
theorem hs_bound (s : Set_) (recs : List Rec) (L : List Int) (t e : Nat) (hL : L.length ≤ 1000) (ht : t ≤ 1000000) (he : e ≤ L.length) : ((hsU recs L t ++ hsI recs L t e).flatMap (entF s recs L)).length ≤ 1100000000000 := by
  have h1 := hsU_len recs L t
  have h2 := hsI_len recs L t e
  have h3 := flat_len (entF s recs L) 1005 (hsU recs L t ++ hsI recs L t e) fun x _ => Nat.le_trans (entF_len s recs L x) (by omega)
  rw [List.length_append] at h3
  have h4 : t * L.length ≤ 1000000 * 1000 := Nat.mul_le_mul ht hL
  have h5 : ((hsU recs L t).length + (hsI recs L t e).length) * 1005 ≤ (1000000 * 1000 + 1000) * 1005 := Nat.mul_le_mul_right _ (by omega)
  omega
set_option maxRecDepth 100000 in
set_option maxHeartbeats 8000000 in
theorem rfacts_spec (s : Set_) (recs : List Rec) (L : List Int) (ra la : Option Addr) (rc lc : Nat) (w : World) (hs : Small s recs L) (hL1 : L.length ≤ 1000 ∨ L.length ≠ recs.length) (hS : SetW w s) (hR : RecsW w ra recs) (hL : IntSl w la L) :
    RetsX Try.prog 14 #[.agg (encSet s).toArray, .slice ra recs.length rc, .slice la L.length lc] w
      (fun x : List Fct × Option Addr × Nat => .tuple #[.slice x.2.1 x.1.length x.2.2, .int .i64 (resF s recs L).2])
      (fun x w' => FctsW w' w.heap.size x.2.1 x.2.2 x.1 ∧ x.1.map (·.f) = (resF s recs L).1) := by
  have hms := hs.nm
  have hnr := hs.nr
  have hnt := hs.nt
  refine enter (args := [_, _, _]) Try.func14 rfl Try.ntmps14 (by kernel_rfl) rfl ?_
  refine V.seq (V.region (VL.box (v := .agg _) rfl fun b1 w1 hb1 e1 hX1 => VL.op (R.asS rfl) (VL.op (R.asI rfl) (VL.nil (V.seq (V.seq (V.region (VL.op (R.ldA Try.isAgg32 Try.sizeOf32 rfl rfl ((show RowAt _ _ _ (encSet s) from (hX1.ext (Mod.refl _ _)).rowAt 0 7)) rfl) (VL.op (R.mvS rfl) (VL.op (R.mvS rfl) (VL.callP Try.call35 rfl (rents_spec s recs L ra la rc lc _ hs (hS.ext e1) (hR.ext e1) (hL.ext e1)) fun w1_3 e1_3 => VL.op (R.not rfl) (VL.nil (V.cond rfl (fun c15 => V.seq (?_)) (fun c15 => V.skip (V.seq (?_))))))))))))))))
  · have hb : entB s recs L = false := by simpa using c15
    have hres : resF s recs L = ([], 1) := by unfold resF; rw [if_neg (by rw [hb]; decide)]
    rw [hres]
    refine V.region (VL.op (R.asS rfl) (VL.op (R.asI rfl) (VL.nil (V.ret (fret2 (v := .slice _ _ _) (x := .int _ _) rfl rfl rfl rfl rfl (⟨([], none, 0), rfl, ⟨FctsW.nil _ _, rfl⟩, e1.trans (by assumption)⟩))))))
  · have hb : entB s recs L = true := by simpa using c15
    obtain ⟨hlen, hi⟩ := of_decide_eq_true hb
    have hL1 : L.length ≤ 1000 := by omega
    have hS1 := (hS.ext e1).ext e1_3
    have hR1 := (hR.ext e1).ext e1_3
    have hL2 := (hL.ext e1).ext e1_3
    have hX1 := hX1.ext e1_3
    have hp := heads_ok hlen hi
    have s1 := e1.size
    have s13 := e1_3.size
    refine V.region (VL.op (R.asS rfl) (VL.nil (V.seq (V.seq (V.region (VL.op (R.asI rfl) (VL.nil (V.block (?_)))))))))
    refine V.loop [1, 2, 3, 8, 9] (fun x : Nat × List Fct × Option Addr × Nat => [.slice ra recs.length rc, .slice la L.length lc, .pointer (some ⟨b1, 0, none⟩), .slice x.2.2.1 x.2.1.length x.2.2.2, .int .i64 (x.1 : Nat)])
      (fun x w' => x.1 ≤ s.tabs.length ∧ Ext w1_3 w' ∧ FctsW w' w1_3.heap.size x.2.2.1 x.2.2.2 x.2.1 ∧ x.2.1.map (·.f) = (hsU recs L x.1 ++ hsI recs L x.1 0).flatMap (entF s recs L)) (fun x => s.tabs.length - x.1) (0, [], none, 0) rfl ⟨Nat.zero_le _, Mod.refl _ _, FctsW.nil _ _, rfl⟩ ?_
    rintro ρ ⟨t, l, a, cap⟩ w2 ⟨ht, e2, hF, hq⟩
    dsimp only at ht e2 hF hq ⊢
    have hX2 := hX1.ext e2
    refine V.seq (V.seq (V.region (VL.op (R.mvI rfl) (VL.op (R.fld' (o := 0) Try.runUnderlying32 rfl rfl Try.sizeOf24 rfl rfl) (VL.op (R.fld' (o := 0) Try.runUnderlying24 rfl rfl Try.sizeOf22 rfl rfl) (VL.op (R.ld1 Try.isAgg22 rfl (((hX2.ext (Mod.refl _ _)).cell 0))) (VL.op (R.lenS Try.runUnderlying22 rfl) (VL.op (R.lss rfl rfl) (VL.nil (V.condP rfl (fun c21 => V.skip (V.seq (V.block (V.seq (?_))))) (fun c21 => V.exit (V.seq (V.seq (?_))))))))))))))
    · have htl : t < s.tabs.length := by omega
      refine V.region (VL.op (R.asI rfl) (VL.nil (V.block (?_))))
      refine V.loop [1, 2, 3, 8, 9, 10] (fun x : Nat × List Fct × Option Addr × Nat => [.slice ra recs.length rc, .slice la L.length lc, .pointer (some ⟨b1, 0, none⟩), .slice x.2.2.1 x.2.1.length x.2.2.2, .int .i64 (t : Nat), .int .i64 (x.1 : Nat)])
        (fun x w' => x.1 ≤ L.length ∧ Ext w1_3 w' ∧ FctsW w' w1_3.heap.size x.2.2.1 x.2.2.2 x.2.1 ∧ x.2.1.map (·.f) = (hsU recs L t ++ hsI recs L t x.1).flatMap (entF s recs L)) (fun x => L.length - x.1) (0, l, a, cap) rfl ⟨Nat.zero_le _, e2, hF, hq⟩ ?_
      rintro ρ ⟨k, l2, a2, cap2⟩ w3 ⟨hk, e3, hF3, hq3⟩
      dsimp only at hk e3 hF3 hq3 ⊢
      have hS3 := hS1.ext e3
      have hR3 := hR1.ext e3
      have hL3 := hL2.ext e3
      have hX3 := hX1.ext e3
      have hsu := hsI_succ recs L t k
      have hlb := hs_bound s recs L t k hL1 (by omega) hk
      rw [← hq3, List.length_map] at hlb
      refine V.seq (V.seq (V.region (VL.op (R.mvI rfl) (VL.op (R.mvS rfl) (VL.op (R.lenS Try.runUnderlying34 rfl) (VL.op (R.lss rfl rfl) (VL.nil (V.condP rfl (fun c27 => V.skip (V.seq (V.block (V.seq (V.region (VL.op (R.mvS rfl) (VL.op (R.mvI rfl) (VL.op (R.ixS Try.runUnderlying34 Try.sizeOf3 rfl rfl (by omega) (by omega) ((hL3).some (i := k) (by omega))) (VL.op (R.ld1 Try.isAgg3 rfl (((((hL3).ext (Mod.refl _ _)).row (i := k) (by omega)).cell (i := 0) rfl))) (VL.op (R.mvI rfl) (VL.op (R.eql rfl rfl) (VL.op (R.mvB rfl) (VL.andP rfl rfl (fun g10_6 => VL.op (R.mvS rfl) (VL.gT rfl rfl (VL.op (R.mvI rfl) (VL.gT rfl rfl (VL.op (R.ixS Try.runUnderlying33 Try.sizeOf53 rfl rfl (by omega) (by omega) (hR3.sl.some (i := k) (by omega))) (VL.gT rfl rfl (VL.op (R.fld' (o := 3) Try.runUnderlying53 rfl rfl Try.sizeOf3 rfl rfl) (VL.gT rfl rfl (VL.op (R.ld1 Try.isAgg3 rfl ((((hR3.sl.ext (Mod.refl _ _)).row (i := k) (by omega)).cell (i := 3) rfl))) (VL.gT rfl rfl (VL.op (R.mvI rfl) (VL.gT rfl rfl (VL.op (R.eql rfl rfl) (VL.op (R.pickTB rfl rfl) (VL.nil (V.condP rfl (fun c44 => ?_) (fun c44 => V.skip (V.region (VL.op (R.mvI rfl) (VL.op (R.add rfl rfl (by omega) (by omega)) (VL.op (R.asI rfl) (VL.nil (?_))))))))))))))))))))))) (fun g10_6 => VL.gF rfl rfl (VL.gF rfl rfl (VL.gF rfl rfl (VL.gF rfl rfl (VL.gF rfl rfl (VL.gF rfl rfl (VL.op (R.pickFB rfl rfl) (VL.nil (V.condF rfl (V.skip (V.region (VL.op (R.mvI rfl) (VL.op (R.add rfl rfl (by omega) (by omega)) (VL.op (R.asI rfl) (VL.nil (?_))))))))))))))))))))))))))))) (fun c27 => V.exit (V.region (VL.op (R.mvI rfl) (VL.op (R.add rfl rfl (by omega) (by omega)) (VL.op (R.asI rfl) (VL.nil (?_)))))))))))))))
      · have hkl : k < L.length := by omega
        have hcond : L.getD k default = (k : Nat) ∧ tabOf recs (k : Nat) = (t : Nat) := ⟨g10_6, c44⟩
        rw [if_pos hcond] at hsu
        have hhm : ((k : Nat) : Int) ∈ headsF L L.length := headsF_mem.2 ⟨k, hkl, g10_6, rfl⟩
        have hmb := grp_memB hlen hi hhm
        have hok := grp_ok hlen hi hhm
        have hgl := grpF_len L (k : Nat) L.length
        have hsm : Small s recs (grpF L (k : Nat) L.length) := ⟨by omega, hs.nr, hs.nk, hs.no, hs.nt, hs.nc⟩
        have hfe : factsG s recs (grpF L (k : Nat) L.length) (recs.getD ((grpF L (k : Nat) L.length).getD 0 default).toNat default).table = entF s recs L (k : Nat) := by
          rw [(grp_tab hi (gmem hok.pos)).1]; rfl
        refine V.regionS mixed 7 (by kernel_rfl) rfl (fun us => VS.op (fun wq eq => R.mvS rfl) (VS.op (fun wq eq => R.ldA Try.isAgg32 Try.sizeOf32 rfl rfl ((show RowAt _ _ _ (encSet s) from (hX3.ext eq).rowAt 0 7)) rfl) (VS.op (fun wq eq => R.mvS rfl) (VS.op (fun wq eq => R.mvS rfl) (VS.op (fun wq eq => R.mvI rfl) (VS.callX (fun u w' => ∃ x : Option Addr × Nat, u = .slice x.1 (grpF L (k : Nat) L.length).length x.2 ∧ OwnT encI 1 3 w3.heap.size w' x.1 x.2 (grpF L (k : Nat) L.length)) (fun u a b _ ⟨x, hx, h1⟩ eb => ⟨x, hx, h1.ext eb⟩) Try.call18 rfl (fun wq eq hq => Rets.mono (rmem_spec L (k : Nat) la lc wq hms (hL3.ext eq)) fun u w' ⟨x, hu, h1, he⟩ => ⟨⟨x, hu, h1.weaken eq.size⟩, he⟩) (VS.callX (fun u w' => ∃ x : List Fct × Option Addr × Nat, u = .slice x.2.1 x.1.length x.2.2 ∧ FctsW w' w3.heap.size x.2.1 x.2.2 x.1 ∧ x.1.map (·.f) = entF s recs L (k : Nat)) (fun u a b _ ⟨x, hx, h1, h2⟩ eb => ⟨x, hx, h1.ext eb, h2⟩) Try.call36 rfl (fun wq eq hq => by
              obtain ⟨y, hy, hO⟩ := hq 5 (by kernel_rfl)
              rw [hy]
              exact Rets.mono (rentity_spec s recs (grpF L (k : Nat) L.length) ra y.1 rc y.2 w3.heap.size wq hsm (hS3.ext eq) (hR3.ext eq) hO.sl hmb hO.ge eq.size) fun u w' ⟨x, hu, ⟨h1, h2⟩, he⟩ => ⟨⟨x, hu, h1, h2.trans hfe⟩, he⟩) (VS.nil (fun w8 e8 h8 => ?_))))))))) rfl
        obtain ⟨x, hx, hxF, hxq⟩ := h8 6
        rw [hx]
        have hxl : x.1.length ≤ 5 + L.length := by
          have h1 := congrArg List.length hxq
          have h2 := entF_len s recs L (k : Nat)
          rw [List.length_map] at h1
          omega
        have hF8 := hF3.ext e8
        have hs8 := e8.size
        have hs3 := e3.size
        refine VL.appendT el41 (fun _ => rfl) rfl (rfl) (hF8.own) rfl (rfl) (hxF.own.sl) (hxF.own.hax) (by omega) (by unfold maxLen; omega) (by omega) rfl fun a9 cap9 w9 ho9 m9 hf9 => VL.op (R.asS rfl) (VL.nil (V.region (VL.op (R.mvI rfl) (VL.op (R.add rfl rfl (by omega) (by omega)) (VL.op (R.asI rfl) (VL.nil (?_)))))))
        have hF9 := hF8.app (l2 := x.1) (fun y hy => hxF.each y hy) (fun y hy => ⟨fun q h1 h2 => by have := (hxF.lo y hy).1 q h2; have := hF3.own.lt q h1; omega, fun q h1 h2 => by have := (hxF.lo y hy).2 q h2; have := hF3.own.lt q h1; omega⟩) (fun y hy => ⟨fun q hk => by have := (hxF.lo y hy).1 q hk; omega, fun q hk => by have := (hxF.lo y hy).2 q hk; omega⟩) ho9 m9 hf9
        refine ⟨(k + 1, l2 ++ x.1, a9, cap9), ?_, ⟨by dsimp only; omega, Mod.ownA (e3.trans e8) m9 hF8.own.ge, hF9, ?_⟩, by dsimp only; omega⟩
        · dsimp only; rw [List.length_append]; rfl
        · dsimp only
          rw [List.map_append, hq3, hxq, hsu, ← List.append_assoc, List.flatMap_append (xs := hsU recs L t ++ hsI recs L t k)]; simp
      · rw [if_neg fun h => by exact absurd h.2 (by assumption), List.append_nil] at hsu
        exact ⟨(k + 1, l2, a2, cap2), rfl, ⟨by dsimp only; omega, e3, hF3, by dsimp only; rw [hsu]; exact hq3⟩, by dsimp only; omega⟩
      · rw [if_neg fun h => by exact absurd h.1 (by assumption), List.append_nil] at hsu
        exact ⟨(k + 1, l2, a2, cap2), rfl, ⟨by dsimp only; omega, e3, hF3, by dsimp only; rw [hsu]; exact hq3⟩, by dsimp only; omega⟩
      · have hkl : k = L.length := by omega
        subst hkl
        refine ⟨(t + 1, l2, a2, cap2), rfl, ⟨by dsimp only; omega, e3, hF3, ?_⟩, by dsimp only; omega⟩
        dsimp only
        rw [hsU_succ, hq3]
        simp [hsI, headsF]
    · have htl : t = s.tabs.length := by omega
      subst htl
      have hall : allF s recs L = (hsU recs L s.tabs.length ++ hsI recs L s.tabs.length 0).flatMap (entF s recs L) := by
        have : hsI recs L s.tabs.length 0 = [] := by simp [hsI, headsF]
        rw [this, List.append_nil]; rfl
      rw [← hall] at hq
      have hll : l.length = (allF s recs L).length := by rw [← hq, List.length_map]
      have E2 := (e1.trans e1_3).trans e2
      refine V.region (VL.op (R.mvS rfl) (VL.op (R.lenS Try.runUnderlying41 rfl) (VL.op (R.gtr rfl rfl) (VL.nil (V.condP rfl (fun c55 => V.seq (?_)) (fun c55 => V.skip (V.seq (?_))))))))
      · have hres : resF s recs L = ([], 3) := by unfold resF; rw [if_pos hb, if_neg (by omega)]
        rw [hres]
        refine V.region (VL.op (R.asS rfl) (VL.op (R.asI rfl) (VL.nil (V.ret (fret2 (v := .slice _ _ _) (x := .int _ _) rfl rfl rfl rfl rfl (⟨([], none, 0), rfl, ⟨FctsW.nil _ _, rfl⟩, E2⟩))))))
      · have hres : resF s recs L = (allF s recs L, 0) := by unfold resF; rw [if_pos hb, if_pos (by omega)]
        rw [hres]
        refine V.region (VL.op (R.mvS rfl) (VL.op (R.asS rfl) (VL.op (R.asI rfl) (VL.nil (V.ret (fret2 (v := .slice _ _ _) (x := .int _ _) rfl rfl rfl rfl rfl (⟨(l, a, cap), rfl, ⟨hF.weaken (by omega), hq⟩, E2⟩)))))))
end Go.Proofs.Ytckihgamnmmbnaa
