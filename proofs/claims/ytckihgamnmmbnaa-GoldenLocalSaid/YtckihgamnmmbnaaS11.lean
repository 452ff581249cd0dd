/- survive's ranked: the candidates. -/
import Derived.Test.YtckihgamnmmbnaaZG
import Derived.Test.YtckihgamnmmbnaaS9
import Derived.Test.YtckihgamnmmbnaaVcOwn
namespace Go.Proofs.Ytckihgamnmmbnaa
open Go.Vc Go.Sort

def rulesV : List Value := [.nilFunc, .func (.func 71) #[] #[], .func (.func 72) #[] #[], .func (.func 73) #[] #[], .func (.func 74) #[] #[], .func (.func 75) #[] #[], .func (.func 76) #[] #[]]
theorem rules_spec (w : World) : RetsP Try.prog 62 #[] w (.agg rulesV.toArray) := by
  refine enter (args := []) Try.func62 rfl Try.ntmps62 (by kernel_rfl) rfl ?_
  refine V.seq (V.region (VL.alloc Try.zeroValue121 fun b0_0 w0_0 hb0_0 e0_0 hB0_0 => VL.nil (V.seq (V.region (VL.op (R.buildArr Try.zeroValue121 Try.runUnderlying121 Try.sizeOf120 rfl) (VL.store (v := .agg _) Try.sizeOf121 rfl rfl rfl rfl hB0_0 rfl rfl fun w1_1 m1_1 hs1_1 hB1_1 => VL.nil (V.ret (fretC rfl rfl rfl Try.isAgg121 Try.sizeOf121 rfl (hB1_1.rowAt 0 7) rfl (⟨rfl, (Mod.own e0_0 m1_1 (Nat.le_of_eq (Eq.symm hb0_0)))⟩)))))))))

/-- The candidates among the first 'k' cells, with no frequency yet. -/
def cand0 (l : List Cell) (t : List Int) (i : Nat) : Cand := ⟨l.getD i default, i, t.getD i 0, 0⟩
def idxK (l : List Cell) (k : Nat) : List Nat := (List.range k).filter fun i => counts (l.getD i default)
def candsK (l : List Cell) (t : List Int) (k : Nat) : List Cand := (idxK l k).map (cand0 l t)
theorem candsK_len (l : List Cell) (t : List Int) (k : Nat) : (candsK l t k).length ≤ k := by
  unfold candsK idxK
  rw [List.length_map]
  exact Nat.le_trans (List.length_filter_le _ _) (by simp)
theorem candsK_succ (l : List Cell) (t : List Int) (k : Nat) : candsK l t (k + 1) = if counts (l.getD k default) = true then candsK l t k ++ [cand0 l t k] else candsK l t k := by
  unfold candsK idxK
  rw [List.range_succ, List.filter_append, List.map_append]
  by_cases h : counts (l.getD k default) = true
  · rw [if_pos h, List.filter_cons, if_pos h]; rfl
  · rw [if_neg h, List.filter_cons, if_neg h]; simp
/-- How many of the first 'k' cells that count have a value. -/
def cntK (l : List Cell) (k : Nat) (v : Val) : Nat := ((l.take k).filter fun c => counts c && decide (c.val = v)).length
theorem cntK_succ (l : List Cell) (k : Nat) (v : Val) (hk : k < l.length) : cntK l (k + 1) v = cntK l k v + (if (counts (l.getD k default) && decide ((l.getD k default).val = v)) = true then 1 else 0) :=
  filter_snoc (fun c : Cell => counts c && decide (c.val = v)) l k hk
theorem cntK_le (l : List Cell) (k : Nat) (v : Val) : cntK l k v ≤ k := filter_le _ _ _

theorem cand_len (c : Cand) : (encCand c).length = 8 := rfl
theorem cand_one (c : Cand) : allOne (encCand c) = true := rfl
theorem eltC : Elt encCand 8 := ⟨cand_len, cand_one, by decide⟩

/-- The slice and the map so far. -/
structure RankJ (l : List Cell) (t : List Int) (w0 : World) (r k : Nat) (M : List (Val × Value)) (a : Option Addr) (cap : Nat) (w : World) : Prop where
  e : Ext w0 w
  lo : w0.heap.size ≤ r
  own : OwnT encCand 8 112 (r + 1) w a cap (candsK l t k)
  map : MapIs w r encV M
  val : ∀ v, (mget M v).getD (.int .i64 0) = .int .i64 (cntK l k v)

def cfN (by_ : Int) (l : List Cell) (t : List Int) (i j : Nat) : Int := cmpC by_ (cand l t i) (cand l t j)
def ltN (by_ : Int) (l : List Cell) (t : List Int) : Nat → Nat → Bool := SrtC.ltf (cfN by_ l t)
def encN (l : List Cell) (t : List Int) (i : Nat) : List Value := encCand (cand l t i)
def rankL (by_ : Int) (l : List Cell) (t : List Int) : List Nat := (idxK l l.length).mergeSort fun x y => !ltN by_ l t y x
theorem swo_of {α : Type} {f : α → α → Int} (h : Cmp f) : SWO (SrtC.ltf f) where
  irrefl x := by simp [SrtC.ltf, h.self]
  trans x y z h1 h2 := by
    simp only [SrtC.ltf, decide_eq_true_eq] at *
    exact h.transL h1 (by omega)
  ntrans x y z h1 h2 := by
    simp only [SrtC.ltf, decide_eq_false_iff_not] at *
    have a1 := h.anti x y
    have a2 := h.anti y z
    have a3 := h.anti x z
    have := h.trans z y x (by omega) (by omega)
    omega
theorem ltN_swo (by_ : Int) (l : List Cell) (t : List Int) : SWO (ltN by_ l t) := swo_of ((cmpC_cmp by_).on (cand l t))
theorem ltN_total (by_ : Int) (l : List Cell) (t : List Int) (x y : Nat) (h1 : ltN by_ l t x y = false) (h2 : ltN by_ l t y x = false) : x = y := by
  have h1 : ¬ cmpC by_ (cand l t x) (cand l t y) < 0 := of_decide_eq_false h1
  have h2 : ¬ cmpC by_ (cand l t y) (cand l t x) < 0 := of_decide_eq_false h2
  have a1 := (cmpC_cmp by_).anti (cand l t x) (cand l t y)
  have := cmpC_at (by_ := by_) (a := cand l t x) (b := cand l t y) (by omega)
  have : (x : Int) = y := this
  omega
theorem rules_at (n : Nat) (h1 : 1 ≤ n) (h6 : n ≤ 6) : rulesV[n]? = some (.func (.func (ruleF n)) #[] #[]) := by
  obtain rfl | rfl | rfl | rfl | rfl | rfl : n = 1 ∨ n = 2 ∨ n = 3 ∨ n = 4 ∨ n = 5 ∨ n = 6 := by omega
  all_goals rfl
def rankPre (by_ : Int) (l : List Cell) (t : List Int) : Prop := 1 ≤ by_ ∧ by_ ≤ 6 ∧ l.length = t.length
set_option maxHeartbeats 4000000 in
theorem ranked_spec (by_ : Int) (a b : Option Addr) (ca cb : Nat) (l : List Cell) (t : List Int) (w : World) (hp : rankPre by_ l t) (hm : l.length ≤ 1000000)
    (hS : CellSl w a l) (hT : IntSl w b t) :
    RetsX Try.prog 55 #[.int .i64 by_, .slice a l.length ca, .slice b t.length cb] w (fun x : Option Addr × Nat => .slice x.1 (rankL by_ l t).length x.2) (fun x w' => TSl (encN l t) 8 w' x.1 (rankL by_ l t) ∧ ∀ k, aBlk x.1 k → w.heap.size ≤ k) := by
  obtain ⟨hp1, hp2, hp3⟩ := hp
  obtain ⟨bn, rfl⟩ := toNat_of (show 0 ≤ by_ by omega)
  obtain ⟨m, hmm⟩ : ∃ m, m = (idxK l l.length).length := ⟨_, rfl⟩
  have hcm : (candsK l t l.length).length = m := by rw [hmm]; simp [candsK]
  refine enter (args := [_, _, _]) Try.func55 rfl Try.ntmps55 (by kernel_rfl) rfl ?_
  refine V.seq (V.region (VL.op (R.asS rfl) (VL.nil (V.seq (V.seq (V.regionCut [13, 14, 15, 16, 17, 18, 19, 20, 21, 22, 23, 24, 25] 25 (.bool (false)) (fun w' => Ext _ w') rfl (VL.op (R.mvI rfl) (VL.op (R.lss rfl rfl) (VL.op (R.mvB rfl) (VL.orP rfl rfl (fun g1_2 => VL.op (R.mvI rfl) (VL.gT rfl rfl (VL.op (R.gtr rfl rfl) (VL.op (R.pickFB rfl rfl) (VL.op (R.mvB rfl) (VL.orP rfl rfl (fun g1_6 => VL.op (R.mvS rfl) (VL.gT rfl rfl (VL.op (R.lenS Try.runUnderlying51 rfl) (VL.gT rfl rfl (VL.op (R.mvS rfl) (VL.gT rfl rfl (VL.op (R.lenS Try.runUnderlying34 rfl) (VL.gT rfl rfl (VL.op (R.neq rfl rfl) (VL.op (R.pickFB rfl rfl) (VL.nil ⟨rfl, cutB rfl ?_, Mod.refl _ _⟩))))))))))) (fun g1_6 => VL.gF rfl rfl (VL.gF rfl rfl (VL.gF rfl rfl (VL.gF rfl rfl (VL.op (R.pickTB rfl rfl) (VL.nil ⟨rfl, cutB rfl ?_, Mod.refl _ _⟩)))))))))))) (fun g1_2 => VL.gF rfl rfl (VL.op (R.pickTB rfl rfl) (VL.op (R.mvB rfl) (VL.gF rfl rfl (VL.gF rfl rfl (VL.gF rfl rfl (VL.gF rfl rfl (VL.gF rfl rfl (VL.op (R.pickTB rfl rfl) (VL.nil ⟨rfl, cutB rfl ?_, Mod.refl _ _⟩)))))))))))))) (fun rg1 w1c e1c => V.cond rfl (fun c25 => V.seq (V.region (VL.op (R.asS rfl) (VL.nil (V.ret (fret1 (v := .slice _ _ _) rfl rfl rfl (?_))))))) (fun c25 => V.skip (V.seq (V.region (VL.makeMap fun r w1 hr e1 hR1 => VL.op (R.asM rfl) (VL.nil (V.seq (V.region (VL.op (R.asS rfl) (VL.nil (V.cut [0, 1, 2, 7, 8] (fun x : List (Val × Value) × Option Addr × Nat => [.int .i64 bn, .slice a l.length ca, .slice b t.length cb, .map (some r), .slice x.2.1 (candsK l t l.length).length x.2.2]) (fun x w' => RankJ l t w r l.length x.1 x.2.1 x.2.2 w') (V.seq (V.region (VL.op (R.mvS rfl) (VL.op (R.lenS Try.runUnderlying51 rfl) (VL.op (R.mvI rfl) (VL.nil (V.block (?_)))))))) (fun rgB0 xB0 wBB0 hBB0 => V.cut [0, 8] (fun d : Array Cand => [.int .i64 bn, .slice xB0.2.1 m xB0.2.2]) (fun d w' => d.size = m ∧ (∀ q, q < m → d[q]! = cand l t ((idxK l l.length).getD q 0)) ∧ Mod (aBlk xB0.2.1) wBB0 w' ∧ (0 < m → Srt encCand 8 wBB0 xB0.2.1 d w')) (V.seq (V.region (VL.op (R.mvS rfl) (VL.op (R.lenS Try.runUnderlying109 rfl) (VL.op (R.mvI rfl) (VL.nil (V.block (?_)))))))) (fun rgB2 xB2 wBB2 hBB2 => V.seq (?_))))))))))))))))))))
  · simp [hp3]
  · omega
  · omega
  · cases c25
  · have hsz := e1c.size
    refine V.loop [0, 1, 2, 7, 8, 27, 28, 29] (fun x : Nat × List (Val × Value) × Option Addr × Nat => [.int .i64 bn, .slice a l.length ca, .slice b t.length cb, .map (some r), .slice x.2.2.1 (candsK l t x.1).length x.2.2.2, .slice a l.length ca, .int .i64 l.length, .int .i64 x.1])
      (fun x w' => x.1 ≤ l.length ∧ RankJ l t w r x.1 x.2.1 x.2.2.1 x.2.2.2 w') (fun x => l.length - x.1) (0, [], none, 0) rfl ⟨Nat.zero_le _, ⟨e1c.trans e1, by omega, OwnT.nil _ _ _ _ _, MapIs.empty hR1, fun v => rfl⟩⟩ ?_
    rintro ρ ⟨k, M, a2, cap⟩ w2 ⟨hk, hJ⟩
    dsimp only at hk hJ ⊢
    have hJe := hJ.e
    have hlen := candsK_len l t k
    refine V.seq (V.region (VL.op (R.lss rfl rfl) (VL.nil (V.seq (V.condP rfl (fun c30 => V.skip (V.seq (V.block (V.seq (V.region (VL.op (R.mvI rfl) (VL.op (R.ixS Try.runUnderlying51 Try.sizeOf57 rfl rfl (by omega) (by omega) (hS.some (i := k) (by omega))) (VL.op (R.ldA Try.isAgg57 Try.sizeOf57 rfl rfl (((hS.ext (hJe.trans (Mod.refl _ _))).row (i := k) (by omega))) rfl) (VL.allocSt1 (v := .agg _) (v2 := .int _ _) Try.zeroValue57 Try.sizeOf57 rfl rfl rfl rfl rfl rfl rfl rfl rfl fun b10 w10 hb10 e10 hB10 => VL.nil (V.seq (V.regionCut [34, 35, 36, 37, 38, 39, 40, 41, 42] 42 (.bool (counts (l.getD k default))) (fun w' => Ext _ w') rfl (VL.op (R.fld' (o := 0) Try.runUnderlying57 rfl rfl Try.sizeOf55 rfl rfl) (VL.op (R.ldA Try.isAgg55 Try.sizeOf55 rfl rfl ((hB10.rowAt 0 3)) rfl) (VL.callP Try.call61 rfl (valid_spec (l.getD k default).val _) fun w8_2 e8_2 => VL.op (R.mvB rfl) (VL.and rfl rfl (fun g8_3 => VL.op (R.fld' (o := 0) Try.runUnderlying57 rfl rfl Try.sizeOf55 rfl rfl) (VL.gT rfl rfl (VL.op (R.fld' (o := 0) Try.runUnderlying55 rfl rfl Try.sizeOf3 rfl rfl) (VL.gT rfl rfl (VL.op (R.ld1 Try.isAgg3 rfl (((hB10.ext e8_2).cell _))) (VL.gT rfl rfl (VL.op (R.neq rfl rfl) (VL.op (R.pickTB rfl rfl) (VL.nil ⟨rfl, cutB rfl ?_, e8_2⟩))))))))) (fun g8_3 => VL.gF rfl rfl (VL.gF rfl rfl (VL.gF rfl rfl (VL.op (R.pickFB rfl rfl) (VL.nil ⟨rfl, cutB rfl ?_, e8_2⟩))))))))) (fun rg8 w8c e8c => V.cond rfl (fun c42 => V.seq (?_)) (fun c42 => V.skip (V.region (VL.op (R.add rfl rfl (by omega) (by omega)) (VL.op (R.mvI rfl) (VL.nil (⟨(k + 1, M, a2, cap), ?_, ⟨by omega, ?_⟩, by dsimp only; omega⟩)))))))))))))))))) (fun c30 => V.exit (?_)))))))
    · rw [counts, g8_3, Bool.true_and]
    · rw [counts, g8_3]; rfl
    · obtain ⟨es, c, hMA⟩ := hJ.map
      have hrlt := hJ.map.lt
      have hv0 := hJ.val (l.getD k default).val
      have hcl := cntK_le l k (l.getD k default).val
      obtain ⟨v, hv⟩ : ∃ v, v = (l.getD k default).val := ⟨_, rfl⟩
      rw [← hv] at hv0 hcl
      have eA : Ext w2 w8c := e10.trans e8c
      refine V.regionW mixed 7 5 (by kernel_rfl) rfl (fun w' => Ext w8c w') (fun w' => MapEnt r encV (mset M v (.int .i64 (cntK l k v))) v (stampOf M es c v) w8c w') (Ext.drawn _) ?_
      refine VW.op (fun wq eq => R.mvM rfl) (VW.op (fun wq eq => R.fld' (o := 0) Try.runUnderlying57 rfl rfl Try.sizeOf55 rfl rfl) (VW.op0 (v := encV v) (fun wq eq => ?_) (VW.op (v := .int .i64 (cntK l k v)) (fun wq eq => ?_) (VW.op (fun wq eq => R.add rfl rfl (by omega) (by omega)) (VW.wr (v := .tuple #[.int .i64 (cntK l k v), .int .i64 (stampOf M es c v : Nat)]) (fun wq eq => ?_) (VW.op (fun wq eq => R.extr rfl rfl) (VW.nil fun w9 h9 => VL.entryStore rfl rfl rfl h9 fun w9b hM9 m9 => VL.nil ?_)))))))
      · rw [hv]
        exact R.ldA Try.isAgg55 Try.sizeOf55 rfl rfl (((hB10.ext e8c).ext eq).rowAt 0 3) rfl
      · rcases eq with eq | eq
        · exact R.lookupV key55 Try.runUnderlying119 Try.zeroValue3 ((hJ.map.ext eA).ext eq) hv0 rfl rfl
        · exact R.lookupV key55 Try.runUnderlying119 Try.zeroValue3 eq.is (by rw [mget_mset, if_pos rfl]; rfl) rfl rfl
      · exact R.mapEntryV key55 Try.runUnderlying119 Try.zeroValue3 eq ((hMA.mod eA fun e => e).mod eq fun e => e) hv0 rfl rfl
      · rw [mset_mset] at hM9
        have eB : Ext w w9b := Mod.ownA (hJe.trans eA) m9 fun x hx => by rw [hx]; exact hJ.lo
        have hne : ¬ one r b10 := fun e => by
          have e : b10 = r := e
          omega
        have hB9 := (hB10.ext e8c).mod m9 hne
        have hsz9 : r + 1 ≤ w9b.heap.size := by have := eA.size; have := m9.size; omega
        have hown9 := (hJ.own.ext eA).mod m9 fun x hx e => by
          have h1 := (OwnSl.blk hJ.own x hx).1
          have e : x = r := e
          omega
        refine V.regionW mixed 9 8 (by kernel_rfl) rfl (fun w' => Ext w9b w' ∧ w'.heap.size = w9b.heap.size) (fun w' => Ext w9b w' ∧ Blk w' w9b.heap.size (.cells (encCand (cand0 l t k)).toArray 112 (0, 0))) ⟨Ext.drawn _, rfl⟩ ?_
        refine VW.op (fun wq eq => R.mvS rfl) (VW.op0 (fun wq eq => R.ldA Try.isAgg57 Try.sizeOf57 rfl rfl ((hB9.ext eq.1).rowAt 0 5) rfl) (VW.op (fun wq eq => R.mvI rfl) (VW.op (fun wq eq => R.mvS rfl) (VW.op (fun wq eq => R.mvI rfl) (VW.op (fun wq eq => R.ixS Try.runUnderlying34 Try.sizeOf3 rfl rfl (by omega) (by omega) (hT.some (i := k) (by omega)))
          (VW.op0 (fun wq eq => R.ld1 Try.isAgg3 rfl (((hT.ext (eB.trans eq.1)).row (i := k) (by omega)).cell (i := 0) rfl)) (VW.op (fun wq eq => R.build Try.zeroValue112 Try.runUnderlying112 pl112 rfl) ?_)))))))
        refine VW.bs Try.runUnderlying109 Try.sizeOf112 Try.zeroValue112 rfl rfl rfl rfl rfl (VW.nil fun w11 ⟨e11, hX11⟩ => ?_)
        refine VL.appendOne el109 (cand0 l t k) rfl rfl (hown9.ext e11) rfl hX11 rfl rfl rfl (by omega) (by unfold maxLen; omega) (by have := e11.size; omega) fun a3 cap3 w12 ho12 m12 hf12 => VL.op (R.asS rfl) (VL.nil ?_)
        have hcs : candsK l t (k + 1) = candsK l t k ++ [cand0 l t k] := by rw [candsK_succ, if_pos c42]
        have hl1 : (candsK l t (k + 1)).length = (candsK l t k).length + 1 := by rw [hcs]; simp
        refine V.region (VL.op (R.add rfl rfl (by omega) (by omega)) (VL.op (R.mvI rfl) (VL.nil (⟨(k + 1, mset M v (.int .i64 ((cntK l k v : Int) + 1)), a3, cap3), ?_, ⟨by dsimp only; omega, ?_⟩, by dsimp only; omega⟩))))
        · dsimp only; rw [hl1]; rfl
        · dsimp only
          refine ⟨Mod.ownA (eB.trans e11) m12 fun x hx => ?_, hJ.lo, by rw [hcs]; exact ho12, (hM9.ext e11).mod m12 fun hx => ?_, fun u => ?_⟩
          · have := (OwnSl.blk hJ.own x hx).1
            have := hJ.lo
            omega
          · have := (OwnSl.blk hJ.own r hx).1
            omega
          · rw [mget_mset, cntK_succ l k u (by omega), c42, ← hv, Bool.true_and]
            by_cases hu : u = v
            · subst hu; simp
            · rw [if_neg hu, hJ.val u]
              have : ¬ v = u := fun e => hu e.symm
              simp [this]
    · have hcs : candsK l t (k + 1) = candsK l t k := by rw [candsK_succ, if_neg (by rw [c42]; decide)]
      dsimp only; rw [hcs]; rfl
    · have hcs : candsK l t (k + 1) = candsK l t k := by rw [candsK_succ, if_neg (by rw [c42]; decide)]
      dsimp only
      refine ⟨hJe.trans (e10.trans e8c), hJ.lo, by rw [hcs]; exact hJ.own.ext (e10.trans e8c), hJ.map.ext (e10.trans e8c), fun u => ?_⟩
      rw [cntK_succ l k u (by omega), c42, hJ.val u]; simp
    · have hkl : k = l.length := by omega
      subst hkl
      exact ⟨(M, a2, cap), rfl, hJ⟩
  · have elt := eltC
    have hm0 : 0 < m → Srt encCand 8 wBB0 xB0.2.1 (candsK l t l.length).toArray wBB0 := fun h => Srt.of_own eltC (by simpa using hBB0.own) (by simp; omega)
    have hlt := hBB0.map.lt
    have hnr : ¬ aBlk xB0.2.1 r := fun h => by have := (OwnSl.blk hBB0.own r h).1; omega
    have hml : m ≤ l.length := by rw [← hcm]; exact candsK_len l t l.length
    refine V.loop [0, 7, 8, 62, 63] (fun x : Nat × Array Cand => [.int .i64 bn, .map (some r), .slice xB0.2.1 m xB0.2.2, .int .i64 m, .int .i64 x.1])
      (fun x w' => x.1 ≤ m ∧ x.2.size = m ∧ (∀ q, q < m → x.2[q]! = if q < x.1 then cand l t ((idxK l l.length).getD q 0) else cand0 l t ((idxK l l.length).getD q 0)) ∧ Vc.Mod (aBlk xB0.2.1) wBB0 w' ∧ (0 < m → Srt encCand 8 wBB0 xB0.2.1 x.2 w')) (fun x => m - x.1) (0, (candsK l t l.length).toArray) (by rw [← hcm]; rfl) ⟨Nat.zero_le _, by simpa using hcm, ?_, Mod.refl _ _, hm0⟩ ?_
    · intro q hq
      rw [← getD_bang]
      simp only [Nat.not_lt_zero, if_false]
      have hq' : q < (idxK l l.length).length := by omega
      simp [candsK, List.getD, hq']
    rintro ρ ⟨k, d1⟩ w2 ⟨h1, h2, h3, h4, hsr⟩
    dsimp only at h1 h2 h3 h4 hsr ⊢
    refine V.seq (V.region (VL.op (R.lss rfl rfl) (VL.nil (V.seq (V.condP rfl (fun c64 => V.skip (V.seq (V.block (V.seq (V.region (VL.op (R.mvI rfl) (VL.op (R.asI rfl) (VL.nil (V.region (VL.op (R.mvS rfl) (VL.op (R.mvI rfl) (VL.op (R.mvM rfl) (VL.op (R.mvS rfl) (VL.op (R.mvI rfl) (VL.op (R.ixS Try.runUnderlying109 Try.sizeOf112 rfl rfl (by omega) (by omega) ((hsr (by omega)).ad)) (VL.op (R.fld' (o := 0) Try.runUnderlying112 rfl rfl Try.sizeOf57 rfl rfl) (VL.op (R.fld' (o := 0) Try.runUnderlying57 rfl rfl Try.sizeOf55 rfl rfl) (VL.op (R.ldA Try.isAgg55 Try.sizeOf55 rfl rfl (((((hsr (by omega)).ext (Mod.refl _ _)).row elt (i := k) (by omega) (by omega)).sub 0 3 rfl)) rfl) (VL.op (R.lookupV key55 Try.runUnderlying119 Try.zeroValue3 ((hBB0.map.mod h4 hnr).ext (Mod.refl _ _)) (hBB0.val (d1[k]!).cell.val) rfl rfl) (VL.op (R.ixS Try.runUnderlying109 Try.sizeOf112 rfl rfl (by omega) (by omega) (hsr (by omega)).ad) (VL.op (R.fld' (o := 7) Try.runUnderlying112 rfl rfl Try.sizeOf3 rfl rfl) (VL.storeCell elt Try.sizeOf3 ((hsr (by omega)).ext (Mod.refl _ _)) rfl rfl (i := k) (by omega) (by omega) rfl rfl rfl (u := { d1[k]! with many := cntK l l.length (d1[k]!).cell.val }) rfl fun w5 hs5 => VL.nil (V.region (VL.op (R.add rfl rfl (by omega) (by omega)) (VL.op (R.mvI rfl) (VL.nil (⟨(k + 1, d1.setIfInBounds k { d1[k]! with many := cntK l l.length (d1[k]!).cell.val }), rfl, ⟨by dsimp only; omega, by simp [h2], ?_, hs5.m, fun _ => hs5⟩, by dsimp only; omega⟩))))))))))))))))))))))))))) (fun c64 => V.exit (?_)))))))
    · dsimp only
      intro q hq
      by_cases hqk : q = k
      · subst hqk
        have e0 := h3 q hq
        rw [if_neg (Nat.lt_irrefl q)] at e0
        rw [if_pos (Nat.lt_succ_self q), getElem!_pos _ q (by simp; omega), Array.getElem_setIfInBounds_self, e0]
        simp only [cand, cand0, cntK, freqV, List.take_length]
        rfl
      · rw [getElem!_pos _ q (by simp; omega), Array.getElem_setIfInBounds_ne (by omega) (Ne.symm hqk), ← getElem!_pos d1 q (by omega), h3 q hq]
        by_cases hlt2 : q < k
        · rw [if_pos hlt2, if_pos (by omega)]
        · rw [if_neg hlt2, if_neg (by omega)]
    · refine ⟨d1, rfl, h2, fun q hq => ?_, h4, hsr⟩
      rw [h3 q hq, if_pos (by omega)]
  · obtain ⟨g1, g2, g3, g4⟩ := hBB2
    have hE : Ext w wBB2 := Mod.ownA hBB0.e g3 fun x hx => by
      have := (OwnSl.blk hBB0.own x hx).1
      have := hBB0.lo
      omega
    have hml : m ≤ l.length := by rw [← hcm]; exact candsK_len l t l.length
    have hfr : ∀ k, aBlk xB0.2.1 k → w.heap.size ≤ k := fun k hk => by
      have := (OwnSl.blk hBB0.own k hk).1
      have := hBB0.lo
      omega
    refine V.region (VL.callP Try.call62 rfl (rules_spec _) fun w17_0 e17_0 => VL.op (R.mvI rfl) (VL.op (R.indexA Try.runUnderlying121 Try.isAgg120 Try.sizeOf120 rfl rfl (by omega) (rules_at bn (by omega) (by omega))) (VL.allocSt (v := .func _ _ _) Try.zeroValue120 Try.sizeOf120 rfl rfl rfl rfl rfl fun b17 w17 hb17 e17 hB17 => VL.nil (V.seq (?_)))))
    by_cases h0 : m = 0
    · have hr0 : rankL bn l t = [] := by
        have : idxK l l.length = [] := List.eq_nil_of_length_eq_zero (by omega)
        simp [rankL, this]
      subst h0
      refine V.region (VL.op (R.mvS rfl) (VL.op (R.mkFn rfl rfl) (VL.callP Try.call63 rfl (SrtC.sortF_nil (a := xB0.2.1) (g := 64) (cb := [.pointer (some ⟨b17, 0, none⟩)]) xB0.2.2 _) fun w18_2 e18_2 => VL.nil (V.seq (V.region (VL.op (R.mvS rfl) (VL.op (R.asS rfl) (VL.nil (V.ret (fret1 (v := .slice _ _ _) rfl rfl rfl (?_)))))))))))
      exact ⟨xB0.2, by rw [hr0]; rfl, ⟨by rw [hr0]; exact TSl.nil _ _ _ _, hfr⟩, hE.trans (e17_0.trans (e17.trans e18_2))⟩
    · have hs := g4 (by omega)
      obtain ⟨dN, hdN⟩ : ∃ dN, dN = (idxK l l.length).toArray := ⟨_, rfl⟩
      have hz : dN.size = m := by rw [hdN, hmm]; simp
      have hsN : Srt (encN l t) 8 w17 xB0.2.1 dN w17 := ((hs.ext (e17_0.trans e17)).rb).conv (by omega) fun q hq => by
        rw [g2 q (by omega), hdN, ← getD_bang]; rfl
      have hne : ¬ aBlk xB0.2.1 b17 := fun h => by
        have := (OwnSl.blk hBB0.own b17 h).2
        have := g3.size
        have := e17_0.size
        omega
      have hC : SrtC.CmpOk (encN l t) xB0.2.1 w17 64 [.pointer (some ⟨b17, 0, none⟩)] (cfN bn l t) := ⟨⟨fun _ => rfl, fun _ => rfl, by decide⟩, Try.call64, fun w' m' x y => order_spec bn _ _ b17 w' (hB17.mod m' hne)⟩
      have ha : abk xB0.2.1 < w17.heap.size := by
        obtain ⟨b2, o2, he⟩ := hs.ad
        rw [he]
        have := (OwnSl.blk hBB0.own b2 ⟨_, he, rfl⟩).2
        have := g3.size
        have := e17_0.size
        have := e17.size
        show b2 < _
        omega
      refine V.region (VL.op (R.mvS rfl) (VL.op (R.mkFn rfl rfl) (VL.callY Try.call63 rfl (SrtC.sortF_spec hC (ltN_swo bn l t) ha xB0.2.2 m (by omega) dN _ (hsN.ext (Mod.refl _ _)) hz) fun d5 w18 ⟨q1, q2, hs5⟩ => VL.nil (V.seq (V.region (VL.op (R.mvS rfl) (VL.op (R.asS rfl) (VL.nil (V.ret (fret1 (v := .slice _ _ _) rfl rfl rfl (?_)))))))))))
      have e : d5.toList = rankL bn l t := by
        have := sorted_unique_holds (ltN_swo bn l t) (ltN_total bn l t) dN d5 (by rw [hz]; exact q1) (by rw [hz]; exact q2)
        rw [this, hdN]; rfl
      have hz5 : d5.size = m := q1.1.trans hz
      have hl5 : (rankL bn l t).length = m := by rw [← e]; simpa using hz5
      refine ⟨xB0.2, by dsimp only; rw [hl5], ⟨by rw [← e]; exact hs5.sl hC.elt, hfr⟩, Mod.ownA (hE.trans (e17_0.trans e17)) hs5.m fun x hx => ?_⟩
      have := (OwnSl.blk hBB0.own x hx).1
      have := hBB0.lo
      omega
end Go.Proofs.Ytckihgamnmmbnaa


/- survive's ranked at every input; its choice. -/
namespace Go.Proofs.Ytckihgamnmmbnaa
open Go.Vc Go.Sort

def rankF (by_ : Int) (l : List Cell) (t : List Int) : List Nat := if rightB by_ l.length t.length = true then rankL by_ l t else []
theorem ranked_full (by_ : Int) (a b : Option Addr) (ca cb : Nat) (l : List Cell) (t : List Int) (w : World) (hm : l.length ≤ 1000000) (hm2 : t.length ≤ 9223372036854775807)
    (hS : CellSl w a l) (hT : IntSl w b t) :
    RetsX Try.prog 55 #[.int .i64 by_, .slice a l.length ca, .slice b t.length cb] w (fun x : Option Addr × Nat => .slice x.1 (rankF by_ l t).length x.2) (fun x w' => TSl (encN l t) 8 w' x.1 (rankF by_ l t) ∧ ∀ k, aBlk x.1 k → w.heap.size ≤ k) := by
  unfold rankF
  by_cases hr : rightB by_ l.length t.length = true
  · rw [if_pos hr]
    simp [rightB] at hr
    exact ranked_spec by_ a b ca cb l t w ⟨by omega, by omega, by omega⟩ hm hS hT
  · rw [if_neg hr]
    have hr2 : ¬ (1 ≤ by_ ∧ by_ ≤ 6 ∧ l.length = t.length) := fun h => hr (by simp [rightB]; omega)
    refine enter (args := [_, _, _]) Try.func55 rfl Try.ntmps55 (by kernel_rfl) rfl ?_
    refine V.seq (V.region (VL.op (R.asS rfl) (VL.nil (V.seq (V.seq (V.regionCut [13, 14, 15, 16, 17, 18, 19, 20, 21, 22, 23, 24, 25] 25 (.bool (true)) (fun w' => Ext _ w') rfl (VL.op (R.mvI rfl) (VL.op (R.lss rfl rfl) (VL.op (R.mvB rfl) (VL.orP rfl rfl (fun g1_2 => VL.op (R.mvI rfl) (VL.gT rfl rfl (VL.op (R.gtr rfl rfl) (VL.op (R.pickFB rfl rfl) (VL.op (R.mvB rfl) (VL.orP rfl rfl (fun g1_6 => VL.op (R.mvS rfl) (VL.gT rfl rfl (VL.op (R.lenS Try.runUnderlying51 rfl) (VL.gT rfl rfl (VL.op (R.mvS rfl) (VL.gT rfl rfl (VL.op (R.lenS Try.runUnderlying34 rfl) (VL.gT rfl rfl (VL.op (R.neq rfl rfl) (VL.op (R.pickFB rfl rfl) (VL.nil ⟨rfl, cutB rfl ?_, Mod.refl _ _⟩))))))))))) (fun g1_6 => VL.gF rfl rfl (VL.gF rfl rfl (VL.gF rfl rfl (VL.gF rfl rfl (VL.op (R.pickTB rfl rfl) (VL.nil ⟨rfl, cutB rfl ?_, Mod.refl _ _⟩)))))))))))) (fun g1_2 => VL.gF rfl rfl (VL.op (R.pickTB rfl rfl) (VL.op (R.mvB rfl) (VL.gF rfl rfl (VL.gF rfl rfl (VL.gF rfl rfl (VL.gF rfl rfl (VL.gF rfl rfl (VL.op (R.pickTB rfl rfl) (VL.nil ⟨rfl, cutB rfl ?_, Mod.refl _ _⟩)))))))))))))) (fun rg1 w1c e1c => V.cond rfl (fun c25 => V.seq (V.region (VL.op (R.asS rfl) (VL.nil (V.ret (fret1 (v := .slice _ _ _) rfl rfl rfl (⟨(none, 0), rfl, ⟨TSl.nil _ _ _ _, fun k ⟨_, h, _⟩ => by cases h⟩, e1c⟩))))))) (fun c25 => V.skip (V.seq (?_))))))))))
    · have : ¬ l.length = t.length := fun h => hr2 ⟨by omega, by omega, h⟩
      simp; omega
    · rfl
    · rfl
    · cases c25

def chooseF (by_ : Int) (l : List Cell) (t : List Int) : Int := match rankF by_ l t with | [] => -1 | i :: _ => i
theorem choose_spec (by_ : Int) (a b : Option Addr) (ca cb : Nat) (l : List Cell) (t : List Int) (w : World) (hm : l.length ≤ 1000000) (hm2 : t.length ≤ 9223372036854775807)
    (hS : CellSl w a l) (hT : IntSl w b t) :
    RetsP Try.prog 41 #[.int .i64 by_, .slice a l.length ca, .slice b t.length cb] w (.int .i64 (chooseF by_ l t)) := by
  refine enter (args := [_, _, _]) Try.func41 rfl Try.ntmps41 (by kernel_rfl) rfl ?_
  refine V.seq (V.region (VL.op (R.asI rfl) (VL.nil (V.seq (V.seq (V.region (VL.op (R.mvI rfl) (VL.op (R.mvS rfl) (VL.op (R.mvS rfl) (VL.callX Try.call55 rfl (ranked_full by_ a b ca cb l t _ hm hm2 (hS.ext (Mod.refl _ _)) (hT.ext (Mod.refl _ _))) fun x w1 ⟨hR, _⟩ e1 => VL.op (R.asS rfl) (VL.nil (V.seq (V.region (VL.op (R.mvS rfl) (VL.op (R.lenS Try.runUnderlying109 rfl) (VL.op (R.gtr rfl rfl) (VL.nil (V.condP rfl (fun c14 => V.seq (V.region (VL.op (R.mvS rfl) (VL.op (R.ixS Try.runUnderlying109 Try.sizeOf112 rfl rfl (by omega) (by omega) (hR.some (i := 0) (by omega))) (VL.op (R.fld' (o := 5) Try.runUnderlying112 rfl rfl Try.sizeOf3 rfl rfl) (VL.op (R.ld1 Try.isAgg3 rfl (((hR.row (i := 0) (by omega)).cell (i := 5) rfl))) (VL.op (R.asI rfl) (VL.nil (V.ret (fret1 (v := .int _ _) rfl rfl rfl (⟨?_, e1⟩))))))))))) (fun c14 => V.skip (V.seq (V.region (VL.op (R.asI rfl) (VL.nil (V.ret (fret1 (v := .int _ _) rfl rfl rfl (⟨?_, e1⟩))))))))))))))))))))))))))
  · unfold chooseF
    cases h : rankF by_ l t with
    | nil => rw [h] at c14; simp at c14
    | cons i R => rfl
  · unfold chooseF
    cases h : rankF by_ l t with
    | nil => rfl
    | cons i R => rw [h] at c14; simp at c14

/-- The others among the first 'k' of the ranked ones. -/
def seenB (l : List Cell) (R : List Nat) (k : Nat) (v : Val) : Bool := (R.take k).any fun i => decide ((l.getD i default).val = v)
def othK (l : List Cell) (R : List Nat) : Nat → List Int
  | 0 => []
  | k + 1 => if (decide (0 < k) && !seenB l R k (l.getD (R.getD k 0) default).val) = true then othK l R k ++ [((R.getD k 0 : Nat) : Int)] else othK l R k
def othersF (by_ : Int) (l : List Cell) (t : List Int) : List Int := othK l (rankF by_ l t) (rankF by_ l t).length
theorem othK_len (l : List Cell) (R : List Nat) (k : Nat) : (othK l R k).length ≤ k := by
  induction k with
  | zero => simp [othK]
  | succ k ih =>
    rw [othK]; split
    · simp; omega
    · omega
theorem seenB_succ (l : List Cell) (R : List Nat) (k : Nat) (v : Val) (hk : k < R.length) : seenB l R (k + 1) v = (seenB l R k v || decide ((l.getD (R.getD k 0) default).val = v)) := by
  unfold seenB
  rw [List.take_succ_eq_append_getElem hk, List.any_append, show R.getD k 0 = R[k] from by simp [List.getD, hk]]
  simp only [List.any_cons, List.any_nil, Bool.or_false]

/-- The list and the map so far. -/
structure OthJ (l : List Cell) (RK : List Nat) (w0 : World) (B r k : Nat) (M : List (Val × Value)) (a : Option Addr) (cap : Nat) (w : World) : Prop where
  e : Ext w0 w
  lo : w0.heap.size ≤ r
  own : OwnT encI 1 3 B w a cap (othK l RK k)
  hB : B ≤ w.heap.size
  map : MapIs w r encV M
  val : ∀ v, (mget M v).getD (.bool false) = .bool (seenB l RK k v)

theorem rankL_len (by_ : Int) (l : List Cell) (t : List Int) : (rankF by_ l t).length ≤ l.length := by
  unfold rankF
  split
  · unfold rankL
    rw [List.length_mergeSort]
    unfold idxK
    exact Nat.le_trans (List.length_filter_le _ _) (by simp)
  · simp

set_option maxHeartbeats 4000000 in
theorem others_spec (by_ : Int) (a b : Option Addr) (ca cb : Nat) (l : List Cell) (t : List Int) (w : World) (hm : l.length ≤ 1000000) (hm2 : t.length ≤ 9223372036854775807)
    (hS : CellSl w a l) (hT : IntSl w b t) :
    RetsX Try.prog 49 #[.int .i64 by_, .slice a l.length ca, .slice b t.length cb] w (fun x : Option Addr × Nat => .slice x.1 (othersF by_ l t).length x.2) (fun x w' => OwnT encI 1 3 w.heap.size w' x.1 x.2 (othersF by_ l t)) := by
  unfold othersF
  have hRl := rankL_len by_ l t
  refine enter (args := [_, _, _]) Try.func49 rfl Try.ntmps49 (by kernel_rfl) rfl ?_
  refine V.seq (V.region (VL.op (R.asS rfl) (VL.nil (V.seq (V.region (VL.op (R.asS rfl) (VL.nil (V.seq (V.region (VL.makeMap fun r w1 hr e1 hR1 => VL.op (R.asM rfl) (VL.nil (V.seq (V.seq (V.region (VL.op (R.mvI rfl) (VL.op (R.mvS rfl) (VL.op (R.mvS rfl) (VL.callX Try.call55 rfl (ranked_full by_ a b ca cb l t _ hm hm2 (hS.ext e1) (hT.ext e1)) fun x w2 ⟨hR, hRf⟩ e2 => VL.op (R.lenS Try.runUnderlying109 rfl) (VL.op (R.mvI rfl) (VL.nil (V.block (?_))))))))))))))))))))))
  obtain ⟨RK, hRe⟩ : ∃ RK, RK = rankF by_ l t := ⟨_, rfl⟩
  rw [← hRe] at hR hRl ⊢
  have hsz1 := e2.size
  have hrl := hR1.lt
  have hxr : ∀ k, aBlk x.1 k → ¬ one r k := fun k hk e => by
    have := hRf k hk
    have e : k = r := e
    omega
  refine V.loop [7, 8, 15, 16, 17] (fun y : Nat × List (Val × Value) × Option Addr × Nat => [.slice y.2.2.1 (othK l RK y.1).length y.2.2.2, .map (some r), .slice x.1 RK.length x.2, .int .i64 RK.length, .int .i64 y.1])
    (fun y w' => y.1 ≤ RK.length ∧ TSl (encN l t) 8 w' x.1 RK ∧ OthJ l RK w w2.heap.size r y.1 y.2.1 y.2.2.1 y.2.2.2 w') (fun y => RK.length - y.1) (0, [], none, 0) rfl ⟨Nat.zero_le _, hR, ⟨e1.trans e2, by omega, OwnT.nil _ _ _ _ _, Nat.le_refl _, (MapIs.empty hR1).ext e2, fun v => rfl⟩⟩ ?_
  rintro ρ ⟨k, M, a2, cap⟩ w3 ⟨hk, hR3, hJ⟩
  dsimp only at hk hR3 hJ ⊢
  have hol := othK_len l RK k
  have hJe := hJ.e
  have hrl3 := hJ.map.lt
  refine V.seq (V.region (VL.op (R.lss rfl rfl) (VL.nil (V.seq (V.condP rfl (fun c18 => V.skip (V.seq (V.block (V.seq (V.region (VL.op (R.mvI rfl) (VL.op (R.ixS Try.runUnderlying109 Try.sizeOf112 rfl rfl (by omega) (by omega) (hR3.some (i := k) (by omega))) (VL.op (R.ldA Try.isAgg112 Try.sizeOf112 rfl rfl ((hR3.row (i := k) (by omega))) rfl) (VL.allocSt1 (v := .agg _) (v2 := .int _ _) Try.zeroValue112 Try.sizeOf112 rfl rfl rfl rfl rfl rfl rfl rfl rfl fun b10 w10 hb10 e10 hB10 => VL.nil (V.cut [8, 10, 15, 16, 17, 7] (fun y : Option Addr × Nat => [.map (some r), .pointer (some ⟨b10, 0, none⟩), .slice x.1 RK.length x.2, .int .i64 RK.length, .int .i64 k, .slice y.1 (othK l RK (k + 1)).length y.2]) (fun y w' => Ext w w' ∧ Vc.Mod (aBlk a2) w10 w' ∧ OwnT encI 1 3 w2.heap.size w' y.1 y.2 (othK l RK (k + 1))) (V.seq (V.regionCut [22, 23, 24, 25, 26, 27, 28, 29, 30, 31] 31 (.bool (decide (0 < k) && !seenB l RK k (l.getD (RK.getD k 0) default).val)) (fun w' => Ext _ w') rfl (VL.op (R.mvI rfl) (VL.op (R.gtr rfl rfl) (VL.op (R.mvB rfl) (VL.andP rfl rfl (fun g6_2 => VL.op (R.mvM rfl) (VL.gT rfl rfl (VL.op (R.fld' (o := 0) Try.runUnderlying112 rfl rfl Try.sizeOf57 rfl rfl) (VL.gT rfl rfl (VL.op (R.fld' (o := 0) Try.runUnderlying57 rfl rfl Try.sizeOf55 rfl rfl) (VL.gT rfl rfl (VL.op (R.ldA Try.isAgg55 Try.sizeOf55 rfl rfl ((hB10.rowAt 0 3)) rfl) (VL.gT rfl rfl (VL.op (R.lookupV key55 Try.runUnderlying118 Try.zeroValue4 ((hJ.map.ext e10)) (hJ.val (l.getD (RK.getD k 0) default).val) rfl rfl) (VL.gT rfl rfl (VL.op (R.not rfl) (VL.op (R.pickTB rfl rfl) (VL.nil ⟨rfl, cutB rfl ?_, Mod.refl _ _⟩))))))))))))) (fun g6_2 => VL.gF rfl rfl (VL.gF rfl rfl (VL.gF rfl rfl (VL.gF rfl rfl (VL.gF rfl rfl (VL.op (R.pickFB rfl rfl) (VL.nil ⟨rfl, cutB rfl ?_, Mod.refl _ _⟩))))))))))) (fun rg6 w6c e6c => V.cond rfl (fun c31 => ?_) (fun c31 => V.skip (?_))))) (fun rgC31 xC31 wBC31 hBC31 => ?_))))))))))) (fun c18 => V.exit (V.seq (V.region (VL.op (R.mvS rfl) (VL.op (R.asS rfl) (VL.nil (V.ret (fret1 (v := .slice _ _ _) rfl rfl rfl (?_))))))))))))))
  · have : 0 < k := by omega
    simp only [this, decide_true, Bool.true_and]
  · have : ¬ 0 < k := by omega
    simp only [this, decide_false, Bool.false_and]
  · have hl1 : othK l RK (k + 1) = othK l RK k ++ [((RK.getD k 0 : Nat) : Int)] := by rw [othK, if_pos c31]
    have hl2 : (othK l RK (k + 1)).length = (othK l RK k).length + 1 := by rw [hl1]; simp
    have hs1 := hJ.hB
    have hs2 := e10.size
    have hs3 := e6c.size
    refine V.region (VL.op (R.mvS rfl) (VL.op (R.fld' (o := 5) Try.runUnderlying112 rfl rfl Try.sizeOf3 rfl rfl) (VL.op (R.ld1 Try.isAgg3 rfl (((hB10.ext e6c).cell _))) (VL.append1 el34 Try.runUnderlying34 Try.sizeOf3 Try.zeroValue3 rfl (((RK.getD k 0 : Nat) : Int)) rfl rfl rfl (hJ.own.ext (e10.trans e6c)) rfl rfl rfl (by omega) (by unfold maxLen; omega) (by omega) fun a3 cap3 w12 vt ho12 m12 hf12 => VL.op (R.asS rfl) (VL.nil (?_))))))
    refine ⟨(a3, cap3), ?_, Mod.ownA (hJe.trans (e10.trans e6c)) m12 fun y hy => ?_, (Ext.mod e6c).then m12 fun _ _ h => h, by rw [hl1]; exact ho12⟩
    · dsimp only; rw [hl2]; rfl
    · have := (OwnSl.blk hJ.own y hy).1
      omega
  · have hl1 : othK l RK (k + 1) = othK l RK k := by rw [othK, if_neg (by rw [c31]; decide)]
    refine ⟨(a2, cap), ?_, hJe.trans (e10.trans e6c), Ext.mod e6c, by rw [hl1]; exact hJ.own.ext (e10.trans e6c)⟩
    dsimp only; rw [hl1]; rfl
  · obtain ⟨f1, f2, f3⟩ := hBC31
    have hab : ∀ y, aBlk a2 y → w2.heap.size ≤ y ∧ y < w3.heap.size := fun y hy => OwnSl.blk hJ.own y hy
    have hB11 := hB10.mod f2 fun h => by have := (hab _ h).2; omega
    have hr2 : r < w2.heap.size := by omega
    have hM11 := (hJ.map.ext e10).mod f2 fun h => by have := (hab _ h).1; omega
    obtain ⟨v, hv⟩ : ∃ v, v = (l.getD (RK.getD k 0) default).val := ⟨_, rfl⟩
    refine V.region (VL.op (R.mvM rfl) (VL.op (R.fld' (o := 0) Try.runUnderlying112 rfl rfl Try.sizeOf57 rfl rfl) (VL.op (R.fld' (o := 0) Try.runUnderlying57 rfl rfl Try.sizeOf55 rfl rfl) (VL.op (v := encV v) ?_ (VL.mapUpdate key55 Try.runUnderlying118 rfl (k := v) rfl rfl hM11 fun w9 hM9 m9 => VL.nil ?_)))))
    · rw [hv]; exact R.ldA Try.isAgg55 Try.sizeOf55 rfl rfl (hB11.rowAt 0 3) rfl
    have hxb : ∀ y, x.1 = some y → ¬ aBlk a2 y.block := fun y hy h => by
      have h1 := (hab _ h).1
      have h2 : abk x.1 < w2.heap.size := hR.lt (i := 0) (by omega)
      rw [hy] at h2
      have h2 : y.block < w2.heap.size := h2
      omega
    refine V.region (VL.op (R.add rfl rfl (by omega) (by omega)) (VL.op (R.mvI rfl) (VL.nil (⟨(k + 1, mset M v (.bool true), xC31.1, xC31.2), rfl, ⟨by dsimp only; omega, ?_, ?_⟩, by dsimp only; omega⟩))))
    · exact (((hR3.ext e10).mod f2 hxb).mod m9 fun y hy => hxr _ ⟨y, hy, rfl⟩)
    · dsimp only
      refine ⟨Mod.ownA f1 m9 fun y hy => by rw [hy]; exact hJ.lo, hJ.lo, f3.mod m9 fun y hy e => ?_, ?_, hM9, fun u => ?_⟩
      · have := (OwnSl.blk f3 y hy).1
        have e : y = r := e
        omega
      · have := hJ.hB
        have := e10.size
        have := f2.size
        have := m9.size
        omega
      · rw [mget_mset, seenB_succ l RK k u (by omega), ← hv]
        by_cases hu : u = v
        · subst hu; simp
        · rw [if_neg hu, hJ.val u]
          have : ¬ v = u := fun e => hu e.symm
          simp [this]
  · have hkl : k = RK.length := by omega
    subst hkl
    exact ⟨(a2, cap), rfl, by dsimp only; exact hJ.own.weaken (by have := e1.size; omega), hJe⟩
end Go.Proofs.Ytckihgamnmmbnaa

