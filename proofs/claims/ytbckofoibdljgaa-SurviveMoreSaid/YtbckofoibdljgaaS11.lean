/- survive's ranked at every input; its choice. -/
import Derived.Test.YtbckofoibdljgaaS10
namespace Go.Proofs.Ytbckofoibdljgaa
open Go.Vc Go.Sort

def rankF (by_ : Int) (l : List Cell) (t : List Int) : List Nat := if rightB by_ l.length t.length = true then rankL by_ l t else []
theorem ranked_full (by_ : Int) (a b : Option Addr) (ca cb : Nat) (l : List Cell) (t : List Int) (w : World) (hm : l.length ≤ 1000000) (hm2 : t.length ≤ 9223372036854775807)
    (hS : CellSl w a l) (hT : IntSl w b t) :
    RetsX Try.prog 22 #[.int .i64 by_, .slice a l.length ca, .slice b t.length cb] w (fun x : Option Addr × Nat => .slice x.1 (rankF by_ l t).length x.2) (fun x w' => TSl (encN l t) 8 w' x.1 (rankF by_ l t) ∧ ∀ k, aBlk x.1 k → w.heap.size ≤ k) := by
  unfold rankF
  by_cases hr : rightB by_ l.length t.length = true
  · rw [if_pos hr]
    simp [rightB] at hr
    exact ranked_spec by_ a b ca cb l t w ⟨by omega, by omega, by omega⟩ hm hS hT
  · rw [if_neg hr]
    have hr2 : ¬ (1 ≤ by_ ∧ by_ ≤ 6 ∧ l.length = t.length) := fun h => hr (by simp [rightB]; omega)
    refine enter (args := [_, _, _]) Try.func22 rfl Try.ntmps22 (by kernel_rfl) rfl ?_
    refine V.seq (V.region (VL.op (R.asS rfl) (VL.nil (V.seq (V.seq (V.regionCut [13, 14, 15, 16, 17, 18, 19, 20, 21, 22, 23, 24, 25] 25 (.bool (true)) (fun w' => Ext _ w') rfl (VL.op (R.mvI rfl) (VL.op (R.lss rfl rfl) (VL.op (R.mvB rfl) (VL.orP rfl rfl (fun g1_2 => VL.op (R.mvI rfl) (VL.gT rfl rfl (VL.op (R.gtr rfl rfl) (VL.op (R.pickFB rfl rfl) (VL.op (R.mvB rfl) (VL.orP rfl rfl (fun g1_6 => VL.op (R.mvS rfl) (VL.gT rfl rfl (VL.op (R.lenS Try.runUnderlying22 rfl) (VL.gT rfl rfl (VL.op (R.mvS rfl) (VL.gT rfl rfl (VL.op (R.lenS Try.runUnderlying23 rfl) (VL.gT rfl rfl (VL.op (R.neq rfl rfl) (VL.op (R.pickFB rfl rfl) (VL.nil ⟨rfl, cutB rfl ?_, Mod.refl _ _⟩))))))))))) (fun g1_6 => VL.gF rfl rfl (VL.gF rfl rfl (VL.gF rfl rfl (VL.gF rfl rfl (VL.op (R.pickTB rfl rfl) (VL.nil ⟨rfl, cutB rfl ?_, Mod.refl _ _⟩)))))))))))) (fun g1_2 => VL.gF rfl rfl (VL.op (R.pickTB rfl rfl) (VL.op (R.mvB rfl) (VL.gF rfl rfl (VL.gF rfl rfl (VL.gF rfl rfl (VL.gF rfl rfl (VL.gF rfl rfl (VL.op (R.pickTB rfl rfl) (VL.nil ⟨rfl, cutB rfl ?_, Mod.refl _ _⟩)))))))))))))) (fun rg1 w1c e1c => V.cond rfl (fun c25 => V.seq (V.region (VL.op (R.asS rfl) (VL.nil (V.ret (fret1 (v := .slice _ _ _) rfl rfl rfl (⟨(none, 0), rfl, ⟨TSl.nil _ _ _ _, fun k ⟨_, h, _⟩ => by cases h⟩, e1c⟩))))))) (fun c25 => V.skip (V.seq (?_))))))))))
    · have : ¬ l.length = t.length := fun h => hr2 ⟨by omega, by omega, h⟩
      simp; omega
    · rfl
    · rfl
    · cases c25

def chooseF (by_ : Int) (l : List Cell) (t : List Int) : Int := match rankF by_ l t with | [] => -1 | i :: _ => i
theorem choose_spec (by_ : Int) (a b : Option Addr) (ca cb : Nat) (l : List Cell) (t : List Int) (w : World) (hm : l.length ≤ 1000000) (hm2 : t.length ≤ 9223372036854775807)
    (hS : CellSl w a l) (hT : IntSl w b t) :
    RetsP Try.prog 12 #[.int .i64 by_, .slice a l.length ca, .slice b t.length cb] w (.int .i64 (chooseF by_ l t)) := by
  refine enter (args := [_, _, _]) Try.func12 rfl Try.ntmps12 (by kernel_rfl) rfl ?_
  refine V.seq (V.region (VL.op (R.asI rfl) (VL.nil (V.seq (V.seq (V.region (VL.op (R.mvI rfl) (VL.op (R.mvS rfl) (VL.op (R.mvS rfl) (VL.callX Try.call22 rfl (ranked_full by_ a b ca cb l t _ hm hm2 (hS.ext (Mod.refl _ _)) (hT.ext (Mod.refl _ _))) fun x w1 ⟨hR, _⟩ e1 => VL.op (R.asS rfl) (VL.nil (V.seq (V.region (VL.op (R.mvS rfl) (VL.op (R.lenS Try.runUnderlying41 rfl) (VL.op (R.gtr rfl rfl) (VL.nil (V.condP rfl (fun c14 => V.seq (V.region (VL.op (R.mvS rfl) (VL.op (R.ixS Try.runUnderlying41 Try.sizeOf44 rfl rfl (by omega) (by omega) (hR.some (i := 0) (by omega))) (VL.op (R.fld' (o := 5) Try.runUnderlying44 rfl rfl Try.sizeOf3 rfl rfl) (VL.op (R.ld1 Try.isAgg3 rfl (((hR.row (i := 0) (by omega)).cell (i := 5) rfl))) (VL.op (R.asI rfl) (VL.nil (V.ret (fret1 (v := .int _ _) rfl rfl rfl (⟨?_, e1⟩))))))))))) (fun c14 => V.skip (V.seq (V.region (VL.op (R.asI rfl) (VL.nil (V.ret (fret1 (v := .int _ _) rfl rfl rfl (⟨?_, e1⟩))))))))))))))))))))))))))
  · unfold chooseF
    cases h : rankF by_ l t with
    | nil => rw [h] at c14; simp at c14
    | cons i R => rfl
  · unfold chooseF
    cases h : rankF by_ l t with
    | nil => rfl
    | cons i R => rw [h] at c14; simp at c14

/-- The others among the first 'k' of the ranked ones. -/
def seenB (l : List Cell) (R : List Nat) (k : Nat) (v : Val) : Bool := (R.take k).any fun i => decide ((l.getD i default).val = v)
def othK (l : List Cell) (R : List Nat) : Nat → List Int
  | 0 => []
  | k + 1 => if (decide (0 < k) && !seenB l R k (l.getD (R.getD k 0) default).val) = true then othK l R k ++ [((R.getD k 0 : Nat) : Int)] else othK l R k
def othersF (by_ : Int) (l : List Cell) (t : List Int) : List Int := othK l (rankF by_ l t) (rankF by_ l t).length
theorem othK_len (l : List Cell) (R : List Nat) (k : Nat) : (othK l R k).length ≤ k := by
  induction k with
  | zero => simp [othK]
  | succ k ih =>
    rw [othK]; split
    · simp; omega
    · omega
theorem seenB_succ (l : List Cell) (R : List Nat) (k : Nat) (v : Val) (hk : k < R.length) : seenB l R (k + 1) v = (seenB l R k v || decide ((l.getD (R.getD k 0) default).val = v)) := by
  unfold seenB
  rw [List.take_succ_eq_append_getElem hk, List.any_append, show R.getD k 0 = R[k] from by simp [List.getD, hk]]
  simp only [List.any_cons, List.any_nil, Bool.or_false]

/-- The list and the map so far. -/
structure OthJ (l : List Cell) (RK : List Nat) (w0 : World) (B r k : Nat) (M : List (Val × Value)) (a : Option Addr) (cap : Nat) (w : World) : Prop where
  e : Ext w0 w
  lo : w0.heap.size ≤ r
  own : OwnT encI 1 3 B w a cap (othK l RK k)
  hB : B ≤ w.heap.size
  map : MapIs w r encV M
  val : ∀ v, (mget M v).getD (.bool false) = .bool (seenB l RK k v)

theorem rankL_len (by_ : Int) (l : List Cell) (t : List Int) : (rankF by_ l t).length ≤ l.length := by
  unfold rankF
  split
  · unfold rankL
    rw [List.length_mergeSort]
    unfold idxK
    exact Nat.le_trans (List.length_filter_le _ _) (by simp)
  · simp

set_option maxHeartbeats 4000000 in
theorem others_spec (by_ : Int) (a b : Option Addr) (ca cb : Nat) (l : List Cell) (t : List Int) (w : World) (hm : l.length ≤ 1000000) (hm2 : t.length ≤ 9223372036854775807)
    (hS : CellSl w a l) (hT : IntSl w b t) :
    RetsX Try.prog 15 #[.int .i64 by_, .slice a l.length ca, .slice b t.length cb] w (fun x : Option Addr × Nat => .slice x.1 (othersF by_ l t).length x.2) (fun x w' => OwnT encI 1 3 w.heap.size w' x.1 x.2 (othersF by_ l t)) := by
  unfold othersF
  have hRl := rankL_len by_ l t
  refine enter (args := [_, _, _]) Try.func15 rfl Try.ntmps15 (by kernel_rfl) rfl ?_
  refine V.seq (V.region (VL.op (R.asS rfl) (VL.nil (V.seq (V.region (VL.op (R.asS rfl) (VL.nil (V.seq (V.region (VL.makeMap fun r w1 hr e1 hR1 => VL.op (R.asM rfl) (VL.nil (V.seq (V.seq (V.region (VL.op (R.mvI rfl) (VL.op (R.mvS rfl) (VL.op (R.mvS rfl) (VL.callX Try.call22 rfl (ranked_full by_ a b ca cb l t _ hm hm2 (hS.ext e1) (hT.ext e1)) fun x w2 ⟨hR, hRf⟩ e2 => VL.op (R.lenS Try.runUnderlying41 rfl) (VL.op (R.mvI rfl) (VL.nil (V.block (?_))))))))))))))))))))))
  obtain ⟨RK, hRe⟩ : ∃ RK, RK = rankF by_ l t := ⟨_, rfl⟩
  rw [← hRe] at hR hRl ⊢
  have hsz1 := e2.size
  have hrl := hR1.lt
  have hxr : ∀ k, aBlk x.1 k → ¬ one r k := fun k hk e => by
    have := hRf k hk
    have e : k = r := e
    omega
  refine V.loop [7, 8, 15, 16, 17] (fun y : Nat × List (Val × Value) × Option Addr × Nat => [.slice y.2.2.1 (othK l RK y.1).length y.2.2.2, .map (some r), .slice x.1 RK.length x.2, .int .i64 RK.length, .int .i64 y.1])
    (fun y w' => y.1 ≤ RK.length ∧ TSl (encN l t) 8 w' x.1 RK ∧ OthJ l RK w w2.heap.size r y.1 y.2.1 y.2.2.1 y.2.2.2 w') (fun y => RK.length - y.1) (0, [], none, 0) rfl ⟨Nat.zero_le _, hR, ⟨e1.trans e2, by omega, OwnT.nil _ _ _ _ _, Nat.le_refl _, (MapIs.empty hR1).ext e2, fun v => rfl⟩⟩ ?_
  rintro ρ ⟨k, M, a2, cap⟩ w3 ⟨hk, hR3, hJ⟩
  dsimp only at hk hR3 hJ ⊢
  have hol := othK_len l RK k
  have hJe := hJ.e
  have hrl3 := hJ.map.lt
  refine V.seq (V.region (VL.op (R.lss rfl rfl) (VL.nil (V.seq (V.condP rfl (fun c18 => V.skip (V.seq (V.block (V.seq (V.region (VL.op (R.mvI rfl) (VL.op (R.ixS Try.runUnderlying41 Try.sizeOf44 rfl rfl (by omega) (by omega) (hR3.some (i := k) (by omega))) (VL.op (R.ldA Try.isAgg44 Try.sizeOf44 rfl rfl ((hR3.row (i := k) (by omega))) rfl) (VL.allocSt1 (v := .agg _) (v2 := .int _ _) Try.zeroValue44 Try.sizeOf44 rfl rfl rfl rfl rfl rfl rfl rfl rfl fun b10 w10 hb10 e10 hB10 => VL.nil (V.cut [8, 10, 15, 16, 17, 7] (fun y : Option Addr × Nat => [.map (some r), .pointer (some ⟨b10, 0, none⟩), .slice x.1 RK.length x.2, .int .i64 RK.length, .int .i64 k, .slice y.1 (othK l RK (k + 1)).length y.2]) (fun y w' => Ext w w' ∧ Vc.Mod (aBlk a2) w10 w' ∧ OwnT encI 1 3 w2.heap.size w' y.1 y.2 (othK l RK (k + 1))) (V.seq (V.regionCut [22, 23, 24, 25, 26, 27, 28, 29, 30, 31] 31 (.bool (decide (0 < k) && !seenB l RK k (l.getD (RK.getD k 0) default).val)) (fun w' => Ext _ w') rfl (VL.op (R.mvI rfl) (VL.op (R.gtr rfl rfl) (VL.op (R.mvB rfl) (VL.andP rfl rfl (fun g6_2 => VL.op (R.mvM rfl) (VL.gT rfl rfl (VL.op (R.fld' (o := 0) Try.runUnderlying44 rfl rfl Try.sizeOf34 rfl rfl) (VL.gT rfl rfl (VL.op (R.fld' (o := 0) Try.runUnderlying34 rfl rfl Try.sizeOf32 rfl rfl) (VL.gT rfl rfl (VL.op (R.ldA Try.isAgg32 Try.sizeOf32 rfl rfl ((hB10.rowAt 0 3)) rfl) (VL.gT rfl rfl (VL.op (R.lookupV key32 Try.runUnderlying46 Try.zeroValue4 ((hJ.map.ext e10)) (hJ.val (l.getD (RK.getD k 0) default).val) rfl rfl) (VL.gT rfl rfl (VL.op (R.not rfl) (VL.op (R.pickTB rfl rfl) (VL.nil ⟨rfl, cutB rfl ?_, Mod.refl _ _⟩))))))))))))) (fun g6_2 => VL.gF rfl rfl (VL.gF rfl rfl (VL.gF rfl rfl (VL.gF rfl rfl (VL.gF rfl rfl (VL.op (R.pickFB rfl rfl) (VL.nil ⟨rfl, cutB rfl ?_, Mod.refl _ _⟩))))))))))) (fun rg6 w6c e6c => V.cond rfl (fun c31 => ?_) (fun c31 => V.skip (?_))))) (fun rgC31 xC31 wBC31 hBC31 => ?_))))))))))) (fun c18 => V.exit (V.seq (V.region (VL.op (R.mvS rfl) (VL.op (R.asS rfl) (VL.nil (V.ret (fret1 (v := .slice _ _ _) rfl rfl rfl (?_))))))))))))))
  · have : 0 < k := by omega
    simp only [this, decide_true, Bool.true_and]
  · have : ¬ 0 < k := by omega
    simp only [this, decide_false, Bool.false_and]
  · have hl1 : othK l RK (k + 1) = othK l RK k ++ [((RK.getD k 0 : Nat) : Int)] := by rw [othK, if_pos c31]
    have hl2 : (othK l RK (k + 1)).length = (othK l RK k).length + 1 := by rw [hl1]; simp
    have hs1 := hJ.hB
    have hs2 := e10.size
    have hs3 := e6c.size
    refine V.region (VL.op (R.mvS rfl) (VL.op (R.fld' (o := 5) Try.runUnderlying44 rfl rfl Try.sizeOf3 rfl rfl) (VL.op (R.ld1 Try.isAgg3 rfl (((hB10.ext e6c).cell _))) (VL.append1 el23 Try.runUnderlying23 Try.sizeOf3 Try.zeroValue3 rfl (((RK.getD k 0 : Nat) : Int)) rfl rfl rfl (hJ.own.ext (e10.trans e6c)) rfl rfl rfl (by omega) (by unfold maxLen; omega) (by omega) fun a3 cap3 w12 vt ho12 m12 hf12 => VL.op (R.asS rfl) (VL.nil (?_))))))
    refine ⟨(a3, cap3), ?_, Mod.ownA (hJe.trans (e10.trans e6c)) m12 fun y hy => ?_, (Ext.mod e6c).then m12 fun _ _ h => h, by rw [hl1]; exact ho12⟩
    · dsimp only; rw [hl2]; rfl
    · have := (OwnSl.blk hJ.own y hy).1
      omega
  · have hl1 : othK l RK (k + 1) = othK l RK k := by rw [othK, if_neg (by rw [c31]; decide)]
    refine ⟨(a2, cap), ?_, hJe.trans (e10.trans e6c), Ext.mod e6c, by rw [hl1]; exact hJ.own.ext (e10.trans e6c)⟩
    dsimp only; rw [hl1]; rfl
  · obtain ⟨f1, f2, f3⟩ := hBC31
    have hab : ∀ y, aBlk a2 y → w2.heap.size ≤ y ∧ y < w3.heap.size := fun y hy => OwnSl.blk hJ.own y hy
    have hB11 := hB10.mod f2 fun h => by have := (hab _ h).2; omega
    have hr2 : r < w2.heap.size := by omega
    have hM11 := (hJ.map.ext e10).mod f2 fun h => by have := (hab _ h).1; omega
    obtain ⟨v, hv⟩ : ∃ v, v = (l.getD (RK.getD k 0) default).val := ⟨_, rfl⟩
    refine V.region (VL.op (R.mvM rfl) (VL.op (R.fld' (o := 0) Try.runUnderlying44 rfl rfl Try.sizeOf34 rfl rfl) (VL.op (R.fld' (o := 0) Try.runUnderlying34 rfl rfl Try.sizeOf32 rfl rfl) (VL.op (v := encV v) ?_ (VL.mapUpdate key32 Try.runUnderlying46 rfl (k := v) rfl rfl hM11 fun w9 hM9 m9 => VL.nil ?_)))))
    · rw [hv]; exact R.ldA Try.isAgg32 Try.sizeOf32 rfl rfl (hB11.rowAt 0 3) rfl
    have hxb : ∀ y, x.1 = some y → ¬ aBlk a2 y.block := fun y hy h => by
      have h1 := (hab _ h).1
      have h2 : abk x.1 < w2.heap.size := hR.lt (i := 0) (by omega)
      rw [hy] at h2
      have h2 : y.block < w2.heap.size := h2
      omega
    refine V.region (VL.op (R.add rfl rfl (by omega) (by omega)) (VL.op (R.mvI rfl) (VL.nil (⟨(k + 1, mset M v (.bool true), xC31.1, xC31.2), rfl, ⟨by dsimp only; omega, ?_, ?_⟩, by dsimp only; omega⟩))))
    · exact (((hR3.ext e10).mod f2 hxb).mod m9 fun y hy => hxr _ ⟨y, hy, rfl⟩)
    · dsimp only
      refine ⟨Mod.ownA f1 m9 fun y hy => by rw [hy]; exact hJ.lo, hJ.lo, f3.mod m9 fun y hy e => ?_, ?_, hM9, fun u => ?_⟩
      · have := (OwnSl.blk f3 y hy).1
        have e : y = r := e
        omega
      · have := hJ.hB
        have := e10.size
        have := f2.size
        have := m9.size
        omega
      · rw [mget_mset, seenB_succ l RK k u (by omega), ← hv]
        by_cases hu : u = v
        · subst hu; simp
        · rw [if_neg hu, hJ.val u]
          have : ¬ v = u := fun e => hu e.symm
          simp [this]
  · have hkl : k = RK.length := by omega
    subst hkl
    exact ⟨(a2, cap), rfl, by dsimp only; exact hJ.own.weaken (by have := e1.size; omega), hJe⟩
end Go.Proofs.Ytbckofoibdljgaa
