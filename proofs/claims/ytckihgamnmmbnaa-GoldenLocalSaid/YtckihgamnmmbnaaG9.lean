/- Golden: the members of an entity. -/
import Derived.Test.YtckihgamnmmbnaaG4
import Derived.Test.YtckihgamnmmbnaaP5
namespace Go.Proofs.Ytckihgamnmmbnaa
open Go.Vc Go.Sort

def okAt (s : Set_) (recs : List Rec) (mem : List Int) (i : Nat) : Prop :=
  (0 ≤ mem.getD i default ∧ (mem.getD i default).toNat < recs.length ∧ (0 < i → mem.getD (i - 1) default < mem.getD i default)) ∧ formedG s (recs.getD (mem.getD i default).toNat default) = true ∧
    (recs.getD (mem.getD i default).toNat default).table = (recs.getD (mem.getD 0 default).toNat default).table
instance (s : Set_) (recs : List Rec) (mem : List Int) (i : Nat) : Decidable (okAt s recs mem i) := by unfold okAt; infer_instance
def memB (s : Set_) (recs : List Rec) (mem : List Int) : Bool := decide (0 < mem.length ∧ ∀ i, i < mem.length → okAt s recs mem i)
def zeroE : Ent := ⟨⟨none, 0, [], none, 0, [], ⟨none, 0, 0⟩, ⟨none, 0, 0⟩, none, 0, [], ⟨none, 0, 0⟩, ⟨none, 0, 0⟩⟩, 0, none, 0, [], none, 0, []⟩
def ofE (s : Set_) (recs : List Rec) (mem : List Int) (ra ma : Option Addr) (rc mc : Nat) : Ent := if memB s recs mem = true then ⟨s, (recs.getD (mem.getD 0 default).toNat default).table, ra, rc, recs, ma, mc, mem⟩ else zeroE
theorem memB_no {s : Set_} {recs : List Rec} {mem : List Int} {k : Nat} (hk : k < mem.length) (h : ¬ okAt s recs mem k) : memB s recs mem = false := decide_eq_false fun hh => h (hh.2 k hk)
set_option maxRecDepth 100000 in
set_option maxHeartbeats 4000000 in
theorem of_spec (s : Set_) (recs : List Rec) (mem : List Int) (ra ma : Option Addr) (rc mc : Nat) (w : World) (hm : mem.length ≤ 1000000) (hr : recs.length ≤ 1000000) (hl : s.tabs.length ≤ 1000000) (hS : SetW w s) (hR : RecsW w ra recs) (hM : IntSl w ma mem) :
    RetsP Try.prog 25 #[.agg (encSet s).toArray, .slice ra recs.length rc, .slice ma mem.length mc] w (.tuple #[.agg (encEnt (ofE s recs mem ra ma rc mc)).toArray, .bool (memB s recs mem)]) := by
  refine enter (args := [_, _, _]) Try.func25 rfl Try.ntmps25 (by kernel_rfl) rfl ?_
  refine V.seq (V.region (VL.box (v := .agg _) rfl fun b1 w1 hb1 e1 hX1 => VL.alloc Try.zeroValue72 fun b2 w2 hb2 e2 hX2 => VL.op (R.asB rfl) (VL.nil (V.seq (V.region (VL.op (R.asI rfl) (VL.nil (V.seq (V.seq (V.region (VL.op (R.mvS rfl) (VL.op (R.lenS Try.runUnderlying34 rfl) (VL.op (R.mvI rfl) (VL.nil (V.block (?_))))))))))))))))
  have hS2 := hS.ext (e1.trans e2)
  have hR2 := hR.ext (e1.trans e2)
  have hM2 := hM.ext (e1.trans e2)
  have hX1 := hX1.ext e2
  refine V.loop [1, 2, 3, 6, 7, 8, 11, 12, 13] (fun k : Nat => [.slice ra recs.length rc, .slice ma mem.length mc, .pointer (some ⟨b1, 0, none⟩), .pointer (some ⟨b2, 0, none⟩), .bool false, .int .i64 (if k = 0 then -1 else mem.getD (k - 1) default), .slice ma mem.length mc, .int .i64 mem.length, .int .i64 k])
    (fun k w' => k ≤ mem.length ∧ (∀ i, i < k → okAt s recs mem i) ∧ Ext w2 w') (fun k => mem.length - k) 0 rfl ⟨Nat.zero_le _, fun i h => absurd h (Nat.not_lt_zero i), Mod.refl _ _⟩ ?_
  rintro ρ k w3 ⟨hk, hi, e3⟩
  have hS3 := hS2.ext e3
  have hR3 := hR2.ext e3
  have hM3 := hM2.ext e3
  have hX3 := hX1.ext e3
  have hZ3 := hX2.ext e3
  have E3 := e1.trans (e2.trans e3)
  refine V.seq (V.region (VL.op (R.lss rfl rfl) (VL.nil (V.seq (V.condP rfl (fun c14 => V.skip (V.seq (V.block (V.seq (?_))))) (fun c14 => V.exit (V.seq (V.seq (?_)))))))))
  · have hkl : k < mem.length := by omega
    have h0 : 0 < k → 0 ≤ mem.getD 0 default ∧ (mem.getD 0 default).toNat < recs.length := fun h => ⟨(hi 0 h).1.1, (hi 0 h).1.2.1⟩
    have hp : 0 < k → 0 ≤ mem.getD (k - 1) default := fun h => (hi (k - 1) (by omega)).1.1
    have hz : ∀ {p : Prop}, (0 < k → p) → (k = 0 → p) → p := fun h1 h2 => by
      by_cases h : k = 0
      · exact h2 h
      · exact h1 (by omega)
    obtain ⟨last, hlast⟩ : ∃ last, last = (if k = 0 then -1 else mem.getD (k - 1) default) := ⟨_, rfl⟩
    have hla : (mem.getD k default ≤ last) ↔ ¬ (0 ≤ mem.getD k default ∧ (0 < k → mem.getD (k - 1) default < mem.getD k default)) := by
      rw [hlast]
      by_cases h : k = 0
      · rw [if_pos h]; subst h; constructor <;> intro h <;> omega
      · rw [if_neg h]
        have := hp (by omega)
        constructor
        · intro h1 h2; have := h2.2 (by omega); omega
        · intro h1
          refine Classical.byContradiction fun h2 => h1 ⟨by omega, fun _ => by omega⟩
    have hm0 : 0 ≤ mem.getD k default → (mem.getD k default).toNat < recs.length → 0 ≤ mem.getD 0 default ∧ (mem.getD 0 default).toNat < recs.length := fun h1 h2 => hz h0 fun h => by subst h; exact ⟨h1, h2⟩
    rw [← hlast]
    have hge : ¬ mem.getD k default ≤ last → 0 ≤ mem.getD k default := fun h => by
      have := (not_congr hla).1 h
      exact (Classical.not_not.1 this).1
    refine V.region (VL.op (R.ixS Try.runUnderlying34 Try.sizeOf3 rfl rfl (by omega) (by omega) ((hM3).some (i := k) (by omega))) (VL.op (R.ld1 Try.isAgg3 rfl (((((hM3).ext (Mod.refl _ _)).row (i := k) (by omega)).cell (i := 0) rfl))) (VL.op (R.asI rfl) (VL.nil (V.seq (V.seq (V.regionQCut mixed 33 (by kernel_rfl) rfl (fun w' => Ext _ w') (Ext.drawn _) [17, 18, 19, 20, 21, 22, 23, 24, 25, 26, 27, 28, 29, 30, 31, 32, 33, 34, 35, 36, 37, 38, 39, 40, 41, 42, 43, 44, 45, 46, 47, 48, 49] 49 (.bool (!decide (okAt s recs mem k))) rfl (VQ.op (fun wq eq => R.mvI rfl) (VQ.op (fun wq eq => R.mvI rfl) (VQ.op (fun wq eq => R.leq rfl rfl) (VQ.op (fun wq eq => R.mvB rfl) (VQ.orP rfl rfl (fun g5_3 => VQ.op (fun wq eq => R.mvI rfl) (VQ.gT rfl rfl (VQ.op (fun wq eq => R.mvS rfl) (VQ.gT rfl rfl (VQ.op (fun wq eq => R.lenS Try.runUnderlying33 rfl) (VQ.gT rfl rfl (VQ.op (fun wq eq => R.geq rfl rfl) (VQ.op (fun wq eq => R.pickFB rfl rfl) (VQ.op (fun wq eq => R.mvB rfl) (VQ.orP rfl rfl (fun g5_9 => VQ.op (fun wq eq => R.ldA Try.isAgg32 Try.sizeOf32 rfl rfl ((show RowAt _ _ _ (encSet s) from (hX3.ext eq).rowAt 0 7)) rfl) (VQ.gT rfl rfl (VQ.op (fun wq eq => R.mvS rfl) (VQ.gT rfl rfl (VQ.op (fun wq eq => R.mvI rfl) (VQ.gT rfl rfl (VQ.op (fun wq eq => R.ixS Try.runUnderlying33 Try.sizeOf53 rfl rfl (by have := hge g5_3; omega) (by have := hge g5_3; omega) (hR3.sl.some (i := (mem.getD k default).toNat) (by have := hge g5_3; omega))) (VQ.gT rfl rfl (VQ.op (fun wq eq => R.ldA Try.isAgg53 Try.sizeOf53 rfl rfl ((show RowAt _ _ _ (encRec (recs.getD (mem.getD k default).toNat default)) from ((hR3.sl.ext eq).row (i := (mem.getD k default).toNat) (by have := hge g5_3; omega)))) rfl) (VQ.gT rfl rfl (VQ.callP (fun _ _ h k => Mod.trans h k) Try.call31 rfl (fun wq eq => formed_spec s (recs.getD (mem.getD k default).toNat default) _ (by omega) (hS3.ext eq)) (VQ.gT rfl rfl (VQ.op (fun wq eq => R.not rfl) (VQ.op (fun wq eq => R.pickFB rfl rfl) (VQ.op (fun wq eq => R.mvB rfl) (VQ.or rfl rfl (fun g5_18 => VQ.op (fun wq eq => R.mvS rfl) (VQ.gT rfl rfl (VQ.op (fun wq eq => R.mvI rfl) (VQ.gT rfl rfl (VQ.op (fun wq eq => R.ixS Try.runUnderlying33 Try.sizeOf53 rfl rfl (by have := hge g5_3; omega) (by have := hge g5_3; omega) (hR3.sl.some (i := (mem.getD k default).toNat) (by have := hge g5_3; omega))) (VQ.gT rfl rfl (VQ.op (fun wq eq => R.fld' (o := 3) Try.runUnderlying53 rfl rfl Try.sizeOf3 rfl rfl) (VQ.gT rfl rfl (VQ.op (fun wq eq => R.ld1 Try.isAgg3 rfl ((((hR3.sl.ext eq).row (i := (mem.getD k default).toNat) (by have := hge g5_3; omega)).cell (i := 3) rfl))) (VQ.gT rfl rfl (VQ.op (fun wq eq => R.mvS rfl) (VQ.gT rfl rfl (VQ.op (fun wq eq => R.mvS rfl) (VQ.gT rfl rfl (VQ.op (fun wq eq => R.ixS Try.runUnderlying34 Try.sizeOf3 rfl rfl (by omega) (by omega) (hM3.some (i := 0) (by omega))) (VQ.gT rfl rfl (VQ.op (fun wq eq => R.ld1 Try.isAgg3 rfl ((((hM3.ext eq).row (i := 0) (by omega)).cell (i := 0) rfl))) (VQ.gT rfl rfl (VQ.op (fun wq eq => R.ixS Try.runUnderlying33 Try.sizeOf53 rfl rfl (by have := hm0 (hge g5_3) (by have := hge g5_3; omega); omega) (by have := hm0 (hge g5_3) (by have := hge g5_3; omega); omega) (hR3.sl.some (i := (mem.getD 0 default).toNat) (by have := hm0 (hge g5_3) (by have := hge g5_3; omega); omega))) (VQ.gT rfl rfl (VQ.op (fun wq eq => R.fld' (o := 3) Try.runUnderlying53 rfl rfl Try.sizeOf3 rfl rfl) (VQ.gT rfl rfl (VQ.op (fun wq eq => R.ld1 Try.isAgg3 rfl ((((hR3.sl.ext eq).row (i := (mem.getD 0 default).toNat) (by have := hm0 (hge g5_3) (by have := hge g5_3; omega); omega)).cell (i := 3) rfl))) (VQ.gT rfl rfl (VQ.op (fun wq eq => R.neq rfl rfl) (VQ.op (fun wq eq => R.pickFB rfl rfl) (VQ.nil (cutB rfl ?_)))))))))))))))))))))))))))) (fun g5_18 => VQ.gF rfl rfl (VQ.gF rfl rfl (VQ.gF rfl rfl (VQ.gF rfl rfl (VQ.gF rfl rfl (VQ.gF rfl rfl (VQ.gF rfl rfl (VQ.gF rfl rfl (VQ.gF rfl rfl (VQ.gF rfl rfl (VQ.gF rfl rfl (VQ.gF rfl rfl (VQ.op (fun wq eq => R.pickTB rfl rfl) (VQ.nil (cutB rfl ?_))))))))))))))))))))))))))))))) (fun g5_9 => VQ.gF rfl rfl (VQ.gF rfl rfl (VQ.gF rfl rfl (VQ.gF rfl rfl (VQ.gF rfl rfl (VQ.gF rfl rfl (VQ.op (fun wq eq => R.pickTB rfl rfl) (VQ.op (fun wq eq => R.mvB rfl) (VQ.gF rfl rfl (VQ.gF rfl rfl (VQ.gF rfl rfl (VQ.gF rfl rfl (VQ.gF rfl rfl (VQ.gF rfl rfl (VQ.gF rfl rfl (VQ.gF rfl rfl (VQ.gF rfl rfl (VQ.gF rfl rfl (VQ.gF rfl rfl (VQ.gF rfl rfl (VQ.gF rfl rfl (VQ.op (fun wq eq => R.pickTB rfl rfl) (VQ.nil (cutB rfl ?_)))))))))))))))))))))))))))))))))) (fun g5_3 => VQ.gF rfl rfl (VQ.gF rfl rfl (VQ.gF rfl rfl (VQ.op (fun wq eq => R.pickTB rfl rfl) (VQ.op (fun wq eq => R.mvB rfl) (VQ.gF rfl rfl (VQ.gF rfl rfl (VQ.gF rfl rfl (VQ.gF rfl rfl (VQ.gF rfl rfl (VQ.gF rfl rfl (VQ.gF rfl rfl (VQ.op (fun wq eq => R.pickTB rfl rfl) (VQ.op (fun wq eq => R.mvB rfl) (VQ.gF rfl rfl (VQ.gF rfl rfl (VQ.gF rfl rfl (VQ.gF rfl rfl (VQ.gF rfl rfl (VQ.gF rfl rfl (VQ.gF rfl rfl (VQ.gF rfl rfl (VQ.gF rfl rfl (VQ.gF rfl rfl (VQ.gF rfl rfl (VQ.gF rfl rfl (VQ.gF rfl rfl (VQ.op (fun wq eq => R.pickTB rfl rfl) (VQ.nil (cutB rfl ?_))))))))))))))))))))))))))))))))))) (fun rg5 w5c e5c => V.cond rfl (fun c49 => V.seq (?_)) (fun c49 => V.skip (?_))))))))))
    · cases hd : decide (okAt s recs mem k) with
      | true =>
        have h := of_decide_eq_true hd
        exact decide_eq_false fun hh => hh h.2.2
      | false =>
        have h := of_decide_eq_false hd
        refine decide_eq_true fun hh => h ⟨⟨hge g5_3, by have := hge g5_3; omega, (Classical.not_not.1 ((not_congr hla).1 g5_3)).2⟩, by simpa using g5_18, hh⟩
    · rw [decide_eq_false (fun h : okAt s recs mem k => by rw [h.2.1] at g5_18; cases g5_18)]; rfl
    · rw [decide_eq_false (fun h : okAt s recs mem k => by have := h.1; omega)]; rfl
    · rw [decide_eq_false (fun h : okAt s recs mem k => hla.1 g5_3 ⟨h.1.1, h.1.2.2⟩)]; rfl
    · have hb := memB_no hkl (of_decide_eq_false (by simpa using c49) : ¬ okAt s recs mem k)
      have hoe : ofE s recs mem ra ma rc mc = zeroE := by unfold ofE; rw [hb]; rfl
      rw [hb, hoe]
      have hZ := hZ3.ext (by assumption : Ext w3 _)
      refine V.region (VL.op (R.build Try.zeroValue72 Try.runUnderlying72 pl72 rfl) (VL.store (v := .agg _) Try.sizeOf72 rfl rfl rfl rfl hZ rfl rfl fun w7 m7 hs7 hB7 => VL.op (R.asB rfl) (VL.nil (V.ret (fretCT (v := .bool _) rfl rfl rfl rfl rfl Try.isAgg72 Try.sizeOf72 rfl (show RowAt _ _ _ (encEnt zeroE) from hB7.rowAt 0 10) rfl (⟨rfl, Mod.ownA (E3.trans (by assumption)) m7 fun x hx => ?_⟩))))))
      have hx : x = b2 := hx
      have := e1.size
      omega
    · have hok : okAt s recs mem k := of_decide_eq_true (by simpa using c49)
      have hx : (if k + 1 = 0 then (-1 : Int) else mem.getD (k + 1 - 1) default) = mem.getD k default := by rw [if_neg (by omega), Nat.add_sub_cancel]
      refine V.region (VL.op (R.mvI rfl) (VL.op (R.asI rfl) (VL.nil (V.region (VL.op (R.add rfl rfl (by omega) (by omega)) (VL.op (R.mvI rfl) (VL.nil (⟨k + 1, ?_, ⟨by omega, fun i hik => ?_, e3.trans (by assumption)⟩, by omega⟩))))))))
      · dsimp only; rw [hx]; rfl
      · by_cases h : i = k
        · subst h; exact hok
        · exact hi i (by omega)
  · have hkl : k = mem.length := by omega
    subst hkl
    refine V.region (VL.op (R.mvS rfl) (VL.op (R.lenS Try.runUnderlying34 rfl) (VL.op (R.eql rfl rfl) (VL.nil (V.condP rfl (fun c55 => V.seq (?_)) (fun c55 => V.skip (V.seq (?_))))))))
    · have hb : memB s recs mem = false := decide_eq_false fun h => by have := h.1; omega
      have hoe : ofE s recs mem ra ma rc mc = zeroE := by unfold ofE; rw [hb]; rfl
      rw [hb, hoe]
      refine V.region (VL.op (R.build Try.zeroValue72 Try.runUnderlying72 pl72 rfl) (VL.store (v := .agg _) Try.sizeOf72 rfl rfl rfl rfl hZ3 rfl rfl fun w7 m7 hs7 hB7 => VL.op (R.asB rfl) (VL.nil (V.ret (fretCT (v := .bool _) rfl rfl rfl rfl rfl Try.isAgg72 Try.sizeOf72 rfl (show RowAt _ _ _ (encEnt zeroE) from hB7.rowAt 0 10) rfl (⟨rfl, Mod.ownA E3 m7 fun x hx => ?_⟩))))))
      have hx : x = b2 := hx
      have := e1.size
      omega
    · have hlp : 0 < mem.length := by omega
      have hb : memB s recs mem = true := decide_eq_true ⟨hlp, hi⟩
      have h0 := (hi 0 hlp).1
      have hoe : ofE s recs mem ra ma rc mc = ⟨s, (recs.getD (mem.getD 0 default).toNat default).table, ra, rc, recs, ma, mc, mem⟩ := by unfold ofE; rw [if_pos hb]
      rw [hb, hoe]
      refine V.regionQ mixed 11 (by kernel_rfl) rfl (fun w' => Ext _ w') (Ext.drawn _) (VQ.op (fun wq eq => R.ldA Try.isAgg32 Try.sizeOf32 rfl rfl ((show RowAt _ _ _ (encSet s) from (hX3.ext eq).rowAt 0 7)) rfl) (VQ.op (fun wq eq => R.mvS rfl) (VQ.op (fun wq eq => R.mvS rfl) (VQ.op (fun wq eq => R.ixS Try.runUnderlying34 Try.sizeOf3 rfl rfl (by omega) (by omega) (hM3.some (i := 0) (by omega))) (VQ.op (fun wq eq => R.ld1 Try.isAgg3 rfl ((((hM3.ext eq).row (i := 0) (by omega)).cell (i := 0) rfl))) (VQ.op (fun wq eq => R.ixS Try.runUnderlying33 Try.sizeOf53 rfl rfl (by omega) (by omega) (hR3.sl.some (i := (mem.getD 0 default).toNat) (by omega))) (VQ.op (fun wq eq => R.fld' (o := 3) Try.runUnderlying53 rfl rfl Try.sizeOf3 rfl rfl) (VQ.op (fun wq eq => R.ld1 Try.isAgg3 rfl ((((hR3.sl.ext eq).row (i := (mem.getD 0 default).toNat) (by omega)).cell (i := 3) rfl))) (VQ.op (fun wq eq => R.mvS rfl) (VQ.op (fun wq eq => R.mvS rfl) (VQ.op (fun wq eq => R.build Try.zeroValue72 Try.runUnderlying72 pl72 rfl) (VQ.nil fun w11q e11q => VL.store (v := .agg _) Try.sizeOf72 rfl rfl rfl rfl (hZ3.ext e11q) rfl rfl fun w7 m7 hs7 hB7 => VL.op (R.asB rfl) (VL.nil (V.ret (fretCT (v := .bool _) rfl rfl rfl rfl rfl Try.isAgg72 Try.sizeOf72 rfl (show RowAt _ _ _ (encEnt ⟨s, (recs.getD (mem.getD 0 default).toNat default).table, ra, rc, recs, ma, mc, mem⟩) from hB7.rowAt 0 10) rfl (⟨rfl, Mod.ownA (E3.trans e11q) m7 fun x hx => ?_⟩))))))))))))))))
      have hx : x = b2 := hx
      have := e1.size
      omega
end Go.Proofs.Ytckihgamnmmbnaa

/- Golden: the reference's members. -/
namespace Go.Proofs.Ytckihgamnmmbnaa
open Go.Vc Go.Sort
theorem nd_t {p : Prop} [Decidable p] (h : (!decide p) = true) : ¬ p := by
  intro hp; rw [decide_eq_true hp] at h; cases h
theorem nd_f {p : Prop} [Decidable p] (h : (!decide p) = false) : p := by
  by_cases hp : p
  · exact hp
  · rw [decide_eq_false hp] at h; cases h
set_option maxRecDepth 100000 in
set_option maxHeartbeats 4000000 in
theorem rmembers_spec (s : Set_) (recs : List Rec) (mem : List Int) (ra ma : Option Addr) (rc mc : Nat) (w : World) (hm : mem.length ≤ 1000000) (hr : recs.length ≤ 1000000) (hl : s.tabs.length ≤ 1000000) (hS : SetW w s) (hR : RecsW w ra recs) (hM : IntSl w ma mem) :
    RetsP Try.prog 27 #[.agg (encSet s).toArray, .slice ra recs.length rc, .slice ma mem.length mc] w (.bool (memB s recs mem)) := by
  refine enter (args := [_, _, _]) Try.func27 rfl Try.ntmps27 (by kernel_rfl) rfl ?_
  refine V.seq (V.region (VL.box (v := .agg _) rfl fun b1 w1 hb1 e1 hX1 => VL.op (R.asB rfl) (VL.nil (V.seq (V.seq (V.region (VL.op (R.asI rfl) (VL.nil (V.block (?_))))))))))
  have hS2 := hS.ext e1
  have hR2 := hR.ext e1
  have hM2 := hM.ext e1
  refine V.loop [1, 2, 3, 7] (fun k : Nat => [.slice ra recs.length rc, .slice ma mem.length mc, .pointer (some ⟨b1, 0, none⟩), .int .i64 k])
    (fun k w' => k ≤ mem.length ∧ (∀ i, i < k → okAt s recs mem i) ∧ Ext w1 w') (fun k => mem.length - k) 0 rfl ⟨Nat.zero_le _, fun i h => absurd h (Nat.not_lt_zero i), Mod.refl _ _⟩ ?_
  rintro ρ k w3 ⟨hk, hi, e3⟩
  have hS3 := hS2.ext e3
  have hR3 := hR2.ext e3
  have hM3 := hM2.ext e3
  have hX3 := hX1.ext e3
  have E3 := e1.trans e3
  have h0 : 0 < k → 0 ≤ mem.getD 0 default ∧ (mem.getD 0 default).toNat < recs.length := fun h => ⟨(hi 0 h).1.1, (hi 0 h).1.2.1⟩
  refine V.seq (V.seq (V.region (VL.op (R.mvI rfl) (VL.op (R.mvS rfl) (VL.op (R.lenS Try.runUnderlying34 rfl) (VL.op (R.lss rfl rfl) (VL.nil (V.condP rfl (fun c11 => V.skip (V.seq (V.block (V.seq (V.seq (?_)))))) (fun c11 => V.exit (V.seq (V.region (VL.op (R.mvS rfl) (VL.op (R.lenS Try.runUnderlying34 rfl) (VL.op (R.gtr rfl rfl) (VL.op (R.asB rfl) (VL.nil (V.ret (fret1 (v := .bool _) rfl rfl rfl (⟨?_, E3.trans (Mod.refl _ _)⟩)))))))))))))))))))
  · have hkl : k < mem.length := by omega
    refine V.regionQCut mixed 30 (by kernel_rfl) rfl (fun w' => Ext _ w') (Ext.drawn _) [14, 15, 16, 17, 18, 19, 20, 21, 22, 23, 24, 25, 26, 27, 28, 29, 30, 31, 32, 33, 34, 35, 36, 37, 38, 39, 40, 41, 42, 43] 43 (.bool (!decide (0 ≤ mem.getD k default ∧ (mem.getD k default).toNat < recs.length ∧ (0 < k → mem.getD (k - 1) default < mem.getD k default)))) rfl (VQ.op (fun wq eq => R.mvS rfl) (VQ.op (fun wq eq => R.mvI rfl) (VQ.op (fun wq eq => R.ixS Try.runUnderlying34 Try.sizeOf3 rfl rfl (by omega) (by omega) ((hM3).some (i := k) (by omega))) (VQ.op (fun wq eq => R.ld1 Try.isAgg3 rfl (((((hM3).ext eq).row (i := k) (by omega)).cell (i := 0) rfl))) (VQ.op (fun wq eq => R.lss rfl rfl) (VQ.op (fun wq eq => R.mvB rfl) (VQ.orP rfl rfl (fun g4_5 => VQ.op (fun wq eq => R.mvS rfl) (VQ.gT rfl rfl (VQ.op (fun wq eq => R.mvI rfl) (VQ.gT rfl rfl (VQ.op (fun wq eq => R.ixS Try.runUnderlying34 Try.sizeOf3 rfl rfl (by omega) (by omega) ((hM3).some (i := k) (by omega))) (VQ.gT rfl rfl (VQ.op (fun wq eq => R.ld1 Try.isAgg3 rfl (((((hM3).ext eq).row (i := k) (by omega)).cell (i := 0) rfl))) (VQ.gT rfl rfl (VQ.op (fun wq eq => R.mvS rfl) (VQ.gT rfl rfl (VQ.op (fun wq eq => R.lenS Try.runUnderlying33 rfl) (VQ.gT rfl rfl (VQ.op (fun wq eq => R.geq rfl rfl) (VQ.op (fun wq eq => R.pickFB rfl rfl) (VQ.op (fun wq eq => R.mvB rfl) (VQ.orP rfl rfl (fun g4_14 => VQ.op (fun wq eq => R.mvI rfl) (VQ.gT rfl rfl (VQ.op (fun wq eq => R.gtr rfl rfl) (VQ.gT rfl rfl (VQ.op (fun wq eq => R.mvB rfl) (VQ.andP rfl rfl (fun g4_17 => VQ.op (fun wq eq => R.mvS rfl) (VQ.gT rfl rfl (VQ.op (fun wq eq => R.mvI rfl) (VQ.gT rfl rfl (VQ.op (fun wq eq => R.ixS Try.runUnderlying34 Try.sizeOf3 rfl rfl (by omega) (by omega) ((hM3).some (i := k) (by omega))) (VQ.gT rfl rfl (VQ.op (fun wq eq => R.ld1 Try.isAgg3 rfl (((((hM3).ext eq).row (i := k) (by omega)).cell (i := 0) rfl))) (VQ.gT rfl rfl (VQ.op (fun wq eq => R.mvS rfl) (VQ.gT rfl rfl (VQ.op (fun wq eq => R.mvI rfl) (VQ.gT rfl rfl (VQ.op (fun wq eq => R.sub rfl rfl (by omega) (by omega)) (VQ.gT rfl rfl (VQ.op (fun wq eq => R.ixS Try.runUnderlying34 Try.sizeOf3 rfl rfl (by omega) (by omega) (hM3.some (i := ((k : Int) - 1).toNat) (by omega))) (VQ.gT rfl rfl (VQ.op (fun wq eq => R.ld1 Try.isAgg3 rfl ((((hM3.ext eq).row (i := ((k : Int) - 1).toNat) (by omega)).cell (i := 0) rfl))) (VQ.gT rfl rfl (VQ.op (fun wq eq => R.leq rfl rfl) (VQ.gT rfl rfl (VQ.op (fun wq eq => R.pickTB rfl rfl) (VQ.op (fun wq eq => R.pickFB rfl rfl) (VQ.nil (cutB rfl ?_)))))))))))))))))))))))) (fun g4_17 => VQ.gF rfl rfl (VQ.gF rfl rfl (VQ.gF rfl rfl (VQ.gF rfl rfl (VQ.gF rfl rfl (VQ.gF rfl rfl (VQ.gF rfl rfl (VQ.gF rfl rfl (VQ.gF rfl rfl (VQ.gT rfl rfl (VQ.op (fun wq eq => R.pickFB rfl rfl) (VQ.op (fun wq eq => R.pickFB rfl rfl) (VQ.nil (cutB rfl ?_)))))))))))))))))))) (fun g4_14 => VQ.gF rfl rfl (VQ.gF rfl rfl (VQ.gU rfl rfl (VQ.gU rfl rfl (VQ.gU rfl rfl (VQ.gU rfl rfl (VQ.gU rfl rfl (VQ.gU rfl rfl (VQ.gU rfl rfl (VQ.gU rfl rfl (VQ.gU rfl rfl (VQ.gU rfl rfl (VQ.gF rfl rfl (VQ.op (fun wq eq => R.pickTB rfl rfl) (VQ.nil (cutB rfl ?_)))))))))))))))))))))))))))))))) (fun g4_5 => VQ.gF rfl rfl (VQ.gF rfl rfl (VQ.gF rfl rfl (VQ.gF rfl rfl (VQ.gF rfl rfl (VQ.gF rfl rfl (VQ.op (fun wq eq => R.pickTB rfl rfl) (VQ.op (fun wq eq => R.mvB rfl) (VQ.gF rfl rfl (VQ.gF rfl rfl (VQ.gF rfl rfl (VQ.gU rfl rfl (VQ.gU rfl rfl (VQ.gU rfl rfl (VQ.gU rfl rfl (VQ.gU rfl rfl (VQ.gU rfl rfl (VQ.gU rfl rfl (VQ.gU rfl rfl (VQ.gU rfl rfl (VQ.gU rfl rfl (VQ.gF rfl rfl (VQ.op (fun wq eq => R.pickTB rfl rfl) (VQ.nil (cutB rfl ?_)))))))))))))))))))))))))))))))) (fun rg4 w4c e4c => V.cond rfl (fun c43 => V.seq (V.region (VL.op (R.asB rfl) (VL.nil (V.ret (fret1 (v := .bool _) rfl rfl rfl (⟨?_, E3.trans e4c⟩))))))) (fun c43 => V.skip (V.seq (?_))))
    · rw [show ((k : Int) - 1).toNat = k - 1 by omega, ← decide_not]
      exact decide_eq_decide.2 ⟨fun h hh => by have := hh.2.2 (by omega); omega, fun h => by
        refine Classical.byContradiction fun hh => h ⟨by omega, by omega, fun _ => by omega⟩⟩
    · rw [decide_eq_true (show _ ∧ _ ∧ _ from ⟨by omega, by omega, fun h => by omega⟩)]; rfl
    · rw [decide_eq_false (fun h => by omega)]; rfl
    · rw [decide_eq_false (fun h => by omega)]; rfl
    · rw [memB_no hkl fun h => nd_t c43 h.1]
    · have hA : 0 ≤ mem.getD k default ∧ (mem.getD k default).toNat < recs.length ∧ (0 < k → mem.getD (k - 1) default < mem.getD k default) := nd_f c43
      have hm0 : 0 ≤ mem.getD 0 default ∧ (mem.getD 0 default).toNat < recs.length := by
        by_cases h : k = 0
        · subst h; exact ⟨hA.1, hA.2.1⟩
        · exact h0 (by omega)
      have hS4 := hS3.ext e4c
      have hR4 := hR3.ext e4c
      have hM4 := hM3.ext e4c
      have hX4 := hX3.ext e4c
      refine V.regionQCut mixed 28 (by kernel_rfl) rfl (fun w' => Ext _ w') (Ext.drawn _) [44, 45, 46, 47, 48, 49, 50, 51, 52, 53, 54, 55, 56, 57, 58, 59, 60, 61, 62, 63, 64, 65, 66, 67, 68, 69, 70, 71] 71 (.bool (!decide (formedG s (recs.getD (mem.getD k default).toNat default) = true ∧ (recs.getD (mem.getD k default).toNat default).table = (recs.getD (mem.getD 0 default).toNat default).table))) rfl (VQ.op (fun wq eq => R.ldA Try.isAgg32 Try.sizeOf32 rfl rfl ((show RowAt _ _ _ (encSet s) from (hX4.ext eq).rowAt 0 7)) rfl) (VQ.op (fun wq eq => R.mvS rfl) (VQ.op (fun wq eq => R.mvS rfl) (VQ.op (fun wq eq => R.mvI rfl) (VQ.op (fun wq eq => R.ixS Try.runUnderlying34 Try.sizeOf3 rfl rfl (by omega) (by omega) ((hM4).some (i := k) (by omega))) (VQ.op (fun wq eq => R.ld1 Try.isAgg3 rfl (((((hM4).ext eq).row (i := k) (by omega)).cell (i := 0) rfl))) (VQ.op (fun wq eq => R.ixS Try.runUnderlying33 Try.sizeOf53 rfl rfl (by omega) (by omega) (hR4.sl.some (i := (mem.getD k default).toNat) (by omega))) (VQ.op (fun wq eq => R.ldA Try.isAgg53 Try.sizeOf53 rfl rfl ((show RowAt _ _ _ (encRec (recs.getD (mem.getD k default).toNat default)) from ((hR4.sl.ext eq).row (i := (mem.getD k default).toNat) (by omega)))) rfl) (VQ.callP (fun _ _ h k => Mod.trans h k) Try.call42 rfl (fun wq eq => rformed_spec s (recs.getD (mem.getD k default).toNat default) _ (by omega) (hS4.ext eq)) (VQ.op (fun wq eq => R.not rfl) (VQ.op (fun wq eq => R.mvB rfl) (VQ.or rfl rfl (fun g6_10 => VQ.op (fun wq eq => R.mvS rfl) (VQ.gT rfl rfl (VQ.op (fun wq eq => R.mvS rfl) (VQ.gT rfl rfl (VQ.op (fun wq eq => R.mvI rfl) (VQ.gT rfl rfl (VQ.op (fun wq eq => R.ixS Try.runUnderlying34 Try.sizeOf3 rfl rfl (by omega) (by omega) ((hM4).some (i := k) (by omega))) (VQ.gT rfl rfl (VQ.op (fun wq eq => R.ld1 Try.isAgg3 rfl (((((hM4).ext eq).row (i := k) (by omega)).cell (i := 0) rfl))) (VQ.gT rfl rfl (VQ.op (fun wq eq => R.ixS Try.runUnderlying33 Try.sizeOf53 rfl rfl (by omega) (by omega) (hR4.sl.some (i := (mem.getD k default).toNat) (by omega))) (VQ.gT rfl rfl (VQ.op (fun wq eq => R.fld' (o := 3) Try.runUnderlying53 rfl rfl Try.sizeOf3 rfl rfl) (VQ.gT rfl rfl (VQ.op (fun wq eq => R.ld1 Try.isAgg3 rfl ((((hR4.sl.ext eq).row (i := (mem.getD k default).toNat) (by omega)).cell (i := 3) rfl))) (VQ.gT rfl rfl (VQ.op (fun wq eq => R.mvS rfl) (VQ.gT rfl rfl (VQ.op (fun wq eq => R.mvS rfl) (VQ.gT rfl rfl (VQ.op (fun wq eq => R.ixS Try.runUnderlying34 Try.sizeOf3 rfl rfl (by omega) (by omega) (hM4.some (i := 0) (by omega))) (VQ.gT rfl rfl (VQ.op (fun wq eq => R.ld1 Try.isAgg3 rfl ((((hM4.ext eq).row (i := 0) (by omega)).cell (i := 0) rfl))) (VQ.gT rfl rfl (VQ.op (fun wq eq => R.ixS Try.runUnderlying33 Try.sizeOf53 rfl rfl (by omega) (by omega) (hR4.sl.some (i := (mem.getD 0 default).toNat) (by omega))) (VQ.gT rfl rfl (VQ.op (fun wq eq => R.fld' (o := 3) Try.runUnderlying53 rfl rfl Try.sizeOf3 rfl rfl) (VQ.gT rfl rfl (VQ.op (fun wq eq => R.ld1 Try.isAgg3 rfl ((((hR4.sl.ext eq).row (i := (mem.getD 0 default).toNat) (by omega)).cell (i := 3) rfl))) (VQ.gT rfl rfl (VQ.op (fun wq eq => R.neq rfl rfl) (VQ.op (fun wq eq => R.pickFB rfl rfl) (VQ.nil (cutB rfl ?_)))))))))))))))))))))))))))))))))) (fun g6_10 => VQ.gF rfl rfl (VQ.gF rfl rfl (VQ.gF rfl rfl (VQ.gF rfl rfl (VQ.gF rfl rfl (VQ.gF rfl rfl (VQ.gF rfl rfl (VQ.gF rfl rfl (VQ.gF rfl rfl (VQ.gF rfl rfl (VQ.gF rfl rfl (VQ.gF rfl rfl (VQ.gF rfl rfl (VQ.gF rfl rfl (VQ.gF rfl rfl (VQ.op (fun wq eq => R.pickTB rfl rfl) (VQ.nil (cutB rfl ?_)))))))))))))))))))))))))))))) (fun rg6 w6c e6c => V.cond rfl (fun c71 => V.seq (V.region (VL.op (R.asB rfl) (VL.nil (V.ret (fret1 (v := .bool _) rfl rfl rfl (⟨?_, (E3.trans e4c).trans e6c⟩))))))) (fun c71 => V.skip (V.region (VL.op (R.mvI rfl) (VL.op (R.add rfl rfl (by omega) (by omega)) (VL.op (R.asI rfl) (VL.nil (⟨k + 1, rfl, ⟨by omega, fun i hik => ?_, (e3.trans e4c).trans e6c⟩, by omega⟩))))))))
      · rw [← decide_not]
        exact decide_eq_decide.2 ⟨fun h hh => h hh.2, fun h hh => h ⟨by simpa using g6_10, hh⟩⟩
      · rw [decide_eq_false (fun h => by rw [h.1] at g6_10; cases g6_10)]; rfl
      · rw [memB_no hkl fun h => nd_t c71 h.2]
      · by_cases h : i = k
        · subst h; exact ⟨hA, nd_f c71⟩
        · exact hi i (by omega)
  · have hkl : k = mem.length := by omega
    subst hkl
    have : memB s recs mem = decide ((0 : Int) < mem.length) := decide_eq_decide.2 ⟨fun h => by have := h.1; omega, fun h => ⟨by omega, hi⟩⟩
    rw [this]
end Go.Proofs.Ytckihgamnmmbnaa

/- Golden: clones, rows, base rows. -/
namespace Go.Proofs.Ytckihgamnmmbnaa
open Go.Vc Go.Sort
abbrev ValSl (w : World) (a : Option Addr) (l : List Val) : Prop := TSl encVal 3 w a l
theorem eltV : Elt encVal 3 := ⟨fun _ => rfl, fun _ => rfl, by decide⟩
theorem cloneV_spec (a : Option Addr) (ca : Nat) (l : List Val) (w : World) (hm : l.length ≤ 1000000) (hax : a = none → ca = 0) (hS : ValSl w a l) :
    RetsX Try.prog 50 #[.slice a l.length ca] w (fun x : Option Addr × Nat => .slice x.1 l.length x.2) (fun x w' => OwnT encVal 3 55 w.heap.size w' x.1 x.2 l) := by
  refine enter (args := [_]) Try.func50 rfl Try.ntmps50 (by kernel_rfl) rfl ?_
  refine V.seq (V.region (VL.op (R.asS rfl) (VL.nil (V.seq (V.seq (V.region (VL.op (R.mvS rfl) (VL.op (R.eqlNil Try.runUnderlying37 rfl rfl) (VL.nil (V.cond rfl (fun c4 => V.seq (V.region (VL.op (R.asS rfl) (VL.nil (V.ret (fret1 (v := .slice _ _ _) rfl rfl rfl (?_))))))) (fun c4 => V.skip (V.seq (V.region (VL.buildSl Try.runUnderlying37 Try.sizeOf55 Try.zeroValue55 rfl rfl rfl fun b5 w5 hb5 e5 hX5 => VL.op (R.mvS rfl) (VL.appendT el37 (fun _ => rfl) rfl (rfl) ((OwnT.of0 encVal 3 hX5 (Nat.le_of_eq (Eq.symm hb5)))) rfl (rfl) ((hS.ext e5)) (hax) (by simp; omega) (by simp [maxLen]; omega) (e5).size rfl fun a6 c6 w6 ho6 m6 hf6 => VL.op (R.asS rfl) (VL.nil (V.ret (fret1 (v := .slice _ _ _) rfl rfl rfl (?_)))))))))))))))))))
  · have ha : a = none := of_decide_eq_true c4
    have hl : l = [] := by
      cases l with
      | nil => rfl
      | cons x l => obtain ⟨b, o, h⟩ := TSl.some (i := 0) hS (by simp); rw [ha] at h; cases h
    subst hl
    exact ⟨(none, 0), rfl, OwnT.nil encVal 3 55 _ _, Mod.refl _ _⟩
  · exact ⟨(a6, c6), by rw [Nat.zero_add], ho6, Mod.ownA e5 m6 fun k hk => by have := aBlk_some hk; omega⟩
theorem cloneI_spec (a : Option Addr) (ca : Nat) (l : List Int) (w : World) (hm : l.length ≤ 1000000) (hax : a = none → ca = 0) (hS : IntSl w a l) :
    RetsX Try.prog 60 #[.slice a l.length ca] w (fun x : Option Addr × Nat => .slice x.1 l.length x.2) (fun x w' => OwnT encI 1 3 w.heap.size w' x.1 x.2 l) := by
  refine enter (args := [_]) Try.func60 rfl Try.ntmps60 (by kernel_rfl) rfl ?_
  refine V.seq (V.region (VL.op (R.asS rfl) (VL.nil (V.seq (V.seq (V.region (VL.op (R.mvS rfl) (VL.op (R.eqlNil Try.runUnderlying34 rfl rfl) (VL.nil (V.cond rfl (fun c4 => V.seq (V.region (VL.op (R.asS rfl) (VL.nil (V.ret (fret1 (v := .slice _ _ _) rfl rfl rfl (?_))))))) (fun c4 => V.skip (V.seq (V.region (VL.buildSl Try.runUnderlying34 Try.sizeOf3 Try.zeroValue3 rfl rfl rfl fun b5 w5 hb5 e5 hX5 => VL.op (R.mvS rfl) (VL.appendT el34 (fun _ => rfl) rfl (rfl) ((OwnT.of0 encI 1 hX5 (Nat.le_of_eq (Eq.symm hb5)))) rfl (rfl) ((hS.ext e5)) (hax) (by simp; omega) (by simp [maxLen]; omega) (e5).size rfl fun a6 c6 w6 ho6 m6 hf6 => VL.op (R.asS rfl) (VL.nil (V.ret (fret1 (v := .slice _ _ _) rfl rfl rfl (?_)))))))))))))))))))
  · have ha : a = none := of_decide_eq_true c4
    have hl : l = [] := by
      cases l with
      | nil => rfl
      | cons x l => obtain ⟨b, o, h⟩ := TSl.some (i := 0) hS (by simp); rw [ha] at h; cases h
    subst hl
    exact ⟨(none, 0), rfl, OwnT.nil encI 1 3 _ _, Mod.refl _ _⟩
  · exact ⟨(a6, c6), by rw [Nat.zero_add], ho6, Mod.ownA e5 m6 fun k hk => by have := aBlk_some hk; omega⟩
/-- The values of a record. -/
def rowG (r : Rec) : List Val := r.cells.map fun c => c.val
set_option maxHeartbeats 4000000 in
theorem row_spec (r : Rec) (w : World) (hm : r.cells.length ≤ 1000000) (hC : CellSl w r.ca r.cells) :
    RetsX Try.prog 51 #[.agg (encRec r).toArray] w (fun x : Option Addr × Nat => .slice x.1 (rowG r).length x.2) (fun x w' => OwnT encVal 3 55 w.heap.size w' x.1 x.2 (rowG r)) := by
  refine enter (args := [_]) Try.func51 rfl Try.ntmps51 (by kernel_rfl) rfl ?_
  refine V.seq (V.region (VL.box (v := .agg _) rfl fun b1 w1 hb1 e1 hX1 => VL.op (R.asS rfl) (VL.nil (V.seq (V.region (VL.op (R.asS rfl) (VL.nil (V.seq (V.seq (V.region (VL.op (R.fld' (o := 5) Try.runUnderlying53 rfl rfl Try.sizeOf51 rfl rfl) (VL.op (R.ld1 Try.isAgg51 rfl ((hX1.cell _))) (VL.op (R.lenS Try.runUnderlying51 rfl) (VL.op (R.mvI rfl) (VL.nil (V.block (?_)))))))))))))))))
  have hC1 := hC.ext e1
  refine V.loop [3, 7, 8, 9] (fun x : Nat × Option Addr × Nat => [.slice x.2.1 ((r.cells.take x.1).map fun c => c.val).length x.2.2, .slice r.ca r.cells.length r.cap, .int .i64 r.cells.length, .int .i64 (x.1 : Nat)])
    (fun x w' => x.1 ≤ r.cells.length ∧ Ext w1 w' ∧ OwnT encVal 3 55 w1.heap.size w' x.2.1 x.2.2 ((r.cells.take x.1).map fun c => c.val)) (fun x => r.cells.length - x.1) (0, none, 0) rfl ⟨Nat.zero_le _, Mod.refl _ _, OwnT.nil encVal 3 55 _ _⟩ ?_
  rintro ρ ⟨k, a, ca⟩ w2 ⟨hk, e, hO⟩
  dsimp only at hk e hO ⊢
  have hl : ((r.cells.take k).map fun c => c.val).length = k := by simp; omega
  refine V.seq (V.region (VL.op (R.lss rfl rfl) (VL.nil (V.seq (V.condP rfl (fun c10 => V.skip (V.seq (V.block (V.seq (?_))))) (fun c10 => V.exit (V.seq (V.region (VL.op (R.mvS rfl) (VL.op (R.asS rfl) (VL.nil (V.ret (fret1 (v := .slice _ _ _) rfl rfl rfl (?_))))))))))))))
  · have hkl : k < r.cells.length := by omega
    have n1 := map_take (fun c : Cell => c.val) r.cells k hkl
    refine V.region (VL.op (R.ixS Try.runUnderlying51 Try.sizeOf57 rfl rfl (by omega) (by omega) ((hC1.ext e).some (i := k) (by omega))) (VL.op (R.ldA Try.isAgg57 Try.sizeOf57 rfl rfl ((((hC1.ext e).ext (Mod.refl _ _)).row (i := k) (by omega))) rfl) (VL.allocSt (v := .agg (encCell (r.cells.getD k default)).toArray) Try.zeroValue57 Try.sizeOf57 rfl rfl rfl rfl rfl fun b4_2 w4_2 hb4_2 e4_2 hB4_2 => VL.nil (V.region (VL.op (R.mvS rfl) (VL.op (R.fld' (o := 0) Try.runUnderlying57 rfl rfl Try.sizeOf55 rfl rfl) (VL.op (R.ldA Try.isAgg55 Try.sizeOf55 rfl rfl ((show RowAt _ _ _ (encVal (r.cells.getD k default).val) from hB4_2.rowAt 0 3)) rfl) (VL.append1 el37 Try.runUnderlying37 Try.sizeOf55 Try.zeroValue55 rfl ((r.cells.getD k default).val) rfl rfl rfl (hO.ext e4_2) rfl rfl rfl (by omega) (by unfold maxLen; omega) (by have := e.size; have := (e4_2).size; omega) fun a5 ca5 w5 vt5 ho5 m5 hf5 => VL.op (R.asS rfl) (VL.nil (V.region (VL.op (R.add rfl rfl (by omega) (by omega)) (VL.op (R.mvI rfl) (VL.nil (⟨(k + 1, a5, ca5), ?_, ⟨by dsimp only; omega, Mod.ownA (e.trans e4_2) m5 hO.ge, ?_⟩, by dsimp only; omega⟩))))))))))))))
    · dsimp only; rw [n1, List.length_append]; rfl
    · dsimp only; rw [n1]; exact ho5
  · have hkl : k = r.cells.length := by omega
    subst hkl
    rw [List.take_length] at hO
    exact ⟨(a, ca), by rw [List.take_length]; rfl, hO.weaken e1.size, e1.trans e⟩
set_option maxHeartbeats 4000000 in
theorem rrow_spec (r : Rec) (w : World) (hm : r.cells.length ≤ 1000000) (hC : CellSl w r.ca r.cells) :
    RetsX Try.prog 53 #[.agg (encRec r).toArray] w (fun x : Option Addr × Nat => .slice x.1 (rowG r).length x.2) (fun x w' => OwnT encVal 3 55 w.heap.size w' x.1 x.2 (rowG r)) := by
  refine enter (args := [_]) Try.func53 rfl Try.ntmps53 (by kernel_rfl) rfl ?_
  refine V.seq (V.region (VL.box (v := .agg _) rfl fun b1 w1 hb1 e1 hX1 => VL.op (R.asS rfl) (VL.nil (V.seq (V.region (VL.op (R.asS rfl) (VL.nil (V.seq (V.seq (V.region (VL.op (R.asI rfl) (VL.nil (V.block (?_))))))))))))))
  have hC1 := hC.ext e1
  refine V.loop [1, 3, 4] (fun x : Nat × Option Addr × Nat => [.pointer (some ⟨b1, 0, none⟩), .slice x.2.1 ((r.cells.take x.1).map fun c => c.val).length x.2.2, .int .i64 (x.1 : Nat)])
    (fun x w' => x.1 ≤ r.cells.length ∧ Ext w1 w' ∧ OwnT encVal 3 55 w1.heap.size w' x.2.1 x.2.2 ((r.cells.take x.1).map fun c => c.val)) (fun x => r.cells.length - x.1) (0, none, 0) rfl ⟨Nat.zero_le _, Mod.refl _ _, OwnT.nil encVal 3 55 _ _⟩ ?_
  rintro ρ ⟨k, a, ca⟩ w2 ⟨hk, e, hO⟩
  dsimp only at hk e hO ⊢
  have hl : ((r.cells.take k).map fun c => c.val).length = k := by simp; omega
  have hX2 := hX1.ext e
  refine V.seq (V.seq (V.region (VL.op (R.mvI rfl) (VL.op (R.fld' (o := 5) Try.runUnderlying53 rfl rfl Try.sizeOf51 rfl rfl) (VL.op (R.ld1 Try.isAgg51 rfl (((hX2.ext (Mod.refl _ _)).cell 5))) (VL.op (R.lenS Try.runUnderlying51 rfl) (VL.op (R.lss rfl rfl) (VL.nil (V.condP rfl (fun c9 => V.skip (V.seq (V.block (?_)))) (fun c9 => V.exit (V.seq (V.region (VL.op (R.mvS rfl) (VL.op (R.asS rfl) (VL.nil (V.ret (fret1 (v := .slice _ _ _) rfl rfl rfl (?_))))))))))))))))))
  · have hkl : k < r.cells.length := by omega
    have n1 := map_take (fun c : Cell => c.val) r.cells k hkl
    have hC2 := hC1.ext e
    refine V.region (VL.op (R.mvS rfl) (VL.op (R.fld' (o := 5) Try.runUnderlying53 rfl rfl Try.sizeOf51 rfl rfl) (VL.op (R.ld1 Try.isAgg51 rfl (((hX2.ext (Mod.refl _ _)).cell 5))) (VL.op (R.mvI rfl) (VL.op (R.ixS Try.runUnderlying51 Try.sizeOf57 rfl rfl (by omega) (by omega) (hC2.some (i := k) (by omega))) (VL.op (R.fld' (o := 0) Try.runUnderlying57 rfl rfl Try.sizeOf55 rfl rfl) (VL.op (R.ldA Try.isAgg55 Try.sizeOf55 rfl rfl ((show RowAt _ _ _ (encVal (r.cells.getD k default).val) from (((hC2.ext (Mod.refl _ _)).row (i := k) (by omega)).sub 0 3 rfl))) rfl) (VL.append1 el37 Try.runUnderlying37 Try.sizeOf55 Try.zeroValue55 rfl ((r.cells.getD k default).val) rfl rfl rfl (hO.ext (Mod.refl _ _)) rfl rfl rfl (by omega) (by unfold maxLen; omega) (by have := e.size; omega) fun a5 ca5 w5 vt5 ho5 m5 hf5 => VL.op (R.asS rfl) (VL.nil (V.region (VL.op (R.mvI rfl) (VL.op (R.add rfl rfl (by omega) (by omega)) (VL.op (R.asI rfl) (VL.nil (⟨(k + 1, a5, ca5), ?_, ⟨by dsimp only; omega, Mod.ownA e m5 hO.ge, ?_⟩, by dsimp only; omega⟩)))))))))))))))
    · dsimp only; rw [n1, List.length_append]; rfl
    · dsimp only; rw [n1]; exact ho5
  · have hkl : k = r.cells.length := by omega
    subst hkl
    rw [List.take_length] at hO
    exact ⟨(a, ca), by rw [List.take_length]; rfl, hO.weaken e1.size, e1.trans e⟩
end Go.Proofs.Ytckihgamnmmbnaa

/- Golden: base rows. -/
namespace Go.Proofs.Ytckihgamnmmbnaa
open Go.Vc Go.Sort

def chosen (s : Set_) (recs : List Rec) (mem : List Int) (t c : Int) : Int := chooseF (ruleG s t c) (colL recs mem c) (colT s recs mem)
def baseC (s : Set_) (recs : List Rec) (mem : List Int) (t c : Int) : Val := if 0 ≤ chosen s recs mem t c then ((colL recs mem c).getD (chosen s recs mem t c).toNat default).val else ⟨0, 0, ⟨#[]⟩⟩
def baseG (s : Set_) (recs : List Rec) (mem : List Int) (t : Int) : List Val := (List.range (ncol s t)).map fun c => baseC s recs mem t (c : Nat)
theorem baseG_len (s : Set_) (recs : List Rec) (mem : List Int) (t : Int) : (baseG s recs mem t).length = ncol s t := by simp [baseG]
theorem range_succ_map {α : Type} (f : Nat → α) (n : Nat) : (List.range (n + 1)).map f = (List.range n).map f ++ [f n] := by rw [List.range_succ, List.map_append]; rfl
theorem range_len {α : Type} (f : Nat → α) (n : Nat) : ((List.range n).map f).length = n := by simp
/-- The sizes are small. -/
structure Small (s : Set_) (recs : List Rec) (mem : List Int) : Prop where
  nm : mem.length ≤ 1000000
  nr : recs.length ≤ 1000000
  nk : s.keeps.length ≤ 1000000
  no : s.orgs.length ≤ 1000000
  nt : s.tabs.length ≤ 1000000
  nc : ∀ r ∈ recs, r.cells.length ≤ 1000000
/-- The members are records with the columns of the table. -/
structure EntOk (s : Set_) (recs : List Rec) (mem : List Int) (t : Int) : Prop where
  t0 : 0 ≤ t
  t1 : t < s.tabs.length
  pos : 0 < mem.length
  mem : ∀ m ∈ mem, 0 ≤ m ∧ m.toNat < recs.length ∧ (recs.getD m.toNat default).cells.length = ncol s t
theorem EntOk.col {s : Set_} {recs : List Rec} {mem : List Int} {t : Int} (h : EntOk s recs mem t) {c : Nat} (hc : c < ncol s t) : colOk recs mem (c : Nat) := fun m hm => by
  obtain ⟨h1, h2, h3⟩ := h.mem m hm
  exact ⟨h1, h2, by rw [h3]; omega⟩
theorem memB_ok {s : Set_} {recs : List Rec} {mem : List Int} (h : memB s recs mem = true) : EntOk s recs mem (recs.getD (mem.getD 0 default).toNat default).table := by
  obtain ⟨h1, h2⟩ := of_decide_eq_true h
  have h0 := h2 0 h1
  have hf : ∀ i, i < mem.length → _ := fun i hi => (of_decide_eq_true (h2 i hi).2.1 : 0 ≤ (recs.getD (mem.getD i default).toNat default).table ∧ _)
  refine ⟨(hf 0 h1).1, (hf 0 h1).2.1, h1, fun m hm => ?_⟩
  obtain ⟨i, hi, rfl⟩ := List.getElem_of_mem hm
  have hg : mem.getD i default = mem[i] := by simp [List.getD, hi]
  obtain ⟨h3a, h3b, h3c⟩ := h2 i hi
  have h3 : _ ∧ _ ∧ _ := ⟨h3a, h3b, h3c⟩
  have h4 := hf i hi
  rw [hg] at h3 h4
  exact ⟨h3.1.1, h3.1.2.1, by rw [h4.2.2, h3.2.2]⟩
theorem EntOk.ncol_le {s : Set_} {recs : List Rec} {mem : List Int} {t : Int} (h : EntOk s recs mem t) (hs : Small s recs mem) : ncol s t ≤ 1000000 := by
  obtain ⟨h1, h2, h3⟩ := h.mem _ (gmem h.pos)
  rw [← h3]
  exact hs.nc _ (gmem h2)
theorem colL_len (recs : List Rec) (mem : List Int) (c : Int) : (colL recs mem c).length = mem.length := by simp [colL]
theorem colT_len (s : Set_) (recs : List Rec) (mem : List Int) : (colT s recs mem).length = mem.length := by simp [colT]
theorem chosen_lt (s : Set_) (recs : List Rec) (mem : List Int) (t c : Int) : chosen s recs mem t c < mem.length := by
  have := (chooseF_rng (ruleG s t c) (colL recs mem c) (colT s recs mem)).2
  rw [colL_len] at this
  exact this
set_option maxRecDepth 100000 in
set_option maxHeartbeats 4000000 in
theorem base_spec (e : Ent) (w : World) (hs : Small e.s e.recs e.mem) (hE : EntW w e) (hok : EntOk e.s e.recs e.mem e.table) :
    RetsX Try.prog 26 #[.agg (encEnt e).toArray] w (fun x : Option Addr × Nat => .slice x.1 (baseG e.s e.recs e.mem e.table).length x.2) (fun x w' => OwnT encVal 3 55 w.heap.size w' x.1 x.2 (baseG e.s e.recs e.mem e.table)) := by
  have ht0 := hok.t0
  have ht1 := hok.t1
  have hst := hs.nt
  have hnc := hok.ncol_le hs
  refine enter (args := [_]) Try.func26 rfl Try.ntmps26 (by kernel_rfl) rfl ?_
  refine V.seq (V.region (VL.box (v := .agg _) rfl fun b1 w1 hb1 e1 hX1 => VL.op (R.asS rfl) (VL.nil (V.seq (V.region (VL.op (R.asS rfl) (VL.nil (V.seq (V.seq (V.region (VL.op (R.fld' (o := 0) Try.runUnderlying72 rfl rfl Try.sizeOf32 rfl rfl) (VL.op (R.fld' (o := 0) Try.runUnderlying32 rfl rfl Try.sizeOf24 rfl rfl) (VL.op (R.fld' (o := 0) Try.runUnderlying24 rfl rfl Try.sizeOf22 rfl rfl) (VL.op (R.ld1 Try.isAgg22 rfl ((hX1.cell _))) (VL.op (R.fld' (o := 7) Try.runUnderlying72 rfl rfl Try.sizeOf3 rfl rfl) (VL.op (R.ld1 Try.isAgg3 rfl ((hX1.cell _))) (VL.op (R.ixS Try.runUnderlying22 Try.sizeOf78 rfl rfl (by omega) (by omega) (hE.s.tabs.some (i := e.table.toNat) (by omega))) (VL.op (R.fld' (o := 1) Try.runUnderlying78 rfl rfl Try.sizeOf76 rfl rfl) (VL.op (R.ld1 Try.isAgg76 rfl (((((hE.ext e1).s.tabs.ext (Mod.refl _ _)).row (i := e.table.toNat) (by omega)).cell (i := 1) rfl))) (VL.op (R.lenS Try.runUnderlying76 rfl) (VL.op (R.mvI rfl) (VL.nil (V.block (?_))))))))))))))))))))))))
  have hE1 := hE.ext e1
  obtain ⟨n, hn⟩ : ∃ n, n = ncol e.s e.table := ⟨_, rfl⟩
  refine V.loop [1, 3, 17, 18] (fun x : Nat × Option Addr × Nat => [.pointer (some ⟨b1, 0, none⟩), .slice x.2.1 ((List.range x.1).map fun c => baseC e.s e.recs e.mem e.table (c : Nat)).length x.2.2, .int .i64 (n : Nat), .int .i64 (x.1 : Nat)])
    (fun x w' => x.1 ≤ n ∧ Ext w1 w' ∧ OwnT encVal 3 55 w1.heap.size w' x.2.1 x.2.2 ((List.range x.1).map fun c => baseC e.s e.recs e.mem e.table (c : Nat))) (fun x => n - x.1) (0, none, 0) (by rw [hn]; rfl) ⟨Nat.zero_le _, Mod.refl _ _, OwnT.nil encVal 3 55 _ _⟩ ?_
  rintro ρ ⟨k, a, ca⟩ w2 ⟨hk, e2, hO⟩
  dsimp only at hk e2 hO ⊢
  have hl := range_len (fun c : Nat => baseC e.s e.recs e.mem e.table (c : Nat)) k
  have hn1 := range_succ_map (fun c : Nat => baseC e.s e.recs e.mem e.table (c : Nat)) k
  have hE2 := hE1.ext e2
  have hX2 := hX1.ext e2
  have hcl := colL_len e.recs e.mem (k : Nat)
  have hch : chooseF (ruleG e.s e.table (k : Nat)) (colL e.recs e.mem (k : Nat)) (colT e.s e.recs e.mem) < e.mem.length := chosen_lt e.s e.recs e.mem e.table (k : Nat)
  have hms := hs.nm
  refine V.seq (V.region (VL.op (R.lss rfl rfl) (VL.nil (V.seq (V.condP rfl (fun c19 => V.skip (V.seq (V.block (V.seq (V.region (VL.op (R.mvI rfl) (VL.op (R.asI rfl) (VL.nil (V.seq (V.region (VL.op (R.ldA Try.isAgg72 Try.sizeOf72 rfl rfl ((show RowAt _ _ _ (encEnt e) from (hX2.ext (Mod.refl _ _)).rowAt 0 10)) rfl) (VL.op (R.mvI rfl) (VL.callX Try.call40 rfl (column_spec e (k : Nat) _ (by omega) hs.nm hs.nr hs.nk hs.no hs.nc (hE2.ext (Mod.refl _ _)) (hok.col (by omega))) fun x5 w5 hx5 e5 => VL.op (R.mvT rfl) (VL.op (R.extr rfl rfl) (VL.op (R.extr rfl rfl) (VL.op (R.asS rfl) (VL.op (R.asI rfl) (VL.nil (V.seq (V.region (VL.op (R.build Try.zeroValue55 Try.runUnderlying55 pl55 rfl) (VL.allocSt (v := .agg _) Try.zeroValue55 Try.sizeOf55 rfl rfl rfl rfl rfl fun b6_1 w6_1 hb6_1 e6_1 hB6_1 => VL.nil (V.cut [1, 3, 7, 17, 18] (fun b7 : Nat => [.pointer (some ⟨b1, 0, none⟩), .slice a ((List.range k).map fun c => baseC e.s e.recs e.mem e.table (c : Nat)).length ca, .pointer (some ⟨b7, 0, none⟩), .int .i64 (n : Nat), .int .i64 (k : Nat)]) (fun b7 w' => k < n ∧ Ext w2 w' ∧ Blk w' b7 (.cells (encVal (baseC e.s e.recs e.mem e.table (k : Nat))).toArray 55 (0, 0))) (V.seq (V.region (VL.op (R.mvI rfl) (VL.op (R.geq rfl rfl) (VL.nil (V.condP rfl (fun c29 => V.region (VL.op (R.mvS rfl) (VL.op (R.mvI rfl) (VL.op (R.ixS Try.runUnderlying51 Try.sizeOf57 rfl rfl (by omega) (by omega) ((OwnT.sl hx5).some (i := (chosen e.s e.recs e.mem e.table (k : Nat)).toNat) (by unfold chosen; omega))) (VL.op (R.fld' (o := 0) Try.runUnderlying57 rfl rfl Try.sizeOf55 rfl rfl) (VL.op (R.ldA Try.isAgg55 Try.sizeOf55 rfl rfl (((((OwnT.sl hx5).ext (by assumption)).row (i := (chosen e.s e.recs e.mem e.table (k : Nat)).toNat) (by unfold chosen; omega)).sub 0 3 rfl)) rfl) (VL.store (v := .agg _) Try.sizeOf55 rfl rfl rfl rfl hB6_1 rfl rfl fun w8 m8 hs8 hB8 => VL.nil (?_)))))))) (fun c29 => V.skip (?_)))))))) (fun rgC29 xC29 wBC29 hBC29 => ?_)))))))))))))))))))))))) (fun c19 => V.exit (V.seq (V.region (VL.op (R.mvS rfl) (VL.op (R.asS rfl) (VL.nil (V.ret (fret1 (v := .slice _ _ _) rfl rfl rfl (?_))))))))))))))
  · refine ⟨b6_1, rfl, by omega, Mod.own (e5.trans e6_1) m8 (by rw [hb6_1]; exact e5.size), ?_⟩
    have hv : baseC e.s e.recs e.mem e.table (k : Nat) = ((colL e.recs e.mem (k : Nat)).getD (chosen e.s e.recs e.mem e.table (k : Nat)).toNat default).val := by exact if_pos c29
    rw [hv]; exact hB8
  · refine ⟨b6_1, rfl, by omega, e5.trans e6_1, ?_⟩
    have hv : baseC e.s e.recs e.mem e.table (k : Nat) = ⟨0, 0, ⟨#[]⟩⟩ := by exact if_neg c29
    rw [hv]; exact hB6_1
  · obtain ⟨hkn, eC, hB⟩ := hBC29
    refine V.region (VL.op (R.mvS rfl) (VL.op (R.ldA Try.isAgg55 Try.sizeOf55 rfl rfl ((show RowAt _ _ _ (encVal (baseC e.s e.recs e.mem e.table (k : Nat))) from hB.rowAt 0 3)) rfl) (VL.append1 el37 Try.runUnderlying37 Try.sizeOf55 Try.zeroValue55 rfl (baseC e.s e.recs e.mem e.table (k : Nat)) rfl rfl rfl (hO.ext eC) rfl rfl rfl (by omega) (by unfold maxLen; omega) (by have := e2.size; have := eC.size; omega) fun a5 ca5 w6 vt5 ho5 m5 hf5 => VL.op (R.asS rfl) (VL.nil (V.region (VL.op (R.add rfl rfl (by omega) (by omega)) (VL.op (R.mvI rfl) (VL.nil (⟨(k + 1, a5, ca5), ?_, ⟨by dsimp only; omega, Mod.ownA (e2.trans eC) m5 hO.ge, ?_⟩, by dsimp only; omega⟩)))))))))
    · dsimp only; rw [hn1, List.length_append]; rfl
    · dsimp only; rw [hn1]; exact ho5
  · have hkn : k = n := by omega
    subst hkn
    have hb : baseG e.s e.recs e.mem e.table = (List.range k).map fun c => baseC e.s e.recs e.mem e.table (c : Nat) := by unfold baseG; rw [← hn]
    rw [hb]
    exact ⟨(a, ca), rfl, hO.weaken e1.size, e1.trans e2⟩
end Go.Proofs.Ytckihgamnmmbnaa

/- Golden: the reference's base row. -/
namespace Go.Proofs.Ytckihgamnmmbnaa
open Go.Vc Go.Sort
def noVal : Val := ⟨0, 0, ⟨#[]⟩⟩
set_option maxRecDepth 100000 in
set_option maxHeartbeats 4000000 in
theorem rbase_spec (s : Set_) (recs : List Rec) (mem : List Int) (ra ma : Option Addr) (rc mc : Nat) (w : World) (hs : Small s recs mem) (hS : SetW w s) (hR : RecsW w ra recs) (hM : IntSl w ma mem) :
    RetsX Try.prog 12 #[.agg (encSet s).toArray, .slice ra recs.length rc, .slice ma mem.length mc] w
      (fun x : Option Addr × Nat => .tuple #[.slice x.1 (if memB s recs mem = true then baseG s recs mem (recs.getD (mem.getD 0 default).toNat default).table else []).length x.2, .int .i64 (if memB s recs mem = true then 0 else 1)])
      (fun x w' => OwnT encVal 3 55 w.heap.size w' x.1 x.2 (if memB s recs mem = true then baseG s recs mem (recs.getD (mem.getD 0 default).toNat default).table else [])) := by
  have hms := hs.nm
  refine enter (args := [_, _, _]) Try.func12 rfl Try.ntmps12 (by kernel_rfl) rfl ?_
  refine V.seq (V.region (VL.box (v := .agg _) rfl fun b1 w1 hb1 e1 hX1 => VL.op (R.asS rfl) (VL.op (R.asI rfl) (VL.nil (V.seq (V.seq (V.region (VL.op (R.ldA Try.isAgg32 Try.sizeOf32 rfl rfl ((show RowAt _ _ _ (encSet s) from (hX1.ext (Mod.refl _ _)).rowAt 0 7)) rfl) (VL.op (R.mvS rfl) (VL.op (R.mvS rfl) (VL.callP Try.call27 rfl (rmembers_spec s recs mem ra ma rc mc _ hs.nm hs.nr hs.nt (hS.ext e1) (hR.ext e1) (hM.ext e1)) fun w1_3 e1_3 => VL.op (R.not rfl) (VL.nil (V.cond rfl (fun c18 => V.seq (V.region (VL.op (R.asS rfl) (VL.op (R.asI rfl) (VL.nil (V.ret (fret2 (v := .slice _ _ _) (x := .int _ _) rfl rfl rfl rfl rfl (?_)))))))) (fun c18 => V.skip (V.seq (?_))))))))))))))))
  · rw [Bool.not_eq_true'] at c18
    rw [c18]
    exact ⟨(none, 0), rfl, OwnT.nil encVal 3 55 _ _, e1.trans (by assumption)⟩
  · have hb : memB s recs mem = true := by simpa using c18
    rw [hb]
    have hok := memB_ok hb
    obtain ⟨t, ht⟩ : ∃ t, t = (recs.getD (mem.getD 0 default).toNat default).table := ⟨_, rfl⟩
    rw [← ht] at hok ⊢
    have ht0 := hok.t0
    have ht1 := hok.t1
    have hst := hs.nt
    have hnc := hok.ncol_le hs
    have h0 := hok.mem _ (gmem hok.pos)
    have hpos := hok.pos
    have hS := (hS.ext e1).ext e1_3
    have hR := (hR.ext e1).ext e1_3
    have hM := (hM.ext e1).ext e1_3
    have hX := hX1.ext e1_3
    obtain ⟨h01, h02, _⟩ := h0
    refine V.region (VL.op (R.mvS rfl) (VL.op (R.mvS rfl) (VL.op (R.ixS Try.runUnderlying34 Try.sizeOf3 rfl rfl (by omega) (by omega) (hM.some (i := 0) (by omega))) (VL.op (R.ld1 Try.isAgg3 rfl ((((hM.ext (Mod.refl _ _)).row (i := 0) (by omega)).cell (i := 0) rfl))) (VL.op (R.ixS Try.runUnderlying33 Try.sizeOf53 rfl rfl (by omega) (by omega) (hR.sl.some (i := (mem.getD 0 default).toNat) (by omega))) (VL.op (R.fld' (o := 3) Try.runUnderlying53 rfl rfl Try.sizeOf3 rfl rfl) (VL.op (R.ld1 Try.isAgg3 rfl ((((hR.sl.ext (Mod.refl _ _)).row (i := (mem.getD 0 default).toNat) (by omega)).cell (i := 3) rfl))) (VL.op (R.asI rfl) (VL.nil (V.seq (V.region (VL.op (R.asS rfl) (VL.nil (V.seq (V.seq (V.region (VL.op (R.asI rfl) (VL.nil (V.block (?_))))))))))))))))))))
    rw [← ht]
    obtain ⟨n, hn⟩ : ∃ n, n = ncol s t := ⟨_, rfl⟩
    refine V.loop [1, 2, 3, 8, 9, 10] (fun x : Nat × Option Addr × Nat => [.slice ra recs.length rc, .slice ma mem.length mc, .pointer (some ⟨b1, 0, none⟩), .int .i64 t, .slice x.2.1 ((List.range x.1).map fun c => baseC s recs mem t (c : Nat)).length x.2.2, .int .i64 (x.1 : Nat)])
      (fun x w' => x.1 ≤ n ∧ Ext w1_3 w' ∧ OwnT encVal 3 55 w1_3.heap.size w' x.2.1 x.2.2 ((List.range x.1).map fun c => baseC s recs mem t (c : Nat))) (fun x => n - x.1) (0, none, 0) rfl ⟨Nat.zero_le _, Mod.refl _ _, OwnT.nil encVal 3 55 _ _⟩ ?_
    rintro ρ ⟨k, a, ca⟩ w2 ⟨hk, e2, hO⟩
    dsimp only at hk e2 hO ⊢
    have hl := range_len (fun c : Nat => baseC s recs mem t (c : Nat)) k
    have hn1 := range_succ_map (fun c : Nat => baseC s recs mem t (c : Nat)) k
    have hS2 := hS.ext e2
    have hR2 := hR.ext e2
    have hM2 := hM.ext e2
    have hX2 := hX.ext e2
    have hcl := colL_len recs mem (k : Nat)
    have hcl2 := colT_len s recs mem
    have hch : chooseF (ruleG s t (k : Nat)) (colL recs mem (k : Nat)) (colT s recs mem) < mem.length := chosen_lt s recs mem t (k : Nat)
    have hnk := hs.nk
    refine V.seq (V.seq (V.region (VL.op (R.mvI rfl) (VL.op (R.fld' (o := 0) Try.runUnderlying32 rfl rfl Try.sizeOf24 rfl rfl) (VL.op (R.fld' (o := 0) Try.runUnderlying24 rfl rfl Try.sizeOf22 rfl rfl) (VL.op (R.ld1 Try.isAgg22 rfl (((hX2.ext (Mod.refl _ _)).cell 0))) (VL.op (R.mvI rfl) (VL.op (R.ixS Try.runUnderlying22 Try.sizeOf78 rfl rfl (by omega) (by omega) (hS2.tabs.some (i := t.toNat) (by omega))) (VL.op (R.fld' (o := 1) Try.runUnderlying78 rfl rfl Try.sizeOf76 rfl rfl) (VL.op (R.ld1 Try.isAgg76 rfl ((((hS2.tabs.ext (Mod.refl _ _)).row (i := t.toNat) (by omega)).cell (i := 1) rfl))) (VL.op (R.lenS Try.runUnderlying76 rfl) (VL.op (R.lss rfl rfl) (VL.nil (V.condP rfl (fun c35 => V.skip (V.seq (V.block (V.seq (?_))))) (fun c35 => V.exit (V.seq (V.region (VL.op (R.mvS rfl) (VL.op (R.asS rfl) (VL.op (R.asI rfl) (VL.nil (V.ret (fret2 (v := .slice _ _ _) (x := .int _ _) rfl rfl rfl rfl rfl (?_))))))))))))))))))))))))
    · have hkn : k < n := by
        have e : ((s.tabs.getD t.toNat default).attrs.length : Int) = (n : Nat) := by rw [hn]; rfl
        omega
      refine V.region (VL.op (R.ldA Try.isAgg32 Try.sizeOf32 rfl rfl ((show RowAt _ _ _ (encSet s) from (hX2.ext (Mod.refl _ _)).rowAt 0 7)) rfl) (VL.op (R.mvS rfl) (VL.op (R.mvS rfl) (VL.op (R.mvI rfl) (VL.callX Try.call28 rfl (rcolumn_spec s recs mem (k : Nat) ra ma rc mc _ (by omega) hs.nm hs.nr hs.no hs.nc (hS2.ext (Mod.refl _ _)) (hR2.ext (Mod.refl _ _)) (hM2.ext (Mod.refl _ _)) (hok.col (by omega))) fun x5 w5 hx5 e5 => VL.op (R.mvT rfl) (VL.op (R.extr rfl rfl) (VL.op (R.extr rfl rfl) (VL.op (R.asS rfl) (VL.op (R.asS rfl) (VL.nil (V.seq (V.region (VL.op (R.ldA Try.isAgg32 Try.sizeOf32 rfl rfl ((show RowAt _ _ _ (encSet s) from (hX2.ext e5).rowAt 0 7)) rfl) (VL.op (R.mvI rfl) (VL.op (R.mvI rfl) (VL.callP Try.call30 rfl (rrule_spec s t (k : Nat) _ (by omega) (hS2.ext e5)) fun w9_3 e9_3 => VL.op (R.mvS rfl) (VL.op (R.mvS rfl) (VL.callP Try.call29 rfl (rchoose_spec (ruleG s t (k : Nat)) x5.1.1 x5.2.1 x5.1.2 x5.2.2 (colL recs mem (k : Nat)) (colT s recs mem) _ (by omega) (hx5.1.ext (by assumption)) (hx5.2.1.ext (by assumption))) fun w9_6 e9_6 => VL.op (R.asI rfl) (VL.nil (V.seq (?_)))))))))))))))))))))
      rw [← choose_eq]
      have e9 : Ext w2 w9_6 := e5.trans (e9_3.trans e9_6)
      have hx9 := hx5.1.ext (e9_3.trans e9_6)
      refine V.region (VL.op (R.mvI rfl) (VL.op (R.lss rfl rfl) (VL.nil (V.condP rfl (fun c54 => V.region (VL.op (R.mvS rfl) (VL.op (R.build Try.zeroValue55 Try.runUnderlying55 pl55 rfl) (VL.append1 el37 Try.runUnderlying37 Try.sizeOf55 Try.zeroValue55 rfl (noVal) rfl rfl rfl (hO.ext e9) rfl rfl rfl (by omega) (by unfold maxLen; omega) (by have := e2.size; have := e9.size; omega) fun a5 ca5 w6 vt5 ho5 m5 hf5 => VL.op (R.asS rfl) (VL.nil (V.region (VL.op (R.mvI rfl) (VL.op (R.add rfl rfl (by omega) (by omega)) (VL.op (R.asI rfl) (VL.nil (?_))))))))))) (fun c54 => V.region (VL.op (R.mvS rfl) (VL.op (R.mvS rfl) (VL.op (R.mvI rfl) (VL.op (R.ixS Try.runUnderlying51 Try.sizeOf57 rfl rfl (by omega) (by omega) (hx9.some (i := (chosen s recs mem t (k : Nat)).toNat) (by unfold chosen; omega))) (VL.op (R.fld' (o := 0) Try.runUnderlying57 rfl rfl Try.sizeOf55 rfl rfl) (VL.op (R.ldA Try.isAgg55 Try.sizeOf55 rfl rfl ((show RowAt _ _ _ (encVal ((colL recs mem (k : Nat)).getD (chosen s recs mem t (k : Nat)).toNat default).val) from (((hx9.ext (Mod.refl _ _)).row (i := (chosen s recs mem t (k : Nat)).toNat) (by unfold chosen; omega)).sub 0 3 rfl))) rfl) (VL.append1 el37 Try.runUnderlying37 Try.sizeOf55 Try.zeroValue55 rfl (((colL recs mem (k : Nat)).getD (chosen s recs mem t (k : Nat)).toNat default).val) rfl rfl rfl (hO.ext e9) rfl rfl rfl (by omega) (by unfold maxLen; omega) (by have := e2.size; have := e9.size; omega) fun a5 ca5 w6 vt5 ho5 m5 hf5 => VL.op (R.asS rfl) (VL.nil (V.region (VL.op (R.mvI rfl) (VL.op (R.add rfl rfl (by omega) (by omega)) (VL.op (R.asI rfl) (VL.nil (?_)))))))))))))))))))
      · have hv : baseC s recs mem t (k : Nat) = noVal := if_neg (show ¬ 0 ≤ chosen s recs mem t (k : Nat) by unfold chosen; omega)
        rw [hv] at hn1
        refine ⟨(k + 1, a5, ca5), ?_, ⟨by dsimp only; omega, Mod.ownA (e2.trans e9) m5 hO.ge, ?_⟩, by dsimp only; omega⟩
        · dsimp only; rw [hn1, List.length_append]; rfl
        · dsimp only; rw [hn1]; exact ho5
      · have hv : baseC s recs mem t (k : Nat) = ((colL recs mem (k : Nat)).getD (chosen s recs mem t (k : Nat)).toNat default).val := if_pos (show 0 ≤ chosen s recs mem t (k : Nat) by unfold chosen; omega)
        rw [hv] at hn1
        refine ⟨(k + 1, a5, ca5), ?_, ⟨by dsimp only; omega, Mod.ownA (e2.trans e9) m5 hO.ge, ?_⟩, by dsimp only; omega⟩
        · dsimp only; rw [hn1, List.length_append]; rfl
        · dsimp only; rw [hn1]; exact ho5
    · have hkn : k = n := by
        have e : ((s.tabs.getD t.toNat default).attrs.length : Int) = (n : Nat) := by rw [hn]; rfl
        omega
      subst hkn
      have hb : baseG s recs mem t = (List.range k).map fun c => baseC s recs mem t (c : Nat) := by unfold baseG; rw [← hn]
      simp only [if_true]
      rw [hb]
      exact ⟨(a, ca), rfl, hO.weaken (by have := e1.size; have := e1_3.size; omega), (e1.trans e1_3).trans e2⟩
end Go.Proofs.Ytckihgamnmmbnaa
