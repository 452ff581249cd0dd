/- Cluster: the iterator over partitions. -/
import Derived.Test.YtglaigeellpikaaXC8
import Derived.Test.YtglaigeellpikaaXVcIn
import Derived.Test.YtglaigeellpikaaXVcInR
namespace Go.Proofs.Ytglaigeellpikaa
open Go.Vc

/-- Where the iterator's variables lie. -/
structure PtX where
  cls : List Int
  ca : Option Addr
  cc : Nat
  W : List ((Int × Int) × Int)
  A : List ((Int × Int) × Bool)
  sa : Option Addr
  ns : Nat
  css : Nat
  r1 : Nat
  r2 : Nat
  hb : Nat
  cbx : Nat
  hbx : Nat
  ebx : Nat
  ybx : Nat
  pbx : Nat
  l : Nat
  ne : Nat
def PtX.n (x : PtX) : Nat := x.cls.length
def PtX.caps (x : PtX) : List Value := [.pointer (some ⟨x.cbx, 0, none⟩), .pointer (some ⟨x.ybx, 0, none⟩), .pointer (some ⟨x.hbx, 0, none⟩), .pointer (some ⟨x.ebx, 0, none⟩), .pointer (some ⟨x.pbx, 0, none⟩)]
def PtX.T (x : PtX) (k : Nat) : Prop := k = x.hb ∨ k = x.cbx ∨ k = x.hbx ∨ k = x.ebx ∨ k = x.ybx ∨ k = x.pbx
structure PtX.Ok (x : PtX) (w0 : World) : Prop where
  ne0 : x.ne = w0.heap.size
  ev : EvAt w0 x.r1 x.r2 x.W x.A
  cl : IntSl w0 x.ca x.cls
  n1 : x.n ≤ 1000
  ge : x.ne ≤ x.hb ∧ x.ne ≤ x.cbx ∧ x.ne ≤ x.hbx ∧ x.ne ≤ x.ebx ∧ x.ne ≤ x.ybx ∧ x.ne ≤ x.pbx
  df : x.hb ≠ x.cbx ∧ x.hb ≠ x.hbx ∧ x.hb ≠ x.ebx ∧ x.hb ≠ x.ybx ∧ x.hb ≠ x.pbx
/-- The iterator's state. -/
structure PS (x : PtX) (w0 W : World) (hs : List Int) : Prop where
  cb : Blk W x.cbx (.cells #[.slice x.ca x.cls.length x.cc] 23 (0, 0))
  yb : Blk W x.ybx (.cells #[.func (.yield x.l) #[] #[]] 46 (0, 0))
  hx : Blk W x.hbx (.cells #[.slice (some ⟨x.hb, 0, none⟩) x.cls.length x.cls.length] 23 (0, 0))
  eb : Blk W x.ebx (.cells #[.slice x.sa x.ns x.css, .map (some x.r1), .map (some x.r2)] 52 (0, 0))
  pb : Blk W x.pbx (.cells #[.func (.func 64) #[] x.caps.toArray] 58 (0, 0))
  own : OwnT encI 1 3 x.hb W (some ⟨x.hb, 0, none⟩) x.cls.length hs
  len : hs.length = x.cls.length
  d : Vc.Mod (From x.ne) w0 W
section
variable {x : PtX} {w0 W W' : World} {hs hs' : List Int}
theorem PS.mod {S : Nat → Prop} (h : PS x w0 W hs) (m : Vc.Mod S W W') (hT : ∀ k, S k → x.ne ≤ k ∧ ¬ x.T k) : PS x w0 W' hs := by
  have inT : ∀ k, x.T k → ¬ S k := fun k h1 h2 => (hT k h2).2 h1
  exact ⟨h.cb.mod m (inT _ (.inr (.inl rfl))), h.yb.mod m (inT _ (.inr (.inr (.inr (.inr (.inl rfl)))))), h.hx.mod m (inT _ (.inr (.inr (.inl rfl)))), h.eb.mod m (inT _ (.inr (.inr (.inr (.inl rfl))))), h.pb.mod m (inT _ (.inr (.inr (.inr (.inr (.inr rfl)))))),
    h.own.mod m fun q hq => inT _ (.inl (aBlk_some hq)), h.len, h.d.then m fun k _ hk => (hT k hk).1⟩
theorem PS.ext (h : PS x w0 W hs) (m : Ext W W') : PS x w0 W' hs := h.mod m fun _ hk => hk.elim
theorem PS.put (hx : x.Ok w0) (h : PS x w0 W hs) (ho : OwnT encI 1 3 x.hb W' (some ⟨x.hb, 0, none⟩) x.cls.length hs') (hl : hs'.length = x.cls.length) (m : Vc.Mod (one x.hb) W W') : PS x w0 W' hs' := by
  have no : ∀ b, x.hb ≠ b → ¬ one x.hb b := fun b h e => h e.symm
  obtain ⟨d1, d2, d3, d4, d5⟩ := hx.df
  exact ⟨h.cb.mod m (no _ d1), h.yb.mod m (no _ d4), h.hx.mod m (no _ d2), h.eb.mod m (no _ d3), h.pb.mod m (no _ d5), ho, hl, h.d.then m fun k _ hk => by have hk : k = x.hb := hk; rw [hk]; exact hx.ge.1⟩
theorem PS.ev (hx : x.Ok w0) (h : PS x w0 W hs) : EvAt W x.r1 x.r2 x.W x.A := by
  have h1 := hx.ev.wt.lt
  have h2 := hx.ev.ap.lt
  have h0 := hx.ne0
  exact hx.ev.mod h.d (fun e => by have e : x.ne ≤ x.r1 := e; omega) (fun e => by have e : x.ne ≤ x.r2 := e; omega)
theorem PS.cl (hx : x.Ok w0) (h : PS x w0 W hs) : IntSl W x.ca x.cls := TSl.from hx.cl (hx.ne0 ▸ h.d)
end
/-- How a run over a list of lists ends. -/
def EndP (J Jx : List (List Int) → World → Prop) (pre l : List (List Int)) (z : Bool) (xs : List (List Int)) (W : World) : Prop :=
  (z = true ∧ xs = l ∧ J (pre ++ xs) W) ∨ (z = false ∧ (∃ t, l = xs ++ t) ∧ Jx (pre ++ xs) W)
theorem clashF_congr {ap : Int → Int → Bool} {cs hs gs : List Int} {i : Nat} (h : ∀ k, k ≤ i → hs.getD k default = gs.getD k default) : clashF ap cs hs i = clashF ap cs gs i := by
  rw [Bool.eq_iff_iff, clashF_iff, clashF_iff]
  constructor
  · rintro ⟨k, h1, h2, h3⟩; exact ⟨k, h1, by rw [← h k (by omega), ← h i (Nat.le_refl _), h2], h3⟩
  · rintro ⟨k, h1, h2, h3⟩; exact ⟨k, h1, by rw [h k (by omega), h i (Nat.le_refl _), h2], h3⟩
/-- What the first heads yield that can come next. -/
def partK (ap : Int → Int → Bool) (cs P : List Int) (m k : Nat) : List (List Int) := (((List.range k).filter (stepB ap cs P)).map fun k => P ++ [cs.getD k default]).flatMap (partsF ap cs m)
theorem partK_succ (ap : Int → Int → Bool) (cs P : List Int) (m k : Nat) : partK ap cs P m (k + 1) = partK ap cs P m k ++ if stepB ap cs P k = true then partsF ap cs m (P ++ [cs.getD k default]) else [] := by
  unfold partK
  rw [List.range_succ, List.filter_append, List.map_append, List.flatMap_append]
  congr 1
  cases h : stepB ap cs P k <;> simp [h]
theorem partK_all (ap : Int → Int → Bool) (cs P : List Int) (m : Nat) : partsF ap cs (m + 1) P = partK ap cs P m (P.length + 1) := rfl
theorem EndP.app {J Jx : List (List Int) → World → Prop} {pre xs1 xs R1 R2 : List (List Int)} {b : Bool} {W : World} (h1 : xs1 = R1) (h : EndP J Jx (pre ++ xs1) R2 b xs W) : EndP J Jx pre (R1 ++ R2) b (xs1 ++ xs) W := by
  rcases h with ⟨h2, h3, h4⟩ | ⟨h2, ⟨t, h3⟩, h4⟩
  · exact .inl ⟨h2, by rw [h1, h3], by rw [← List.append_assoc]; exact h4⟩
  · exact .inr ⟨h2, ⟨t, by rw [h1, h3, List.append_assoc]⟩, by rw [← List.append_assoc]; exact h4⟩
theorem EndP.more {J Jx : List (List Int) → World → Prop} {pre xs R1 R2 : List (List Int)} {b : Bool} {W : World} (h : EndP J Jx pre R1 b xs W) (hb : b = false) : EndP J Jx pre (R1 ++ R2) b xs W := by
  rcases h with ⟨h2, _, _⟩ | ⟨h2, ⟨t, h3⟩, h4⟩
  · rw [h2] at hb; cases hb
  · exact .inr ⟨h2, ⟨t ++ R2, by rw [h3, List.append_assoc]⟩, h4⟩
set_option maxHeartbeats 8000000 in
theorem put_spec (x : PtX) (w0 : World) (hx : x.Ok w0) (_hinc : Inc x.cls) (mm : Nat) (J Jx : List (List Int) → World → Prop) (hJ : ∀ s A B, J s A → Vc.Mod x.T A B → J s B) (_hJx : ∀ s A B, Jx s A → Vc.Mod x.T A B → Jx s B)
    (all : List (List Int)) (hY : ∀ pre y W1, J pre W1 → (∃ t, all = (pre ++ [y]) ++ t) → OwnT encI 1 3 x.hb W1 (some ⟨x.hb, 0, none⟩) x.cls.length y → y.length = x.cls.length → YieldAt Fence.wide mm Try.prog x.l #[.slice (some ⟨x.hb, 0, none⟩) x.cls.length x.cls.length] W1 fun e W' =>
      ((e = .returned (.bool true) ∧ J (pre ++ [y]) W') ∨ (e = .returned (.bool false) ∧ Jx (pre ++ [y]) W')) ∧ Vc.Mod (fun k => x.ne ≤ k ∧ ¬ x.T k) W1 W') :
    ∀ (m i : Nat), i + m = x.cls.length → ∀ (hs : List Int) (pre : List (List Int)) (W : World), PS x w0 W hs → PreP (apM x.A) x.cls (hs.take i) → J pre W → (∃ t, all = pre ++ (partsF (apM x.A) x.cls m (hs.take i) ++ t)) →
      RetsY Try.prog 64 (.int .i64 (i : Nat) :: x.caps).toArray W (fun z : Bool × List Int × List (List Int) => .bool z.1)
        (fun z W' => PS x w0 W' z.2.1 ∧ z.2.1.take i = hs.take i ∧ EndP J Jx pre (partsF (apM x.A) x.cls m (hs.take i)) z.1 z.2.2 W') := by
  have hn1 := hx.n1
  unfold PtX.n at hn1
  have hT0 : ∀ {A B : World}, Ext A B → Vc.Mod x.T A B := fun h => h.mod
  intro m
  induction m with
  | zero =>
    intro i hi hs pre W hP hpp hj hal
    have hin : i = x.cls.length := by omega
    have hpl := hP.len
    have htk : hs.take i = hs := List.take_of_length_le (by omega)
    rw [htk] at hal hpp ⊢
    refine enter (args := [_, _, _, _, _, _]) Try.func64 rfl Try.ntmps64 (by kernel_rfl) rfl ?_
    refine V.seq (V.region (VL.op (R.asB rfl) (VL.nil (V.seq (V.seq (V.region (VL.op (R.mvI rfl) (VL.op (R.ld1 Try.isAgg23 rfl ((show W.cell? ⟨x.cbx, 0, none⟩ = some (Value.slice x.ca x.cls.length x.cc) from hP.cb.cell 0))) (VL.op (R.lenS Try.runUnderlying23 rfl) (VL.op (R.eql rfl rfl) (VL.nil (V.condP rfl (fun c12 => V.seq (?_)) (fun c12 => V.skip (V.seq (V.seq (?_))))))))))))))))
    · refine VY.region (m := mm + 1) (VY.op (R.ld1 Try.isAgg46 rfl (hP.yb.cell _)) (VY.op (R.ld1 Try.isAgg23 rfl (hP.hx.cell _)) (VY.round (v := .slice (some ⟨x.hb, 0, none⟩) x.cls.length x.cls.length) rfl rfl (hY pre hs W hj (by obtain ⟨t, ht⟩ := hal; exact ⟨t, by rw [ht]; simp [partsF]⟩) hP.own hpl) ?_)))
      rintro e w5 ⟨h7, hm⟩
      have hP5 := hP.mod hm fun k hk => hk
      rcases h7 with ⟨rfl, h7⟩ | ⟨rfl, h7⟩
      · exact ⟨_, rfl, VY.op (R.asB rfl) (VY.nil (V.ret (fret1 (v := .bool _) rfl rfl rfl ⟨(true, hs, [hs]), rfl, hP5, htk, .inl ⟨rfl, rfl, h7⟩⟩)))⟩
      · exact ⟨_, rfl, VY.op (R.asB rfl) (VY.nil (V.ret (fret1 (v := .bool _) rfl rfl rfl ⟨(false, hs, [hs]), rfl, hP5, htk, .inr ⟨rfl, ⟨[], rfl⟩, h7⟩⟩)))⟩
    · omega
  | succ m ih =>
    intro i hi hs pre W hP hpp hj hal
    have hil : i < x.cls.length := by omega
    have hpl := hP.len
    obtain ⟨P, hPd⟩ : ∃ P, P = hs.take i := ⟨_, rfl⟩
    have hPl : P.length = i := by rw [hPd, List.length_take]; omega
    rw [← hPd] at hpp hal ⊢
    obtain ⟨tl, hal⟩ := hal
    refine enter (args := [_, _, _, _, _, _]) Try.func64 rfl Try.ntmps64 (by kernel_rfl) rfl ?_
    refine V.seq (V.region (VL.op (R.asB rfl) (VL.nil (V.seq (V.seq (V.region (VL.op (R.mvI rfl) (VL.op (R.ld1 Try.isAgg23 rfl ((show W.cell? ⟨x.cbx, 0, none⟩ = some (Value.slice x.ca x.cls.length x.cc) from hP.cb.cell 0))) (VL.op (R.lenS Try.runUnderlying23 rfl) (VL.op (R.eql rfl rfl) (VL.nil (V.condP rfl (fun c12 => V.seq (?_)) (fun c12 => V.skip (V.seq (V.seq (?_))))))))))))))))
    · exfalso; omega
    refine V.region (VL.op (R.mvI rfl) (VL.op (R.add rfl rfl (by omega) (by omega)) (VL.op (R.mvI rfl) (VL.nil (V.block (?_))))))
    rw [partK_all, hPl] at hal ⊢
    refine V.loop [0, 1, 2, 3, 4, 5, 17, 18] (fun z : Nat × List Int × List (List Int) => [.int .i64 (i : Nat), .pointer (some ⟨x.cbx, 0, none⟩), .pointer (some ⟨x.ybx, 0, none⟩), .pointer (some ⟨x.hbx, 0, none⟩), .pointer (some ⟨x.ebx, 0, none⟩), .pointer (some ⟨x.pbx, 0, none⟩), .int .i64 ((i : Int) + 1), .int .i64 (z.1 : Nat)])
      (fun z w' => z.1 ≤ i + 1 ∧ PS x w0 w' z.2.1 ∧ z.2.1.take i = P ∧ z.2.2 = partK (apM x.A) x.cls P m z.1 ∧ J (pre ++ z.2.2) w') (fun z => i + 1 - z.1) (0, hs, []) rfl ⟨Nat.zero_le _, hP, hPd.symm, rfl, by rw [List.append_nil]; exact hj⟩ ?_
    rintro ρ ⟨k, h2, xs⟩ w2 ⟨hk, hP2, hP2d, hxs, hj2⟩
    dsimp only at hk hP2 hP2d hxs hj2 ⊢
    have hl2 := hP2.len
    have hcl2 := hP2.cl hx
    have h2g : ∀ q, q < i → h2.getD q default = P.getD q default := fun q hq => by rw [← hP2d]; simp [List.getD, hq]
    refine V.seq (V.region (VL.op (R.lss rfl rfl) (VL.nil (V.seq (V.condP rfl (fun c19 => V.skip (V.seq (V.block (V.seq (V.region (VL.op (R.mvI rfl) (VL.op (R.asI rfl) (VL.nil (V.seq (V.seq (V.regionQCut mixed 14 (by kernel_rfl) rfl (fun w' => Ext _ w') (Ext.drawn _) [21, 22, 23, 24, 25, 26, 27, 28, 29, 30, 31, 32, 33, 34] 34 (.bool (decide ((k : Int) < i) && decide (h2.getD k default ≠ x.cls.getD k default))) rfl (VQ.op (fun wq eq => R.mvI rfl) (VQ.op (fun wq eq => R.mvI rfl) (VQ.op (fun wq eq => R.lss rfl rfl) (VQ.op (fun wq eq => R.mvB rfl) (VQ.andP rfl rfl (fun g6_3 => VQ.op (fun wq eq => R.ld1 Try.isAgg23 rfl ((hP2.hx.ext eq).cell 0)) (VQ.gT rfl rfl (VQ.op (fun wq eq => R.mvI rfl) (VQ.gT rfl rfl (VQ.op (fun wq eq => R.ixS Try.runUnderlying23 Try.sizeOf3 rfl rfl (by omega) (by omega) ((hP2.own.sl.ext eq).some (i := k) (by omega))) (VQ.gT rfl rfl (VQ.op (fun wq eq => R.ld1 Try.isAgg3 rfl ((((hP2.own.sl.ext eq).row (i := k) (by omega)).cell (i := 0) rfl))) (VQ.gT rfl rfl (VQ.op (fun wq eq => R.ld1 Try.isAgg23 rfl ((hP2.cb.ext eq).cell 0)) (VQ.gT rfl rfl (VQ.op (fun wq eq => R.mvI rfl) (VQ.gT rfl rfl (VQ.op (fun wq eq => R.ixS Try.runUnderlying23 Try.sizeOf3 rfl rfl (by omega) (by omega) ((hcl2.ext eq).some (i := k) (by omega))) (VQ.gT rfl rfl (VQ.op (fun wq eq => R.ld1 Try.isAgg3 rfl ((((hcl2.ext eq).row (i := k) (by omega)).cell (i := 0) rfl))) (VQ.gT rfl rfl (VQ.op (fun wq eq => R.neq rfl rfl) (VQ.op (fun wq eq => R.pickTB rfl rfl) (VQ.nil (cutB rfl ?_)))))))))))))))))))) (fun g6_3 => VQ.gF rfl rfl (VQ.gF rfl rfl (VQ.gF rfl rfl (VQ.gF rfl rfl (VQ.gF rfl rfl (VQ.gF rfl rfl (VQ.gF rfl rfl (VQ.gF rfl rfl (VQ.op (fun wq eq => R.pickFB rfl rfl) (VQ.nil (cutB rfl ?_)))))))))))))))) (fun rg6 w6c e6c => V.cond rfl (fun c34 => V.exit (V.region (VL.op (R.add rfl rfl (by omega) (by omega)) (VL.op (R.mvI rfl) (VL.nil (⟨(k + 1, h2, xs), rfl, ⟨?_, hP2.ext e6c, hP2d, ?_, hJ _ _ _ hj2 (hT0 e6c)⟩, ?_⟩)))))) (fun c34 => V.skip (V.seq (?_))))))))))))))) (fun c19 => V.exit (V.seq (?_))))))))
    · rw [decide_eq_true g6_3, Bool.true_and]
    · rw [decide_eq_false g6_3, Bool.false_and]
    · dsimp only; omega
    · dsimp only
      rw [Bool.and_eq_true, decide_eq_true_eq, decide_eq_true_eq] at c34
      rw [partK_succ, if_neg, List.append_nil]
      · exact hxs
      · intro hs
        unfold stepB at hs
        rw [Bool.and_eq_true, Bool.or_eq_true, decide_eq_true_eq, decide_eq_true_eq, hPl, ← h2g k (by omega)] at hs
        rcases hs.1 with h | h
        · omega
        · exact c34.2 h
    · dsimp only; omega
    · have hor : k = P.length ∨ P.getD k default = x.cls.getD k default := by
        rw [hPl]
        by_cases e : k = i
        · exact .inl e
        · right
          rw [← h2g k (by omega)]
          refine Classical.byContradiction fun h => ?_
          rw [decide_eq_true (show (k : Int) < i by omega), decide_eq_true h] at c34; cases c34
      have hPa := hP2.ext e6c
      have hcla := hPa.cl hx
      obtain ⟨c, hcd⟩ : ∃ c, c = x.cls.getD k default := ⟨_, rfl⟩
      obtain ⟨h3, hh3⟩ : ∃ h3, h3 = h2.set i c := ⟨_, rfl⟩
      have hl3 : h3.length = x.cls.length := by rw [hh3, List.length_set]; exact hl2
      refine V.regionQ mixed 6 (by kernel_rfl) rfl (fun w' => Ext _ w') (Ext.drawn _) (VQ.op (fun wq eq => R.ld1 Try.isAgg23 rfl ((hPa.hx.ext eq).cell 0)) (VQ.op (fun wq eq => R.mvI rfl) (VQ.op (fun wq eq => R.ld1 Try.isAgg23 rfl ((hPa.cb.ext eq).cell 0)) (VQ.op (fun wq eq => R.mvI rfl) (VQ.op (fun wq eq => R.ixS Try.runUnderlying23 Try.sizeOf3 rfl rfl (by omega) (by omega) ((hcla.ext eq).some (i := k) (by omega))) (VQ.op (fun wq eq => R.ld1 Try.isAgg3 rfl ((((hcla.ext eq).row (i := k) (by omega)).cell (i := 0) rfl))) (VQ.nil fun w7q e7q => VL.op (R.ixS Try.runUnderlying23 Try.sizeOf3 rfl rfl (by omega) (by omega) ((hPa.own.sl.ext e7q).some (i := i) (by omega))) (VL.ownSt eltI (v := .int _ _) Try.sizeOf3 ((hPa.own.ext e7q)) i 0 (x.cls.getD k default) rfl rfl (by omega) rfl rfl rfl rfl rfl fun w3 ho3 m3 hs3 => VL.nil (V.seq (V.seq (?_)))))))))))
      rw [← hcd, ← hh3] at ho3
      have hm3 : Vc.Mod (one x.hb) w7q w3 := m3.weaken fun _ _ h => aBlk_some h
      have hP3 := (hPa.ext e7q).put hx ho3 hl3 hm3
      have hcl3 := hP3.cl hx
      have hev3 := hP3.ev hx
      have hj3 : J (pre ++ xs) w3 := hJ _ _ _ (hJ _ _ _ hj2 (hT0 (e6c.trans e7q))) (hm3.weaken fun q _ hq => .inl hq)
      have h3g : ∀ q, q ≤ i → h3.getD q default = (P ++ [c]).getD q default := fun q hq => by
        rw [hh3, set_get (by omega)]
        by_cases e : q = i
        · rw [if_pos e, e, ← hPl]; exact gA_end.symm
        · rw [if_neg e, gA_app (by omega), h2g q (by omega)]
      have htk3 : h3.take (i + 1) = P ++ [c] := by
        rw [hh3, List.take_succ_eq_append_getElem (by rw [List.length_set]; omega), List.take_set_of_le (by omega), hP2d]
        simp
      have hcs := clash_spec x.sa x.ca (some ⟨x.hb, 0, none⟩) x.ns x.css x.r1 x.r2 x.cc x.cls.length x.W x.A x.cls h3 i w3 (by omega) hev3 hcl3 hP3.own.sl hl3 hil
      rw [hl3, clashF_congr h3g] at hcs
      refine V.region (VL.op (R.ldA Try.isAgg52 Try.sizeOf52 rfl rfl (hP3.eb.rowAt 0 3) rfl) (VL.op (R.ld1 Try.isAgg23 rfl (hP3.cb.cell 0)) (VL.op (R.ld1 Try.isAgg23 rfl (hP3.hx.cell 0)) (VL.op (R.mvI rfl) (VL.callP Try.call65 rfl (hcs) fun w8_4 e8_4 => VL.nil (V.cond rfl (fun c46 => V.exit (V.region (VL.op (R.add rfl rfl (by omega) (by omega)) (VL.op (R.mvI rfl) (VL.nil (⟨(k + 1, h3, xs), rfl, ⟨?_, hP3.ext e8_4, ?_, ?_, hJ _ _ _ hj3 (hT0 e8_4)⟩, ?_⟩)))))) (fun c46 => V.skip (V.seq (?_)))))))))
      · dsimp only; omega
      · dsimp only
        have := congrArg (List.take i) htk3
        rw [List.take_take, Nat.min_eq_left (by omega), ← hPl, List.take_left] at this
        rw [← hPl]; exact this
      · dsimp only
        rw [partK_succ, if_neg, List.append_nil]
        · exact hxs
        · intro hs
          unfold stepB at hs
          rw [hPl, ← hcd, c46] at hs
          simp at hs
      · dsimp only; omega
      have hst : stepB (apM x.A) x.cls P k = true := by
        unfold stepB
        rw [hPl, ← hcd, c46, Bool.not_false, Bool.and_true, Bool.or_eq_true, decide_eq_true_eq, decide_eq_true_eq]
        rw [hPl, ← hcd] at hor
        exact hor
      have hpp3 : PreP (apM x.A) x.cls (h3.take (i + 1)) := by
        rw [htk3]
        refine ((nxts_mem hpp (by omega)).1 ?_).1
        unfold nxtsF
        exact List.mem_map.2 ⟨k, List.mem_filter.2 ⟨List.mem_range.2 (by omega), hst⟩, by rw [← hcd]⟩
      have hk1 : partK (apM x.A) x.cls P m (k + 1) = partK (apM x.A) x.cls P m k ++ partsF (apM x.A) x.cls m (P ++ [c]) := by rw [partK_succ, if_pos hst, ← hcd]
      have hfull : ∃ t2, partK (apM x.A) x.cls P m (i + 1) = partK (apM x.A) x.cls P m (k + 1) ++ t2 := by
        have key : ∀ q, k + 1 ≤ q → ∃ t2, partK (apM x.A) x.cls P m q = partK (apM x.A) x.cls P m (k + 1) ++ t2 := by
          intro q hq
          induction q with
          | zero => omega
          | succ q ihq =>
            by_cases e : k = q
            · subst e; exact ⟨[], by simp⟩
            · obtain ⟨t2, ht2⟩ := ihq (by omega)
              rw [partK_succ, ht2]
              exact ⟨t2 ++ _, by rw [List.append_assoc]⟩
        exact key _ (by omega)
      obtain ⟨t2, hfull⟩ := hfull
      have hP4 := hP3.ext e8_4
      have hj4 : J (pre ++ xs) w8_4 := hJ _ _ _ hj3 (hT0 e8_4)
      have hal4 : ∃ t, all = (pre ++ xs) ++ (partsF (apM x.A) x.cls m (h3.take (i + 1)) ++ t) := ⟨t2 ++ tl, by rw [hal, hfull, hk1, hxs, htk3]; simp only [List.append_assoc]⟩
      have hih : RetsY Try.prog 64 (.int .i64 ((i : Int) + 1) :: x.caps).toArray w8_4 (fun z : Bool × List Int × List (List Int) => .bool z.1)
        (fun z W' => PS x w0 W' z.2.1 ∧ z.2.1.take (i + 1) = h3.take (i + 1) ∧ EndP J Jx (pre ++ xs) (partsF (apM x.A) x.cls m (h3.take (i + 1))) z.1 z.2.2 W') := ih (i + 1) (by omega) h3 (pre ++ xs) w8_4 hP4 hpp3 hj4 hal4
      rw [htk3] at hih
      refine V.region (VL.op (R.ld1 Try.isAgg58 rfl (hP4.pb.cell 0)) (VL.op (R.mvI rfl) (VL.op (R.add rfl rfl (by omega) (by omega)) (VL.callCY rfl (Try.call64) rfl (hih) fun z9 w9 h9 => VL.op (R.not rfl) (VL.nil (V.cond rfl (fun c51 => V.seq (?_)) (fun c51 => V.skip (V.region (VL.op (R.add rfl rfl (by omega) (by omega)) (VL.op (R.mvI rfl) (VL.nil (?_))))))))))))
      · obtain ⟨b9, h9', xs9⟩ := z9
        obtain ⟨hP9, ht9, hE9⟩ := h9
        dsimp only at hP9 ht9 hE9 ⊢
        have hb9 : b9 = false := by simpa using c51
        refine V.region (VL.op (R.asB rfl) (VL.nil (V.ret (fret1 (v := .bool _) rfl rfl rfl (⟨(false, h9', xs ++ xs9), rfl, hP9, ?_, ?_⟩)))))
        · dsimp only
          have := congrArg (List.take i) ht9
          rw [List.take_take, Nat.min_eq_left (by omega), ← hPl, List.take_left] at this
          rw [← hPl]; exact this
        · dsimp only
          have := (EndP.app hxs hE9)
          rw [← hk1, hb9] at this
          rw [hfull]
          exact this.more rfl
      · obtain ⟨b9, h9', xs9⟩ := z9
        obtain ⟨hP9, ht9, hE9⟩ := h9
        dsimp only at hP9 ht9 hE9 ⊢
        have hb9 : b9 = true := by simpa using c51
        have hE := EndP.app hxs hE9
        rw [← hk1, hb9] at hE
        rcases hE with ⟨_, hx9, hj9⟩ | ⟨h, _⟩
        · refine ⟨(k + 1, h9', xs ++ xs9), rfl, ⟨by dsimp only; omega, hP9, ?_, hx9, hj9⟩, by dsimp only; omega⟩
          dsimp only
          have := congrArg (List.take i) ht9
          rw [List.take_take, Nat.min_eq_left (by omega), ← hPl, List.take_left] at this
          rw [← hPl]; exact this
        · cases h
    · have hki : k = i + 1 := by omega
      subst hki
      refine V.region (VL.op (R.asB rfl) (VL.nil (V.ret (fret1 (v := .bool _) rfl rfl rfl (⟨(true, h2, xs), rfl, hP2, hP2d, .inl ⟨rfl, hxs, hj2⟩⟩)))))
end Go.Proofs.Ytglaigeellpikaa

/- Cluster: the iterator over partitions, as a sequence. -/
namespace Go.Proofs.Ytglaigeellpikaa
open Go.Vc

/-- What is known of the list that a round is handed. -/
def GP (hb n : Nat) (_ : Nat → Prop) (_ : Nat) (y : List Int) (W : World) : Prop := OwnT encI 1 3 hb W (some ⟨hb, 0, none⟩) n y ∧ y.length = n
def LbP (hb cbx hbx ebx : Nat) (k : Nat) : Prop := k = hb ∨ k = cbx ∨ k = hbx ∨ k = ebx
set_option maxHeartbeats 4000000 in
theorem parts_seq (m hb cbx hbx ebx r1 r2 ns css cc ne : Nat) (ca sa : Option Addr) (cls : List Int) (Wm : List ((Int × Int) × Int)) (Am : List ((Int × Int) × Bool)) (w0 w : World) (hne : ne = w0.heap.size) (hE : EvAt w0 r1 r2 Wm Am) (hC : IntSl w0 ca cls) (hn1 : cls.length ≤ 1000) (hinc : Inc cls)
    (hge : ne ≤ hb ∧ ne ≤ cbx ∧ ne ≤ hbx ∧ ne ≤ ebx) (hdf : hb ≠ cbx ∧ hb ≠ hbx ∧ hb ≠ ebx) (hd : Vc.Mod (From ne) w0 w)
    (hcb : Blk w cbx (.cells #[.slice ca cls.length cc] 23 (0, 0))) (hhx : Blk w hbx (.cells #[.slice (some ⟨hb, 0, none⟩) cls.length cls.length] 23 (0, 0))) (heb : Blk w ebx (.cells #[.slice sa ns css, .map (some r1), .map (some r2)] 52 (0, 0)))
    (how : ∃ hs, OwnT encI 1 3 hb w (some ⟨hb, 0, none⟩) cls.length hs ∧ hs.length = cls.length) (hbl : hb < w.heap.size) :
    SeqT m Try.prog 63 #[.pointer (some ⟨cbx, 0, none⟩), .pointer (some ⟨hbx, 0, none⟩), .pointer (some ⟨ebx, 0, none⟩)] (fun _ : List Int => #[.slice (some ⟨hb, 0, none⟩) cls.length cls.length]) (GP hb cls.length) ne (LbP hb cbx hbx ebx)
      (fun xs => xs = partsF (apM Am) cls cls.length []) (fun pre => ∃ t, partsF (apM Am) cls cls.length [] = pre ++ t) w := by
  intro l J Jx W hEW hJe hJxe hY h0
  have hWw := hEW.size
  obtain ⟨hs, how, hsl⟩ := how
  have lcb := hcb.lt
  have lhx := hhx.lt
  have leb := heb.lt
  have hdz := hd.size
  refine Calls.mono (R := fun e' w' => ∃ v, e' = .returned v ∧ ∃ T, OkT (LbP hb cbx hbx ebx) W.heap.size T ∧ ((∃ xs, xs = partsF (apM Am) cls cls.length [] ∧ J T xs w') ∨ (∃ pre, (∃ t, partsF (apM Am) cls cls.length [] = pre ++ t) ∧ Jx T pre w'))) ?_ (fun e' w' ⟨v, h1, h2⟩ => ⟨⟨v, h1⟩, h2⟩)
  refine enter (args := [.func (.yield l) #[] #[], .pointer (some ⟨cbx, 0, none⟩), .pointer (some ⟨hbx, 0, none⟩), .pointer (some ⟨ebx, 0, none⟩)]) Try.func63 rfl Try.ntmps63 (by kernel_rfl) rfl ?_
  refine V.seq (V.region (VL.box (v := .func _ _ _) rfl fun yb w1 hyb e1 hY1 => VL.nil (V.seq (V.region (VL.alloc Try.zeroValue58 fun pb w2 hpb e2 hP2 => VL.nil (V.seq (V.region (VL.op (R.mkFn rfl rfl) (VL.store (v := .func _ _ _) Try.sizeOf58 rfl rfl rfl rfl hP2 rfl rfl fun w3 m3 hs3 hP3 => VL.nil (?_))))))))))
  have z1 := e1.size
  have z2 := e2.size
  have z3 := m3.size
  have lyb := hY1.lt
  have lpb := hP2.lt
  have hY1 : Blk w1 yb (.cells #[.func (.yield l) #[] #[]] 46 (0, 0)) := hY1
  have no : ∀ b, b ≠ pb → ¬ one pb b := fun b h e => h e
  have hE12 := hEW.trans (e1.trans e2)
  obtain ⟨x, hx⟩ : ∃ x : PtX, x = { cls := cls, ca := ca, cc := cc, W := Wm, A := Am, sa := sa, ns := ns, css := css, r1 := r1, r2 := r2, hb := hb, cbx := cbx, hbx := hbx, ebx := ebx, ybx := yb, pbx := pb, l := l, ne := ne } := ⟨_, rfl⟩
  have hxo : x.Ok w0 := by
    subst hx
    exact ⟨hne, hE, hC, hn1, ⟨hge.1, hge.2.1, hge.2.2.1, hge.2.2.2, by dsimp only; omega, by dsimp only; omega⟩, ⟨hdf.1, hdf.2.1, hdf.2.2, by dsimp only; omega, by dsimp only; omega⟩⟩
  have hOT : OkT (LbP hb cbx hbx ebx) W.heap.size x.T := fun k hk => by
    subst hx
    rcases hk with hk | hk | hk | hk | hk | hk
    · exact .inl (.inl hk)
    · exact .inl (.inr (.inl hk))
    · exact .inl (.inr (.inr (.inl hk)))
    · exact .inl (.inr (.inr (.inr hk)))
    · right; dsimp only at hk; omega
    · right; dsimp only at hk; omega
  have hTb : ∀ k, x.T k → k < w3.heap.size := fun k hk => by
    subst hx
    rcases hk with hk | hk | hk | hk | hk | hk <;> (dsimp only at hk; omega)
  have hps : PS x w0 w3 hs := by
    subst hx
    refine ⟨(hcb.ext hE12).mod m3 (no _ (by omega)), (hY1.ext e2).mod m3 (no _ (by omega)), (hhx.ext hE12).mod m3 (no _ (by omega)), (heb.ext hE12).mod m3 (no _ (by omega)), hP3, (how.ext hE12).mod m3 (fun q hq h => by have := aBlk_some hq; have h : q = pb := h; dsimp only at *; omega), hsl, (hd.ext hE12).then m3 fun q _ (hq : q = pb) => ?_⟩
    show ne ≤ q
    omega
  have hEp : Ext W w3 := (e1.trans e2).ownA m3 fun q (hq : q = pb) => by omega
  have hcall : RetsY Try.prog 64 (.int .i64 0 :: x.caps).toArray w3 (fun z : Bool × List Int × List (List Int) => .bool z.1)
      (fun z W' => PS x w0 W' z.2.1 ∧ z.2.1.take 0 = hs.take 0 ∧ EndP (J x.T) (Jx x.T) [] (partsF (apM Am) cls cls.length []) z.1 z.2.2 W') := by
    have hp := put_spec x w0 hxo (by rw [hx]; exact hinc) m (J x.T) (Jx x.T) (fun s A B h1 h2 => hJe x.T s A B hOT h1 h2) (fun s A B h1 h2 => hJxe x.T s A B hOT h1 h2) (partsF (apM Am) cls cls.length []) (fun pre y W1 h1 h2 h3 h4 => ?_) cls.length 0 (by rw [hx]; simp) hs [] w3 hps (by rw [List.take_zero]; exact PreP.nil _ _) (h0 x.T w3 hOT hTb hEp) ⟨[], by rw [List.append_nil, hx]; rfl⟩
    · rw [List.take_zero] at hp ⊢
      have e1 : x.A = Am := by rw [hx]
      have e2 : x.cls = cls := by rw [hx]
      rw [e1, e2] at hp
      exact hp
    · have := hY x.T pre y W1 hOT h1 ⟨by rw [hx] at h3; exact h3, by rw [hx] at h4; exact h4⟩ h2
      subst hx
      exact this
  have hpb3 : Blk w3 pb (.cells #[.func (.func 64) #[] x.caps.toArray] 58 (0, 0)) := by have := hps.pb; rw [hx] at this ⊢; exact this
  refine V.region (VL.op (R.ld1 Try.isAgg58 rfl (hpb3.cell 0)) (VL.callCY rfl (Try.call64) rfl (hcall) fun z6 w6 h6 => VL.nil (fend0 rfl (?_))))
  obtain ⟨_, _, hE6⟩ := h6
  rcases hE6 with ⟨_, h7, h8⟩ | ⟨_, h7, h8⟩
  · exact ⟨x.T, hOT, .inl ⟨_, h7, h8⟩⟩
  · exact ⟨x.T, hOT, .inr ⟨_, h7, h8⟩⟩
theorem partitions_spec (sa ca : Option Addr) (n css r1 r2 cc : Nat) (cls : List Int) (w : World) (hm : cls.length ≤ 1000000) :
    RetsX Try.prog 53 #[evV sa n css r1 r2, .slice ca cls.length cc] w (fun x : Nat × Nat × Nat => .func (.func 63) #[] #[.pointer (some ⟨x.1, 0, none⟩), .pointer (some ⟨x.2.1, 0, none⟩), .pointer (some ⟨x.2.2, 0, none⟩)])
      (fun x w' => ∃ hb, Blk w' x.1 (.cells #[.slice ca cls.length cc] 23 (0, 0)) ∧ Blk w' x.2.1 (.cells #[.slice (some ⟨hb, 0, none⟩) cls.length cls.length] 23 (0, 0)) ∧ Blk w' x.2.2 (.cells #[.slice sa n css, .map (some r1), .map (some r2)] 52 (0, 0)) ∧
        (∃ hs, OwnT encI 1 3 hb w' (some ⟨hb, 0, none⟩) cls.length hs ∧ hs.length = cls.length) ∧ w.heap.size ≤ x.1 ∧ w.heap.size ≤ x.2.1 ∧ w.heap.size ≤ x.2.2 ∧ w.heap.size ≤ hb ∧ hb < w'.heap.size ∧ hb ≠ x.1 ∧ hb ≠ x.2.1 ∧ hb ≠ x.2.2) := by
  refine enter (args := [_, _]) Try.func53 rfl Try.ntmps53 (by kernel_rfl) rfl ?_
  refine V.seq (V.region (VL.box (v := .agg _) rfl fun b1 w1 hb1 e1 hB1 => VL.box (v := .slice _ _ _) rfl fun b2 w2 hb2 e2 hB2 => VL.op (R.as rfl) (VL.nil (V.seq (V.region (VL.op (R.ld1 Try.isAgg23 rfl ((hB2.cell _))) (VL.op (R.lenS Try.runUnderlying23 rfl) (VL.makeSl (enc := encI ) el23 ( 0) rfl rfl rfl (by omega) (by unfold maxLen; omega) (Nat.le_refl _) fun hb w3 hhb e3 ho3 => VL.allocSt (v := .slice _ _ _) Try.zeroValue23 Try.sizeOf23 rfl rfl rfl rfl rfl fun b5 w5 hb5 e5 hB5 => VL.nil (V.seq (V.region (VL.op (R.mkFn rfl rfl) (VL.op (R.asF rfl) (VL.nil (V.ret (fret1 (v := .func _ _ _) rfl rfl rfl (⟨(b2, b5, b1), rfl, ⟨hb, ?_⟩, (((e1.trans e2).trans e3).trans e5)⟩))))))))))))))))
  have z1 := e1.size
  have z2 := e2.size
  have z3 := e3.size
  have z5 := e5.size
  have l1 := hB1.lt
  have l2 := hB2.lt
  have l3 := ho3.lt hb ⟨_, rfl, rfl⟩
  have l5 := hB5.lt
  dsimp only
  refine ⟨hB2.ext (e3.trans e5), hB5, hB1.ext (e2.trans (e3.trans e5)), ⟨_, (ho3.ext e5).weaken (by omega), by simp⟩, by omega, by omega, by omega, by omega, by omega, by omega, by omega, by omega⟩
end Go.Proofs.Ytglaigeellpikaa

/- Cluster: exact: the best partition. -/
namespace Go.Proofs.Ytglaigeellpikaa
open Go.Vc

theorem leaves_tmp {n : Nat} {P : Program} {N : Nat} {ρ : Env} {w : World} {fn : Func} {D a1 : Nat} {v1 : Value} {RR : Ending → World → Prop} (hres : fn.results = #[.tmp a1]) (ha1 : Nat.blt a1 N = true) (hx1 : ρ a1 = v1) (hK : w.heap[D]? = some (.deferred (some [])))
    (hR : ∀ w', Vc.Mod (Vc.one D) w w' → RR (.returned v1) w') : LeavesInM Fence.wide n P fn (act N ρ).tmps RR [{ target := .collected D, args := #[] }] .returning w := by
  have hm : Vc.Mod (Vc.one D) w (w.putObj D (.deferred none)) := putObj_mod _
  refine ⟨by simp, .inl ⟨D, _, rfl, run_takeDeferred hK, v1, ?_, hR _ hm⟩⟩
  have e1 := tmps_getD (ρ := ρ) ha1
  rw [hx1] at e1
  rw [Array.getD_eq_getD_getElem?] at e1
  simp only [results, hres]
  simp [e1, go_sem]
/-- How great what is kept can be. -/
def WtB (wt : Int → Int → Int) : Prop := ∀ a b, -1000000000000 ≤ wt a b ∧ wt a b ≤ 1000000000000
theorem rowI_bnd {wt : Int → Int → Int} (h : WtB wt) (cs hs : List Int) (i : Nat) : ∀ k : Nat, -(1000000000000 * (k : Int)) ≤ rowI wt cs hs i k ∧ rowI wt cs hs i k ≤ 1000000000000 * (k : Int)
  | 0 => by simp [rowI]
  | k + 1 => by
    have ih := rowI_bnd h cs hs i k
    have := h (cs.getD k default) (cs.getD i default)
    unfold rowI
    split <;> omega
theorem keptI_bnd {wt : Int → Int → Int} (h : WtB wt) (cs hs : List Int) : ∀ i : Nat, i ≤ 1000 → -(1000000000000000 * (i : Int)) ≤ keptI wt cs hs i ∧ keptI wt cs hs i ≤ 1000000000000000 * (i : Int)
  | 0, _ => by simp [keptI]
  | i + 1, hi => by
    have ih := keptI_bnd h cs hs i (by omega)
    have := rowI_bnd h cs hs i i
    unfold keptI
    omega
/-- The best of what has come, and what it costs less than nothing. -/
def bestO (wt : Int → Int → Int) (cs : List Int) (pre : List (List Int)) : Option (List Int) := pre.foldl (pickF wt cs) none
def bestL (wt : Int → Int → Int) (cs : List Int) (pre : List (List Int)) : List Int := (bestO wt cs pre).getD []
def leastV (wt : Int → Int → Int) (cs : List Int) (pre : List (List Int)) : Int := match bestO wt cs pre with
  | none => 0
  | some h => -keptF wt cs h
theorem bestO_snoc (wt : Int → Int → Int) (cs : List Int) (pre : List (List Int)) (x : List Int) : bestO wt cs (pre ++ [x]) = pickF wt cs (bestO wt cs pre) x := by unfold bestO; rw [List.foldl_append]; rfl
structure ExP (w w4 : World) (wt : Int → Int → Int) (sa ca : Option Addr) (ns css cc r1 r2 : Nat) (cls : List Int) (b2 b3 b5 b6 : Nat) (T : Nat → Prop) (pre : List (List Int)) (W : World) (a : Option Addr) (c : Nat) : Prop where
  h5 : Blk W b5 (.cells #[.slice a (bestL wt cls pre).length c] 23 (0, 0))
  h6 : Blk W b6 (.cells #[.int .i64 (leastV wt cls pre)] 3 (0, 0))
  own : OwnT encI 1 3 w4.heap.size W a c (bestL wt cls pre)
  nT : ∀ k, aBlk a k → ¬ T k ∧ k ≠ w4.heap.size ∧ k ≠ w4.heap.size + 1
  tS : ∀ k, T k → k < W.heap.size
  h2 : Blk W b2 (.cells #[.slice sa ns css, .map (some r1), .map (some r2)] 52 (0, 0))
  h3 : Blk W b3 (.cells #[.slice ca cls.length cc] 23 (0, 0))
  non : a = none ↔ bestO wt cls pre = none
  ln : ∀ h, bestO wt cls pre = some h → h.length = cls.length
  m : Vc.Mod (From w.heap.size) w W
set_option maxRecDepth 100000 in
set_option maxHeartbeats 8000000 in
theorem exact_spec (sa ca : Option Addr) (ns css cc r1 r2 : Nat) (cls : List Int) (Wm : List ((Int × Int) × Int)) (Am : List ((Int × Int) × Bool)) (w : World) (hE : EvAt w r1 r2 Wm Am) (hC : IntSl w ca cls) (hn : cls.length ≤ 1000) (hn0 : 0 < cls.length) (hinc : Inc cls) (hB : WtB (wtM Wm)) :
    RetsX Try.prog 34 #[evV sa ns css r1 r2, .slice ca cls.length cc] w (fun x : Option Addr × Nat => .slice x.1 (exactF (wtM Wm) (apM Am) cls).length x.2) (fun x w' => IntSl w' x.1 (exactF (wtM Wm) (apM Am) cls) ∧ ∀ k, aBlk x.1 k → w.heap.size ≤ k) := by
  refine enterW (args := [_, _]) 2 Try.func34 rfl Try.ntmps34 rfl ?_
  refine InW.seqV (by kernel_rfl) ?_
  refine V.region (VL.box (v := .agg _) rfl fun b0_0 w0_0 hb0_0 e0_0 hB0_0 => VL.box (v := .slice _ _ _) rfl fun b0_1 w0_1 hb0_1 e0_1 hB0_1 => VL.op (R.asS rfl) (VL.nil (?_)))
  refine InW.seqV (by kernel_rfl) ?_
  refine V.region (VL.alloc Try.zeroValue23 fun b1_0 w1_0 hb1_0 e1_0 hB1_0 => VL.nil (?_))
  refine InW.seqV (by kernel_rfl) ?_
  refine V.region (VL.allocSt (v := .int _ _) Try.zeroValue3 Try.sizeOf3 rfl rfl rfl rfl rfl fun b2_0 w2_0 hb2_0 e2_0 hB2_0 => VL.nil (?_))
  refine InW.seqI (InW.seqV (by kernel_rfl) ?_)
  have hB2 : Blk w0_0 b0_0 (.cells #[.slice sa ns css, .map (some r1), .map (some r2)] 52 (0, 0)) := hB0_0
  have hB3 : Blk w0_1 b0_1 (.cells #[.slice ca cls.length cc] 23 (0, 0)) := hB0_1
  have hB5 : Blk w1_0 b1_0 (.cells #[.slice none 0 0] 23 (0, 0)) := hB1_0
  have hB6 : Blk w2_0 b2_0 (.cells #[.int .i64 0] 3 (0, 0)) := hB2_0
  have E2 : Ext w w2_0 := ((e0_0.trans e0_1).trans e1_0).trans e2_0
  have z0 := e0_0.size; have z1 := e0_1.size; have z2 := e1_0.size; have z3 := e2_0.size
  have l2 := hB2.lt; have l3 := hB3.lt; have l5 := hB5.lt; have l6 := hB6.lt
  have g2 := ((hB2.ext e0_1).ext e1_0).ext e2_0
  have g3 := (hB3.ext e1_0).ext e2_0
  have g5 := hB5.ext e2_0
  refine V.region (VL.op (R.ldA Try.isAgg52 Try.sizeOf52 rfl rfl ((show RowAt _ _ _ [Value.slice sa ns css, .map (some r1), .map (some r2)] from g2.rowAt 0 3)) rfl) (VL.op (R.ld1 Try.isAgg23 rfl (g3.cell 0)) (VL.callX Try.call53 rfl (partitions_spec sa ca ns css r1 r2 cc cls w2_0 (by omega)) fun px w4 hpx e4 => VL.nil (?_))))
  refine InW.gen fun ρ4 hρ => InW.block ⟨?_⟩
  have s2 : ρ4 2 = .pointer (some ⟨b0_0, 0, none⟩) := by rw [hρ]; rfl
  have s3 : ρ4 3 = .pointer (some ⟨b0_1, 0, none⟩) := by rw [hρ]; rfl
  have s5 : ρ4 5 = .pointer (some ⟨b1_0, 0, none⟩) := by rw [hρ]; rfl
  have s6 : ρ4 6 = .pointer (some ⟨b2_0, 0, none⟩) := by rw [hρ]; rfl
  have s13 : ρ4 13 = .func (.func 63) #[] #[.pointer (some ⟨px.1, 0, none⟩), .pointer (some ⟨px.2.1, 0, none⟩), .pointer (some ⟨px.2.2, 0, none⟩)] := by rw [hρ]; rfl
  clear hρ
  obtain ⟨cbx, hbx, ebx⟩ := px
  obtain ⟨hb, hcb, hhx, heb, how, p1, p2, p3, p4, p5, p6, p7, p8⟩ := hpx
  dsimp only at hcb hhx heb p1 p2 p3 p6 p7 p8 s13
  have e40 : Ext w w4 := E2.trans e4
  have hz4 := e40.size
  have zE := E2.size
  have ze4 := e4.size
  have q2 := g2.ext e4
  have q3 := g3.ext e4
  have q5 := g5.ext e4
  have q6 := hB6.ext e4
  have lcb := hcb.lt; have lhx := hhx.lt; have leb := heb.lt
  have hseq := parts_seq 1 hb cbx hbx ebx r1 r2 ns css cc w.heap.size ca sa cls Wm Am w w4 rfl hE hC hn hinc ⟨by omega, by omega, by omega, by omega⟩ ⟨p6, p7, p8⟩ e40.mod hcb hhx heb how p5
  obtain ⟨Lb, hLb⟩ : ∃ Lb, Lb = LbP hb cbx hbx ebx := ⟨_, rfl⟩
  rw [← hLb] at hseq
  have hLlo : ∀ k, Lb k → w2_0.heap.size ≤ k ∧ k < w4.heap.size := fun k hk => by
    rw [hLb] at hk
    rcases hk with hk | hk | hk | hk <;> omega
  have offT : ∀ {T : Nat → Prop} {k : Nat}, OkT Lb (w4.heap.size + 2) T → k < w2_0.heap.size → ¬ T k := fun hT hk h => by
    rcases hT _ h with h | h
    · have := hLlo _ h; omega
    · omega
  have offM : ∀ {T : Nat → Prop} {b : Nat}, OkT Lb (w4.heap.size + 2) T → b < w2_0.heap.size → ¬ (T b ∨ b = w4.heap.size ∨ b = w4.heap.size + 1) := fun hT hb h => by
    rcases h with h | h | h
    · exact offT hT hb h
    · omega
    · omega
  obtain ⟨wt, hwt⟩ : ∃ wt, wt = wtM Wm := ⟨_, rfl⟩
  rw [← hwt] at hB ⊢
  refine rangeT (m := 1) (gf := 63) (lb := #[.pointer (some ⟨cbx, 0, none⟩), .pointer (some ⟨hbx, 0, none⟩), .pointer (some ⟨ebx, 0, none⟩)]) ((eval_act rfl).trans s13) Try.call63 (ne := w.heap.size) (Lb := Lb) hz4 (fun k hk => (hLlo k hk).2) hseq (fun _ => rfl)
    (fun T pre W => ∃ a c, ExP w w4 wt sa ca ns css cc r1 r2 cls b0_0 b0_1 b1_0 b2_0 T pre W a c) (fun _ _ _ => False) ?hp (fun _ _ _ _ _ h _ => h) ?hGm ?h0
    (fun _ => act 62 (upd (upd ρ4 14 (.slice (some ⟨hb, 0, none⟩) cls.length cls.length)) 7 (.slice (some ⟨hb, 0, none⟩) cls.length cls.length))) ?hassign ?hbody ?hdone (fun _ _ _ _ _ h _ => h.elim)
  case hp =>
    rintro T pre A A' hT ⟨a, c, h⟩ hm
    refine ⟨a, c, h.h5.mod hm (offM hT (by omega)), h.h6.mod hm (offM hT (by omega)), h.own.mod hm fun k hk hk2 => ?_, h.nT, fun k hk => Nat.lt_of_lt_of_le (h.tS k hk) hm.size, h.h2.mod hm (offM hT (by omega)), h.h3.mod hm (offM hT (by omega)), h.non, h.ln, h.m.then hm fun k _ hk => ?_⟩
    · have := h.nT k hk
      rcases hk2 with h1 | h1 | h1
      · exact this.1 h1
      · exact this.2.1 h1
      · exact this.2.2 h1
    · show _ ≤ _
      rcases hk with h1 | h1 | h1
      · rcases hT _ h1 with h2 | h2
        · have := hLlo _ h2; omega
        · omega
      · omega
      · omega
  case hGm =>
    rintro T x A A' hT ⟨g1, g2⟩ hm
    exact ⟨g1.mod hm fun k hk h => by have := aBlk_some hk; omega, g2⟩
  case h0 =>
    intro T W hT hb hW
    exact ⟨none, 0, q5.ext hW, q6.ext hW, OwnT.nil _ _ _ _ _, fun k hk => (by obtain ⟨ad, h, _⟩ := hk; cases h), hb, q2.ext hW, q3.ext hW, ⟨fun _ => rfl, fun _ => rfl⟩, fun h hh => (by cases hh), Ext.mod (e40.trans hW)⟩
  case hassign =>
    intro lp x W K hK
    exact assign1 (N := 62) (ρ := ρ4) rfl rfl hK
  case hbody =>
    rintro lp T pre x W hT ⟨a, c, hp⟩ ⟨g1, gl⟩ ⟨t, ht⟩ hWs
    have okb : ∀ b, w.heap.size ≤ b → b < w2_0.heap.size → ∀ k, Vc.one b k → (w.heap.size ≤ k ∧ ¬ T k ∧ k ≠ w4.heap.size ∧ k ≠ w4.heap.size + 1) := fun b h1 h2 k hk => by
      unfold Vc.one at hk
      subst hk
      exact ⟨h1, offT hT h2, by omega, by omega⟩
    refine VI.use (Q := fun e _ W' => match e with
      | .normal => (∃ a c, ExP w w4 wt sa ca ns css cc r1 r2 cls b0_0 b0_1 b1_0 b2_0 T (pre ++ [x]) W' a c) ∧ Vc.Mod (fun k => w.heap.size ≤ k ∧ ¬ T k ∧ k ≠ w4.heap.size ∧ k ≠ w4.heap.size + 1) W W'
      | .ret => False
      | _ => False) (by kernel_rfl) ?_ (fun e _ _ h => by cases e <;> first | exact h | exact h.elim)
    obtain ⟨ρ5, h5⟩ : ∃ ρ5, ρ4 = upd (upd (upd (upd ρ5 2 (.pointer (some ⟨b0_0, 0, none⟩))) 3 (.pointer (some ⟨b0_1, 0, none⟩))) 5 (.pointer (some ⟨b1_0, 0, none⟩))) 6 (.pointer (some ⟨b2_0, 0, none⟩)) := ⟨ρ4, by rw [upd_eq s2, upd_eq s3, upd_eq s5, upd_eq s6]⟩
    rw [h5]
    have hgs := g1.sl
    have hCW : IntSl W ca cls := hC.from hp.m
    have hEW : EvAt W r1 r2 Wm Am := hE.mod hp.m (fun h => by have h : w.heap.size ≤ r1 := h; have := hE.wt.lt; omega) (fun h => by have h : w.heap.size ≤ r2 := h; have := hE.ap.lt; omega)
    refine VI.block (VI.seq ?_)
    refine VI.region (fun _ _ h => h) rfl (VL.op (R.asI rfl) (VL.nil (VI.cut [2, 3, 5, 6, 7, 8] (fun _ : Unit => [.pointer (some ⟨b0_0, 0, none⟩), .pointer (some ⟨b0_1, 0, none⟩), .pointer (some ⟨b1_0, 0, none⟩), .pointer (some ⟨b2_0, 0, none⟩), .slice (some ⟨hb, 0, none⟩) cls.length cls.length, .int .i64 (keptF wt cls x)]) (fun _ w' => Ext W w') (VI.seq (?_)) (fun rgB2 xB2 wBB2 hBB2 => VI.seq (?_)))))
    · refine VI.region (fun _ _ h => h) rfl (VL.op (R.ld1 Try.isAgg23 rfl (hp.h3.cell 0)) (VL.op (R.lenS Try.runUnderlying23 rfl) (VL.op (R.mvI rfl) (VL.nil (VI.block (?_))))))
      refine VI.loop [2, 3, 5, 6, 7, 8, 15, 16, 17] (fun y : Nat × Int => [.pointer (some ⟨b0_0, 0, none⟩), .pointer (some ⟨b0_1, 0, none⟩), .pointer (some ⟨b1_0, 0, none⟩), .pointer (some ⟨b2_0, 0, none⟩), .slice (some ⟨hb, 0, none⟩) cls.length cls.length, .int .i64 y.2, .slice ca cls.length cc, .int .i64 (cls.length : Nat), .int .i64 (y.1 : Nat)])
        (fun y w' => y.1 ≤ cls.length ∧ y.2 = keptI wt cls x y.1 ∧ Ext W w') (fun y => cls.length - y.1) (0, 0) rfl ⟨Nat.zero_le _, rfl, Mod.refl _ _⟩ ?_
      rintro ρ ⟨i, s⟩ w6 ⟨hi, hs, e6⟩
      dsimp only at hi hs e6 ⊢
      refine VI.seq (VI.region (fun _ _ h => h) rfl (VL.op (R.lss rfl rfl) (VL.nil (VI.seq (VI.condP rfl (fun c18 => VI.skip (VI.seq (VI.block (VI.seq (VI.region (fun _ _ h => h) rfl (VL.op (R.mvI rfl) (VL.op (R.asI rfl) (VL.nil (VI.seq (?_)))))))))) (fun c18 => VI.exit (?_)))))))
      · have hil : i < cls.length := by omega
        have hkb := keptI_bnd hB cls x i (by omega)
        refine VI.region (fun _ _ h => h) rfl (VL.op (R.mvI rfl) (VL.op (R.mvI rfl) (VL.nil (VI.block (?_)))))
        refine VI.loop [2, 3, 5, 6, 7, 8, 9, 15, 16, 17, 20, 21] (fun y : Nat × Int => [.pointer (some ⟨b0_0, 0, none⟩), .pointer (some ⟨b0_1, 0, none⟩), .pointer (some ⟨b1_0, 0, none⟩), .pointer (some ⟨b2_0, 0, none⟩), .slice (some ⟨hb, 0, none⟩) cls.length cls.length, .int .i64 y.2, .int .i64 (i : Nat), .slice ca cls.length cc, .int .i64 (cls.length : Nat), .int .i64 (i : Nat), .int .i64 (i : Nat), .int .i64 (y.1 : Nat)])
          (fun y w' => y.1 ≤ i ∧ y.2 = keptI wt cls x i + rowI wt cls x i y.1 ∧ Ext W w') (fun y => i - y.1) (0, s) rfl ⟨Nat.zero_le _, by dsimp only; rw [hs]; simp [rowI], e6⟩ ?_
        rintro ρ ⟨k, s2⟩ w7 ⟨hk, hs2, e7⟩
        dsimp only at hk hs2 e7 ⊢
        have hrb := rowI_bnd hB cls x i k
        have hwb := hB (cls.getD k default) (cls.getD i default)
        rw [hwt] at hwb
        refine VI.seq (VI.region (fun _ _ h => h) rfl (VL.op (R.lss rfl rfl) (VL.nil (VI.seq (VI.condP rfl (fun c22 => VI.skip (VI.seq (VI.block (VI.seq (VI.region (fun _ _ h => h) rfl (VL.op (R.mvI rfl) (VL.op (R.asI rfl) (VL.nil (VI.seq (VI.regionQ (fun _ _ h => h) rfl mixed 8 (by kernel_rfl) rfl (fun w' => Ext _ w') (Ext.drawn _) (VQ.op (fun wq eq => R.mvS rfl) (VQ.op (fun wq eq => R.mvI rfl) (VQ.op (fun wq eq => R.ixS Try.runUnderlying23 Try.sizeOf3 rfl rfl (by omega) (by omega) ((hgs.ext (e7.trans eq)).some (i := i) (by omega))) (VQ.op (fun wq eq => R.ld1 Try.isAgg3 rfl ((((hgs.ext (e7.trans eq)).row (i := i) (by omega)).cell (i := 0) rfl))) (VQ.op (fun wq eq => R.mvS rfl) (VQ.op (fun wq eq => R.mvI rfl) (VQ.op (fun wq eq => R.ixS Try.runUnderlying23 Try.sizeOf3 rfl rfl (by omega) (by omega) ((hgs.ext (e7.trans eq)).some (i := k) (by omega))) (VQ.op (fun wq eq => R.ld1 Try.isAgg3 rfl ((((hgs.ext (e7.trans eq)).row (i := k) (by omega)).cell (i := 0) rfl))) (VQ.nil fun w12q e12q => VL.op (R.eql rfl rfl) (VL.nil (VI.condP rfl (fun c32 => VI.regionQ (fun _ _ h => h) rfl mixed 15 (by kernel_rfl) rfl (fun w' => Ext _ w') (Ext.drawn _) (VQ.op (fun wq eq => R.mvI rfl) (VQ.op (fun wq eq => R.fld' (o := 1) Try.runUnderlying52 rfl rfl Try.sizeOf49 rfl rfl) (VQ.op (fun wq eq => R.ld1 Try.isAgg49 rfl ((hp.h2.ext (e7.trans (e12q.trans eq))).cell 1)) (VQ.op (fun wq eq => R.ld1 Try.isAgg23 rfl ((hp.h3.ext (e7.trans (e12q.trans eq))).cell 0)) (VQ.op (fun wq eq => R.mvI rfl) (VQ.op (fun wq eq => R.ixS Try.runUnderlying23 Try.sizeOf3 rfl rfl (by omega) (by omega) ((hCW.ext (e7.trans (e12q.trans eq))).some (i := k) (by omega))) (VQ.op (fun wq eq => R.ld1 Try.isAgg3 rfl ((((hCW.ext (e7.trans (e12q.trans eq))).row (i := k) (by omega)).cell (i := 0) rfl))) (VQ.op (fun wq eq => R.ld1 Try.isAgg23 rfl ((hp.h3.ext (e7.trans (e12q.trans eq))).cell 0)) (VQ.op (fun wq eq => R.mvI rfl) (VQ.op (fun wq eq => R.ixS Try.runUnderlying23 Try.sizeOf3 rfl rfl (by omega) (by omega) ((hCW.ext (e7.trans (e12q.trans eq))).some (i := i) (by omega))) (VQ.op (fun wq eq => R.ld1 Try.isAgg3 rfl ((((hCW.ext (e7.trans (e12q.trans eq))).row (i := i) (by omega)).cell (i := 0) rfl))) (VQ.op (fun wq eq => R.buildArr Try.zeroValue42 Try.runUnderlying42 Try.sizeOf3 rfl) (VQ.op (fun wq eq => R.lookupV key42 Try.runUnderlying49 Try.zeroValue3 (hEW.wt.ext (e7.trans (e12q.trans eq))) (wt_val Wm (cls.getD k default) (cls.getD i default)) rfl rfl) (VQ.op (fun wq eq => R.add rfl rfl (by omega) (by omega)) (VQ.op (fun wq eq => R.asI rfl) (VQ.nil fun w13q e13q => VL.nil (VI.region (fun _ _ h => h) rfl (VL.op (R.add rfl rfl (by omega) (by omega)) (VL.op (R.mvI rfl) (VL.nil (⟨(k + 1, _), rfl, ⟨?_, ?_, e7.trans (e12q.trans e13q)⟩, ?_⟩)))))))))))))))))))))) (fun c32 => VI.skip (VI.region (fun _ _ h => h) rfl (VL.op (R.add rfl rfl (by omega) (by omega)) (VL.op (R.mvI rfl) (VL.nil (⟨(k + 1, _), rfl, ⟨?_, ?_, e7.trans e12q⟩, ?_⟩))))))))))))))))))))))))))) (fun c22 => VI.exit (?_)))))))
        · dsimp only; omega
        · dsimp only; rw [rowI, if_pos c32, hs2, hwt]; omega
        · dsimp only; omega
        · dsimp only; omega
        · dsimp only; rw [rowI, if_neg c32, hs2]; omega
        · dsimp only; omega
        · have hki : k = i := by omega
          subst hki
          refine VI.region (fun _ _ h => h) rfl (VL.op (R.add rfl rfl (by omega) (by omega)) (VL.op (R.mvI rfl) (VL.nil (⟨(k + 1, s2), rfl, ⟨?_, ?_, e7⟩, ?_⟩))))
          · dsimp only; omega
          · dsimp only; rw [keptI, hs2]
          · dsimp only; omega
      · have hie : i = cls.length := by omega
        subst hie
        subst hs
        exact ⟨(), rfl, e6⟩
    · have hkx := keptI_bnd hB cls x cls.length hn
      have hpm : Vc.Mod (From w.heap.size) w wBB2 := hp.m.ext hBB2
      have hlb : -1000000000000000000 ≤ leastV wt cls pre ∧ leastV wt cls pre ≤ 1000000000000000000 := by
        unfold leastV
        cases bestO wt cls pre with
        | none => dsimp only; omega
        | some h => have := keptI_bnd hB cls h cls.length hn; unfold keptF; dsimp only; omega
      have hke : keptF wt cls x = keptI wt cls x cls.length := rfl
      have htake : (a = none ∨ -keptF wt cls x < leastV wt cls pre) → pickF wt cls (bestO wt cls pre) x = some x := fun h => by
        cases hb : bestO wt cls pre with
        | none => rfl
        | some g =>
          rcases h with h | h
          · rw [hp.non, hb] at h; cases h
          · unfold leastV at h; rw [hb] at h; dsimp only at h
            unfold pickF; dsimp only; rw [if_pos (by omega)]
      have hkeep : ¬ a = none → ¬ -keptF wt cls x < leastV wt cls pre → pickF wt cls (bestO wt cls pre) x = bestO wt cls pre := fun h1 h2 => by
        cases hb : bestO wt cls pre with
        | none => exact absurd (hp.non.2 hb) h1
        | some g =>
          unfold leastV at h2; rw [hb] at h2; dsimp only at h2
          unfold pickF; dsimp only; rw [if_neg (by omega)]
      have fin : pickF wt cls (bestO wt cls pre) x = bestO wt cls pre → (∃ a c, ExP w w4 wt sa ca ns css cc r1 r2 cls b0_0 b0_1 b1_0 b2_0 T (pre ++ [x]) wBB2 a c) ∧ Vc.Mod (fun k => w.heap.size ≤ k ∧ ¬ T k ∧ k ≠ w4.heap.size ∧ k ≠ w4.heap.size + 1) W wBB2 := fun h => by
        have e1 : bestL wt cls (pre ++ [x]) = bestL wt cls pre := by unfold bestL; rw [bestO_snoc, h]
        have e2 : leastV wt cls (pre ++ [x]) = leastV wt cls pre := by unfold leastV; rw [bestO_snoc, h]
        refine ⟨⟨a, c, by rw [e1]; exact hp.h5.ext hBB2, by rw [e2]; exact hp.h6.ext hBB2, by rw [e1]; exact hp.own.ext hBB2, hp.nT, fun k hk => Nat.lt_of_lt_of_le (hp.tS k hk) hBB2.size, hp.h2.ext hBB2, hp.h3.ext hBB2, by rw [bestO_snoc, h]; exact hp.non, by rw [bestO_snoc, h]; exact hp.ln, hpm⟩, hBB2.mod⟩
      have hsB := hBB2.size
      have hsW : w4.heap.size + 2 ≤ W.heap.size := hWs
      have hxp : 0 < x.length := by omega
      have fin2 : pickF wt cls (bestO wt cls pre) x = some x → ∀ (y : Option Addr × Nat) (w17 w18 w19 : World), OwnT encI 1 3 wBB2.heap.size w17 y.1 y.2 x → Ext wBB2 w17 → Vc.Mod (one b1_0) w17 w18 → Blk w18 b1_0 (.cells #[.slice y.1 cls.length y.2] 23 (0, 0)) → Vc.Mod (one b2_0) w18 w19 → Blk w19 b2_0 (.cells #[.int .i64 (-keptF wt cls x)] 3 (0, 0)) →
          (∃ a c, ExP w w4 wt sa ca ns css cc r1 r2 cls b0_0 b0_1 b1_0 b2_0 T (pre ++ [x]) w19 a c) ∧ Vc.Mod (fun k => w.heap.size ≤ k ∧ ¬ T k ∧ k ≠ w4.heap.size ∧ k ≠ w4.heap.size + 1) W w19 := fun h y w17 w18 w19 ho e17 m18 hb18 m19 hb19 => by
        have e1 : bestL wt cls (pre ++ [x]) = x := by unfold bestL; rw [bestO_snoc, h]; rfl
        have e2 : leastV wt cls (pre ++ [x]) = -keptF wt cls x := by unfold leastV; rw [bestO_snoc, h]
        have no1 : ∀ b, b ≠ b1_0 → ¬ one b1_0 b := fun b h e => h e
        have no2 : ∀ b, b ≠ b2_0 → ¬ one b2_0 b := fun b h e => h e
        have ge := ho.ge
        have s17 := e17.size
        have s18 := m18.size
        have s19 := m19.size
        have hne : y.1 ≠ none := fun hn => by obtain ⟨b, o, hh⟩ := TSl.some (i := 0) ho.sl hxp; rw [hn] at hh; cases hh
        have E17 : Ext W w17 := hBB2.trans e17
        refine ⟨⟨y.1, y.2, by rw [e1, gl]; exact hb18.mod m19 (no2 _ (by omega)), by rw [e2]; exact hb19, by rw [e1]; exact ((ho.weaken (by omega)).mod m18 (fun k hk => no1 _ (by have := ge k hk; omega))).mod m19 (fun k hk => no2 _ (by have := ge k hk; omega)), fun k hk => ?_, fun k hk => by have := hp.tS k hk; have := E17.size; omega,
          ((hp.h2.ext E17).mod m18 (no1 _ (by omega))).mod m19 (no2 _ (by omega)), ((hp.h3.ext E17).mod m18 (no1 _ (by omega))).mod m19 (no2 _ (by omega)), by rw [bestO_snoc, h]; exact ⟨fun h => absurd h hne, fun h => by cases h⟩, fun g hg => by rw [bestO_snoc, h] at hg; injection hg with hg; rw [← hg]; exact gl, ((hp.m.ext E17).then m18 fun k _ hk => ?_).then m19 fun k _ hk => ?_⟩, (E17.mod.then m18 fun k _ hk => okb _ (by omega) (by omega) k hk).then m19 fun k _ hk => okb _ (by omega) (by omega) k hk⟩
        · have := ge k hk
          exact ⟨fun hT => by have := hp.tS k hT; omega, by omega, by omega⟩
        · have hk : k = b1_0 := hk
          show _ ≤ _
          omega
        · have hk : k = b2_0 := hk
          show _ ≤ _
          omega
      have hcl := cloneI_spec (some ⟨hb, 0, none⟩) cls.length x wBB2 (by omega) (hgs.ext hBB2)
      rw [gl] at hcl
      refine VI.region (fun _ _ h => h) rfl (VL.op (R.ld1 Try.isAgg23 rfl ((hp.h5.ext hBB2).cell 0)) (VL.op (R.eqlNil Try.runUnderlying23 rfl rfl) (VL.op (R.mvB rfl) (VL.or rfl rfl (fun g16_2 => VL.op (R.mvI rfl) (VL.gT rfl rfl (VL.op (R.neg rfl (by omega) (by omega)) (VL.gT rfl rfl (VL.op (R.ld1 Try.isAgg3 rfl ((hp.h6.ext hBB2).cell 0)) (VL.gT rfl rfl (VL.op (R.lss rfl rfl) (VL.op (R.pickFB rfl rfl) (VL.nil (VI.condP rfl (fun c56 => ?_) (fun c56 => VI.skip (?_)))))))))))) (fun g16_2 => VL.gF rfl rfl (VL.gF rfl rfl (VL.gF rfl rfl (VL.op (R.pickTB rfl rfl) (VL.nil (VI.condT rfl (?_)))))))))))
      · refine VI.region (fun _ _ h => h) rfl (VL.op (R.mvS rfl) (VL.callX Try.call29 rfl (hcl) fun y w17 hy e17 => VL.op (R.mvI rfl) (VL.op (R.neg rfl (by omega) (by omega)) (VL.store (v := .slice _ _ _) Try.sizeOf23 rfl rfl rfl rfl ((hp.h5.ext hBB2).ext e17) rfl rfl fun w18 m18 hs18 hB18 => VL.store (v := .int _ _) Try.sizeOf3 rfl rfl rfl rfl (((hp.h6.ext hBB2).ext e17).mod m18 (fun h => by have h : b2_0 = b1_0 := h; omega)) rfl rfl fun w19 m19 hs19 hB19 => VL.nil (?_)))))
        exact fin2 (htake (.inr c56)) y w17 w18 w19 hy e17 m18 hB18 m19 hB19
      · exact fin (hkeep (of_decide_eq_false g16_2) c56)
      · refine VI.region (fun _ _ h => h) rfl (VL.op (R.mvS rfl) (VL.callX Try.call29 rfl (hcl) fun y w17 hy e17 => VL.op (R.mvI rfl) (VL.op (R.neg rfl (by omega) (by omega)) (VL.store (v := .slice _ _ _) Try.sizeOf23 rfl rfl rfl rfl ((hp.h5.ext hBB2).ext e17) rfl rfl fun w18 m18 hs18 hB18 => VL.store (v := .int _ _) Try.sizeOf3 rfl rfl rfl rfl (((hp.h6.ext hBB2).ext e17).mod m18 (fun h => by have h : b2_0 = b1_0 := h; omega)) rfl rfl fun w19 m19 hs19 hB19 => VL.nil (?_)))))
        exact fin2 (htake (.inl (of_decide_eq_true g16_2))) y w17 w18 w19 hy e17 m18 hB18 m19 hB19
  case hdone =>
    rintro T xs W hT hS ⟨a, c, hp⟩ hK
    obtain ⟨ρ5, h5⟩ : ∃ ρ5, ρ4 = upd ρ5 5 (.pointer (some ⟨b1_0, 0, none⟩)) := ⟨ρ4, by rw [upd_eq s5]⟩
    rw [h5]
    refine retD (by kernel_rfl) (by kernel_rfl) ?_
    refine VL.op (R.ld1 Try.isAgg23 rfl (hp.h5.cell _)) (VL.op (R.asS rfl) (VL.nil ⟨rfl, ?_⟩))
    refine leaves_tmp rfl rfl rfl hK fun W2 hm2 => ?_
    have hbest : bestL wt cls xs = exactF wt (apM Am) cls := by rw [hS]; rfl
    refine ⟨_, rfl, (a, c), ?_, ?_, (Mod.ownA (Mod.refl Vc.nob w) hp.m fun k hk => hk).own hm2 hz4⟩
    · dsimp only; rw [← hbest]; rfl
    · dsimp only
      rw [← hbest]
      exact ⟨(hp.own.mod hm2 fun k hk h => (hp.nT k hk).2.1 h).sl, fun k hk => by have := hp.own.ge k hk; omega⟩
end Go.Proofs.Ytglaigeellpikaa
