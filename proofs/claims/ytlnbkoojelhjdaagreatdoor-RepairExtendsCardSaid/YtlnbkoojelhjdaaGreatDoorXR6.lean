/- Repair: List. -/
import Derived.Test.YtlnbkoojelhjdaaGreatDoorXR4
namespace Go.Proofs.YtlnbkoojelhjdaaGreatDoor
open Go.Vc
theorem leaves_cell2 {n : Nat} {P : Program} {N : Nat} {ρ : Env} {w : World} {fn : Func} {D a1 t1 b1 a2 t2 b2 : Nat} {v1 v2 : Value} {RR : Ending → World → Prop} (hres : fn.results = #[.cell a1 t1, .cell a2 t2]) (ha1 : Nat.blt a1 N = true) (ha2 : Nat.blt a2 N = true) (hx1 : ρ a1 = .pointer (some ⟨b1, 0, none⟩)) (hx2 : ρ a2 = .pointer (some ⟨b2, 0, none⟩)) (hK : w.heap[D]? = some (.deferred (some [])))
    (hB1 : Blk w b1 (.cells #[v1] t1 (0, 0))) (hB2 : Blk w b2 (.cells #[v2] t2 (0, 0))) (hn1 : D ≠ b1) (hn2 : D ≠ b2) (hg1 : ∀ w, (isAgg t1).run P w = .ok false w) (hg2 : ∀ w, (isAgg t2).run P w = .ok false w)
    (hR : ∀ w', Mod (Vc.one D) w w' → RR (.returned (.tuple #[v1, v2])) w') : LeavesInM Fence.wide n P fn (act N ρ).tmps RR [{ target := .collected D, args := #[] }] .returning w := by
  have hm : Mod (Vc.one D) w (w.putObj D (.deferred none)) := putObj_mod _
  have hB1' : Blk (w.putObj D (.deferred none)) b1 (.cells #[v1] t1 (0, 0)) := hB1.mod hm (fun e => hn1 e.symm)
  have hB2' : Blk (w.putObj D (.deferred none)) b2 (.cells #[v2] t2 (0, 0)) := hB2.mod hm (fun e => hn2 e.symm)
  refine ⟨by simp, .inl ⟨D, _, rfl, run_takeDeferred hK, .tuple #[v1, v2], ?_, hR _ hm⟩⟩
  have e1 := tmps_getD (ρ := ρ) ha1
  have e2 := tmps_getD (ρ := ρ) ha2
  rw [hx1] at e1
  rw [hx2] at e2
  have hc1 : (w.putObj D (.deferred none)).cell? ⟨b1, 0, none⟩ = some v1 := hB1'.cell _
  have hc2 : (w.putObj D (.deferred none)).cell? ⟨b2, 0, none⟩ = some v2 := hB2'.cell _
  rw [Array.getD_eq_getD_getElem?] at e1 e2
  simp only [results, hres]
  simp [e1, e2, go_sem, loadVar, hg1, hg2, hc1, hc2]
theorem res_cell2 {N : Nat} {P : Program} {ρ : Env} {w : World} {fn : Func} {a1 t1 b1 a2 t2 b2 : Nat} {v1 v2 : Value} (hres : fn.results = #[.cell a1 t1, .cell a2 t2]) (ha1 : Nat.blt a1 N = true) (ha2 : Nat.blt a2 N = true) (hx1 : ρ a1 = .pointer (some ⟨b1, 0, none⟩)) (hx2 : ρ a2 = .pointer (some ⟨b2, 0, none⟩))
    (hB1 : Blk w b1 (.cells #[v1] t1 (0, 0))) (hB2 : Blk w b2 (.cells #[v2] t2 (0, 0))) (hg1 : ∀ w, (isAgg t1).run P w = .ok false w) (hg2 : ∀ w, (isAgg t2).run P w = .ok false w) :
    (results fn (act N ρ).tmps).run P w = .ok (.tuple #[v1, v2]) w := by
  have e1 := tmps_getD (ρ := ρ) ha1
  have e2 := tmps_getD (ρ := ρ) ha2
  rw [hx1] at e1
  rw [hx2] at e2
  have hc1 : w.cell? ⟨b1, 0, none⟩ = some v1 := hB1.cell _
  have hc2 : w.cell? ⟨b2, 0, none⟩ = some v2 := hB2.cell _
  rw [Array.getD_eq_getD_getElem?] at e1 e2
  simp only [results, hres]
  simp [e1, e2, go_sem, loadVar, hg1, hg2, hc1, hc2]
/-- What List says of a graph. -/
def listG (g : Gr) : List (List Int) × Int := if validG g = true then (if (repsG g).length ≤ 1000 then (repsG g, 0) else ([], 3)) else ([], 1)
structure LsR where
  a : Option Addr
  c : Nat
  L : List SlI
  e : Int
structure LsOk (B : Nat) (w : World) (a : Option Addr) (c : Nat) (L : List SlI) : Prop where
  own : OwnT encSl 1 22 B w a c L
  each : ∀ y ∈ L, OwnT Vc.encI 1 3 B w y.a y.c y.l
theorem LsOk.nil (B : Nat) (w : World) : LsOk B w none 0 [] := ⟨OwnT.nil _ _ _ _ _, fun _ h => nomatch h⟩
/-- The blocks of a list of sets. -/
def LsB (a : Option Addr) (L : List SlI) (k : Nat) : Prop := aBlk a k ∨ ∃ y ∈ L, aBlk y.a k
theorem LsOk.mod {B : Nat} {w w' : World} {a : Option Addr} {c : Nat} {L : List SlI} {S : Nat → Prop} (h : LsOk B w a c L) (m : Vc.Mod S w w') (hS : ∀ k, LsB a L k → ¬ S k) : LsOk B w' a c L :=
  ⟨h.own.mod m fun k hk => hS k (.inl hk), fun y hy => (h.each y hy).mod m fun k hk => hS k (.inr ⟨y, hy, hk⟩)⟩
theorem LsOk.ge {B : Nat} {w : World} {a : Option Addr} {c : Nat} {L : List SlI} (h : LsOk B w a c L) : ∀ k, LsB a L k → B ≤ k := fun k hk => by
  rcases hk with hk | ⟨y, hy, hk⟩
  · exact h.own.ge k hk
  · exact (h.each y hy).ge k hk
/-- Between two rounds of List. -/
structure LsP (w w4 : World) (b2 b3 b4 : Nat) (T : Nat → Prop) (pre : List SlI) (W : World) (a : Option Addr) (c : Nat) : Prop where
  b4 : Blk W b4 (.cells #[.slice a pre.length c] 23 (0, 0))
  ls : LsOk (w4.heap.size + 2) W a c pre
  nT : ∀ k, LsB a pre k → ¬ T k
  tS : ∀ k, T k → k < W.heap.size
  len : pre.length ≤ 1000
  b2 : Blk W b2 (.cells #[.slice none 0 0] 23 (0, 0))
  b3 : Blk W b3 (.cells #[.int .i64 0] 28 (0, 0))
  m : Mod (From w.heap.size) w W
set_option maxRecDepth 100000 in
set_option maxHeartbeats 8000000 in
theorem list_spec28 (g : GrW) (B : Nat) (w : World) (hG : GOk w g) (hl : GLen g) (hB : B ≤ w.heap.size) (hT : TabW B w) :
    RetsX Tryz.prog 15 #[.agg (encGr g).toArray] w (fun x : LsR => .tuple #[.slice x.a x.L.length x.c, .int .i64 x.e]) (fun x w' => LsOk w.heap.size w' x.a x.c x.L ∧ (vals x.L, x.e) = listG (grV g)) := by
  refine enterW (args := [_]) 2 Tryz.func15 rfl Tryz.ntmps15 rfl ?_
  refine InW.seqV (by kernel_rfl) ?_
  refine V.region (VL.box (v := .agg _) rfl fun b0_0 w0_0 hb0_0 e0_0 hB0_0 => VL.alloc Tryz.zeroValue23 fun b0_1 w0_1 hb0_1 e0_1 hB0_1 => VL.alloc Tryz.zeroValue28 fun b0_2 w0_2 hb0_2 e0_2 hB0_2 => VL.nil (?_))
  have h1 : Blk w0_2 b0_0 (.cells (Value.agg (encGr g).toArray).cells 25 (0, 0)) := (hB0_0.ext e0_1).ext e0_2
  have h2 : Blk w0_2 b0_1 (.cells #[.slice none 0 0] 23 (0, 0)) := hB0_1.ext e0_2
  have h3 : Blk w0_2 b0_2 (.cells #[.int .i64 0] 28 (0, 0)) := hB0_2
  have e1 : Ext w w0_2 := (e0_0.trans e0_1).trans e0_2
  have n2 : w.heap.size ≤ b0_1 := by have := e0_0.size; omega
  have n3 : w.heap.size ≤ b0_2 := by have := (e0_0.trans e0_1).size; omega
  have n23 : b0_1 < b0_2 := by have := hB0_1.lt; omega
  have hg2 := Tryz.isAgg23
  have hg3 := Tryz.isAgg28
  refine InW.seqV (by kernel_rfl) (V.seq ?_)
  refine V.region (VL.op (R.ldA Tryz.isAgg25 Tryz.sizeOf25 rfl rfl ((show RowAt _ _ _ (encGr g) from h1.rowAt 0 3)) rfl) (VL.callP Tryz.call28 rfl (valid_spec g B _ (hG.ext e1) hl (Nat.le_trans hB e1.size) (hT.ext hB e1)) fun w1_1 e1_1 => VL.op (R.not rfl) (VL.nil (V.cond rfl (fun c8 => V.seq (?_)) (fun c8 => V.skip (?_))))))
  · refine V.region (VL.store (v := .slice _ _ _) Tryz.sizeOf23 rfl rfl rfl rfl (h2.ext e1_1) rfl rfl fun w7 m7 hs7 hB7 => VL.store (v := .int _ _) Tryz.sizeOf28 rfl rfl rfl rfl ((h3.ext e1_1).mod m7 (by unfold Vc.one; dsimp only; omega)) rfl rfl fun w8 m8 hs8 hB8 => VL.nil (V.ret (?_)))
    refine ⟨_, res_cell2 rfl rfl rfl rfl rfl (hB7.mod m8 (by unfold Vc.one; dsimp only; omega)) hB8 hg2 hg3, _, rfl, ⟨none, 0, [], 1⟩, rfl, ⟨LsOk.nil _ _, ?_⟩, (((e1.trans e1_1).own m7 n2).own m8 n3)⟩
    unfold listG
    rw [if_neg (by simpa using c8)]; rfl
  · have hv : validG (grV g) = true := by simpa using c8
    refine InW.seqV (by kernel_rfl) ?_
    refine V.region (VL.alloc Tryz.zeroValue23 fun b3_0 w3_0 hb3_0 e3_0 hB3_0 => VL.nil (?_))
    have e3 : Ext w w3_0 := (e1.trans e1_1).trans e3_0
    refine InW.seqI (InW.seqV (by kernel_rfl) ?_)
    refine V.region (VL.op (R.ldA Tryz.isAgg25 Tryz.sizeOf25 rfl rfl ((show RowAt _ _ _ (encGr g) from ((h1.ext e1_1).ext e3_0).rowAt 0 3)) rfl) (VL.callX Tryz.call45 rfl (all_spec28 g w3_0) fun gb w4 ⟨hgb, hGb⟩ e4 => VL.nil (?_)))
    refine InW.gen fun ρ4 hρ => InW.block ⟨?_⟩
    have s2 : ρ4 2 = .pointer (some ⟨b0_1, 0, none⟩) := by rw [hρ]; rfl
    have s3 : ρ4 3 = .pointer (some ⟨b0_2, 0, none⟩) := by rw [hρ]; rfl
    have s4 : ρ4 4 = .pointer (some ⟨b3_0, 0, none⟩) := by rw [hρ]; rfl
    have s10 : ρ4 10 = .func (.func 71) #[] #[.pointer (some ⟨gb, 0, none⟩)] := by rw [hρ]; rfl
    clear hρ
    have e40 : Ext w w4 := e3.trans e4
    have h24 := ((h2.ext e1_1).ext e3_0).ext e4
    have h34 := ((h3.ext e1_1).ext e3_0).ext e4
    have h44 := hB3_0.ext e4
    have l34 := h34.lt
    have z11 := e1_1.size
    have z3 := e3_0.size
    have l03 := hB0_2.lt
    have l30 := hB3_0.lt
    have z1 := e1.size
    have lgb := hGb.lt
    have ng : w.heap.size ≤ gb := Nat.le_trans e3.size hgb
    have n4 : w.heap.size ≤ b3_0 := by omega
    have o1 : b0_1 < gb := by omega
    have o2 : b0_2 < gb := by omega
    have o3 : b3_0 < gb := by omega
    have o4 : b0_2 < b3_0 := by omega
    have hseq := all_seq 1 gb w.heap.size g w w4 hG rfl hl hv e40.mod ng hGb
    have offT : ∀ {T : Nat → Prop} {k : Nat}, OkT (fun k => k = gb) (w4.heap.size + 2) T → k < gb → ¬ T k := fun hT hk h => by
      rcases hT _ h with h | h <;> omega
    refine rangeT (m := 1) (gf := 71) (lb := #[.pointer (some ⟨gb, 0, none⟩)]) ((eval_act rfl).trans s10) Tryz.call71 (ne := w.heap.size) (Lb := fun k => k = gb) e40.size (fun k hk => by subst hk; exact hGb.lt) hseq (fun _ => rfl)
      (fun T pre W => ∃ a c, LsP w w4 b0_1 b0_2 b3_0 T pre W a c) (fun _ pre W => Blk W b0_1 (.cells #[.slice none 0 0] 23 (0, 0)) ∧ Blk W b0_2 (.cells #[.int .i64 3] 28 (0, 0)) ∧ 1000 < pre.length ∧ Mod (From w.heap.size) w W) ?hp ?hpx ?hGm ?h0
      (fun x => act 20 (upd (upd ρ4 11 (.slice x.a x.l.length x.c)) 5 (.slice x.a x.l.length x.c))) ?hassign ?hbody ?hdone ?hstop
    case hp =>
      rintro T pre A A' hT ⟨a, c, h⟩ hm
      refine ⟨a, c, h.b4.mod hm ?_, h.ls.mod hm fun k hk hk2 => ?_, h.nT, fun k hk => Nat.lt_of_lt_of_le (h.tS k hk) hm.size, h.len, h.b2.mod hm ?_, h.b3.mod hm ?_, h.m.then hm fun k _ hk => ?_⟩
      · rintro (h1 | h1 | h1)
        · exact offT hT o3 h1
        · omega
        · omega
      · have := h.ls.ge k hk
        rcases hk2 with h1 | h1 | h1
        · exact h.nT k hk h1
        · omega
        · omega
      · rintro (h1 | h1 | h1)
        · exact offT hT o1 h1
        · omega
        · omega
      · rintro (h1 | h1 | h1)
        · exact offT hT o2 h1
        · omega
        · omega
      · show _ ≤ _
        rcases hk with h1 | h1 | h1
        · rcases hT _ h1 with h2 | h2
          · rw [h2]; exact ng
          · have := e40.size; omega
        · have := e40.size; omega
        · have := e40.size; omega
    case hpx =>
      rintro T pre A A' hT ⟨p1, p2, p3, p4⟩ hm
      refine ⟨p1.mod hm ?_, p2.mod hm ?_, p3, p4.then hm fun k _ hk => ?_⟩
      · rintro (h1 | h1 | h1)
        · exact offT hT o1 h1
        · omega
        · omega
      · rintro (h1 | h1 | h1)
        · exact offT hT o2 h1
        · omega
        · omega
      · show _ ≤ _
        rcases hk with h1 | h1 | h1
        · rcases hT _ h1 with h2 | h2
          · rw [h2]; exact ng
          · have := e40.size; omega
        · have := e40.size; omega
        · have := e40.size; omega
    case hGm =>
      rintro T x A A' hT ⟨g1, g2⟩ hm
      exact ⟨g1.mod hm fun k hk h => by have := g1.ge k hk; omega, g2⟩
    case h0 =>
      intro T W hT hb hW
      exact ⟨none, 0, h44.ext hW, LsOk.nil _ _, fun k hk => (by rcases hk with ⟨ad, h, _⟩ | ⟨y, hy, _⟩; cases h; cases hy), hb, Nat.zero_le _, h24.ext hW, h34.ext hW, Ext.mod (e40.trans hW)⟩
    case hassign =>
      intro lp x W K hK
      exact assign1 (N := 20) (ρ := ρ4) rfl rfl hK
    case hbody =>
      rintro lp T pre x W hT ⟨a, c, hp⟩ ⟨g1, g2⟩ _ hWs
      have hlen := hp.len
      have okb : ∀ b, w.heap.size ≤ b → b < gb → ∀ k, Vc.one b k → (w.heap.size ≤ k ∧ ¬ T k ∧ k ≠ w4.heap.size ∧ k ≠ w4.heap.size + 1) := fun b h1 h2 k hk => by
        unfold Vc.one at hk
        subst hk
        exact ⟨h1, offT hT h2, by omega, by omega⟩
      refine VI.use (Q := fun e _ W' => match e with
        | .normal => (∃ a c, LsP w w4 b0_1 b0_2 b3_0 T (pre ++ [x]) W' a c) ∧ Mod (fun k => w.heap.size ≤ k ∧ ¬ T k ∧ k ≠ w4.heap.size ∧ k ≠ w4.heap.size + 1) W W'
        | .ret => (Blk W' b0_1 (.cells #[.slice none 0 0] 23 (0, 0)) ∧ Blk W' b0_2 (.cells #[.int .i64 3] 28 (0, 0)) ∧ 1000 < (pre ++ [x]).length ∧ Mod (From w.heap.size) w W') ∧ Mod (fun k => w.heap.size ≤ k ∧ ¬ T k ∧ k ≠ w4.heap.size ∧ k ≠ w4.heap.size + 1) W W'
        | _ => False) (by kernel_rfl) ?_ (fun e _ _ h => h)
      obtain ⟨ρ5, h5⟩ : ∃ ρ5, ρ4 = upd (upd (upd ρ5 2 (.pointer (some ⟨b0_1, 0, none⟩))) 3 (.pointer (some ⟨b0_2, 0, none⟩))) 4 (.pointer (some ⟨b3_0, 0, none⟩)) := ⟨ρ4, by rw [upd_eq s2, upd_eq s3, upd_eq s4]⟩
      rw [h5]
      refine VI.block (VI.seq (VI.seq ?_))
      refine VI.region (fun _ _ h => h) rfl (VL.op (R.ld1 Tryz.isAgg23 rfl ((hp.b4.cell _))) (VL.op (R.lenS Tryz.runUnderlying23 rfl) (VL.op (R.eql rfl rfl) (VL.nil (?_)))))
      refine VI.cond rfl (fun c14 => VI.seq ?_) (fun c14 => VI.skip ?_)
      · refine VI.region (fun _ _ h => h) rfl (VL.store (v := .slice _ _ _) Tryz.sizeOf23 rfl rfl rfl rfl hp.b2 rfl rfl fun w7 m7 hs7 hB7 => VL.store (v := .int _ _) Tryz.sizeOf28 rfl rfl rfl rfl (hp.b3.mod m7 (by unfold Vc.one; dsimp only; omega)) rfl rfl fun w8 m8 hs8 hB8 => VL.nil (?_))
        refine VI.ret ⟨⟨hB7.mod m8 (by unfold Vc.one; dsimp only; omega), hB8, ?_, ?_⟩, ?_⟩
        · have : (pre.length : Int) = 1000 := by simpa using c14
          rw [List.length_append]
          simp only [List.length_cons, List.length_nil]
          omega
        · exact (hp.m.then m7 fun k _ hk => (okb b0_1 n2 o1 k hk).1).then m8 fun k _ hk => (okb b0_2 n3 o2 k hk).1
        · exact (m7.weaken fun k _ hk => okb b0_1 n2 o1 k hk).trans (m8.weaken fun k _ hk => okb b0_2 n3 o2 k hk)
      · refine VI.region (fun _ _ h => h) rfl (VL.op (R.ld1 Tryz.isAgg23 rfl ((hp.b4.cell _))) (VL.op (R.mvS rfl) (VL.append1 el23 Tryz.runUnderlying23 Tryz.sizeOf22 Tryz.zeroValue22 rfl (x) rfl rfl rfl hp.ls.own rfl rfl rfl (by omega) (by unfold maxLen; omega) hWs fun a8 c8 w8 vt8 ho8 m8 hf8 => VL.store (v := .slice _ _ _) Tryz.sizeOf23 rfl rfl rfl rfl (hp.b4.mod m8 (fun h => by have := hp.ls.ge _ (.inl h); omega)) rfl rfl fun w9 m9 hs9 hB9 => VL.nil (?_))))
        have ap : ∀ y : SlI, OwnT Vc.encI 1 3 (w4.heap.size + 2) W y.a y.c y.l → ∀ k, aBlk y.a k → ¬ aBlk a k := fun y hy k hk ⟨ad, ha, hk2⟩ => by
          obtain ⟨c', z', hb'⟩ := (OwnT.tyA hp.ls.own) ad ha
          exact (OwnT.tyA hy).apart hb' (by decide) (hk2 ▸ hk)
        have z8 := m8.size
        have z9 := m9.size
        have offA : ∀ {b : Nat}, b < gb → ¬ aBlk a b := fun hb h => by have := hp.ls.ge _ (.inl h); omega
        have ev : ∀ y : SlI, OwnT Vc.encI 1 3 (w4.heap.size + 2) W y.a y.c y.l → OwnT Vc.encI 1 3 (w4.heap.size + 2) w9 y.a y.c y.l := fun y hy => (hy.mod m8 (ap y hy)).mod m9 fun k hk h => by
          have := hy.ge k hk
          unfold Vc.one at h; dsimp only at h; omega
        have mA : ∀ k, aBlk a k → (w.heap.size ≤ k ∧ ¬ T k ∧ k ≠ w4.heap.size ∧ k ≠ w4.heap.size + 1) := fun k hk => by
          have := hp.ls.ge k (.inl hk)
          have := e40.size
          exact ⟨by omega, hp.nT k (.inl hk), by omega, by omega⟩
        refine ⟨⟨a8, c8, ?_, ⟨ho8.mod m9 fun k hk h => ?_, fun y hy => ?_⟩, fun k hk => ?_, fun k hk => by have := hp.tS k hk; omega, ?_, (hp.b2.mod m8 (offA o1)).mod m9 (by unfold Vc.one; dsimp only; omega), (hp.b3.mod m8 (offA o2)).mod m9 (by unfold Vc.one; dsimp only; omega), ?_⟩, ?_⟩
        · rw [List.length_append]; exact hB9
        · have := ho8.ge k hk
          unfold Vc.one at h; dsimp only at h; omega
        · rcases List.mem_append.1 hy with hy | hy
          · exact ev y (hp.ls.each y hy)
          · rw [List.mem_singleton] at hy
            rw [hy]; exact ev x g1
        · rcases hk with hk | ⟨y, hy, hk⟩
          · rcases hf8 k hk with h | h
            · exact hp.nT k (.inl h)
            · intro h2
              have := hp.tS k h2
              omega
          · rcases List.mem_append.1 hy with hy | hy
            · exact hp.nT k (.inr ⟨y, hy, hk⟩)
            · rw [List.mem_singleton] at hy
              rw [hy] at hk
              exact g2 k hk
        · have : ¬ (pre.length : Int) = 1000 := by simpa using c14
          rw [List.length_append]
          simp only [List.length_cons, List.length_nil]
          omega
        · exact (hp.m.then m8 fun k _ hk => (mA k hk).1).then m9 fun k _ hk => (okb b3_0 n4 o3 k hk).1
        · exact (m8.weaken fun k _ hk => mA k hk).trans (m9.weaken fun k _ hk => okb b3_0 n4 o3 k hk)
    case hdone =>
      rintro T xs W hT hS ⟨a, c, hp⟩ hK
      obtain ⟨ρ5, h5⟩ : ∃ ρ5, ρ4 = upd (upd (upd ρ5 2 (.pointer (some ⟨b0_1, 0, none⟩))) 3 (.pointer (some ⟨b0_2, 0, none⟩))) 4 (.pointer (some ⟨b3_0, 0, none⟩)) := ⟨ρ4, by rw [upd_eq s2, upd_eq s3, upd_eq s4]⟩
      rw [h5]
      refine retD (by kernel_rfl) (by kernel_rfl) ?_
      refine VL.op (R.ld1 Tryz.isAgg23 rfl ((hp.b4.cell _))) (VL.store (v := .slice _ _ _) Tryz.sizeOf23 rfl rfl rfl rfl hp.b2 rfl rfl fun w7 m7 hs7 hB7 => VL.store (v := .int _ _) Tryz.sizeOf28 rfl rfl rfl rfl (hp.b3.mod m7 (by unfold Vc.one; dsimp only; omega)) rfl rfl fun w8 m8 hs8 hB8 => VL.nil ⟨rfl, ?_⟩)
      have z7 := m7.size
      have z8 := m8.size
      have hKl := (Array.getElem?_eq_some_iff.1 hK).1
      have hK7 : w7.heap[w4.heap.size]? = some (.deferred (some [])) := (m7.blk _ hKl (by unfold Vc.one; dsimp only; omega)) ▸ hK
      have hK8 : w8.heap[w4.heap.size]? = some (.deferred (some [])) := (m8.blk _ (Nat.lt_of_lt_of_le hKl z7) (by unfold Vc.one; dsimp only; omega)) ▸ hK7
      refine leaves_cell2 rfl rfl rfl rfl rfl hK8 (hB7.mod m8 (by unfold Vc.one; dsimp only; omega)) hB8 (by omega) (by omega) hg2 hg3 fun W2 hm2 => ?_
      have hlen := hp.len
      refine ⟨_, rfl, ⟨a, c, xs, 0⟩, rfl, ⟨?_, ?_⟩, ?_⟩
      · have off : ∀ {A A' : World} {b : Nat}, b < w4.heap.size + 2 → Vc.Mod (Vc.one b) A A' → LsOk (w4.heap.size + 2) A a c xs → LsOk (w4.heap.size + 2) A' a c xs := fun hb m h => h.mod m fun k hk h2 => by
          have := h.ge k hk
          unfold Vc.one at h2
          omega
        have := off (by omega) hm2 (off (by dsimp only; omega) m8 (off (by dsimp only; omega) m7 hp.ls))
        have z4 := e40.size
        exact ⟨this.own.weaken (by omega), fun y hy => (this.each y hy).weaken (by omega)⟩
      · dsimp only
        unfold listG
        rw [if_pos hv, if_pos (by rw [← hS, List.length_map]; exact hlen), hS]
      · exact (((Mod.ownA (Mod.refl Vc.nob w) hp.m fun k hk => hk).own m7 n2).own m8 n3).own hm2 e40.size
    case hstop =>
      rintro T pre W hT hSp ⟨p1, p2, p3, p4⟩ hK
      refine leaves_cell2 rfl rfl rfl s2 s3 hK p1 p2 (by omega) (by omega) hg2 hg3 fun W2 hm2 => ?_
      refine ⟨_, rfl, ⟨none, 0, [], 3⟩, rfl, ⟨LsOk.nil _ _, ?_⟩, ?_⟩
      · obtain ⟨t, ht⟩ := hSp
        unfold listG
        rw [if_pos hv, if_neg]
        · rfl
        · rw [ht, List.length_append]
          simp only [vals, List.length_map]
          omega
      · exact (Mod.ownA (Mod.refl Vc.nob w) p4 fun k hk => hk).own hm2 e40.size
end Go.Proofs.YtlnbkoojelhjdaaGreatDoor
