/- Repair: the iterator over all repairs. -/
import Derived.Test.YtlnbkoojelhjdaaGreatDoorXR3
namespace Go.Proofs.YtlnbkoojelhjdaaGreatDoor
open Go.Vc
/-- What is known of the repair that a round is handed. -/
def GR (T : Nat → Prop) (B : Nat) (y : SlI) (W : World) : Prop := OwnT Vc.encI 1 3 B W y.a y.c y.l ∧ ∀ k, aBlk y.a k → ¬ T k
set_option maxRecDepth 100000 in
set_option maxHeartbeats 8000000 in
theorem all_seq (m gb ne : Nat) (g : GrW) (w0 w : World) (hE : GOk w0 g) (hne : ne = w0.heap.size) (hl : GLen g) (hv : validG (grV g) = true) (hd : Mod (From ne) w0 w) (hgb : ne ≤ gb) (hB : Blk w gb (.cells (Value.agg (encGr g).toArray).cells 25 (0, 0))) :
    SeqT m Tryz.prog 71 #[.pointer (some ⟨gb, 0, none⟩)] (fun y : SlI => #[.slice y.a y.l.length y.c]) GR ne (fun k => k = gb) (fun xs => vals xs = repsG (grV g)) (fun pre => ∃ t, repsG (grV g) = vals pre ++ t) w := by
  intro l J Jx W hEW hJe hJxe hY h0
  have hn := costB_iff.1 (validG_iff.1 hv).1
  obtain ⟨N, hN⟩ : ∃ N : Nat, g.n = (N : Int) := ⟨g.n.toNat, by have h0 : 0 ≤ g.n := hn.1; omega⟩
  have hNt : g.n.toNat = N := by omega
  have hE20 : g.edges.length ≤ 20000 := by have := (validG_iff.1 hv).2.1; simpa [grV, vals] using this
  have hgW : GOk W g := (GOk.from hE (hne ▸ hd)).ext hEW
  have hgl := hB.lt
  have hWw := hEW.size
  refine Calls.mono (R := fun e' w' => ∃ v, e' = .returned v ∧ ∃ T, OkT (fun k => k = gb) W.heap.size T ∧ ((∃ xs, vals xs = repsG (grV g) ∧ J T xs w') ∨ (∃ pre, (∃ t, repsG (grV g) = vals pre ++ t) ∧ Jx T pre w'))) ?_ (fun e' w' ⟨v, h1, h2⟩ => ⟨⟨v, h1⟩, h2⟩)
  refine enter (args := [.func (.yield l) #[] #[], .pointer (some ⟨gb, 0, none⟩)]) Tryz.func71 rfl Tryz.ntmps71 (by kernel_rfl) rfl ?_
  have hBW := hB.ext hEW
  refine V.seq (V.region (VL.box (v := .func _ _ _) rfl fun yb w1 hyb e1 hY1 => VL.nil (V.seq (V.region (VL.op (R.ldA Tryz.isAgg25 Tryz.sizeOf25 rfl rfl ((show RowAt _ _ _ (encGr g) from (hBW.ext e1).rowAt 0 3)) rfl) (VL.callX Tryz.call68 rfl (begin_spec g N _ (hgW.ext e1) hl hv hN) fun s w2 h2 e2 => VL.allocSt (v := .pointer _) Tryz.zeroValue54 Tryz.sizeOf54 rfl rfl rfl rfl rfl fun b1_2 w1_2 hb1_2 e1_2 hB1_2 => VL.nil (V.seq (?_))))))))
  have e02 := (e1.trans e2).trans e1_2
  have hB2 := hBW.ext e02
  refine V.region (VL.op (R.fld' (o := 2) Tryz.runUnderlying25 rfl rfl Tryz.sizeOf23 rfl rfl) (VL.op (R.ld1 Tryz.isAgg23 rfl ((show w1_2.cell? ⟨gb, 2, none⟩ = some (Value.slice g.ea g.edges.length g.ec) from hB2.cell 2))) (VL.op (R.lenS Tryz.runUnderlying23 rfl) (VL.makeSl (enc := Vc.encI ) el22 ( (0 : Int)) rfl rfl rfl (by omega) (by unfold maxLen; omega) e02.size fun oB w3 hoB e3 hO => VL.allocSt (v := .slice _ _ _) Tryz.zeroValue22 Tryz.sizeOf22 rfl rfl rfl rfl rfl fun b2_4 w2_4 hb2_4 e2_4 hB2_4 => VL.nil (V.seq (V.region (VL.op (R.mkFn rfl rfl) (VL.allocSt (v := .func _ _ _) Tryz.zeroValue60 Tryz.sizeOf60 rfl rfl rfl rfl rfl fun b3_1 w3_1 hb3_1 e3_1 hB3_1 => VL.nil (V.seq (V.region (VL.alloc Tryz.zeroValue60 fun b4_0 w4_0 hb4_0 e4_0 hB4_0 => VL.nil (V.seq (V.region (VL.op (R.mkFn rfl rfl) (VL.store (v := .func _ _ _) Tryz.sizeOf60 rfl rfl rfl rfl hB4_0 rfl rfl fun w5_1 m5_1 hs5_1 hB5_1 => VL.nil (?_))))))))))))))))
  have hB5 : FnB w5_1 b4_0 74 [.pointer (some ⟨gb, 0, none⟩), .pointer (some ⟨yb, 0, none⟩), .pointer (some ⟨b1_2, 0, none⟩), .pointer (some ⟨b4_0, 0, none⟩), .pointer (some ⟨b2_4, 0, none⟩), .pointer (some ⟨b3_1, 0, none⟩)] := hB5_1
  have hB3 : FnB w3_1 b3_1 72 [.pointer (some ⟨b1_2, 0, none⟩), .pointer (some ⟨b2_4, 0, none⟩)] := hB3_1
  clear hB5_1 hB3_1
  obtain ⟨hok, hst⟩ := h2
  have hpl := hok.blk.lt
  have z1 := e1.size; have z2 := e2.size; have z3 := e1_2.size; have z4 := e3.size; have z5 := e2_4.size; have z6 := e3_1.size; have z7 := e4_0.size
  have hwe := hY1.lt
  have f4 : Ext w4_0 w4_0 := Vc.Mod.refl _ _
  have g3 : Ext w3_1 w5_1 := e4_0.own m5_1 (by dsimp only; omega)
  have g2 : Ext w2_4 w5_1 := e3_1.trans g3
  have g0 : Ext w3 w5_1 := e2_4.trans g2
  have ga : Ext w1_2 w5_1 := e3.trans g0
  have gc : Ext w2 w5_1 := e1_2.trans ga
  have gd : Ext w1 w5_1 := e2.trans gc
  have gW : Ext W w5_1 := e1.trans gd
  have hB4l := hB4_0.lt
  obtain ⟨x, hx⟩ : ∃ x : FxR, x = { g := g, N := N, l := l, ne := ne, B := W.heap.size, U := w5_1.heap.size, gb := gb, yb := yb, sb := b1_2, vb := b4_0, ob := b2_4, pb := b3_1, oB := oB } := ⟨_, rfl⟩
  have hwne : ne ≤ w.heap.size := hne ▸ hd.size
  have hxo : x.Ok w0 := by
    subst hx
    refine ⟨hE.e, hne, hl, hv, hN, by dsimp only; omega, hgb, by dsimp only; omega, ?_, ?_, ?_, ?_, ?_⟩ <;> (dsimp only; omega)
  have hOT : OkT (fun k => k = gb) W.heap.size x.T := fun k hk => by
    subst hx
    rcases hk with hk | hk
    · exact .inr hk.1
    · exact .inl hk
  have hTb : ∀ k, x.T k → k < w5_1.heap.size := fun k hk => by
    subst hx
    have := gW.size
    rcases hk with hk | hk
    · exact hk.2
    · dsimp only at hk; omega
  have hrng : ∀ e ∈ vals g.edges, ∀ y ∈ e, 0 ≤ y := fun e he y hy => (((validG_iff.1 hv).2.2.1 e he).2.2 y hy).1
  have hVs : VSt x w0 w5_1 s (List.replicate g.edges.length 0) [] := by
    subst hx
    refine ⟨hBW.ext gW, hY1.ext gd, hB1_2.ext ga, hB5, ?_, hB3.ext g3, (hok.weaken z1).ext gc, hst, ?_, by simp, by dsimp only; omega, by dsimp only; omega, fun j q hq => ?_, ?_, Nat.le_refl _⟩
    · have := hB2_4.ext g2
      dsimp only
      unfold PtO
      rw [List.length_replicate]
      exact this
    · dsimp only
      rw [List.length_replicate]
      exact hO.ext g0
    · have := (hok.a.each j).lt q hq
      dsimp only
      omega
    · exact (hd.ext hEW).ext gW
  have xB : x.B = W.heap.size := by rw [hx]
  have xN : x.N = N := by rw [hx]
  have xg : x.g = g := by rw [hx]
  have xne : x.ne = ne := by rw [hx]
  have xl : x.l = l := by rw [hx]
  have xv : x.vb = b4_0 := by rw [hx]
  have hvb : FnB w5_1 b4_0 74 x.caps := xv ▸ hVs.vb
  have xcaps : x.caps = [.pointer (some ⟨gb, 0, none⟩), .pointer (some ⟨yb, 0, none⟩), .pointer (some ⟨b1_2, 0, none⟩), .pointer (some ⟨b4_0, 0, none⟩), .pointer (some ⟨b2_4, 0, none⟩), .pointer (some ⟨b3_1, 0, none⟩)] := by rw [hx]; rfl
  have hO0 : OIs (vals x.g.edges) (List.replicate g.edges.length 0) [] 0 := fun i hi => by
    rw [xg] at hi ⊢
    have hi2 := hi
    rw [List.length_map] at hi2
    rw [rep_at hi2]
    have : outN ((vals g.edges).getD i default) [] 0 = 0 := by
      unfold outN
      rw [List.length_eq_zero_iff, List.filter_eq_nil_iff]
      intro y hy
      have := hrng _ (gmem hi) y hy
      simp
      omega
    rw [this]; rfl
  have hrp0 : repK (vals g.edges) N N [] = repsG (grV g) := by rw [← hNt]; rfl
  have hcall : RetsY Tryz.prog 74 (.int .i64 0 :: x.caps).toArray w5_1 (fun z : Bool × StW × List Int × List SlI => .bool z.1)
      (fun z W' => VSt x w0 W' z.2.1 z.2.2.1 [] ∧ OIs (vals x.g.edges) z.2.2.1 [] 0 ∧ EndR (J x.T) (Jx x.T) [] (repK (vals x.g.edges) x.N N []) z.1 z.2.2.2 W') := by
    refine visit_spec x w0 hxo m (J x.T) (Jx x.T) (fun s A B h1 h2 => hJe x.T s A B hOT h1 h2) (fun s A B h1 h2 => hJxe x.T s A B hOT h1 h2) (repsG (grV g)) (fun pre y W1 h1 h2 h3 h4 => ?_) N 0 (by rw [xN, Nat.zero_add]) s (List.replicate g.edges.length 0) [] [] w5_1 hVs (by rw [xg]; exact Pre.start fun e he => ((validG_iff.1 hv).2.2.1 e he).1) hO0 (h0 x.T w5_1 hOT hTb gW) ⟨[], by rw [List.append_nil, xN, xg, hrp0]; rfl⟩
    rw [xl, xne]
    exact hY x.T pre y W1 hOT h1 ⟨xB ▸ h3, h4⟩ h2
  rw [xN, xg, xcaps] at hcall
  clear hVs hvb
  refine V.region (VL.op (R.ld1 Tryz.isAgg60 rfl ((hB5.cell _))) (VL.callCY rfl (Tryz.call74) rfl (hcall) fun z6 w6 h6 => VL.nil (fend0 rfl (?_))))
  have hrp : repK (vals g.edges) N N [] = repsG (grV g) := by rw [← hNt]; rfl
  obtain ⟨_, _, hE6⟩ := h6
  rw [hrp] at hE6
  rcases hE6 with ⟨_, h7, h8⟩ | ⟨_, h7, h8⟩
  · exact ⟨x.T, hOT, .inl ⟨_, h7, h8⟩⟩
  · exact ⟨x.T, hOT, .inr ⟨_, h7, h8⟩⟩
/-- repair.all. -/
theorem all_spec28 (g : GrW) (w : World) : RetsX Tryz.prog 45 #[.agg (encGr g).toArray] w (fun gb : Nat => .func (.func 71) #[] #[.pointer (some ⟨gb, 0, none⟩)]) (fun gb w' => w.heap.size ≤ gb ∧ Blk w' gb (.cells (Value.agg (encGr g).toArray).cells 25 (0, 0))) := by
  refine enter (args := [_]) Tryz.func45 rfl Tryz.ntmps45 (by kernel_rfl) rfl ?_
  refine V.seq (V.region (VL.box (v := .agg _) rfl fun gb w1 hgb e1 hG1 => VL.op (R.as rfl) (VL.nil (V.seq (V.region (VL.op (R.mkFn rfl rfl) (VL.op (R.asF rfl) (VL.nil (V.ret (fret1 (v := .func _ _ _) rfl rfl rfl (⟨gb, rfl, ⟨by omega, hG1⟩, e1⟩)))))))))))
end Go.Proofs.YtlnbkoojelhjdaaGreatDoor
