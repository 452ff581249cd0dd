/- Hyper: the walk of law HyperParts. -/
import Derived.Test.YtoengpialdolbaaDoorL8
import Derived.Test.YtoengpialdolbaaDoorVcDep
namespace Go.Proofs.YtoengpialdolbaaDoor
open Go.Vc
theorem GNew.ext {w0 w w' : World} {g : GrW} (h : GNew w0 w g) (e : Ext w w') : GNew w0 w' g := ⟨h.ok.ext e, h.cc, h.each⟩
theorem GNew.valid {w w' : World} {g : GrW} (h : GNew w w' g) (hv : validG (grV g) = true) : GLen g := by
  obtain ⟨h1, h2, h3, _⟩ := validG_iff.1 hv
  have hc := costB_iff.1 h1
  exact h.glen rfl (by have h0 : (grV g).n ≤ 4000 := hc.2.1; have h4 := hc.2.2.1; omega) (by omega) (List.all_eq_true.2 fun e he => decide_eq_true (h3 e he).1)
/-- A part that has been made. -/
structure PtR (G : Gr) (w : World) (y : GrW) : Prop where
  v : grV y = G
  n : GNew w w y
  t : GTy w y
theorem PtR.ext {G : Gr} {w w' : World} {y : GrW} (h : PtR G w y) (e : Ext w w') : PtR G w' y := ⟨h.v, ⟨h.n.ok.ext e, h.n.cc, h.n.each⟩, h.t.ext e⟩
/-- New blocks that hold a graph may turn; what is a good part stays one. -/
structure TG (n : Nat) (G : Gr) (a b : World) : Prop where
  m : Vc.Mod (fun k => n ≤ k ∧ ∃ c z, Blk a k (.cells c 33 z)) a b
  good : ∀ k, n ≤ k → (∃ y, Blk a k (.cells (encGr y).toArray 33 (0, 0)) ∧ PtR G a y) → ∃ y, Blk b k (.cells (encGr y).toArray 33 (0, 0)) ∧ PtR G b y
  ty : ∀ k c, Blk a k (.cells c 33 (0, 0)) → c.size = 3 → ∃ c', Blk b k (.cells c' 33 (0, 0)) ∧ c'.size = 3
theorem PtR.mod {G : Gr} {w w' : World} {y : GrW} {S : Nat → Prop} (h : PtR G w y) (m : Vc.Mod S w w') (hS : ∀ k, S k → ∃ c z, Blk w k (.cells c 33 z)) : PtR G w' y := by
  have key : ∀ {a : Option Addr} {T : TypeId}, TyA w a T → T ≠ 33 → ∀ k, aBlk a k → ¬ S k := fun hT hne k hk hs => by
    obtain ⟨c, z, hb⟩ := hS k hs
    exact hT.apart hb hne hk
  have h1 := h.n.ok
  exact ⟨h.v, ⟨⟨h1.c.mod m fun ad e => key h.t.c (by decide) _ ⟨ad, e, rfl⟩, ⟨h1.e.sl.mod m fun ad e => key h.t.e (by decide) _ ⟨ad, e, rfl⟩, fun x hx => (h1.e.each x hx).mod m fun ad e => key (h.t.each x hx) (by decide) _ ⟨ad, e, rfl⟩⟩⟩, h.n.cc, h.n.each⟩,
    ⟨h.t.c.mod m (key h.t.c (by decide)), h.t.e.mod m (key h.t.e (by decide)), fun x hx => (h.t.each x hx).mod m (key (h.t.each x hx) (by decide))⟩⟩
theorem PtR.turn {n : Nat} {G : Gr} {w w' : World} {y : GrW} (h : PtR G w y) (t : TG n G w w') : PtR G w' y := h.mod t.m fun _ hk => hk.2
theorem Blk.ofMod {S : Nat → Prop} {a b : World} (m : Vc.Mod S a b) {k : Nat} (hk : k < a.heap.size) (hn : ¬ S k) {o : Obj} (h : Blk b k o) : Blk a k o := by
  have := m.blk k hk hn
  unfold Blk at h ⊢
  rw [← h]; exact this.symm
instance (n : Nat) (G : Gr) : Turn (TG n G) where
  refl a := ⟨Vc.Mod.refl _ _, fun _ _ h => h, fun _ c h hc => ⟨c, h, hc⟩⟩
  trans h k := ⟨h.m.then k.m fun y hy ⟨h1, c, z, h2⟩ => Classical.byContradiction fun hn => hn ⟨h1, c, z, Blk.ofMod h.m hy hn h2⟩, fun y hy x => k.good y hy (h.good y hy x), fun y c h1 h2 => by
    obtain ⟨c', h3, h4⟩ := h.ty y c h1 h2
    exact k.ty y c' h3 h4⟩
  ext e := ⟨e.mod, fun _ _ ⟨y, h1, h2⟩ => ⟨y, h1.ext e, h2.ext e⟩, fun _ c h hc => ⟨c, h.ext e, hc⟩⟩
theorem TG.old {G : Gr} {a b : World} (t : TG a.heap.size G a b) : Ext a b := t.m.weaken fun k hk h => by have := h.1; omega
theorem putGr {c : Array Value} (hc : c.size = 3) (y : GrW) : putCells c 0 (encGr y) = (encGr y).toArray := by
  match c, hc with
  | ⟨[c0, c1, c2]⟩, _ => rfl
theorem runAlloc33 {ρ : Env} {ty : TypeId} (w : World) : run1 Tryd.prog ρ (.alloc 33) ty w = .ok (.value (.pointer (some ⟨w.heap.size, 0, none⟩))) (w.alloc (.cells #[.int .i64 0, .slice none 0 0, .slice none 0 0] 33)) := by
  have hz := Tryd.zeroValue33 w
  simp [run1, execOp, Instr.alloc, go_sem, hz, newVar, newRow]
set_option maxRecDepth 100000 in
set_option maxHeartbeats 8000000 in
theorem parts_law (g : GrW) (sa : Option Addr) (sc B : Nat) (s : List Int) (w : World) (hI : GIn w g) (hS : IntSl w sa s) (hsl : s.length ≤ 9223372036854775807) (hB : B ≤ w.heap.size) (hT : TabW B w) :
    RetsP Tryd.prog 7 #[.agg (encGr g).toArray, .slice sa s.length sc] w (.bool true) := by
  have hG := hI.ok
  refine enter (args := [_, _]) Tryd.func7 rfl Tryd.ntmps7 (by kernel_rfl) rfl ?_
  refine V.seq (V.region (VL.box (v := .agg _) rfl fun b0_0 w0_0 hb0_0 e0_0 hB0_0 => VL.op (R.asB rfl) (VL.nil (V.seq (V.region (VL.callP Tryd.call9 rfl (head_spec B _ (Nat.le_trans hB (e0_0).size) (hT.ext hB e0_0)) fun w1_0 e1_0 => VL.op (R.asB rfl) (VL.nil (V.seq (V.seq (V.region (VL.op (R.ldA Tryd.isAgg33 Tryd.sizeOf33 rfl rfl ((show RowAt _ _ _ (encGr g) from ((hB0_0.ext e1_0).rowAt 0 3))) rfl) (VL.callX Tryd.call21 rfl (small_spec g 60 60 _ (hG.ext (e0_0.trans e1_0)) hI.c hI.e.len) fun b2 w2 h2 e2 => VL.op (R.not rfl) (VL.op (R.mvB rfl) (VL.or rfl rfl (fun g2_3 => VL.op (R.mvS rfl) (VL.gT rfl rfl (VL.op (R.lenS Tryd.runUnderlying27 rfl) (VL.gT rfl rfl (VL.op (R.gtr rfl rfl) (VL.op (R.pickFB rfl rfl) (VL.op (R.mvB rfl) (VL.orP rfl rfl (fun g2_8 => VL.op (R.ldA Tryd.isAgg33 Tryd.sizeOf33 rfl rfl ((show RowAt _ _ _ (encGr g) from (((hB0_0.ext e1_0).ext e2).rowAt 0 3))) rfl) (VL.gT rfl rfl (VL.callP Tryd.call19 rfl (valid_spec g B _ (hG.ext ((e0_0.trans e1_0).trans e2)) (hI.glen (h2 (by simpa using g2_3)).2.2) (Nat.le_trans hB (((e0_0.trans e1_0).trans e2)).size) (hT.ext hB ((e0_0.trans e1_0).trans e2))) fun w2_10 e2_10 => VL.gT rfl rfl (VL.op (R.not rfl) (VL.op (R.pickFB rfl rfl) (VL.nil (V.cond rfl (fun c27 => V.seq (V.region (VL.op (R.mvB rfl) (VL.op (R.asB rfl) (VL.nil (V.ret (fret1 (v := .bool _) rfl rfl rfl (⟨rfl, (((e0_0.trans e1_0).trans e2).trans e2_10)⟩)))))))) (fun c27 => V.skip (V.seq (?_)))))))))) (fun g2_8 => VL.gF rfl rfl (VL.gF rfl rfl (VL.op (R.pickTB rfl rfl) (VL.nil (V.condT rfl (V.seq (V.region (VL.op (R.mvB rfl) (VL.op (R.asB rfl) (VL.nil (V.ret (fret1 (v := .bool _) rfl rfl rfl (⟨rfl, ((e0_0.trans e1_0).trans e2)⟩))))))))))))))))))))) (fun g2_3 => VL.gF rfl rfl (VL.gF rfl rfl (VL.op (R.pickTB rfl rfl) (VL.op (R.mvB rfl) (VL.gF rfl rfl (VL.gF rfl rfl (VL.gF rfl rfl (VL.op (R.pickTB rfl rfl) (VL.nil (V.condT rfl (V.seq (V.region (VL.op (R.mvB rfl) (VL.op (R.asB rfl) (VL.nil (V.ret (fret1 (v := .bool _) rfl rfl rfl (⟨rfl, ((e0_0.trans e1_0).trans e2)⟩))))))))))))))))))))))))))))))))
  have hsm := h2 (by simpa using g2_3)
  have hF := hsm.2.2
  have hFn := hF.n
  have hgl := hI.glen hF
  have hv : validG (grV g) = true := by simpa using c27
  have hn := costB_iff.1 (validG_iff.1 hv).1
  have hn0 : 0 ≤ g.n := hn.1
  have hge : ∀ x ∈ g.edges, x.l.length ≤ 1000000 := fun x hx => (hgl.each x hx).1
  have E2 := e0_0.trans (e1_0.trans (e2.trans e2_10))
  have hb2 : Blk w2_10 b0_0 (.cells (Value.agg (encGr g).toArray).cells 33 (0, 0)) := hB0_0.ext (e1_0.trans (e2.trans e2_10))
  have hsl1 : s.length ≤ 60 := by omega
  have hss := setF_len s
  refine V.region (VL.op (R.mvS rfl) (VL.callX Tryd.call13 rfl (rset_spec sa sc s w2_10 (by omega) (hS.ext E2)) fun s4 w4 hS4 e4 => VL.op (R.asS rfl) (VL.nil (V.seq (V.region (VL.op (R.ldA Tryd.isAgg33 Tryd.sizeOf33 rfl rfl ((show RowAt _ _ _ (encGr g) from (hb2.ext e4).rowAt 0 3)) rfl) (VL.callX Tryd.call22 rfl (comps_spec g B w4 (hG.ext (E2.trans e4)) hgl (Nat.le_trans hB (E2.trans e4).size) (hT.ext hB (E2.trans e4))) fun z w5 ⟨hz, hL⟩ e5 => VL.op (R.asS rfl) (VL.nil (V.seq (V.region (VL.op (R.asB rfl) (VL.nil (V.cut [2, 5, 6, 7, 8] (fun fr : Bool => [.pointer (some ⟨b0_0, 0, none⟩), .bool true, .slice s4.1 (setF s).length s4.2, .slice z.2.1 z.1.length z.2.2, .bool fr]) (fun fr w' => fr = (z.1.all fun x => freeF (partG (grV g) x.l).edges (inK x.l (setF s) x.l.length)) ∧ Ext w5 w') (V.seq (V.region (VL.op (R.asI rfl) (VL.nil (V.block (?_)))))) (fun rgB0 xB0 wBB0 hBB0 => V.seq (?_)))))))))))))))
  · have E5 := E2.trans (e4.trans e5)
    have hzl : z.1.length ≤ 60 := by
      have h1 : z.1.length = (compsG (grV g)).length := by rw [← hz, List.length_map]
      have h2 : (compsG (grV g)).length ≤ (grV g).n.toNat := by unfold compsG; rw [if_pos hv, grpsK_len]; exact hdsK_len _ _
      have h3 : (grV g).n = g.n := rfl
      have := hsm.1
      omega
    refine V.loop [2, 5, 6, 7, 8, 9] (fun x : Nat × Bool => [.pointer (some ⟨b0_0, 0, none⟩), .bool true, .slice s4.1 (setF s).length s4.2, .slice z.2.1 z.1.length z.2.2, .bool x.2, .int .i64 (x.1 : Nat)]) (fun x w' => x.1 ≤ z.1.length ∧ x.2 = ((z.1.take x.1).all fun x => freeF (partG (grV g) x.l).edges (inK x.l (setF s) x.l.length)) ∧ Ext w5 w') (fun x => z.1.length - x.1) (0, true) rfl ⟨Nat.zero_le _, rfl, Vc.Mod.refl _ _⟩ ?_
    rintro ρ ⟨i, fr⟩ w6 ⟨hi, hfr, e6⟩
    dsimp only at hi hfr e6 ⊢
    refine V.seq (V.seq (V.region (VL.op (R.mvI rfl) (VL.op (R.mvS rfl) (VL.op (R.lenS Tryd.runUnderlying22 rfl) (VL.op (R.lss rfl rfl) (VL.nil (V.condP rfl (fun c36 => V.skip (V.seq (V.block (V.seq (?_))))) (fun c36 => V.exit (?_))))))))))
    · have hil : i < z.1.length := by omega
      have hat : ((z.1.take (i + 1)).all fun x => freeF (partG (grV g) x.l).edges (inK x.l (setF s) x.l.length)) = (fr && freeF (partG (grV g) (z.1.getD i default).l).edges (inK (z.1.getD i default).l (setF s) (z.1.getD i default).l.length)) := by
        rw [List.take_succ_eq_append_getElem hil, ← gget hil, List.all_append, ← hfr]; simp
      have hL6 := hL.ext e6
      have E6 := E5.trans e6
      have hG6 := hG.ext E6
      have hb6 : Blk w6 b0_0 (.cells (Value.agg (encGr g).toArray).cells 33 (0, 0)) := hb2.ext (e4.trans (e5.trans e6))
      have hxc : (z.1.getD i default).l ∈ compsG (grV g) := by rw [← hz]; exact List.mem_map_of_mem (gmem hil)
      have hxs := comps_set hv hxc
      have hxl : (z.1.getD i default).l.length ≤ 60 := by
        have := set_len (setB_iff.1 hxs).1 (setB_iff.1 hxs).2 hn0
        have h3 : (grV g).n = g.n := rfl
        have := hsm.1
        omega
      have hpf : partF (grV g) (z.1.getD i default).l = (partG (grV g) (z.1.getD i default).l, 0) := by unfold partF; rw [if_pos ⟨hv, hxs⟩]
      have hpv := part_valid hv hxs
      refine V.regionD (T := (TG w6.heap.size (partG (grV g) (z.1.getD i default).l))) mixed 11 (by kernel_rfl) rfl (fun us => VD.op (fun wq eq => R.ldA Tryd.isAgg33 Tryd.sizeOf33 rfl rfl ((show RowAt _ _ _ (encGr g) from (hb6.ext (TG.old eq)).rowAt 0 3)) rfl) (VD.op (fun wq eq => R.mvS rfl) (VD.op (fun wq eq => R.mvI rfl) (VD.op (fun wq eq => R.ixS Tryd.runUnderlying22 Tryd.sizeOf27 rfl rfl (by omega) (by omega) (hL6.sl.some (i := i) hil)) (VD.op (fun wq eq => R.ld1 Tryd.isAgg27 rfl ((((hL6.sl.ext (TG.old eq)).row (i := i) hil).cell (i := 0) rfl))) (VD.callX (fun _ => fun u w' => ∃ y : GrW, u = .tuple #[.agg (encGr y).toArray, .int .i64 0] ∧ PtR (partG (grV g) (z.1.getD i default).l) w' y) (DepS.const _) (fun u a b _ ⟨y, h1, h2⟩ eb => ⟨y, h1, h2.turn eb⟩) Tryd.call24 rfl (fun wq eq hq => by
          have eo := TG.old eq
          refine Rets.mono (part_spec g (z.1.getD i default).a (z.1.getD i default).c (z.1.getD i default).l B wq (hG6.ext eo) hgl ((hL6.ext eo).at hil) (by omega) (Nat.le_trans hB (E6.trans eo).size) (hT.ext hB (E6.trans eo))) ?_
          rintro u w' ⟨y, rfl, ⟨h1, h2, h3⟩, he⟩
          rw [hpf] at h1
          have h4 : y.2 = 0 := congrArg Prod.snd h1
          exact ⟨⟨y.1, by dsimp only; rw [h4], congrArg Prod.fst h1, ⟨h2.ok, h2.cc, h2.each⟩, h3⟩, he⟩) (VD.spec (fun _ => fun u w' => ∃ y : GrW, u = .tuple #[.agg (encGr y).toArray, .int .i64 0] ∧ PtR (partG (grV g) (z.1.getD i default).l) w' y) (DepS.const _) (fun u a b _ ⟨y, h1, h2⟩ eb => ⟨y, h1, h2.turn eb⟩) rfl (fun wq eq hq => by
          obtain ⟨y, hy, h1⟩ := hq 5 (by kernel_rfl)
          exact yieldsR_op (R.mv hy) ⟨⟨y, rfl, h1⟩, Turn.refl _⟩) (VD.spec (fun _ => fun u w' => ∃ y : GrW, u = .agg (encGr y).toArray ∧ PtR (partG (grV g) (z.1.getD i default).l) w' y) (DepS.const _) (fun u a b _ ⟨y, h1, h2⟩ eb => ⟨y, h1, h2.turn eb⟩) rfl (fun wq eq hq => by
          obtain ⟨y, hy, h1⟩ := hq 6 (by kernel_rfl)
          exact yieldsR_op (R.extr hy rfl) ⟨⟨y, rfl, h1⟩, Turn.refl _⟩) (VD.spec (fun _ => fun u _ => u = .int .i64 0) (DepS.const _) (fun u a b _ h eb => h) rfl (fun wq eq hq => by
          obtain ⟨y, hy, h1⟩ := hq 6 (by kernel_rfl)
          exact yieldsR_op (R.extr hy rfl) ⟨rfl, Turn.refl _⟩) (VD.spec (fun _ => fun u w' => ∃ b, u = .pointer (some ⟨b, 0, none⟩) ∧ w6.heap.size ≤ b ∧ ∃ c : Array Value, Blk w' b (.cells c 33 (0, 0)) ∧ c.size = 3) (DepS.const _) (fun u a b _ ⟨k, h1, h2, c, h3, h4⟩ eb => ⟨k, h1, h2, eb.ty k c h3 h4⟩) rfl (fun wq eq hq => yieldsR_op (runAlloc33 wq) ⟨⟨_, rfl, (TG.old eq).size, _, Blk.alloc _ _, rfl⟩, Turn.ext (Ext.alloc _ _)⟩) (VD.spec (fun vs _ w' => ∃ b y, vs 9 = .pointer (some ⟨b, 0, none⟩) ∧ w6.heap.size ≤ b ∧ Blk w' b (.cells (encGr y).toArray 33 (0, 0)) ∧ PtR (partG (grV g) (z.1.getD i default).l) w' y) (fun v v' u w1 hvv ⟨k, y, h1, h2⟩ => ⟨k, y, by rw [← hvv 9 (by kernel_rfl)]; exact h1, h2⟩) (fun u a b _ ⟨k, y, h1, h2, h3, h4⟩ eb => by
            obtain ⟨y', h5, h6⟩ := eb.good k h2 ⟨y, h3, h4⟩
            exact ⟨k, y', h1, h2, h5, h6⟩) rfl (fun wq eq hq => by
          obtain ⟨b, hb, hbs, c, hBk, hc⟩ := hq 9 (by kernel_rfl)
          obtain ⟨y, hy, hP⟩ := hq 7 (by kernel_rfl)
          refine yieldsR_store (ad := ⟨b, 0, none⟩) (v := .agg (encGr y).toArray) (c := c) (T := 33) (s := 3) Tryd.sizeOf33 rfl ?_ rfl ?_ hBk ?_ rfl ?_
          · exact hb
          · exact hy
          · rw [hc]; rfl
          intro w' m hs hBw
          have hput := putGr hc y
          have hBw : Blk w' b (.cells (encGr y).toArray 33 (0, 0)) := by rw [← hput]; exact hBw
          have hS : ∀ k, Vc.one b k → ∃ c z, Blk wq k (.cells c 33 z) := fun k hk => by rw [show k = b from hk]; exact ⟨_, _, hBk⟩
          refine ⟨⟨b, y, hb, hbs, hBw, hP.mod m hS⟩, m.weaken fun k _ hk => ⟨by rw [show k = b from hk]; exact hbs, hS k hk⟩, fun k hk ⟨x, h1, h2⟩ => ?_, fun k c' h1 h2 => ?_⟩
          · by_cases e : k = b
            · rw [e]; exact ⟨y, hBw, hP.mod m hS⟩
            · exact ⟨x, h1.mod m e, h2.mod m hS⟩
          · by_cases e : k = b
            · rw [e]; exact ⟨_, hBw, rfl⟩
            · exact ⟨c', h1.mod m e, h2⟩) (VD.nil (fun w10 e10 h10 => ?_))))))))))))) rfl
      have h8 : us 8 = .int .i64 0 := h10 8
      obtain ⟨b, y, hb, hbs, hBk, hP⟩ := h10 10
      have e10 := TG.old e10
      rw [hb, h8]
      have hyn : y.n = ((z.1.getD i default).l.length : Nat) := congrArg Gr.n hP.v
      have hyv : validG (grV y) = true := by rw [hP.v]; exact hpv
      have hyl := hP.n.valid hyv
      have E10 := E6.trans e10
      have hL10 := hL6.ext e10
      have hG10 := hG6.ext e10
      have hs10 := (OwnT.sl hS4).ext (e5.trans (e6.trans e10))
      refine VL.op (R.asI rfl) (VL.nil (V.seq (V.seq (?_))))
      refine V.regionQCut mixed 17 (by kernel_rfl) rfl (fun w' => Ext _ w') (Ext.drawn _) [48, 49, 50, 51, 52, 53, 54, 55, 56, 57, 58, 59, 60, 61, 62, 63, 64] 64 (.bool (false)) rfl (VQ.op (fun wq eq => R.mvI rfl) (VQ.op (fun wq eq => R.lit (R.neq rfl rfl) ((decide_eq_false (fun h => h rfl)))) (VQ.op (fun wq eq => R.mvB rfl) (VQ.gT rfl rfl (VQ.op (fun wq eq => R.ldA Tryd.isAgg33 Tryd.sizeOf33 rfl rfl ((show RowAt _ _ _ (encGr y) from (hBk.ext eq).rowAt 0 3)) rfl) (VQ.gT rfl rfl (VQ.callP (fun _ _ h k => Mod.trans h k) Tryd.call19 rfl (fun wq eq => (valid_is y B wq hyv (hP.n.ok.ext eq) hyl (Nat.le_trans hB (E10.trans eq).size) (hT.ext hB (E10.trans eq)))) (VQ.gT rfl rfl (VQ.op (fun wq eq => R.not rfl) (VQ.op (fun wq eq => R.pickFB rfl rfl) (VQ.op (fun wq eq => R.mvB rfl) (VQ.gT rfl rfl (VQ.op (fun wq eq => R.fld' (o := 0) Tryd.runUnderlying33 rfl rfl Tryd.sizeOf3 rfl rfl) (VQ.gT rfl rfl (VQ.op (fun wq eq => R.ld1 Tryd.isAgg3 rfl ((show wq.cell? ⟨b, 0, none⟩ = some (Value.int .i64 y.n) from (hBk.ext eq).cell 0))) (VQ.gT rfl rfl (VQ.op (fun wq eq => R.mvS rfl) (VQ.gT rfl rfl (VQ.op (fun wq eq => R.mvI rfl) (VQ.gT rfl rfl (VQ.op (fun wq eq => R.ixS Tryd.runUnderlying22 Tryd.sizeOf27 rfl rfl (by omega) (by omega) (hL10.sl.some (i := i) hil)) (VQ.gT rfl rfl (VQ.op (fun wq eq => R.ld1 Tryd.isAgg27 rfl ((((hL10.sl.ext eq).row (i := i) hil).cell (i := 0) rfl))) (VQ.gT rfl rfl (VQ.op (fun wq eq => R.lenS Tryd.runUnderlying27 rfl) (VQ.gT rfl rfl (VQ.op (fun wq eq => R.lit (R.neq rfl rfl) ((decide_eq_false (fun h => h hyn)))) (VQ.op (fun wq eq => R.pickFB rfl rfl) (VQ.nil (cutB rfl ?_)))))))))))))))))))))))))))))) (fun rg11 w11c e11c => V.cond rfl (fun c64 => V.seq (V.region (VL.op (R.asB rfl) (VL.nil (V.ret (fret1 (v := .bool _) rfl rfl rfl (?_))))))) (fun c64 => V.skip (V.seq (?_))))
      · rfl
      · nomatch c64
      · have hLc := hL10.ext e11c
        have hBc := hBk.ext e11c
        have hsc := hs10.ext e11c
        have hPc := hP.ext e11c
        refine V.region (VL.op (R.asS rfl) (VL.nil (V.cut [2, 5, 6, 7, 8, 9, 10, 12] (fun f : SlI => [.pointer (some ⟨b0_0, 0, none⟩), .bool true, .slice s4.1 (setF s).length s4.2, .slice z.2.1 z.1.length z.2.2, .bool fr, .int .i64 (i : Nat), .pointer (some ⟨b, 0, none⟩), .slice f.a f.l.length f.c]) (fun f w' => OwnT Vc.encI 1 3 w11c.heap.size w' f.a f.c f.l ∧ f.l = inK (z.1.getD i default).l (setF s) (z.1.getD i default).l.length ∧ f.l.length ≤ 60 ∧ Ext w11c w') (V.seq (V.region (VL.op (R.asI rfl) (VL.nil (V.block (?_)))))) (fun rgB2 xB2 wBB2 hBB2 => ?_))))
        · refine V.loop [2, 5, 6, 7, 8, 9, 10, 12, 13] (fun x : Nat × SlI => [.pointer (some ⟨b0_0, 0, none⟩), .bool true, .slice s4.1 (setF s).length s4.2, .slice z.2.1 z.1.length z.2.2, .bool fr, .int .i64 (i : Nat), .pointer (some ⟨b, 0, none⟩), .slice x.2.a x.2.l.length x.2.c, .int .i64 (x.1 : Nat)]) (fun x w' => x.1 ≤ (z.1.getD i default).l.length ∧ OwnT Vc.encI 1 3 w11c.heap.size w' x.2.a x.2.c x.2.l ∧ x.2.l = inK (z.1.getD i default).l (setF s) x.1 ∧ x.2.l.length ≤ x.1 ∧ Ext w11c w') (fun x => (z.1.getD i default).l.length - x.1) (0, default) rfl ⟨Nat.zero_le _, OwnT.nil _ _ _ _ _, rfl, Nat.le_refl _, Vc.Mod.refl _ _⟩ ?_
          rintro ρ ⟨k, f⟩ w12 ⟨hk, ho, hf, hfl, e12⟩
          dsimp only at hk ho hf hfl e12 ⊢
          have hL12 := hLc.ext e12
          refine V.seq (V.seq (V.region (VL.op (R.mvI rfl) (VL.op (R.mvS rfl) (VL.op (R.mvI rfl) (VL.op (R.ixS Tryd.runUnderlying22 Tryd.sizeOf27 rfl rfl (by omega) (by omega) ((hL12.sl).some (i := i) (by omega))) (VL.op (R.ld1 Tryd.isAgg27 rfl (((((hL12.sl).ext (Mod.refl _ _)).row (i := i) (by omega)).cell (i := 0) rfl))) (VL.op (R.lenS Tryd.runUnderlying27 rfl) (VL.op (R.lss rfl rfl) (VL.nil (V.condP rfl (fun c71 => V.skip (V.seq (V.block (V.seq (?_))))) (fun c71 => V.exit (?_)))))))))))))
          · have hkl : k < (z.1.getD i default).l.length := by omega
            have hx12 := hL12.at hil
            have hst := inK_succ (z.1.getD i default).l (setF s) k
            refine V.region (VL.op (R.mvS rfl) (VL.op (R.mvS rfl) (VL.op (R.mvI rfl) (VL.op (R.ixS Tryd.runUnderlying22 Tryd.sizeOf27 rfl rfl (by omega) (by omega) ((hL12.sl).some (i := i) (by omega))) (VL.op (R.ld1 Tryd.isAgg27 rfl (((((hL12.sl).ext (Mod.refl _ _)).row (i := i) (by omega)).cell (i := 0) rfl))) (VL.op (R.mvI rfl) (VL.op (R.ixS Tryd.runUnderlying27 Tryd.sizeOf3 rfl rfl (by omega) (by omega) ((hx12).some (i := k) (by omega))) (VL.op (R.ld1 Tryd.isAgg3 rfl (((((hx12).ext (Mod.refl _ _)).row (i := k) (by omega)).cell (i := 0) rfl))) (VL.callP Tryd.call25 rfl (in_spec s4.1 s4.2 (setF s) ((z.1.getD i default).l.getD k default) _ (by omega) (hsc.ext e12)) fun w17_8 e17_8 => VL.nil (V.cond rfl (fun c82 => V.region (VL.op (R.mvS rfl) (VL.op (R.mvI rfl) (VL.append1 el27 Tryd.runUnderlying27 Tryd.sizeOf3 Tryd.zeroValue3 rfl (((k : Nat) : Int)) rfl rfl rfl (ho.ext e17_8) rfl rfl rfl (by omega) (by unfold maxLen; omega) (e12.trans e17_8).size fun a18 c18 w18 vt18 ho18 m18 hf18 => VL.op (R.asS rfl) (VL.nil (V.region (VL.op (R.mvI rfl) (VL.op (R.add rfl rfl (by omega) (by omega)) (VL.op (R.asI rfl) (VL.nil (?_))))))))))) (fun c82 => V.skip (V.region (VL.op (R.mvI rfl) (VL.op (R.add rfl rfl (by omega) (by omega)) (VL.op (R.asI rfl) (VL.nil (?_)))))))))))))))))
            · have hin := of_decide_eq_true c82
              rw [if_pos hin] at hst
              refine ⟨(k + 1, ⟨a18, c18, f.l ++ [((k : Nat) : Int)]⟩), by dsimp only; rw [List.length_append]; rfl, ⟨by dsimp only; omega, ho18, by dsimp only; rw [hst, hf], by dsimp only; rw [List.length_append, List.length_singleton]; omega, (e12.trans e17_8).ownA m18 fun q hq => ho.ge q hq⟩, by dsimp only; omega⟩
            · have hin := of_decide_eq_false c82
              rw [if_neg hin, List.append_nil] at hst
              refine ⟨(k + 1, f), rfl, ⟨by dsimp only; omega, ho.ext e17_8, by dsimp only; rw [hst, hf], by dsimp only; omega, e12.trans e17_8⟩, by dsimp only; omega⟩
          · have hke : k = (z.1.getD i default).l.length := by omega
            subst hke
            exact ⟨f, rfl, ho, hf, by omega, e12⟩
        · obtain ⟨ho, hf, hfl, e12⟩ := hBB2
          have hP12 := hPc.ext e12
          have hB12 := hBc.ext e12
          have E12 : Ext w5 wBB2 := e6.trans (e10.trans (e11c.trans e12))
          have hye := hyl.e
          cases fr with
          | false =>
            refine V.region (VL.op (R.mvB rfl) (VL.op (R.mvB rfl) (VL.gF rfl rfl (VL.gF rfl rfl (VL.gF rfl rfl (VL.gF rfl rfl (VL.op (R.pickFB rfl rfl) (VL.op (R.asB rfl) (VL.nil (V.region (VL.op (R.mvI rfl) (VL.op (R.add rfl rfl (by omega) (by omega)) (VL.op (R.asI rfl) (VL.nil (⟨(i + 1, false), rfl, ⟨by dsimp only; omega, by rw [hat]; rfl, E12⟩, by dsimp only; omega⟩)))))))))))))))
          | true =>
            have hyE : vals y.edges = (partG (grV g) (z.1.getD i default).l).edges := congrArg Gr.edges hP.v
            refine V.region (VL.op (R.mvB rfl) (VL.op (R.mvB rfl) (VL.gT rfl rfl (VL.op (R.fld' (o := 2) Tryd.runUnderlying33 rfl rfl Tryd.sizeOf22 rfl rfl) (VL.gT rfl rfl (VL.op (R.ld1 Tryd.isAgg22 rfl ((show wBB2.cell? ⟨b, 2, none⟩ = some (Value.slice y.ea y.edges.length y.ec) from hB12.cell 2))) (VL.gT rfl rfl (VL.op (R.mvS rfl) (VL.gT rfl rfl (VL.callP Tryd.call16 rfl (free_spec y.edges y.ea xB2.a y.ec xB2.c xB2.l _ hye (fun x hx => Nat.le_trans (hP.n.each x hx).2 (by decide)) (by omega) hP12.n.ok.e ho.sl) fun w19_5 e19_5 => VL.op (R.pickTB rfl rfl) (VL.op (R.asB rfl) (VL.nil (V.region (VL.op (R.mvI rfl) (VL.op (R.add rfl rfl (by omega) (by omega)) (VL.op (R.asI rfl) (VL.nil (⟨(i + 1, freeF (vals y.edges) xB2.l), rfl, ⟨by dsimp only; omega, by rw [hat, ← hyE, ← hf]; rfl, E12.trans e19_5⟩, by dsimp only; omega⟩))))))))))))))))))
    · have hie : i = z.1.length := by omega
      subst hie
      rw [List.take_length] at hfr
      exact ⟨fr, rfl, hfr, e6⟩
  · obtain ⟨hfr, e6⟩ := hBB0
    have E6 := E2.trans (e4.trans (e5.trans e6))
    have hb6 : Blk wBB0 b0_0 (.cells (Value.agg (encGr g).toArray).cells 33 (0, 0)) := hb2.ext (e4.trans (e5.trans e6))
    have hfree : xB0 = freeF (vals g.edges) (setF s) := by
      rw [hfr]
      refine Bool.eq_iff_iff.2 ?_
      rw [show freeF (vals g.edges) (setF s) = freeF (grV g).edges (setF s) from rfl, parts_free hv (setF_inc s), List.all_eq_true]
      constructor
      · intro h vs hvs
        rw [← hz] at hvs
        obtain ⟨x, hx, rfl⟩ := List.mem_map.1 hvs
        exact h x hx
      · intro h x hx
        exact h x.l (by rw [← hz]; exact List.mem_map_of_mem hx)
    refine V.region (VL.op (R.mvB rfl) (VL.op (R.mvB rfl) (VL.gT rfl rfl (VL.op (R.mvB rfl) (VL.gT rfl rfl (VL.op (R.fld' (o := 2) Tryd.runUnderlying33 rfl rfl Tryd.sizeOf22 rfl rfl) (VL.gT rfl rfl (VL.op (R.ld1 Tryd.isAgg22 rfl ((show wBB0.cell? ⟨b0_0, 2, none⟩ = some (Value.slice g.ea g.edges.length g.ec) from hb6.cell 2))) (VL.gT rfl rfl (VL.op (R.mvS rfl) (VL.gT rfl rfl (VL.callP Tryd.call16 rfl (free_is g.edges g.ea s4.1 g.ec s4.2 (setF s) _ _ (by omega) hge (by omega) ((hG.ext E6).e) ((OwnT.sl hS4).ext (e5.trans e6)) rfl) fun w20_6 e20_6 => VL.gT rfl rfl (VL.op (R.lit (R.eqlB eqB4 rfl rfl) ((decide_eq_true hfree))) (VL.op (R.pickTB rfl rfl) (VL.op (R.asB rfl) (VL.nil (V.ret (fret1 (v := .bool _) rfl rfl rfl (⟨rfl, E6.trans e20_6⟩)))))))))))))))))))
end Go.Proofs.YtoengpialdolbaaDoor
