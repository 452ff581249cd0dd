/- Bound: the walk of law BoundParts. -/
import Derived.Test.YtbfejgbeaehbmaaGreatDoorN15
import Derived.Test.YtbfejgbeaehbmaaGreatDoorVcParts
import Derived.Test.YtbfejgbeaehbmaaGreatDoorVcAppN
namespace Go.Proofs.YtbfejgbeaehbmaaGreatDoor
open Go.Vc
theorem GNew.valid {w w' : World} {g : GrW} (h : GNew w w' g) (hv : validG (grV g) = true) : GLen g := by
  obtain ⟨h1, h2, h3, _⟩ := validG_iff.1 hv
  have hc := costB_iff.1 h1
  exact h.glen rfl (by have h0 : (grV g).n ≤ 4000 := hc.2.1; have h4 := hc.2.2.1; omega) (by omega) (List.all_eq_true.2 fun e he => decide_eq_true (h3 e he).1)
theorem sums_bnd {g : Gr} {ws : List Int} (hw : wtB g ws = true) : (-16000000000000000 ≤ (sumsF g ws).1 ∧ (sumsF g ws).1 ≤ 16000000000000000) ∧ (-16000000000000000 ≤ (sumsF g ws).2.1 ∧ (sumsF g ws).2.1 ≤ 16000000000000000) := by
  obtain ⟨hg, hl, hb⟩ := wtB_iff.1 hw
  have hn := costB_iff.1 (validG_iff.1 hg).1
  have hlen := comps_len hg
  have h0 : 0 ≤ g.n := hn.1
  have h4 : g.n ≤ 4000 := hn.2.1
  have key : ∀ c ∈ compsG g, (-4000000000000 ≤ (rngC g.edges ws c).1 ∧ (rngC g.edges ws c).1 ≤ 4000000000000) ∧ (-4000000000000 ≤ (rngC g.edges ws c).2 ∧ (rngC g.edges ws c).2 ≤ 4000000000000) := fun c hc => by
    have h1 := comp_len hg hc
    have h2 := rngC_bnd g.edges ws c (comp_pos hg hc) fun x hx => by
      obtain ⟨v, hv, rfl⟩ := List.mem_map.1 hx
      have := (setB_iff.1 (comps_set hg hc)).2 v hv
      exact hb _ (wtF_at this.1 (by omega))
    omega
  have k1 := sm_bnd (M := 4000000000000) (l := (compsG g).map fun c => (rngC g.edges ws c).1) fun x hx => by
    obtain ⟨c, hc, rfl⟩ := List.mem_map.1 hx
    exact (key c hc).1
  have k2 := sm_bnd (M := 4000000000000) (l := (compsG g).map fun c => (rngC g.edges ws c).2) fun x hx => by
    obtain ⟨c, hc, rfl⟩ := List.mem_map.1 hx
    exact (key c hc).2
  rw [List.length_map] at k1 k2
  unfold sumsF
  rw [if_pos hw]
  dsimp only
  omega
/-- The bit that chooses a component. -/
def bitE (ch : Int) (i : Nat) : Int := IntKind.u64.wrap (BitVec.ofInt 64 (ch.fdiv (2 ^ Min.min (((i : Nat) : Int) % 64).toNat IntKind.u64.bits)) &&& BitVec.ofInt 64 1).toNat
theorem bitE_01 (ch : Int) (i : Nat) : bitE ch i = 0 ∨ bitE ch i = 1 := by
  have := and_le (ch.fdiv (2 ^ Min.min (((i : Nat) : Int) % 64).toNat IntKind.u64.bits)) 1 (by decide) (by decide)
  unfold bitE; omega
def bitN (ch : Int) (i : Nat) : Nat := (bitE ch i).toNat
set_option maxRecDepth 100000 in
set_option maxHeartbeats 16000000 in
theorem parts_law (g : GrW) (wa : Option Addr) (wc B : Nat) (ws : List Int) (ch : Int) (w : World) (hI : GIn w g) (hW : IntSl w wa ws) (hwl : ws.length ≤ 9223372036854775807) (hB : B ≤ w.heap.size) (hT : TabW B w) :
    RetsP Tryz.prog 4 #[.agg (encGr g).toArray, .slice wa ws.length wc, .int .u64 ch] w (.bool true) := by
  refine enter (args := [_, _, _]) Tryz.func4 rfl Tryz.ntmps4 (by kernel_rfl) rfl ?_
  refine V.seq (V.region (VL.box (v := .agg _) rfl fun b0_0 w0_0 hb0_0 e0_0 hB0_0 => VL.op (R.asB rfl) (VL.nil (V.seq (V.region (VL.callP Tryz.call10 rfl (head32_spec B _ (Nat.le_trans hB (e0_0).size) (hT.ext hB e0_0)) fun w1_0 e1_0 => VL.op (R.asB rfl) (VL.nil (V.seq (V.seq (V.region (VL.op (R.ldA Tryz.isAgg25 Tryz.sizeOf25 rfl rfl ((show RowAt _ _ _ (encGr g) from ((hB0_0.ext e1_0).rowAt 0 3))) rfl) (VL.callX Tryz.call11 rfl (few32_spec g [] none 0 45 _ (hI.ext (e0_0.trans e1_0)) (WIn.nil _)) fun b2 w2 h2 e2 => VL.op (R.not rfl) (VL.op (R.mvB rfl) (VL.or rfl rfl (fun g2_3 => VL.op (R.mvS rfl) (VL.gT rfl rfl (VL.op (R.lenS Tryz.runUnderlying22 rfl) (VL.gT rfl rfl (VL.op (R.gtr rfl rfl) (VL.op (R.pickFB rfl rfl) (VL.nil (V.condP rfl (fun c39 => V.seq (V.region (VL.op (R.mvB rfl) (VL.op (R.asB rfl) (VL.nil (V.ret (fret1 (v := .bool _) rfl rfl rfl (⟨rfl, ((e0_0.trans e1_0).trans e2)⟩)))))))) (fun c39 => V.skip (V.seq (?_))))))))))) (fun g2_3 => VL.gF rfl rfl (VL.gF rfl rfl (VL.op (R.pickTB rfl rfl) (VL.nil (V.condT rfl (V.seq (V.region (VL.op (R.mvB rfl) (VL.op (R.asB rfl) (VL.nil (V.ret (fret1 (v := .bool _) rfl rfl rfl (⟨rfl, ((e0_0.trans e1_0).trans e2)⟩)))))))))))))))))))))))))))
  have hsm := h2 (by simpa using g2_3)
  have hgl := hI.glen hsm.2.2.1
  have hvn : ws.length ≤ 60 := by omega
  have E2 := (e0_0.trans e1_0).trans e2
  have hX2 : Blk w2 b0_0 (.cells (Value.agg (encGr g).toArray).cells 25 (0, 0)) := hB0_0.ext (e1_0.trans e2)
  refine V.region (VL.op (R.ldA Tryz.isAgg25 Tryz.sizeOf25 rfl rfl ((show RowAt _ _ _ (encGr g) from hX2.rowAt 0 3)) rfl) (VL.op (R.mvS rfl) (VL.callP Tryz.call12 rfl (range_spec g wa wc ws B w2 (hI.ok.ext E2) hgl (hW.ext E2) (by omega) (Nat.le_trans hB E2.size) (hT.ext hB E2)) fun w4_2 e4_2 => VL.op (R.mvT rfl) (VL.op (R.extr rfl rfl) (VL.op (R.extr rfl rfl) (VL.op (R.extr rfl rfl) (VL.op (R.asI rfl) (VL.op (R.asI rfl) (VL.op (R.asI rfl) (VL.nil (V.seq (V.seq (V.region (VL.op (R.mvI rfl) (VL.op (R.neq rfl rfl) (VL.nil (V.condP rfl (fun c49 => V.seq (V.region (VL.op (R.mvB rfl) (VL.op (R.asB rfl) (VL.nil (V.ret (fret1 (v := .bool _) rfl rfl rfl (⟨rfl, E2.trans e4_2⟩)))))))) (fun c49 => V.skip (V.seq (?_))))))))))))))))))))
  have hz : (sumsF (grV g) ws).2.2 = 0 := by simpa using c49
  have hwt : wtB (grV g) ws = true := by
    cases hb : wtB (grV g) ws with
    | true => rfl
    | false => unfold sumsF at hz; rw [hb, if_neg (by decide)] at hz; cases hz
  obtain ⟨hv, hwn, hwb⟩ := wtB_iff.1 hwt
  rw [show (grV g).n = g.n from rfl] at hwn
  have E4 := E2.trans e4_2
  have hX4 := hX2.ext e4_2
  refine V.region (VL.op (R.ldA Tryz.isAgg25 Tryz.sizeOf25 rfl rfl ((show RowAt _ _ _ (encGr g) from hX4.rowAt 0 3)) rfl) (VL.callX Tryz.call16 rfl (comps_spec g B _ (hI.ok.ext E4) hgl (Nat.le_trans hB E4.size) (hT.ext hB E4)) fun z w7 h7 e7 => VL.op (R.asS rfl) (VL.nil (V.seq (V.region (VL.alloc Tryz.zeroValue36 fun b8 w8 hb8 e8 hB8 => VL.nil (V.seq (V.seq (V.region (VL.op (R.asI rfl) (VL.nil (V.block (?_)))))))))))))
  obtain ⟨hz1, hZ⟩ := h7
  have E7 := E4.trans e7
  have E8 := E7.trans e8
  have hX8 := (hX4.ext e7).ext e8
  have hZ8 := hZ.ext e8
  have hW8 := hW.ext E8
  have hlt8 := hB8.lt
  have hzl : z.1.length ≤ 45 := by
    have h1 := comps_len hv
    rw [← hz1, List.length_map, show (grV g).n = g.n from rfl] at h1
    omega
  have hzn : (compsG (grV g)).length = z.1.length := by rw [← hz1, List.length_map]
  have hmem : ∀ k, k < z.1.length → (z.1.getD k default).l ∈ compsG (grV g) := fun k hk => by rw [← hz1]; exact List.mem_map_of_mem (gmem hk)
  have hat : ∀ k, k < z.1.length → (compsG (grV g)).getD k default = (z.1.getD k default).l := fun k hk => by rw [← hz1]; exact vals_at hk
  have hcl : ∀ k, k < z.1.length → 0 < (z.1.getD k default).l.length ∧ (z.1.getD k default).l.length ≤ 45 := fun k hk => by
    have h1 := comp_pos hv (hmem k hk)
    have h2 := comp_len hv (hmem k hk)
    rw [show (grV g).n = g.n from rfl] at h2
    omega
  have hpl : ∀ k i, i ≤ z.1.length → (pcK (bitN ch) (compsG (grV g)) k i).length ≤ 45 * i := fun k i => by
    induction i with
    | zero => intro _; exact Nat.le_refl _
    | succ i ih =>
      intro hi
      have := ih (by omega)
      have h1 := (hcl i (by omega)).2
      rw [pcK_succ, List.length_append]
      split
      · rw [hat i (by omega)]; omega
      · simp only [List.length_nil]; omega
  have hA8 : Blk w8 b8 (.cells #[.slice none 0 0, .slice none 0 0] 36 (0, 0)) := hB8
  refine V.loop [1, 2, 3, 7, 8, 9, 11, 12, 13] (fun x : Nat × SlI × SlI => [.slice wa ws.length wc, .int .u64 ch, .pointer (some ⟨b0_0, 0, none⟩), .bool true, .int .i64 (sumsF (grV g) ws).1, .int .i64 (sumsF (grV g) ws).2.1, .slice z.2.1 z.1.length z.2.2, .pointer (some ⟨b8, 0, none⟩), .int .i64 (x.1 : Nat)])
    (fun x w' => x.1 ≤ z.1.length ∧ Blk w' b8 (.cells #[.slice x.2.1.a x.2.1.l.length x.2.1.c, .slice x.2.2.a x.2.2.l.length x.2.2.c] 36 (0, 0)) ∧ OwnT Vc.encI 1 3 w8.heap.size w' x.2.1.a x.2.1.c x.2.1.l ∧ OwnT Vc.encI 1 3 w8.heap.size w' x.2.2.a x.2.2.c x.2.2.l ∧ Sep x.2.1.a x.2.2.a
      ∧ x.2.1.l = pcK (bitN ch) (compsG (grV g)) 0 x.1 ∧ x.2.2.l = pcK (bitN ch) (compsG (grV g)) 1 x.1 ∧ Vc.Mod (Vc.one b8) w8 w') (fun x => z.1.length - x.1) (0, ⟨none, 0, []⟩, ⟨none, 0, []⟩) rfl ⟨Nat.zero_le _, hA8, OwnT.nil _ _ _ _ _, OwnT.nil _ _ _ _ _, Sep.nil _, rfl, rfl, Vc.Mod.refl _ _⟩ ?_
  rintro ρ ⟨i, s0, s1⟩ w9 ⟨hi, hA9, ho0, ho1, hsep, hs0, hs1, m9⟩
  dsimp only at hi hA9 ho0 ho1 hsep hs0 hs1 m9 ⊢
  have hl0 := hpl 0 i hi
  have hl1 := hpl 1 i hi
  rw [← hs0] at hl0
  rw [← hs1] at hl1
  have hzm : ∀ {w' : World} {S : Nat → Prop}, Vc.Mod S w8 w' → (∀ k, S k → w7.heap.size ≤ k) → LL w' z.2.1 z.1 := fun m hS => hZ.ext (e8.ownA m hS)
  refine V.seq (V.seq (V.region (VL.op (R.mvI rfl) (VL.op (R.mvS rfl) (VL.op (R.lenS Tryz.runUnderlying23 rfl) (VL.op (R.lss rfl rfl) (VL.nil (V.condP rfl (fun c56 => V.skip (V.seq (V.block (V.seq (V.regionCut [14, 59, 60, 61, 62, 63, 64, 65] 14 (.int .i64 (bitE ch i)) (fun w' => Ext _ w') rfl (VL.op (R.mvI rfl) (VL.op (R.mvI rfl) (VL.op (R.conv Tryz.runUnderlying3 Tryz.runUnderlying37 rfl (wrap_u64 (by omega) (by omega))) (VL.op (R.rem rfl rfl (by omega) (by omega)) (VL.op (R.shr rfl rfl (by omega)) (VL.op (R.andU rfl rfl) (VL.op (R.conv Tryz.runUnderlying34 Tryz.runUnderlying3 rfl (wrap_i64 (by have := and_le (ch.fdiv (2 ^ Min.min (((i : Nat) : Int) % 64).toNat IntKind.u64.bits)) 1 (by decide) (by decide); omega) (by have := and_le (ch.fdiv (2 ^ Min.min (((i : Nat) : Int) % 64).toNat IntKind.u64.bits)) 1 (by decide) (by decide); omega))) (VL.op (R.asI rfl) (VL.nil ⟨rfl, cutI rfl ?_, Mod.refl _ _⟩))))))))) (fun rg12 w12c e12c => ?_)))))) (fun c56 => V.exit (V.seq (?_)))))))))))
  · rfl
  · show V _ _ _ _ _ _
    have hkl : i < z.1.length := by omega
    have hcl := hcl i hkl
    have m12 : Vc.Mod (Vc.one b8) w8 w12c := m9.ext e12c
    have hA12 := hA9.ext e12c
    have E712 : Ext w7 w12c := (e8.ownA m9 fun q (hq : q = b8) => by omega).trans e12c
    have hsz12 : w8.heap.size ≤ w12c.heap.size := m12.size
    obtain ⟨zb, zo, hza⟩ := (hZ.at hkl).some (i := 0) hcl.1
    rcases bitE_01 ch i with hb | hb
    · rw [hb]
      have hbn : bitN ch i = 0 := by unfold bitN; rw [hb]; rfl
      have hnb : ¬ aBlk s0.a b8 := fun h => by have := ho0.ge _ h; omega
      have ho12 := ho0.ext e12c
      have eo : ∀ wq, TN Vc.encI 1 3 w8.heap.size s0.a s0.c s0.l (z.1.getD i default).l w12c wq → LL wq z.2.1 z.1 := fun wq q => hZ.ext (E712.ownA q.m fun x hx => by have := ho0.ge _ hx; have := e8.size; omega)
      refine V.regionT (T := (TN Vc.encI 1 3 w8.heap.size s0.a s0.c s0.l (z.1.getD i default).l)) mixed 9 (by kernel_rfl) rfl (fun us => VT.op (fun wq eq => R.mvI rfl) (VT.op (fun wq eq => R.mvI rfl) (VT.op (fun wq eq => R.ixA Tryz.runUnderlying36 Tryz.sizeOf22 rfl rfl (by omega) (by omega)) (VT.op (fun wq eq => R.ld1 Tryz.isAgg22 rfl ((show wq.cell? ⟨b8, 0 + (0 : Int).toNat * 1, none⟩ = some (Value.slice s0.a s0.l.length s0.c) from (hA12.mod eq.m hnb).cell 0))) (VT.op (fun wq eq => R.mvS rfl) (VT.op (fun wq eq => R.mvI rfl) (VT.op (fun wq eq => R.ixS Tryz.runUnderlying23 Tryz.sizeOf22 rfl rfl (by omega) (by omega) ((eo _ eq).sl.some (i := i) hkl)) (VT.op (fun wq eq => R.ld1 Tryz.isAgg22 rfl ((((eo _ eq).sl.row (i := i) hkl).cell (i := 0) rfl))) (VT.spec (SN Vc.encI 1 3 w8.heap.size w12c.heap.size s0.a s0.c s0.l (z.1.getD i default).l) (SN.mono ho12) rfl (fun wq eq hq => yieldsR_appN (ad := ⟨zb, zo, none⟩) el22 (fun _ => rfl) ho12 eq rfl (by show Value.slice (z.1.getD i default).a _ _ = _; rw [hza]) rfl hcl.1 (by rw [← hza]; exact (eo _ eq).at hkl) (by omega) (by unfold maxLen; omega) hsz12) (VT.nil (fun w13 e13 h13 => ?_))))))))))) rfl
      obtain ⟨a', c', hu, hO, hd⟩ := h13 8
      have m13 := e13.m
      rw [show us 8 = _ from hu]
      refine VL.op (R.ixA Tryz.runUnderlying36 Tryz.sizeOf22 rfl rfl (by omega) (by omega)) (VL.store (v := .slice _ _ _) Tryz.sizeOf22 rfl rfl rfl rfl (hA12.mod m13 hnb) rfl rfl fun w14 m14 hs14 hB14 => VL.nil (V.region (VL.op (R.mvI rfl) (VL.op (R.add rfl rfl (by omega) (by omega)) (VL.op (R.asI rfl) (VL.nil (?_)))))))
      have hB15 : Blk w14 b8 (.cells #[.slice a' (s0.l ++ (z.1.getD i default).l).length c', .slice s1.a s1.l.length s1.c] 36 (0, 0)) := by rw [List.length_append]; exact hB14
      have hO2 : OwnT Vc.encI 1 3 w8.heap.size w14 a' c' (s0.l ++ (z.1.getD i default).l) := hO.mod m14 fun q hq (h : q = b8) => by have := hO.ge _ hq; omega
      have hP2 := ((ho1.ext e12c).mod m13 fun q hq h => hsep q h hq).mod m14 fun q hq (h : q = b8) => by have := ho1.ge _ hq; omega
      have hsep2 : Sep a' s1.a := fun q h1 h2 => by
        rcases hd with ⟨e1, _⟩ | h
        · rw [e1] at h1; exact hsep q h1 h2
        · have := h q h1
          have := (ho1.ext e12c).lt q h2
          omega
      exact ⟨(i + 1, ⟨a', c', s0.l ++ (z.1.getD i default).l⟩, s1), rfl, ⟨by dsimp only; omega, hB15, hO2, hP2, hsep2, by dsimp only; rw [pcK_succ, if_pos hbn, hat i hkl, ← hs0], by dsimp only; rw [pcK_succ, if_neg (by omega), List.append_nil]; exact hs1, (m12.ownA m13 fun q hq => ho0.ge _ hq).trans m14⟩, by dsimp only; omega⟩
    · rw [hb]
      have hbn : bitN ch i = 1 := by unfold bitN; rw [hb]; rfl
      have hnb : ¬ aBlk s1.a b8 := fun h => by have := ho1.ge _ h; omega
      have ho12 := ho1.ext e12c
      have eo : ∀ wq, TN Vc.encI 1 3 w8.heap.size s1.a s1.c s1.l (z.1.getD i default).l w12c wq → LL wq z.2.1 z.1 := fun wq q => hZ.ext (E712.ownA q.m fun x hx => by have := ho1.ge _ hx; have := e8.size; omega)
      refine V.regionT (T := (TN Vc.encI 1 3 w8.heap.size s1.a s1.c s1.l (z.1.getD i default).l)) mixed 9 (by kernel_rfl) rfl (fun us => VT.op (fun wq eq => R.mvI rfl) (VT.op (fun wq eq => R.mvI rfl) (VT.op (fun wq eq => R.ixA Tryz.runUnderlying36 Tryz.sizeOf22 rfl rfl (by omega) (by omega)) (VT.op (fun wq eq => R.ld1 Tryz.isAgg22 rfl ((show wq.cell? ⟨b8, 0 + (1 : Int).toNat * 1, none⟩ = some (Value.slice s1.a s1.l.length s1.c) from (hA12.mod eq.m hnb).cell 1))) (VT.op (fun wq eq => R.mvS rfl) (VT.op (fun wq eq => R.mvI rfl) (VT.op (fun wq eq => R.ixS Tryz.runUnderlying23 Tryz.sizeOf22 rfl rfl (by omega) (by omega) ((eo _ eq).sl.some (i := i) hkl)) (VT.op (fun wq eq => R.ld1 Tryz.isAgg22 rfl ((((eo _ eq).sl.row (i := i) hkl).cell (i := 0) rfl))) (VT.spec (SN Vc.encI 1 3 w8.heap.size w12c.heap.size s1.a s1.c s1.l (z.1.getD i default).l) (SN.mono ho12) rfl (fun wq eq hq => yieldsR_appN (ad := ⟨zb, zo, none⟩) el22 (fun _ => rfl) ho12 eq rfl (by show Value.slice (z.1.getD i default).a _ _ = _; rw [hza]) rfl hcl.1 (by rw [← hza]; exact (eo _ eq).at hkl) (by omega) (by unfold maxLen; omega) hsz12) (VT.nil (fun w13 e13 h13 => ?_))))))))))) rfl
      obtain ⟨a', c', hu, hO, hd⟩ := h13 8
      have m13 := e13.m
      rw [show us 8 = _ from hu]
      refine VL.op (R.ixA Tryz.runUnderlying36 Tryz.sizeOf22 rfl rfl (by omega) (by omega)) (VL.store (v := .slice _ _ _) Tryz.sizeOf22 rfl rfl rfl rfl (hA12.mod m13 hnb) rfl rfl fun w14 m14 hs14 hB14 => VL.nil (V.region (VL.op (R.mvI rfl) (VL.op (R.add rfl rfl (by omega) (by omega)) (VL.op (R.asI rfl) (VL.nil (?_)))))))
      have hB15 : Blk w14 b8 (.cells #[.slice s0.a s0.l.length s0.c, .slice a' (s1.l ++ (z.1.getD i default).l).length c'] 36 (0, 0)) := by rw [List.length_append]; exact hB14
      have hO2 : OwnT Vc.encI 1 3 w8.heap.size w14 a' c' (s1.l ++ (z.1.getD i default).l) := hO.mod m14 fun q hq (h : q = b8) => by have := hO.ge _ hq; omega
      have hP2 := ((ho0.ext e12c).mod m13 fun q hq h => hsep.symm q h hq).mod m14 fun q hq (h : q = b8) => by have := ho0.ge _ hq; omega
      have hsep2 : Sep a' s0.a := fun q h1 h2 => by
        rcases hd with ⟨e1, _⟩ | h
        · rw [e1] at h1; exact hsep.symm q h1 h2
        · have := h q h1
          have := (ho0.ext e12c).lt q h2
          omega
      exact ⟨(i + 1, s0, ⟨a', c', s1.l ++ (z.1.getD i default).l⟩), rfl, ⟨by dsimp only; omega, hB15, hP2, hO2, hsep2.symm, by dsimp only; rw [pcK_succ, if_neg (by omega), List.append_nil]; exact hs0, by dsimp only; rw [pcK_succ, if_pos hbn, hat i hkl, ← hs1], (m12.ownA m13 fun q hq => ho1.ge _ hq).trans m14⟩, by dsimp only; omega⟩
  · have hie : i = z.1.length := by omega
    subst hie
    have E79 : Ext w7 w9 := e8.ownA m9 fun q (hq : q = b8) => by omega
    have E9 : Ext w w9 := E7.trans E79
    have hX9 : Blk w9 b0_0 (.cells (Value.agg (encGr g).toArray).cells 25 (0, 0)) := ((hX4.ext e7).ext e8).mod m9 fun (h : b0_0 = b8) => by have := (hX4.ext e7).lt; omega
    obtain ⟨sk, hsk⟩ : ∃ sk : Nat → SlI, sk = fun t => if t = 0 then s0 else s1 := ⟨_, rfl⟩
    have hcell : ∀ t, t < 2 → ∀ w', Ext w9 w' → w'.cell? ⟨b8, 0 + ((t : Nat) : Int).toNat * 1, none⟩ = some (.slice (sk t).a (sk t).l.length (sk t).c) := fun t ht w' e => by
      rcases (show t = 0 ∨ t = 1 by omega) with rfl | rfl
      · rw [hsk]; exact (hA9.ext e).cell 0
      · rw [hsk]; exact (hA9.ext e).cell 1
    have hskl : ∀ t, t < 2 → (sk t).l = pcK (bitN ch) (compsG (grV g)) t (compsG (grV g)).length ∧ (sk t).l.length ≤ 2025 := fun t ht => by
      rw [hzn]
      rcases (show t = 0 ∨ t = 1 by omega) with rfl | rfl
      · rw [hsk]; exact ⟨hs0, by show s0.l.length ≤ _; omega⟩
      · rw [hsk]; exact ⟨hs1, by show s1.l.length ≤ _; omega⟩
    have hsks : ∀ t, t < 2 → IntSl w9 (sk t).a (sk t).l := fun t ht => by
      rcases (show t = 0 ∨ t = 1 by omega) with rfl | rfl
      · rw [hsk]; exact ho0.sl
      · rw [hsk]; exact ho1.sl
    obtain ⟨Vs, hVd⟩ : ∃ Vs : Nat → List Int, Vs = fun k => setF (pcK (bitN ch) (compsG (grV g)) k (compsG (grV g)).length) := ⟨_, rfl⟩
    have hps := parts_sum hwt (β := bitN ch) fun i _ => by unfold bitN; rcases bitE_01 ch i with h | h <;> rw [h] <;> simp
    have hVw : ∀ k, Whole (grV g) (Vs k) := fun k => by rw [hVd]; exact pc_whole hv _ k
    have hps1 : ∀ k, (sumsF (partG (grV g) (Vs k)) ((Vs k).map (wtF ws))).2.2 = 0 := fun k => by
      have := hps.1 k
      rw [hVd]
      exact congrArg (fun x : Int × Int × Int => x.2.2) this
    obtain ⟨lo, hlo⟩ : ∃ lo : Nat → Int, lo = fun k => (sumsF (partG (grV g) (Vs k)) ((Vs k).map (wtF ws))).1 := ⟨_, rfl⟩
    obtain ⟨up, hup⟩ : ∃ up : Nat → Int, up = fun k => (sumsF (partG (grV g) (Vs k)) ((Vs k).map (wtF ws))).2.1 := ⟨_, rfl⟩
    have hlob : ∀ k, -16000000000000000 ≤ lo k ∧ lo k ≤ 16000000000000000 := fun k => by rw [hlo]; exact (sums_bnd (part_wt hwt (hVw k))).1
    have hupb : ∀ k, -16000000000000000 ≤ up k ∧ up k ≤ 16000000000000000 := fun k => by rw [hup]; exact (sums_bnd (part_wt hwt (hVw k))).2
    have hlos : lo 0 + lo 1 = (sumsF (grV g) ws).1 := by rw [hlo, hVd]; exact hps.2.1
    have hups : up 0 + up 1 = (sumsF (grV g) ws).2.1 := by rw [hup, hVd]; exact hps.2.2
    have hb0 := sums_bnd hwt
    obtain ⟨dn, hdn⟩ : ∃ dn : (Nat → Int) → Nat → Int, dn = fun f t => if t = 0 then 0 else if t = 1 then f 0 else f 0 + f 1 := ⟨_, rfl⟩
    have hdn0 : ∀ f, dn f 0 = 0 := fun f => by rw [hdn]; rfl
    have hdn2 : ∀ f, dn f 2 = f 0 + f 1 := fun f => by rw [hdn]; rfl
    have hdns : ∀ f t, t < 2 → dn f (t + 1) = dn f t + f t := fun f t ht => by
      rcases (show t = 0 ∨ t = 1 by omega) with rfl | rfl
      · rw [hdn]; show f 0 = 0 + f 0; omega
      · rw [hdn]; rfl
    have hdnb : ∀ f, (∀ k, -16000000000000000 ≤ f k ∧ f k ≤ 16000000000000000) → ∀ t, -32000000000000000 ≤ dn f t ∧ dn f t ≤ 32000000000000000 := fun f hf t => by
      have h0 := hf 0
      have h1 := hf 1
      rw [hdn]; dsimp only
      split
      · omega
      · split <;> omega
    refine V.region (VL.op (R.asI rfl) (VL.nil (V.seq (V.region (VL.op (R.asI rfl) (VL.nil (V.seq (V.seq (V.region (VL.op (R.asI rfl) (VL.nil (V.block (?_)))))))))))))
    refine V.loop [1, 3, 7, 8, 9, 12, 15, 16, 17] (fun t : Nat => [.slice wa ws.length wc, .pointer (some ⟨b0_0, 0, none⟩), .bool true, .int .i64 (sumsF (grV g) ws).1, .int .i64 (sumsF (grV g) ws).2.1, .pointer (some ⟨b8, 0, none⟩), .int .i64 (dn lo t), .int .i64 (dn up t), .int .i64 (t : Nat)]) (fun t w' => t ≤ 2 ∧ Ext w9 w') (fun t => 2 - t) 0 (by rw [hdn0, hdn0]; rfl) ⟨by decide, Vc.Mod.refl _ _⟩ ?_
    rintro ρ t w10 ⟨ht, e10⟩
    have E10 := E9.trans e10
    have hX10 := hX9.ext e10
    have hW10 := hW.ext E10
    have hG10 := hI.ok.ext E10
    refine V.seq (V.seq (V.region (VL.op (R.mvI rfl) (VL.op (R.lss rfl rfl) (VL.nil (V.condP rfl (fun c77 => V.skip (V.seq (V.block (V.seq (?_))))) (fun c77 => V.exit (V.seq (?_)))))))))
    · have ht2 : t < 2 := by omega
      have hskt := hskl t ht2
      have hdl := hdnb lo hlob t
      have hdu := hdnb up hupb t
      have hlt := hlob t
      have hut := hupb t
      obtain ⟨U, hU⟩ : ∃ U, U = setF (sk t).l := ⟨_, rfl⟩
      have hUV : U = Vs t := by rw [hU, hskt.1, hVd]
      have hUw := hVw t
      rw [← hUV] at hUw
      have hUl : U.length ≤ 2025 := by rw [hU]; exact Nat.le_trans (setF_len _) hskt.2
      have hset := rset_spec (sk t).a (sk t).c (sk t).l w10 (by omega) ((hsks t ht2).ext e10)
      rw [← hU] at hset
      refine V.region (VL.op (R.mvI rfl) (VL.op (R.ixA Tryz.runUnderlying36 Tryz.sizeOf22 rfl rfl (by omega) (by omega)) (VL.op (R.ld1 Tryz.isAgg22 rfl ((hcell t ht2 _ e10))) (VL.callX Tryz.call17 rfl (hset) fun s19 w19 hS19 e19 => VL.op (R.asS rfl) (VL.nil (V.seq (V.region (VL.op (R.ldA Tryz.isAgg25 Tryz.sizeOf25 rfl rfl ((show RowAt _ _ _ (encGr g) from (hX10.ext e19).rowAt 0 3)) rfl) (VL.op (R.mvS rfl) (VL.callX Tryz.call18 rfl (part_spec g s19.1 s19.2 U B w19 (hG10.ext e19) hgl (OwnT.sl hS19) (by omega) (Nat.le_trans hB (E10.trans e19).size) (hT.ext hB (E10.trans e19))) fun x20 w20 hP20 e20 => VL.op (R.mvT rfl) (VL.op (R.extr rfl rfl) (VL.op (R.extr rfl rfl) (VL.allocSt (v := .agg (encGr x20.1).toArray) Tryz.zeroValue25 Tryz.sizeOf25 rfl rfl rfl rfl rfl fun b20_6 w20_6 hb20_6 e20_6 hB20_6 => VL.op (R.asI rfl) (VL.nil (V.seq (V.region (VL.op (R.asS rfl) (VL.nil (V.seq (V.seq (V.region (VL.op (R.asI rfl) (VL.nil (V.block (?_)))))))))))))))))))))))))
      obtain ⟨hp1, hp2, _⟩ := hP20
      have hpf : partF (grV g) U = (partG (grV g) U, 0) := by unfold partF; rw [if_pos ⟨hv, hUw.set⟩]
      rw [hpf] at hp1
      have hgv : grV x20.1 = partG (grV g) U := congrArg Prod.fst hp1
      have hx0 : x20.2 = 0 := congrArg Prod.snd hp1
      have hgh : GLen x20.1 := hp2.valid (by rw [hgv]; exact part_valid hv hUw.set)
      have hUr := (setB_iff.1 hUw.set).2
      rw [show (grV g).n = g.n from rfl] at hUr
      have e20t := (e19.trans e20).trans e20_6
      have hs20 := OwnT.sl hS19
      have hs21 : IntSl w20_6 s19.1 U := (hs20.ext e20).ext e20_6
      have hW21 := hW10.ext e20t
      refine V.loop [1, 3, 7, 8, 9, 12, 15, 16, 17, 18, 19, 20, 21, 22] (fun x : Nat × SlI => [.slice wa ws.length wc, .pointer (some ⟨b0_0, 0, none⟩), .bool true, .int .i64 (sumsF (grV g) ws).1, .int .i64 (sumsF (grV g) ws).2.1, .pointer (some ⟨b8, 0, none⟩), .int .i64 (dn lo t), .int .i64 (dn up t), .int .i64 (t : Nat), .slice s19.1 U.length s19.2, .pointer (some ⟨b20_6, 0, none⟩), .int .i64 x20.2, .slice x.2.a x.2.l.length x.2.c, .int .i64 (x.1 : Nat)])
        (fun x w' => x.1 ≤ U.length ∧ OwnT Vc.encI 1 3 w20_6.heap.size w' x.2.a x.2.c x.2.l ∧ x.2.l = (U.take x.1).map (wtF ws) ∧ Ext w20_6 w') (fun x => U.length - x.1) (0, default) rfl ⟨Nat.zero_le _, OwnT.nil _ _ _ _ _, rfl, Vc.Mod.refl _ _⟩ ?_
      rintro ρ ⟨q, y⟩ w22 ⟨hq, ho, hy, e22⟩
      dsimp only at hq ho hy e22 ⊢
      have hyl : y.l.length ≤ 2025 := by rw [hy, List.length_map, List.length_take]; omega
      refine V.seq (V.seq (V.region (VL.op (R.mvI rfl) (VL.op (R.mvS rfl) (VL.op (R.lenS Tryz.runUnderlying22 rfl) (VL.op (R.lss rfl rfl) (VL.nil (V.condP rfl (fun c93 => V.skip (V.seq (V.block (?_)))) (fun c93 => V.exit (V.seq (?_)))))))))))
      · have hql : q < U.length := by omega
        have hcv := hUr _ (gmem hql)
        have hs22 := hs21.ext e22
        have hW22 := hW21.ext e22
        refine V.region (VL.op (R.mvS rfl) (VL.op (R.mvS rfl) (VL.op (R.mvS rfl) (VL.op (R.mvI rfl) (VL.op (R.ixS Tryz.runUnderlying22 Tryz.sizeOf3 rfl rfl (by omega) (by omega) ((hs22).some (i := q) (by omega))) (VL.op (R.ld1 Tryz.isAgg3 rfl (((((hs22).ext (Mod.refl _ _)).row (i := q) (by omega)).cell (i := 0) rfl))) (VL.op (R.ixS Tryz.runUnderlying22 Tryz.sizeOf3 rfl rfl (by omega) (by omega) (hW22.some (i := (U.getD q default).toNat) (by omega))) (VL.op (R.ld1 Tryz.isAgg3 rfl (((hW22.row (i := (U.getD q default).toNat) (by omega)).cell (i := 0) rfl))) (VL.append1 el22 Tryz.runUnderlying22 Tryz.sizeOf3 Tryz.zeroValue3 rfl ((ws.getD (U.getD q default).toNat default)) rfl rfl rfl ho rfl rfl rfl (by omega) (by unfold maxLen; omega) e22.size fun a25 c25 w25 vt25 ho25 m25 hf25 => VL.op (R.asS rfl) (VL.nil (V.region (VL.op (R.mvI rfl) (VL.op (R.add rfl rfl (by omega) (by omega)) (VL.op (R.asI rfl) (VL.nil (?_))))))))))))))))
        refine ⟨(q + 1, ⟨a25, c25, y.l ++ [ws.getD (U.getD q default).toNat default]⟩), by dsimp only; rw [List.length_append]; rfl, ⟨by dsimp only; omega, ho25, ?_, e22.ownA m25 fun q hq => ho.ge q hq⟩, by dsimp only; omega⟩
        dsimp only
        rw [List.take_succ_eq_append_getElem hql, List.map_append, ← hy, List.map_cons, List.map_nil, gget hql]
        rfl
      · have hqe : q = U.length := by omega
        subst hqe
        rw [List.take_length] at hy
        have hBh := hB20_6.ext e22
        have E22 := (E10.trans e20t).trans e22
        have hrg := range_spec x20.1 y.a y.c y.l B w22 (((hp2.ok).ext e20_6).ext e22) hgh ho.sl (by omega) (Nat.le_trans hB E22.size) (hT.ext hB E22)
        rw [hgv, hy, hUV] at hrg
        have h220 := hps1 t
        have hlot : (sumsF (partG (grV g) (Vs t)) ((Vs t).map (wtF ws))).1 = lo t := by rw [hlo]
        have hupt : (sumsF (partG (grV g) (Vs t)) ((Vs t).map (wtF ws))).2.1 = up t := by rw [hup]
        rw [hlot, hupt, h220] at hrg
        rw [hy, hUV]
        refine V.region (VL.op (R.ldA Tryz.isAgg25 Tryz.sizeOf25 rfl rfl ((show RowAt _ _ _ (encGr x20.1) from hBh.rowAt 0 3)) rfl) (VL.op (R.mvS rfl) (VL.callP Tryz.call12 rfl (hrg) fun w26_2 e26_2 => VL.op (R.mvT rfl) (VL.op (R.extr rfl rfl) (VL.op (R.extr rfl rfl) (VL.op (R.extr rfl rfl) (VL.op (R.asI rfl) (VL.op (R.asI rfl) (VL.op (R.asI rfl) (VL.nil (V.seq (V.seq (V.region (VL.op (R.mvI rfl) (VL.op (R.lit (R.neq rfl rfl) ((decide_eq_false (fun h => h hx0)))) (VL.op (R.mvB rfl) (VL.gT rfl rfl (VL.op (R.mvI rfl) (VL.gT rfl rfl (VL.op (R.lit (R.neq rfl rfl) ((decide_eq_false (fun h => h rfl)))) (VL.op (R.pickFB rfl rfl) (VL.nil (V.condF rfl (V.skip (V.seq (V.region (VL.op (R.mvI rfl) (VL.op (R.mvI rfl) (VL.op (R.add rfl rfl (by omega) (by omega)) (VL.op (R.asI rfl) (VL.nil (V.region (VL.op (R.mvI rfl) (VL.op (R.mvI rfl) (VL.op (R.add rfl rfl (by omega) (by omega)) (VL.op (R.asI rfl) (VL.nil (V.region (VL.op (R.mvI rfl) (VL.op (R.add rfl rfl (by omega) (by omega)) (VL.op (R.asI rfl) (VL.nil (?_)))))))))))))))))))))))))))))))))))))))))))
        exact ⟨t + 1, by rw [hdns lo t ht2, hdns up t ht2]; rfl, ⟨by omega, ((e10.trans e20t).trans e22).trans e26_2⟩, by omega⟩
    · have hte : t = 2 := by omega
      subst hte
      rw [hdn2, hdn2, hlos, hups]
      refine V.region (VL.op (R.asS rfl) (VL.nil (V.seq (V.seq (V.region (VL.op (R.asI rfl) (VL.nil (V.block (?_)))))))))
      refine V.loop [1, 3, 7, 8, 9, 15, 16, 26, 27] (fun x : Nat × SlI => [.slice wa ws.length wc, .pointer (some ⟨b0_0, 0, none⟩), .bool true, .int .i64 (sumsF (grV g) ws).1, .int .i64 (sumsF (grV g) ws).2.1, .int .i64 (sumsF (grV g) ws).1, .int .i64 (sumsF (grV g) ws).2.1, .slice x.2.a x.2.l.length x.2.c, .int .i64 (x.1 : Nat)])
        (fun x w' => x.1 ≤ ws.length ∧ OwnT Vc.encI 1 3 w10.heap.size w' x.2.a x.2.c x.2.l ∧ x.2.l = (ws.take x.1).map (fun x => -x) ∧ Ext w10 w') (fun x => ws.length - x.1) (0, default) rfl ⟨Nat.zero_le _, OwnT.nil _ _ _ _ _, rfl, Vc.Mod.refl _ _⟩ ?_
      rintro ρ ⟨q, y⟩ w22 ⟨hq, ho, hy, e22⟩
      dsimp only at hq ho hy e22 ⊢
      have hyl : y.l.length ≤ 60 := by rw [hy, List.length_map, List.length_take]; omega
      refine V.seq (V.seq (V.region (VL.op (R.mvI rfl) (VL.op (R.mvS rfl) (VL.op (R.lenS Tryz.runUnderlying22 rfl) (VL.op (R.lss rfl rfl) (VL.nil (V.condP rfl (fun c128 => V.skip (V.seq (V.block (?_)))) (fun c128 => V.exit (V.seq (?_)))))))))))
      · have hql : q < ws.length := by omega
        have hwq := hwb _ (gmem hql)
        have hW22 := hW10.ext e22
        refine V.region (VL.op (R.mvS rfl) (VL.op (R.mvS rfl) (VL.op (R.mvI rfl) (VL.op (R.ixS Tryz.runUnderlying22 Tryz.sizeOf3 rfl rfl (by omega) (by omega) ((hW22).some (i := q) (by omega))) (VL.op (R.ld1 Tryz.isAgg3 rfl (((((hW22).ext (Mod.refl _ _)).row (i := q) (by omega)).cell (i := 0) rfl))) (VL.op (R.neg rfl (by omega) (by omega)) (VL.append1 el22 Tryz.runUnderlying22 Tryz.sizeOf3 Tryz.zeroValue3 rfl ((-(ws.getD q default))) rfl rfl rfl ho rfl rfl rfl (by omega) (by unfold maxLen; omega) e22.size fun a25 c25 w25 vt25 ho25 m25 hf25 => VL.op (R.asS rfl) (VL.nil (V.region (VL.op (R.mvI rfl) (VL.op (R.add rfl rfl (by omega) (by omega)) (VL.op (R.asI rfl) (VL.nil (?_))))))))))))))
        refine ⟨(q + 1, ⟨a25, c25, y.l ++ [-(ws.getD q default)]⟩), by dsimp only; rw [List.length_append]; rfl, ⟨by dsimp only; omega, ho25, ?_, e22.ownA m25 fun q hq => ho.ge q hq⟩, by dsimp only; omega⟩
        dsimp only
        rw [List.take_succ_eq_append_getElem hql, List.map_append, ← hy, List.map_cons, List.map_nil, gget hql]
      · have hqe : q = ws.length := by omega
        subst hqe
        rw [List.take_length] at hy
        have E22 := E10.trans e22
        have hrg := range_spec g y.a y.c y.l B w22 (hI.ok.ext E22) hgl ho.sl (by omega) (Nat.le_trans hB E22.size) (hT.ext hB E22)
        rw [hy, sums_neg hwt] at hrg
        rw [hy]
        refine V.region (VL.op (R.ldA Tryz.isAgg25 Tryz.sizeOf25 rfl rfl ((show RowAt _ _ _ (encGr g) from (hX10.ext e22).rowAt 0 3)) rfl) (VL.op (R.mvS rfl) (VL.callP Tryz.call12 rfl (hrg) fun w36_2 e36_2 => VL.op (R.mvT rfl) (VL.op (R.extr rfl rfl) (VL.op (R.extr rfl rfl) (VL.op (R.extr rfl rfl) (VL.op (R.asI rfl) (VL.op (R.asI rfl) (VL.op (R.asI rfl) (VL.nil (V.seq (V.region (VL.op (R.mvB rfl) (VL.op (R.mvB rfl) (VL.gT rfl rfl (VL.op (R.mvI rfl) (VL.gT rfl rfl (VL.op (R.mvI rfl) (VL.gT rfl rfl (VL.op (R.lit (R.eql rfl rfl) ((decide_eq_true rfl))) (VL.op (R.pickTB rfl rfl) (VL.op (R.mvB rfl) (VL.gT rfl rfl (VL.op (R.mvI rfl) (VL.gT rfl rfl (VL.op (R.mvI rfl) (VL.gT rfl rfl (VL.op (R.lit (R.eql rfl rfl) ((decide_eq_true rfl))) (VL.op (R.pickTB rfl rfl) (VL.op (R.mvB rfl) (VL.gT rfl rfl (VL.op (R.mvI rfl) (VL.gT rfl rfl (VL.op (R.lit (R.eql rfl rfl) ((decide_eq_true rfl))) (VL.op (R.pickTB rfl rfl) (VL.op (R.mvB rfl) (VL.gT rfl rfl (VL.op (R.mvI rfl) (VL.gT rfl rfl (VL.op (R.mvI rfl) (VL.gT rfl rfl (VL.op (R.neg rfl (by omega) (by omega)) (VL.gT rfl rfl (VL.op (R.lit (R.eql rfl rfl) ((decide_eq_true rfl))) (VL.op (R.pickTB rfl rfl) (VL.op (R.mvB rfl) (VL.gT rfl rfl (VL.op (R.mvI rfl) (VL.gT rfl rfl (VL.op (R.mvI rfl) (VL.gT rfl rfl (VL.op (R.neg rfl (by omega) (by omega)) (VL.gT rfl rfl (VL.op (R.lit (R.eql rfl rfl) ((decide_eq_true rfl))) (VL.op (R.pickTB rfl rfl) (VL.op (R.asB rfl) (VL.nil (V.ret (fret1 (v := .bool _) rfl rfl rfl (⟨rfl, E22.trans e36_2⟩))))))))))))))))))))))))))))))))))))))))))))))))))))))))))))
end Go.Proofs.YtbfejgbeaehbmaaGreatDoor
