/- Solve: the walk of law SolveVerdicts. -/
import Derived.Test.YtdbcfpcicjgghaaGreatDoorXS28
import Derived.Test.YtdbcfpcicjgghaaGreatDoorXR21
namespace Go.Proofs.YtdbcfpcicjgghaaGreatDoor
set_option maxHeartbeats 16000000
open Go.Vc
set_option maxRecDepth 100000
set_option maxHeartbeats 16000000
def cwK (W:List Wy) (L:List SlI) (k:Nat):Nat:=((L.take k).filter fun y=>someW W y.l).length
theorem cwK_succ {W:List Wy} {L:List SlI} {k:Nat} (h:k < L.length):cwK W L (k + 1) = cwK W L k + if someW W (L.getD k default).l = true then 1 else 0:=by
 unfold cwK
 rw [take_snoc h, List.filter_append, List.length_append, List.filter_cons]
 split <;> simp
theorem cwK_le (W:List Wy) (L:List SlI) (k:Nat):cwK W L k ≤ k:=Nat.le_trans (List.length_filter_le _ _) (List.length_take_le _ _)
theorem cwK_all {W:List Wy} {L:List SlI}:cwK W L L.length = L.length ↔ ∀ y ∈ L, someW W y.l = true:=by
 unfold cwK
 rw [List.take_length]
 constructor
 ·intro h y hy
  have:=(List.filter_sublist (p:=fun y:SlI=>someW W y.l) (l:=L)).eq_of_length h
  rw [← this] at hy
  exact (List.mem_filter.1 hy).2
 ·intro h
  rw [List.filter_eq_self.2 h]
theorem cwK_none {W:List Wy} {L:List SlI}:cwK W L L.length = 0 ↔ ∀ y ∈ L, someW W y.l = false:=by
 unfold cwK
 rw [List.take_length, List.length_eq_zero_iff, List.filter_eq_nil_iff]
 exact ⟨fun h y hy=>by simpa using h y hy, fun h y hy=>by rw [h y hy]; decide⟩
theorem verdicts_law (g:GrW) (wa:Option Addr) (wc:Nat) (W:List WyI) (B:Nat) (w:World) (hI:GIn w g) (hW:WIn29 w wa W) (hB:B ≤ w.heap.size) (hT:TabW B w) :
  RetsP Tryz.prog 9 #[.agg (encGr g).toArray, .slice wa W.length wc] w (.bool true):=by
 refine enter (args:=[_, _]) Tryz.func9 rfl Tryz.ntmps9 (by kernel_rfl) rfl ?_
 refine V.seq (V.region (VL.box (v:=.agg _) rfl fun b0_0 w0_0 hb0_0 e0_0 hB0_0=>VL.op (R.asB rfl) (VL.nil (V.seq (V.region (VL.callP Tryz.call10 rfl (head29_spec B _ (Nat.le_trans hB (Vc.Mod.size e0_0)) (hT.ext hB e0_0)) fun w1_0 e1_0=>VL.op (R.asB rfl) (VL.nil (V.seq (V.seq (V.region (VL.op (R.ldA Tryz.isAgg25 Tryz.sizeOf25 rfl rfl ((show RowAt _ _ _ (encGr g) from (hB0_0.ext e1_0).rowAt 0 3)) rfl) (VL.op (R.mvS rfl) (VL.callX Tryz.call11 rfl (few29_spec g wa wc W 12 _ (hI.ext (e0_0.trans e1_0)) (hW.ok.ext (e0_0.trans e1_0)) hW.m hW.e) fun b2 w2 h2 e2=>VL.op (R.not rfl) (VL.nil (V.cond rfl (fun c17=>V.seq (V.region (VL.op (R.mvB rfl) (VL.op (R.asB rfl) (VL.nil (V.ret (fret1 (v:=.bool _) rfl rfl rfl (⟨rfl, ((e0_0.trans e1_0).trans e2)⟩)))))))) (fun c17=>V.skip (V.seq (?_))))))))))))))))))
 have hf:=h2 (by simpa using c17)
 have hgl:=hI.glen hf.e
 have hwl:=hf.w.wl (by decide)
 have hw12:=hf.w.w
 have E2:Ext w w2:=e0_0.trans (e1_0.trans e2)
 have hX2:=hB0_0.ext (e1_0.trans e2)
 refine V.region (VL.op (R.ldA Tryz.isAgg25 Tryz.sizeOf25 rfl rfl ((show RowAt _ _ _ (encGr g) from hX2.rowAt 0 3)) rfl) (VL.callX Tryz.call32 rfl (list_spec28 g B w2 (hI.ok.ext E2) hgl (Nat.le_trans hB E2.size) (hT.ext hB E2)) fun x w3 h3 e3=>VL.op (R.mvT rfl) (VL.op (R.extr rfl rfl) (VL.op (R.extr rfl rfl) (VL.op (R.asS rfl) (VL.op (R.asI rfl) (VL.nil (V.seq (?_)))))))))
 have E3:Ext w w3:=E2.trans e3
 have hX3:=hX2.ext e3
 obtain ⟨hls, hlv⟩:=h3
 refine V.region (VL.op (R.ldA Tryz.isAgg25 Tryz.sizeOf25 rfl rfl ((show RowAt _ _ _ (encGr g) from hX3.rowAt 0 3)) rfl) (VL.op (R.mvS rfl) (VL.callX Tryz.call13 rfl (decide29_spec g wa wc W B w3 (hI.ok.ext E3) hgl (hW.ok.ext E3) hwl hW.h (by omega) (Nat.le_trans hB E3.size) (hT.ext hB E3)) fun z4 w4 h4 e4=>VL.op (R.mvT rfl) (VL.op (R.extr rfl rfl) (VL.op (R.extr rfl rfl) (VL.allocSt (v:=.agg _) Tryz.zeroValue33 Tryz.sizeOf33 rfl rfl rfl rfl rfl fun b5_6 w5_6 hb5_6 e5_6 hB5_6=>VL.op (R.asI rfl) (VL.nil (V.seq (V.seq (?_))))))))))
 have E4:Ext w w5_6:=E3.trans (e4.trans e5_6)
 have hY:Blk w5_6 b5_6 (.cells (Value.agg (encCm z4.1).toArray).cells 33 (0, 0)):=hB5_6
 have hD:=h4.e
 clear hB5_6
 refine V.region (VL.op (R.mvI rfl) (VL.op (R.neq rfl rfl) (VL.op (R.mvB rfl) (VL.orP rfl rfl (fun g6_2=>VL.op (R.mvI rfl) (VL.gT rfl rfl (VL.op (R.neq rfl rfl) (VL.op (R.pickFB rfl rfl) (VL.nil (V.condP rfl (fun c35=>V.seq (V.region (VL.op (R.mvB rfl) (VL.op (R.asB rfl) (VL.nil (V.ret (fret1 (v:=.bool _) rfl rfl rfl (⟨rfl, E4⟩)))))))) (fun c35=>V.skip (V.seq (?_))))))))) (fun g6_2=>VL.gF rfl rfl (VL.op (R.pickTB rfl rfl) (VL.nil (V.condT rfl (V.seq (V.region (VL.op (R.mvB rfl) (VL.op (R.asB rfl) (VL.nil (V.ret (fret1 (v:=.bool _) rfl rfl rfl (⟨rfl, E4⟩))))))))))))))))
 have hz:(decideF (grV g) (W.map wyV)).2 = 0:=by rw [← hD]; simpa using c35
 have hv:validG (grV g) = true:=(ready_ok (err_ready (Classical.byContradiction fun he=>by rw [decide_err he] at hz; exact he hz)) true []).v
 have hcb:=costB_iff.1 (validG_iff.1 hv).1
 have hxe:x.e = 0:=by simpa using g6_2
 obtain ⟨-, hmem, -, hpos, hle⟩:x.e = 0 ∧ (∀ R, R ∈ vals x.L ↔ IsRep (grV g) R) ∧ Up lexB (vals x.L) ∧ 0 < x.L.length ∧ x.L.length ≤ 1000:=by
  rcases list_is hv hls hlv with h | h
  ·exact h
  ·rw [hxe] at h; cases h
 have hxl:∀ y ∈ x.L, y.l.length ≤ 1000000:=fun y hy=>by
  have:=rep_len ((hmem y.l).1 (List.mem_map_of_mem hy)) hcb.1
  have h2:=hcb.2.1
  omega
 have hLL:LL w3 x.a x.L:=⟨hls.own.sl, fun y hy=>(hls.each y hy).sl⟩
 have hdv:=dc_verdict hz
 rw [← hD] at hdv
 dsimp only at hdv
 refine V.region (VL.op (R.asI rfl) (VL.nil (V.seq (V.seq (V.region (VL.op (R.asI rfl) (VL.nil (V.block (?_)))))))))
 refine V.loop [1, 5, 6, 8, 10, 11] (fun k:Nat=>[.slice wa W.length wc, .bool true, .slice x.a x.L.length x.c, .pointer (some ⟨b5_6, 0, none⟩), .int .i64 (cwK (W.map wyV) x.L k:Nat), .int .i64 (k:Nat)])
  (fun k w'=>k ≤ x.L.length ∧ Ext w5_6 w') (fun k=>x.L.length - k) 0 rfl ⟨Nat.zero_le _, Vc.Mod.refl _ _⟩ ?_
 rintro ρ k w7 ⟨hk, e7⟩
 have hcl:=cwK_le (W.map wyV) x.L k
 have hL7:=hLL.ext ((e4.trans e5_6).trans e7)
 have hY7:=hY.ext e7
 have E7:Ext w w7:=E4.trans e7
 refine V.seq (V.seq (V.region (VL.op (R.mvI rfl) (VL.op (R.mvS rfl) (VL.op (R.lenS Tryz.runUnderlying23 rfl) (VL.op (R.lss rfl rfl) (VL.nil (V.condP rfl (fun c40=>V.skip (V.seq (V.block (V.seq (?_))))) (fun c40=>V.exit (V.seq (?_)))))))))))
 ·have hkl:k < x.L.length:=by omega
  have hcs:=cwK_succ (W:=W.map wyV) hkl
  have hxk:=hxl _ (gmem hkl)
  have hsm:=fun {w':World} (e:Ext w7 w')=>rsome29_spec wa wc W (x.L.getD k default).a (x.L.getD k default).c (x.L.getD k default).l w' (hW.ok.ext (E7.trans e)) hwl (by omega) ((hL7.at hkl).ext e) hxk
  refine V.region (VL.op (R.mvS rfl) (VL.op (R.mvS rfl) (VL.op (R.mvI rfl) (VL.op (R.ixS Tryz.runUnderlying23 Tryz.sizeOf22 rfl rfl (by omega) (by omega) (hL7.sl.some (i:=k) hkl)) (VL.op (R.ld1 Tryz.isAgg22 rfl (((hL7.sl.row (i:=k) hkl).cell (i:=0) rfl))) (VL.callP Tryz.call22 rfl (hsm (Vc.Mod.refl _ _)) fun w12_5 e12_5=>VL.nil (V.cond rfl (fun c48=>V.region (VL.op (R.mvI rfl) (VL.op (R.add rfl rfl (by omega) (by omega)) (VL.op (R.asI rfl) (VL.nil (V.region (VL.op (R.mvI rfl) (VL.op (R.add rfl rfl (by omega) (by omega)) (VL.op (R.asI rfl) (VL.nil (⟨k + 1, ?_, ⟨by omega, e7.trans e12_5⟩, by omega⟩))))))))))) (fun c48=>V.skip (V.region (VL.op (R.mvI rfl) (VL.op (R.add rfl rfl (by omega) (by omega)) (VL.op (R.asI rfl) (VL.nil (⟨k + 1, ?_, ⟨by omega, e7.trans e12_5⟩, by omega⟩))))))))))))))
  ·rw [hcs, if_pos c48]; rfl
  ·rw [hcs, if_neg (by rw [c48]; decide)]; rfl
 ·have hke:k = x.L.length:=by omega
  subst hke
  obtain ⟨n, hn⟩:∃ n, n = cwK (W.map wyV) x.L x.L.length:=⟨_, rfl⟩
  have hall:n = x.L.length ↔ ∀ X, IsRep (grV g) X → someW (W.map wyV) X = true:=by
   rw [hn, cwK_all]
   constructor
   ·intro h X hX
    obtain ⟨y, hy, rfl⟩:=List.mem_map.1 ((hmem X).2 hX)
    exact h y hy
   ·intro h y hy
    exact h _ ((hmem _).1 (List.mem_map_of_mem hy))
  have hnone:n = 0 ↔ ∀ X, IsRep (grV g) X → someW (W.map wyV) X = false:=by
   rw [hn, cwK_none]
   constructor
   ·intro h X hX
    obtain ⟨y, hy, rfl⟩:=List.mem_map.1 ((hmem X).2 hX)
    exact h y hy
   ·intro h y hy
    exact h _ ((hmem _).1 (List.mem_map_of_mem hy))
  rw [← hn] at hcl ⊢
  have hex:∃ X, IsRep (grV g) X:=by
   obtain ⟨X, hX⟩:=List.exists_mem_of_ne_nil _ (reps_ne hv)
   exact ⟨X, (reps_mem hv).1 hX⟩
  have hvk:(z4.1.v = 1 ∧ n = x.L.length) ∨ (z4.1.v = 3 ∧ n = 0) ∨ (z4.1.v = 2 ∧ n ≠ 0 ∧ n ≠ x.L.length):=by
   rcases hdv with ⟨h1, h2⟩ | ⟨h1, h2⟩ | ⟨h1, ⟨X, hX, h2⟩, ⟨Y, hY', h3⟩⟩
   ·exact .inl ⟨h1, hall.2 h2⟩
   ·exact .inr (.inl ⟨h1, hnone.2 h2⟩)
   ·refine .inr (.inr ⟨h1, fun h=>?_, fun h=>?_⟩)
    ·have:=hnone.1 h X hX; rw [h2] at this; cases this
    ·have:=hall.1 h Y hY'; rw [h3] at this; cases this
  rcases hvk with ⟨h1, h2⟩ | ⟨h1, h2⟩ | ⟨h1, h2, h3⟩
  ·refine V.region (VL.op (R.asI rfl) (VL.nil (V.seq (V.seq (V.region (VL.op (R.mvI rfl) (VL.op (R.mvS rfl) (VL.op (R.lenS Tryz.runUnderlying23 rfl) (VL.op (R.lit (R.eql rfl rfl) ((decide_eq_true (by omega)))) (VL.nil (V.condT rfl (V.region (VL.op (R.asI rfl) (VL.nil (V.seq (V.seq (V.region (VL.op (R.mvI rfl) (VL.op (R.lit (R.eql rfl rfl) ((decide_eq_false (by omega)))) (VL.nil (V.condF rfl (V.skip (V.seq (V.region (VL.op (R.mvB rfl) (VL.op (R.mvB rfl) (VL.gT rfl rfl (VL.op (R.mvS rfl) (VL.gT rfl rfl (VL.op (R.lenS Tryz.runUnderlying23 rfl) (VL.gT rfl rfl (VL.op (R.lit (R.gtr rfl rfl) ((decide_eq_true (by omega)))) (VL.op (R.pickTB rfl rfl) (VL.op (R.mvB rfl) (VL.gT rfl rfl (VL.op (R.fld' (o:=0) Tryz.runUnderlying33 rfl rfl Tryz.sizeOf3 rfl rfl) (VL.gT rfl rfl (VL.op (R.ld1 Tryz.isAgg3 rfl ((show _ = some (Value.int .i64 z4.1.v) from hY7.cell 0))) (VL.gT rfl rfl (VL.op (R.mvI rfl) (VL.gT rfl rfl (VL.op (R.lit (R.eql rfl rfl) ((decide_eq_true (by omega)))) (VL.op (R.pickTB rfl rfl) (VL.op (R.asB rfl) (VL.nil (V.ret (fret1 (v:=.bool _) rfl rfl rfl (⟨rfl, E7⟩))))))))))))))))))))))))))))))))))))))))))))))))
  ·refine V.region (VL.op (R.asI rfl) (VL.nil (V.seq (V.seq (V.region (VL.op (R.mvI rfl) (VL.op (R.mvS rfl) (VL.op (R.lenS Tryz.runUnderlying23 rfl) (VL.op (R.lit (R.eql rfl rfl) ((decide_eq_false (by omega)))) (VL.nil (V.condF rfl (V.skip (V.seq (V.seq (V.region (VL.op (R.mvI rfl) (VL.op (R.lit (R.eql rfl rfl) ((decide_eq_true (by omega)))) (VL.nil (V.condT rfl (V.region (VL.op (R.asI rfl) (VL.nil (V.seq (V.region (VL.op (R.mvB rfl) (VL.op (R.mvB rfl) (VL.gT rfl rfl (VL.op (R.mvS rfl) (VL.gT rfl rfl (VL.op (R.lenS Tryz.runUnderlying23 rfl) (VL.gT rfl rfl (VL.op (R.lit (R.gtr rfl rfl) ((decide_eq_true (by omega)))) (VL.op (R.pickTB rfl rfl) (VL.op (R.mvB rfl) (VL.gT rfl rfl (VL.op (R.fld' (o:=0) Tryz.runUnderlying33 rfl rfl Tryz.sizeOf3 rfl rfl) (VL.gT rfl rfl (VL.op (R.ld1 Tryz.isAgg3 rfl ((show _ = some (Value.int .i64 z4.1.v) from hY7.cell 0))) (VL.gT rfl rfl (VL.op (R.mvI rfl) (VL.gT rfl rfl (VL.op (R.lit (R.eql rfl rfl) ((decide_eq_true (by omega)))) (VL.op (R.pickTB rfl rfl) (VL.op (R.asB rfl) (VL.nil (V.ret (fret1 (v:=.bool _) rfl rfl rfl (⟨rfl, E7⟩))))))))))))))))))))))))))))))))))))))))))))))))
  ·refine V.region (VL.op (R.asI rfl) (VL.nil (V.seq (V.seq (V.region (VL.op (R.mvI rfl) (VL.op (R.mvS rfl) (VL.op (R.lenS Tryz.runUnderlying23 rfl) (VL.op (R.lit (R.eql rfl rfl) ((decide_eq_false (by omega)))) (VL.nil (V.condF rfl (V.skip (V.seq (V.seq (V.region (VL.op (R.mvI rfl) (VL.op (R.lit (R.eql rfl rfl) ((decide_eq_false (by omega)))) (VL.nil (V.condF rfl (V.skip (V.seq (V.region (VL.op (R.mvB rfl) (VL.op (R.mvB rfl) (VL.gT rfl rfl (VL.op (R.mvS rfl) (VL.gT rfl rfl (VL.op (R.lenS Tryz.runUnderlying23 rfl) (VL.gT rfl rfl (VL.op (R.lit (R.gtr rfl rfl) ((decide_eq_true (by omega)))) (VL.op (R.pickTB rfl rfl) (VL.op (R.mvB rfl) (VL.gT rfl rfl (VL.op (R.fld' (o:=0) Tryz.runUnderlying33 rfl rfl Tryz.sizeOf3 rfl rfl) (VL.gT rfl rfl (VL.op (R.ld1 Tryz.isAgg3 rfl ((show _ = some (Value.int .i64 z4.1.v) from hY7.cell 0))) (VL.gT rfl rfl (VL.op (R.mvI rfl) (VL.gT rfl rfl (VL.op (R.lit (R.eql rfl rfl) ((decide_eq_true (by omega)))) (VL.op (R.pickTB rfl rfl) (VL.op (R.asB rfl) (VL.nil (V.ret (fret1 (v:=.bool _) rfl rfl rfl (⟨rfl, E7⟩))))))))))))))))))))))))))))))))))))))))))))))
end Go.Proofs.YtdbcfpcicjgghaaGreatDoor
