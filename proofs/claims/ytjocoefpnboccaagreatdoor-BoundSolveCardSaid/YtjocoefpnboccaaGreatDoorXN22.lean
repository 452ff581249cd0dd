/- Bound: the fixed examples (printed by mk13.py). -/
import Derived.Test.YtjocoefpnboccaaGreatDoorXN12
import Derived.Test.YtjocoefpnboccaaGreatDoorXH22a
import Derived.Test.YtjocoefpnboccaaGreatDoorXS26
namespace Go.Proofs.YtjocoefpnboccaaGreatDoor
set_option maxHeartbeats 16000000
open Go.Vc
set_option maxRecDepth 100000
set_option maxHeartbeats 16000000
def exG:Gr:=⟨5,[0,0,0,0,0],[[0,1],[0,2],[1,2],[3]]⟩
theorem range_is (g:GrW) (wa:Option Addr) (wc:Nat) (ws:List Int) (B:Nat) (w:World) {a b c:Int} (h:sumsF (grV g) ws=(a,b,c)) (hG:GOk w g) (hl:GLen g) (hW:IntSl w wa ws) (hm:ws.length≤1000000) (hB:B≤w.heap.size) (hT:TabW B w) :
  RetsP Tryz.prog 9 #[.agg (encGr g).toArray,.slice wa ws.length wc] w (.tuple #[.int .i64 a,.int .i64 b,.int .i64 c]):=by
 have:=range_spec g wa wc ws B w hG hl hW hm hB hT
 rwa [h] at this
theorem quick_is (g:GrW) (a:Option Addr) (c:Nat) (W:List WyI) (B:Nat) (w:World) {q:Int} (h:quickF (grV g) (W.map wyV)=q) (hG:GOk w g) (hl:GLen g) (hW:WL w a W) (hm:W.length≤1000000) (hw:∀ x∈W,WLen x) (hB:B≤w.heap.size) (hT:TabW B w) :
  RetsP Tryz.prog 6 #[.agg (encGr g).toArray,.slice a W.length c] w (.int .i64 q):=by
 have:=quick_spec g a c W B w hG hl hW hm hw hB hT
 rwa [h] at this
theorem litW0 {w:World}:∀ x∈([]:List WyI),WyOk w x:=fun x h=>by cases h
theorem litWc {w:World} {y:WyI} {W:List WyI} (h:WyOk w y) (t:∀ x∈W,WyOk w x):∀ x∈y :: W,WyOk w x:=fun x hx=>by
 rcases List.mem_cons.1 hx with e | h2
 ·rw [e];exact h
 ·exact t x h2
theorem litW {w:World} {b:Nat} {cs:Array Value} {W:List WyI} (h:Blk w b (.cells cs 43 (0,0))) (hr:(W.map encWy).flatten=cs.toList) (he:∀ x∈W,WyOk w x) (hm:W.length≤maxLen:=by exact Nat.le_of_ble_eq_true rfl):WL w (some ⟨b,0,none⟩) W :=
 ⟨OwnT.sl (B:=0) (OwnT.of_blk (l:=W) h (Nat.zero_le _) hr (fun r hr=>by obtain ⟨x,_,rfl⟩:=List.mem_map.1 hr;rfl) hm),he⟩
theorem litWl {W:List WyI} (h:(W.all fun x=>decide (x.p.l.length≤1000000)&&decide (x.n.l.length≤1000000))=true):∀ x∈W,WLen x:=fun x hx=>by
 have:=List.all_eq_true.1 h x hx
 rw [Bool.and_eq_true] at this
 exact ⟨of_decide_eq_true this.1,of_decide_eq_true this.2⟩
theorem example_spec (w:World):RetsX Tryz.prog 8 #[] w (fun z:GrW=>.agg (encGr z).toArray) (fun z w'=>grV z=exG∧GOk w' z∧GLen z):=by
 refine enter (args:=[]) Tryz.func8 rfl Tryz.ntmps8 (by kernel_rfl) rfl ?_
 refine V.seq (V.region (VL.alloc Tryz.zeroValue25 fun b0_0 w0_0 hb0_0 e0_0 hB0_0=>VL.nil (V.seq (V.region (VL.makeSl (enc:=Vc.encI ) el22 ( (0:Int)) rfl rfl rfl (by decide) (by decide) (Nat.zero_le _) fun b1 w1 hb1 e1 ho1=>VL.buildSl Tryz.runUnderlying22 Tryz.sizeOf3 Tryz.zeroValue3 rfl rfl rfl fun b1_1 w1_1 hb1_1 e1_1 hB1_1=>VL.buildSl Tryz.runUnderlying22 Tryz.sizeOf3 Tryz.zeroValue3 rfl rfl rfl fun b1_2 w1_2 hb1_2 e1_2 hB1_2=>VL.buildSl Tryz.runUnderlying22 Tryz.sizeOf3 Tryz.zeroValue3 rfl rfl rfl fun b1_3 w1_3 hb1_3 e1_3 hB1_3=>VL.buildSl Tryz.runUnderlying22 Tryz.sizeOf3 Tryz.zeroValue3 rfl rfl rfl fun b1_4 w1_4 hb1_4 e1_4 hB1_4=>VL.buildSl Tryz.runUnderlying23 Tryz.sizeOf22 Tryz.zeroValue22 rfl rfl rfl fun b1_5 w1_5 hb1_5 e1_5 hB1_5=>VL.op (R.build Tryz.zeroValue25 Tryz.runUnderlying25 pl25 rfl) (VL.store (v:=.agg _) Tryz.sizeOf25 rfl rfl rfl rfl ((((((hB0_0.ext e1).ext e1_1).ext e1_2).ext e1_3).ext e1_4).ext e1_5) rfl rfl fun w1_7 m1_7 hs1_7 hB1_7=>VL.nil (V.ret (fretC rfl rfl rfl Tryz.isAgg25 Tryz.sizeOf25 rfl (hB1_7.rowAt 0 3) rfl (?_)))))))))
 have l0:=hB0_0.lt
 have l1:=ho1.lt b1 ⟨_,rfl,rfl⟩
 have n1:¬Vc.one b0_0 b1:=fun (h:b1=b0_0)=>by omega
 have s1:=e1.size
 have s2:=e1_1.size
 have s3:=e1_2.size
 have s4:=e1_3.size
 have s5:=e1_4.size
 have ne:∀ b,w0_0.heap.size≤b→¬Vc.one b0_0 b:=fun b hb (h:b=b0_0)=>by omega
 have f1:=(hB1_1.ext (e1_2.trans (e1_3.trans (e1_4.trans e1_5)))).mod m1_7 (ne _ (by omega))
 have f2:=(hB1_2.ext (e1_3.trans (e1_4.trans e1_5))).mod m1_7 (ne _ (by omega))
 have f3:=(hB1_3.ext (e1_4.trans e1_5)).mod m1_7 (ne _ (by omega))
 have f4:=(hB1_4.ext e1_5).mod m1_7 (ne _ (by omega))
 have f5:=hB1_5.mod m1_7 (ne _ (by omega))
 have f0:=(ho1.ext (e1_1.trans (e1_2.trans (e1_3.trans (e1_4.trans e1_5))))).mod m1_7 fun q hq=>by have:=aBlk_some hq;exact ne q (by omega)
 have eT:Ext w w1_7:=(e0_0.trans (e1.trans (e1_1.trans (e1_2.trans (e1_3.trans (e1_4.trans e1_5)))))).ownA m1_7 fun q (hq:q=b0_0)=>by omega
 refine ⟨⟨5,some ⟨b1,0,none⟩,5,List.replicate 5 0,some ⟨b1_5,0,none⟩,4,[⟨some ⟨b1_1,0,none⟩,2,[0,1]⟩,⟨some ⟨b1_2,0,none⟩,2,[0,2]⟩,⟨some ⟨b1_3,0,none⟩,2,[1,2]⟩,⟨some ⟨b1_4,0,none⟩,1,[3]⟩]⟩,rfl,⟨rfl,⟨f0.sl,litL f5 rfl (litA (litI f1 rfl (by decide)) (litA (litI f2 rfl (by decide)) (litA (litI f3 rfl (by decide)) (litA (litI f4 rfl (by decide)) litA0))))⟩,⟨Nat.le_of_ble_eq_true rfl,Nat.le_of_ble_eq_true rfl,fun x hx=>?_⟩⟩,eT⟩
 simp only [List.mem_cons,List.not_mem_nil,or_false] at hx
 rcases hx with rfl | rfl | rfl | rfl <;> exact ⟨Nat.le_of_ble_eq_true rfl,fun h=>by cases h⟩
theorem hr1 (z:GrW) (h:grV z=exG):sumsF (grV z) [5,-2,3,100,7]=(5,12,0):=by rw [h];decide +kernel
theorem hr2 (z:GrW) (h:grV z=exG):sumsF (grV z) [5]=(0,0,1):=by rw [h];decide +kernel
theorem hq1 (z:GrW) (h:grV z=exG):quickF (grV z) [⟨[4],[3]⟩]=1:=by rw [h];decide +kernel
theorem hq2 (z:GrW) (h:grV z=exG):quickF (grV z) [⟨[0,1],[]⟩,⟨[2],[4]⟩]=3:=by rw [h];decide +kernel
theorem hq3 (z:GrW) (h:grV z=exG):quickF (grV z) [⟨[0],[]⟩]=0:=by rw [h];decide +kernel
theorem hq4 (z:GrW) (h:grV z=exG):quickF (grV z) []=3:=by rw [h];decide +kernel
theorem hq5 (z:GrW) (h:grV z=exG):quickF (grV z) [⟨[5],[]⟩]=0:=by rw [h];decide +kernel
theorem head32_spec (B:Nat) (w:World) (hB:B≤w.heap.size) (hT:TabW B w):RetsP Tryz.prog 4 #[] w (.bool true):=by
 refine enter (args:=[]) Tryz.func4 rfl Tryz.ntmps4 (by kernel_rfl) rfl ?_
 refine V.seq (V.region (VL.op (R.asB rfl) (VL.nil (V.seq (V.region (VL.callX Tryz.call8 rfl (example_spec _) fun z w1c ⟨hz,hO,hgl⟩ e1c=>VL.allocSt (v:=.agg (encGr z).toArray) Tryz.zeroValue25 Tryz.sizeOf25 rfl rfl rfl rfl rfl fun b1_1 w1_1 hb1_1 e1_1 hB1_1=>VL.nil (V.seq (V.region (VL.op (R.ldA Tryz.isAgg25 Tryz.sizeOf25 rfl rfl ((show RowAt _ _ _ (encGr z) from (hB1_1.rowAt 0 3))) rfl) (VL.buildSl Tryz.runUnderlying22 Tryz.sizeOf3 Tryz.zeroValue3 rfl rfl rfl fun b2_1 w2_1 hb2_1 e2_1 hB2_1=>VL.callP Tryz.call9 rfl (range_is z (some ⟨b2_1,0,none⟩) 5 ([5,-2,3,100,7]:List Int) B _ (hr1 z hz) (hO.ext (e1_1.trans e2_1)) hgl (litI (l:=([5,-2,3,100,7]:List Int)) (hB2_1) rfl (by decide)) (by decide) (Nat.le_trans hB (((e1c.trans e1_1).trans e2_1)).size) (hT.ext hB ((e1c.trans e1_1).trans e2_1))) fun w2_2 e2_2=>VL.op (R.mvT rfl) (VL.op (R.extr rfl rfl) (VL.op (R.extr rfl rfl) (VL.op (R.extr rfl rfl) (VL.op (R.asI rfl) (VL.op (R.asI rfl) (VL.op (R.asI rfl) (VL.nil (V.seq (V.region (VL.op (R.ldA Tryz.isAgg25 Tryz.sizeOf25 rfl rfl ((show RowAt _ _ _ (encGr z) from (((hB1_1.ext e2_1).ext e2_2).rowAt 0 3))) rfl) (VL.buildSl Tryz.runUnderlying22 Tryz.sizeOf3 Tryz.zeroValue3 rfl rfl rfl fun b3_1 w3_1 hb3_1 e3_1 hB3_1=>VL.callP Tryz.call9 rfl (range_is z (some ⟨b3_1,0,none⟩) 1 ([5]:List Int) B _ (hr2 z hz) (hO.ext (e1_1.trans (e2_1.trans (e2_2.trans e3_1)))) hgl (litI (l:=([5]:List Int)) (hB3_1) rfl (by decide)) (by decide) (Nat.le_trans hB (((((e1c.trans e1_1).trans e2_1).trans e2_2).trans e3_1)).size) (hT.ext hB ((((e1c.trans e1_1).trans e2_1).trans e2_2).trans e3_1))) fun w3_2 e3_2=>VL.op (R.mvT rfl) (VL.op (R.extr rfl rfl) (VL.op (R.extr rfl rfl) (VL.op (R.extr rfl rfl) (VL.op (R.asI rfl) (VL.op (R.asI rfl) (VL.op (R.asI rfl) (VL.nil (V.seq (V.region (VL.op (R.ldA Tryz.isAgg25 Tryz.sizeOf25 rfl rfl ((show RowAt _ _ _ (encGr z) from (((((hB1_1.ext e2_1).ext e2_2).ext e3_1).ext e3_2).rowAt 0 3))) rfl) (VL.buildSl Tryz.runUnderlying22 Tryz.sizeOf3 Tryz.zeroValue3 rfl rfl rfl fun b4_1 w4_1 hb4_1 e4_1 hB4_1=>VL.buildSl Tryz.runUnderlying22 Tryz.sizeOf3 Tryz.zeroValue3 rfl rfl rfl fun b4_2 w4_2 hb4_2 e4_2 hB4_2=>VL.op (R.build Tryz.zeroValue43 Tryz.runUnderlying43 pl43 rfl) (VL.buildSl Tryz.runUnderlying26 Tryz.sizeOf43 Tryz.zeroValue43 rfl rfl rfl fun b4_4 w4_4 hb4_4 e4_4 hB4_4=>VL.callP Tryz.call6 rfl (quick_is z (some ⟨b4_4,0,none⟩) 1 ([⟨⟨some ⟨b4_1,0,none⟩,1,([4]:List Int)⟩,⟨some ⟨b4_2,0,none⟩,1,([3]:List Int)⟩⟩]:List WyI) B _ (hq1 z hz) (hO.ext (e1_1.trans (e2_1.trans (e2_2.trans (e3_1.trans (e3_2.trans (e4_1.trans (e4_2.trans e4_4)))))))) hgl (litW (W:=([⟨⟨some ⟨b4_1,0,none⟩,1,([4]:List Int)⟩,⟨some ⟨b4_2,0,none⟩,1,([3]:List Int)⟩⟩]:List WyI)) (hB4_4) rfl (litWc ⟨(litI (l:=([4]:List Int)) (hB4_1.ext (e4_2.trans e4_4)) rfl (by decide)),(litI (l:=([3]:List Int)) (hB4_2.ext e4_4) rfl (by decide))⟩ litW0)) (Nat.le_of_ble_eq_true rfl) (litWl rfl) (Nat.le_trans hB (((((((((e1c.trans e1_1).trans e2_1).trans e2_2).trans e3_1).trans e3_2).trans e4_1).trans e4_2).trans e4_4)).size) (hT.ext hB ((((((((e1c.trans e1_1).trans e2_1).trans e2_2).trans e3_1).trans e3_2).trans e4_1).trans e4_2).trans e4_4))) fun w4_5 e4_5=>VL.op (R.lit (R.eql rfl rfl) ((decide_eq_true rfl))) (VL.op (R.mvB rfl) (VL.gT rfl rfl (VL.op (R.ldA Tryz.isAgg25 Tryz.sizeOf25 rfl rfl ((show RowAt _ _ _ (encGr z) from (((((((((hB1_1.ext e2_1).ext e2_2).ext e3_1).ext e3_2).ext e4_1).ext e4_2).ext e4_4).ext e4_5).rowAt 0 3))) rfl) (VL.gT rfl rfl (VL.buildSl Tryz.runUnderlying22 Tryz.sizeOf3 Tryz.zeroValue3 rfl rfl rfl fun b4_9 w4_9 hb4_9 e4_9 hB4_9=>VL.gT rfl rfl (VL.op (R.build Tryz.zeroValue43 Tryz.runUnderlying43 pl43 rfl) (VL.gT rfl rfl (VL.buildSl Tryz.runUnderlying22 Tryz.sizeOf3 Tryz.zeroValue3 rfl rfl rfl fun b4_11 w4_11 hb4_11 e4_11 hB4_11=>VL.gT rfl rfl (VL.buildSl Tryz.runUnderlying22 Tryz.sizeOf3 Tryz.zeroValue3 rfl rfl rfl fun b4_12 w4_12 hb4_12 e4_12 hB4_12=>VL.gT rfl rfl (VL.op (R.build Tryz.zeroValue43 Tryz.runUnderlying43 pl43 rfl) (VL.gT rfl rfl (VL.buildSl Tryz.runUnderlying26 Tryz.sizeOf43 Tryz.zeroValue43 rfl rfl rfl fun b4_14 w4_14 hb4_14 e4_14 hB4_14=>VL.gT rfl rfl (VL.callP Tryz.call6 rfl (quick_is z (some ⟨b4_14,0,none⟩) 2 ([⟨⟨some ⟨b4_9,0,none⟩,2,([0,1]:List Int)⟩,⟨none,0,([]:List Int)⟩⟩,⟨⟨some ⟨b4_11,0,none⟩,1,([2]:List Int)⟩,⟨some ⟨b4_12,0,none⟩,1,([4]:List Int)⟩⟩]:List WyI) B _ (hq2 z hz) (hO.ext (e1_1.trans (e2_1.trans (e2_2.trans (e3_1.trans (e3_2.trans (e4_1.trans (e4_2.trans (e4_4.trans (e4_5.trans (e4_9.trans (e4_11.trans (e4_12.trans e4_14))))))))))))) hgl (litW (W:=([⟨⟨some ⟨b4_9,0,none⟩,2,([0,1]:List Int)⟩,⟨none,0,([]:List Int)⟩⟩,⟨⟨some ⟨b4_11,0,none⟩,1,([2]:List Int)⟩,⟨some ⟨b4_12,0,none⟩,1,([4]:List Int)⟩⟩]:List WyI)) (hB4_14) rfl (litWc ⟨(litI (l:=([0,1]:List Int)) (hB4_9.ext (e4_11.trans (e4_12.trans e4_14))) rfl (by decide)),TSl.nil _ _ _ _⟩ (litWc ⟨(litI (l:=([2]:List Int)) (hB4_11.ext (e4_12.trans e4_14)) rfl (by decide)),(litI (l:=([4]:List Int)) (hB4_12.ext e4_14) rfl (by decide))⟩ litW0))) (Nat.le_of_ble_eq_true rfl) (litWl rfl) (Nat.le_trans hB ((((((((((((((e1c.trans e1_1).trans e2_1).trans e2_2).trans e3_1).trans e3_2).trans e4_1).trans e4_2).trans e4_4).trans e4_5).trans e4_9).trans e4_11).trans e4_12).trans e4_14)).size) (hT.ext hB (((((((((((((e1c.trans e1_1).trans e2_1).trans e2_2).trans e3_1).trans e3_2).trans e4_1).trans e4_2).trans e4_4).trans e4_5).trans e4_9).trans e4_11).trans e4_12).trans e4_14))) fun w4_15 e4_15=>VL.gT rfl rfl (VL.op (R.lit (R.eql rfl rfl) ((decide_eq_true rfl))) (VL.op (R.pickTB rfl rfl) (VL.op (R.mvB rfl) (VL.gT rfl rfl (VL.op (R.ldA Tryz.isAgg25 Tryz.sizeOf25 rfl rfl ((show RowAt _ _ _ (encGr z) from ((((((((((((((hB1_1.ext e2_1).ext e2_2).ext e3_1).ext e3_2).ext e4_1).ext e4_2).ext e4_4).ext e4_5).ext e4_9).ext e4_11).ext e4_12).ext e4_14).ext e4_15).rowAt 0 3))) rfl) (VL.gT rfl rfl (VL.buildSl Tryz.runUnderlying22 Tryz.sizeOf3 Tryz.zeroValue3 rfl rfl rfl fun b4_20 w4_20 hb4_20 e4_20 hB4_20=>VL.gT rfl rfl (VL.op (R.build Tryz.zeroValue43 Tryz.runUnderlying43 pl43 rfl) (VL.gT rfl rfl (VL.buildSl Tryz.runUnderlying26 Tryz.sizeOf43 Tryz.zeroValue43 rfl rfl rfl fun b4_22 w4_22 hb4_22 e4_22 hB4_22=>VL.gT rfl rfl (VL.callP Tryz.call6 rfl (quick_is z (some ⟨b4_22,0,none⟩) 1 ([⟨⟨some ⟨b4_20,0,none⟩,1,([0]:List Int)⟩,⟨none,0,([]:List Int)⟩⟩]:List WyI) B _ (hq3 z hz) (hO.ext (e1_1.trans (e2_1.trans (e2_2.trans (e3_1.trans (e3_2.trans (e4_1.trans (e4_2.trans (e4_4.trans (e4_5.trans (e4_9.trans (e4_11.trans (e4_12.trans (e4_14.trans (e4_15.trans (e4_20.trans e4_22)))))))))))))))) hgl (litW (W:=([⟨⟨some ⟨b4_20,0,none⟩,1,([0]:List Int)⟩,⟨none,0,([]:List Int)⟩⟩]:List WyI)) (hB4_22) rfl (litWc ⟨(litI (l:=([0]:List Int)) (hB4_20.ext e4_22) rfl (by decide)),TSl.nil _ _ _ _⟩ litW0)) (Nat.le_of_ble_eq_true rfl) (litWl rfl) (Nat.le_trans hB (((((((((((((((((e1c.trans e1_1).trans e2_1).trans e2_2).trans e3_1).trans e3_2).trans e4_1).trans e4_2).trans e4_4).trans e4_5).trans e4_9).trans e4_11).trans e4_12).trans e4_14).trans e4_15).trans e4_20).trans e4_22)).size) (hT.ext hB ((((((((((((((((e1c.trans e1_1).trans e2_1).trans e2_2).trans e3_1).trans e3_2).trans e4_1).trans e4_2).trans e4_4).trans e4_5).trans e4_9).trans e4_11).trans e4_12).trans e4_14).trans e4_15).trans e4_20).trans e4_22))) fun w4_23 e4_23=>VL.gT rfl rfl (VL.op (R.lit (R.eql rfl rfl) ((decide_eq_true rfl))) (VL.op (R.pickTB rfl rfl) (VL.op (R.asB rfl) (VL.nil (V.seq (V.region (VL.op (R.mvB rfl) (VL.op (R.mvB rfl) (VL.gT rfl rfl (VL.op (R.mvI rfl) (VL.gT rfl rfl (VL.op (R.lit (R.eql rfl rfl) ((decide_eq_true rfl))) (VL.op (R.pickTB rfl rfl) (VL.op (R.mvB rfl) (VL.gT rfl rfl (VL.op (R.mvI rfl) (VL.gT rfl rfl (VL.op (R.lit (R.eql rfl rfl) ((decide_eq_true rfl))) (VL.op (R.pickTB rfl rfl) (VL.op (R.mvB rfl) (VL.gT rfl rfl (VL.op (R.mvI rfl) (VL.gT rfl rfl (VL.op (R.lit (R.eql rfl rfl) ((decide_eq_true rfl))) (VL.op (R.pickTB rfl rfl) (VL.op (R.mvB rfl) (VL.gT rfl rfl (VL.op (R.mvI rfl) (VL.gT rfl rfl (VL.op (R.lit (R.eql rfl rfl) ((decide_eq_true rfl))) (VL.op (R.pickTB rfl rfl) (VL.op (R.mvB rfl) (VL.gT rfl rfl (VL.op (R.ldA Tryz.isAgg25 Tryz.sizeOf25 rfl rfl ((show RowAt _ _ _ (encGr z) from (((((((((((((((((hB1_1.ext e2_1).ext e2_2).ext e3_1).ext e3_2).ext e4_1).ext e4_2).ext e4_4).ext e4_5).ext e4_9).ext e4_11).ext e4_12).ext e4_14).ext e4_15).ext e4_20).ext e4_22).ext e4_23).rowAt 0 3))) rfl) (VL.gT rfl rfl (VL.callP Tryz.call6 rfl (quick_is z none 0 [] B _ (hq4 z hz) (hO.ext (e1_1.trans (e2_1.trans (e2_2.trans (e3_1.trans (e3_2.trans (e4_1.trans (e4_2.trans (e4_4.trans (e4_5.trans (e4_9.trans (e4_11.trans (e4_12.trans (e4_14.trans (e4_15.trans (e4_20.trans (e4_22.trans e4_23))))))))))))))))) hgl ⟨TSl.nil _ _ _ _,fun x h=>nomatch h⟩ (Nat.le_of_ble_eq_true rfl) (litWl rfl) (Nat.le_trans hB ((((((((((((((((((e1c.trans e1_1).trans e2_1).trans e2_2).trans e3_1).trans e3_2).trans e4_1).trans e4_2).trans e4_4).trans e4_5).trans e4_9).trans e4_11).trans e4_12).trans e4_14).trans e4_15).trans e4_20).trans e4_22).trans e4_23)).size) (hT.ext hB (((((((((((((((((e1c.trans e1_1).trans e2_1).trans e2_2).trans e3_1).trans e3_2).trans e4_1).trans e4_2).trans e4_4).trans e4_5).trans e4_9).trans e4_11).trans e4_12).trans e4_14).trans e4_15).trans e4_20).trans e4_22).trans e4_23))) fun w5_19 e5_19=>VL.gT rfl rfl (VL.op (R.lit (R.eql rfl rfl) ((decide_eq_true rfl))) (VL.op (R.pickTB rfl rfl) (VL.op (R.mvB rfl) (VL.gT rfl rfl (VL.op (R.ldA Tryz.isAgg25 Tryz.sizeOf25 rfl rfl ((show RowAt _ _ _ (encGr z) from ((((((((((((((((((hB1_1.ext e2_1).ext e2_2).ext e3_1).ext e3_2).ext e4_1).ext e4_2).ext e4_4).ext e4_5).ext e4_9).ext e4_11).ext e4_12).ext e4_14).ext e4_15).ext e4_20).ext e4_22).ext e4_23).ext e5_19).rowAt 0 3))) rfl) (VL.gT rfl rfl (VL.buildSl Tryz.runUnderlying22 Tryz.sizeOf3 Tryz.zeroValue3 rfl rfl rfl fun b5_24 w5_24 hb5_24 e5_24 hB5_24=>VL.gT rfl rfl (VL.op (R.build Tryz.zeroValue43 Tryz.runUnderlying43 pl43 rfl) (VL.gT rfl rfl (VL.buildSl Tryz.runUnderlying26 Tryz.sizeOf43 Tryz.zeroValue43 rfl rfl rfl fun b5_26 w5_26 hb5_26 e5_26 hB5_26=>VL.gT rfl rfl (VL.callP Tryz.call6 rfl (quick_is z (some ⟨b5_26,0,none⟩) 1 ([⟨⟨some ⟨b5_24,0,none⟩,1,([5]:List Int)⟩,⟨none,0,([]:List Int)⟩⟩]:List WyI) B _ (hq5 z hz) (hO.ext (e1_1.trans (e2_1.trans (e2_2.trans (e3_1.trans (e3_2.trans (e4_1.trans (e4_2.trans (e4_4.trans (e4_5.trans (e4_9.trans (e4_11.trans (e4_12.trans (e4_14.trans (e4_15.trans (e4_20.trans (e4_22.trans (e4_23.trans (e5_19.trans (e5_24.trans e5_26)))))))))))))))))))) hgl (litW (W:=([⟨⟨some ⟨b5_24,0,none⟩,1,([5]:List Int)⟩,⟨none,0,([]:List Int)⟩⟩]:List WyI)) (hB5_26) rfl (litWc ⟨(litI (l:=([5]:List Int)) (hB5_24.ext e5_26) rfl (by decide)),TSl.nil _ _ _ _⟩ litW0)) (Nat.le_of_ble_eq_true rfl) (litWl rfl) (Nat.le_trans hB (((((((((((((((((((((e1c.trans e1_1).trans e2_1).trans e2_2).trans e3_1).trans e3_2).trans e4_1).trans e4_2).trans e4_4).trans e4_5).trans e4_9).trans e4_11).trans e4_12).trans e4_14).trans e4_15).trans e4_20).trans e4_22).trans e4_23).trans e5_19).trans e5_24).trans e5_26)).size) (hT.ext hB ((((((((((((((((((((e1c.trans e1_1).trans e2_1).trans e2_2).trans e3_1).trans e3_2).trans e4_1).trans e4_2).trans e4_4).trans e4_5).trans e4_9).trans e4_11).trans e4_12).trans e4_14).trans e4_15).trans e4_20).trans e4_22).trans e4_23).trans e5_19).trans e5_24).trans e5_26))) fun w5_27 e5_27=>VL.gT rfl rfl (VL.op (R.lit (R.eql rfl rfl) ((decide_eq_true rfl))) (VL.op (R.pickTB rfl rfl) (VL.op (R.asB rfl) (VL.nil (V.ret (fret1 (v:=.bool _) rfl rfl rfl (⟨rfl,(((((((((((((((((((((e1c.trans e1_1).trans e2_1).trans e2_2).trans e3_1).trans e3_2).trans e4_1).trans e4_2).trans e4_4).trans e4_5).trans e4_9).trans e4_11).trans e4_12).trans e4_14).trans e4_15).trans e4_20).trans e4_22).trans e4_23).trans e5_19).trans e5_24).trans e5_26).trans e5_27)⟩)))))))))))))))))))))))))))))))))))))))))))))))))))))))))))))))))))))))))))))))))))))))))))))))))))))))))))))))
end Go.Proofs.YtjocoefpnboccaaGreatDoor

/- Bound: the walk of law BoundTrue. -/
namespace Go.Proofs.YtjocoefpnboccaaGreatDoor
open Go.Vc
theorem FewW.wlen {W:List WyI} {n m:Int} (h:FewW W n m) (hm:m≤1000000):∀ x∈W,WLen x:=fun x hx=>by
 have:=h.e x hx
 exact ⟨by omega,by omega⟩
end Go.Proofs.YtjocoefpnboccaaGreatDoor

/- Bound: the walk of law BoundSolve. -/
namespace Go.Proofs.YtjocoefpnboccaaGreatDoor
open Go.Vc
set_option maxRecDepth 100000
set_option maxHeartbeats 16000000
theorem GIn.ext32 {w w':World} {g:GrW} (h:GIn w g) (e:Ext w w'):GIn w' g:=⟨h.ok.ext e,h.c,h.e,h.hc,h.he⟩
theorem WIn.ext32 {w w':World} {a:Option Addr} {W:List WyI} (h:WIn w a W) (e:Ext w w'):WIn w' a W:=⟨h.sl.ext e,h.len,h.each⟩
theorem quick_dc {g:Gr} {W:List Wy} (hn:g.n≤40) (hq:quickF g W≠0):(decideF g W).2=3∨((decideF g W).2=0∧(decideF g W).1.1=quickF g W):=by
 have hc:(quickF g W=1∧readyG g W=true∧W.any (certW g.edges)=true)∨(quickF g W=3∧readyG g W=true∧W.all (neverW g.edges)=true):=by
  rcases quick_cases g W with h | h | h
  ·exact absurd h hq
  ·exact .inl h
  ·exact .inr ⟨h.1,h.2.1,h.2.2.2⟩
 have hr:readyG g W=true:=by
  rcases hc with h | h
  ·exact h.2.1
  ·exact h.2.1
 have hv:=(ready_ok hr true []).v
 have hn0:=(costB_iff.1 (validG_iff.1 hv).1).1
 have hp:((ptI g W).length:Int)≤g.n:=set_len (srt_lt (ptL_nd hv W)) (fun v hvm=>ptI_rng hv hvm) hn0
 have he:errG g W=0:=by
  unfold errG
  rw [if_pos hr,if_neg (by omega)]
 obtain ⟨Z,hZ⟩:∃ X,IsRep g X:=by
  obtain ⟨X,hX⟩:=List.exists_mem_of_ne_nil _ (reps_ne hv)
  exact ⟨X,(reps_mem hv).1 hX⟩
 rcases hc with ⟨q1,_,q3⟩ | ⟨q1,_,q3⟩
 ·have hall:∀ X,IsRep g X→someW W X=true:=fun X hX=>quick_certain hX hr q3
  rcases decide_cases he with ⟨R,Q,h1,_,_,_,h3⟩ | ⟨R,S,h1,_⟩ | ⟨Q,S,h1,_,_,h3,_⟩ | ⟨h1,_⟩
  ·have:=hall Q h3.r;rw [h3.s] at this;cases this
  ·rw [h1,q1];exact .inr ⟨rfl,rfl⟩
  ·have:=hall Q h3.r;rw [h3.s] at this;cases this
  ·rw [h1];exact .inl rfl
 ·have hno:∀ X,IsRep g X→someW W X=false:=fun X hX=>quick_never hX hr q3
  rcases decide_cases he with ⟨R,Q,h1,_,_,h3,_⟩ | ⟨R,S,h1,_,_,h3,_⟩ | ⟨Q,S,h1,_⟩ | ⟨h1,_⟩
  ·have:=hno R h3.r;rw [h3.s] at this;cases this
  ·have:=hno R h3.r;rw [h3.s] at this;cases this
  ·rw [h1,q1];exact .inr ⟨rfl,rfl⟩
  ·rw [h1];exact .inl rfl
theorem solve_law (g:GrW) (wa:Option Addr) (wc:Nat) (W:List WyI) (B:Nat) (w:World) (hI:GIn w g) (hW:WIn w wa W) (hx:∀ y∈W,(y.p.a=none→y.p.c=0)∧(y.n.a=none→y.n.c=0)) (hB:B≤w.heap.size) (hT:TabW B w) :
  RetsP Tryz.prog 3 #[.agg (encGr g).toArray,.slice wa W.length wc] w (.bool true):=by
 refine enter (args:=[_,_]) Tryz.func3 rfl Tryz.ntmps3 (by kernel_rfl) rfl ?_
 refine V.seq (V.region (VL.box (v:=.agg _) rfl fun b0_0 w0_0 hb0_0 e0_0 hB0_0=>VL.op (R.asB rfl) (VL.nil (V.seq (V.region (VL.callP Tryz.call4 rfl (head32_spec B _ (Nat.le_trans hB (e0_0).size) (hT.ext hB e0_0)) fun w1_0 e1_0=>VL.op (R.asB rfl) (VL.nil (V.seq (V.seq (V.region (VL.op (R.ldA Tryz.isAgg25 Tryz.sizeOf25 rfl rfl ((show RowAt _ _ _ (encGr g) from ((hB0_0.ext e1_0).rowAt 0 3))) rfl) (VL.op (R.mvS rfl) (VL.callX Tryz.call5 rfl (few32_spec g W wa wc 20 _ (hI.ext32 (e0_0.trans e1_0)) (hW.ext32 (e0_0.trans e1_0))) fun b2 w2 h2 e2=>VL.op (R.not rfl) (VL.nil (V.cond rfl (fun c13=>V.seq (V.region (VL.op (R.mvB rfl) (VL.op (R.asB rfl) (VL.nil (V.ret (fret1 (v:=.bool _) rfl rfl rfl (⟨rfl,((e0_0.trans e1_0).trans e2)⟩)))))))) (fun c13=>V.skip (V.seq (?_))))))))))))))))))
 have hsm:=h2 (by simpa using c13)
 have hgn:=hsm.1
 have hgl:=hI.glen hsm.2.2.1
 have hwn:=hsm.2.2.2.n
 have hwl:=hsm.2.2.2.wlen (by decide)
 have E2:=(e0_0.trans e1_0).trans e2
 have hX2:Blk w2 b0_0 (.cells (Value.agg (encGr g).toArray).cells 25 (0,0)):=hB0_0.ext (e1_0.trans e2)
 refine V.region (VL.op (R.ldA Tryz.isAgg25 Tryz.sizeOf25 rfl rfl ((show RowAt _ _ _ (encGr g) from hX2.rowAt 0 3)) rfl) (VL.op (R.mvS rfl) (VL.callP Tryz.call6 rfl (quick_spec g wa wc W B _ (hI.ok.ext E2) hgl (hW.sl.ext E2) (by omega) hwl (Nat.le_trans hB E2.size) (hT.ext hB E2)) fun w4_2 e4_2=>VL.op (R.asI rfl) (VL.nil (V.seq (V.seq (?_)))))))
 have E4:=E2.trans e4_2
 have hX4:=hX2.ext e4_2
 refine V.region (VL.op (R.mvI rfl) (VL.op (R.eql rfl rfl) (VL.nil (V.condP rfl (fun c19=>V.seq (V.region (VL.op (R.mvB rfl) (VL.op (R.asB rfl) (VL.nil (V.ret (fret1 (v:=.bool _) rfl rfl rfl (⟨rfl,E4⟩)))))))) (fun c19=>V.skip (V.seq (?_)))))))
 refine V.region (VL.op (R.ldA Tryz.isAgg25 Tryz.sizeOf25 rfl rfl ((show RowAt _ _ _ (encGr g) from hX4.rowAt 0 3)) rfl) (VL.op (R.mvS rfl) (VL.callX Tryz.call7 rfl (decide29_spec g wa wc W B _ (hI.ok.ext E4) hgl (hW.sl.ext E4) hwl hx (by omega) (Nat.le_trans hB E4.size) (hT.ext hB E4)) fun z w7 h7 e7=>VL.op (R.mvT rfl) (VL.op (R.extr rfl rfl) (VL.op (R.extr rfl rfl) (VL.allocSt (v:=.agg _) Tryz.zeroValue34 Tryz.sizeOf34 rfl rfl rfl rfl rfl fun b7_6 w7_6 hb7_6 e7_6 hB7_6=>VL.op (R.asI rfl) (VL.nil (V.seq (?_)))))))))
 have E7:Ext w w7_6:=E4.trans (e7.trans e7_6)
 have hY:Blk w7_6 b7_6 (.cells (Value.agg (encCm z.1).toArray).cells 34 (0,0)):=hB7_6
 have hD:=h7.e
 clear hB7_6
 have hq:=quick_dc (g:=grV g) (W:=W.map wyV) (by show g.n≤40;omega) (by assumption)
 rw [←hD] at hq
 dsimp only at hq
 rcases hq with h3 | ⟨h0,h1⟩
 ·refine V.region (VL.op (R.mvB rfl) (VL.op (R.mvB rfl) (VL.gT rfl rfl (VL.op (R.mvI rfl) (VL.gT rfl rfl (VL.op (R.lit (R.eql rfl rfl) ((decide_eq_true h3))) (VL.gT rfl rfl (VL.op (R.mvB rfl) (VL.gF rfl rfl (VL.gF rfl rfl (VL.gF rfl rfl (VL.gU rfl rfl (VL.gU rfl rfl (VL.gU rfl rfl (VL.gU rfl rfl (VL.gF rfl rfl (VL.gT rfl rfl (VL.op (R.pickTB rfl rfl) (VL.op (R.pickTB rfl rfl) (VL.op (R.asB rfl) (VL.nil (V.ret (fret1 (v:=.bool _) rfl rfl rfl (⟨rfl,E7⟩))))))))))))))))))))))))
 ·refine V.region (VL.op (R.mvB rfl) (VL.op (R.mvB rfl) (VL.gT rfl rfl (VL.op (R.mvI rfl) (VL.gT rfl rfl (VL.op (R.lit (R.eql rfl rfl) ((decide_eq_false (by omega)))) (VL.gT rfl rfl (VL.op (R.mvB rfl) (VL.gT rfl rfl (VL.op (R.mvI rfl) (VL.gT rfl rfl (VL.op (R.lit (R.eql rfl rfl) ((decide_eq_true h0))) (VL.gT rfl rfl (VL.op (R.mvB rfl) (VL.gT rfl rfl (VL.op (R.fld' (o:=0) Tryz.runUnderlying34 rfl rfl Tryz.sizeOf3 rfl rfl) (VL.gT rfl rfl (VL.op (R.ld1 Tryz.isAgg3 rfl ((show _=some (Value.int .i64 z.1.v) from hY.cell 0))) (VL.gT rfl rfl (VL.op (R.mvI rfl) (VL.gT rfl rfl (VL.op (R.lit (R.eql rfl rfl) ((decide_eq_true h1))) (VL.gT rfl rfl (VL.op (R.pickTB rfl rfl) (VL.gT rfl rfl (VL.op (R.pickFB rfl rfl) (VL.op (R.pickTB rfl rfl) (VL.op (R.asB rfl) (VL.nil (V.ret (fret1 (v:=.bool _) rfl rfl rfl (⟨rfl,E7⟩))))))))))))))))))))))))))))))))
end Go.Proofs.YtjocoefpnboccaaGreatDoor
