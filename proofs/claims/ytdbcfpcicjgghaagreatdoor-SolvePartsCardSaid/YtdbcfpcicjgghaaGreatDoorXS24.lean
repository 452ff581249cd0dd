/- Solve: plain values at the head's examples. -/
import Derived.Test.YtdbcfpcicjgghaaGreatDoorXS17
import Derived.Test.YtdbcfpcicjgghaaGreatDoorXS20
import Derived.Test.YtdbcfpcicjgghaaGreatDoorXH22a
namespace Go.Proofs.YtdbcfpcicjgghaaGreatDoor
set_option maxHeartbeats 16000000
open Go.Vc
theorem srt_id {l:List Int} (h:l.Pairwise (· < ·)):srtF l=l :=
 inc_ext (srt_lt (inc_nodup h)) h fun x=>srtF_mem l x
def existsP (g:Gr) (W:List Wy) (h:Bool) (pt:List Int):List Int×List St4×Int :=
 if (if readyG g W=true then (if 40<pt.length then (17:Int) else 0) else 1)=0 then
  match srchF ⟨g.n,g.edges,W,h,[]⟩ 100000 (sgN g W++pt.map Int.toNat) (-1) (zerS g) [] with
  | .full=>([],[],3)
  | .found st=>(extF g (insA st g.n.toNat),[],0)
  | .proof S=>([],S,0)
 else ([],[],(if readyG g W=true then (if 40<pt.length then (17:Int) else 0) else 1))
theorem existsP_eq {g:Gr} {W:List Wy} {h:Bool} {pt:List Int} (hp:ptI g W=pt):existsF g W h=existsP g W h pt:=by subst hp;rfl
def decideP (g:Gr) (W:List Wy) (pt:List Int):(Int×List Int×List Int×List St4)×Int :=
 let A:=existsP g W true pt
 let B:=existsP g W false pt
 if A.2.2≠0 then ((0,[],[],[]),A.2.2) else if B.2.2≠0 then ((0,[],[],[]),B.2.2) else
  if 0<A.2.1.length then ((3,A.1,B.1,A.2.1),0) else if 0<B.2.1.length then ((1,A.1,B.1,B.2.1),0) else ((2,A.1,B.1,[]),0)
theorem decideP_eq {g:Gr} {W:List Wy} {pt:List Int} (hp:ptI g W=pt):decideF g W=decideP g W pt:=by
 unfold decideF decideP
 rw [existsP_eq hp,existsP_eq hp]
def gH:Gr:=⟨3,[0,0,0],[[0,1],[1,2]]⟩
theorem pt_H (W:List Wy) (h:ptL W (compsG gH)=[0,1,2]):ptI gH W=[0,1,2]:=by
 unfold ptI
 rw [h]
 exact srt_id (by decide)
def dcV (r:(Int×List Int×List Int×List St4)×Int):Int×List Int×List Int×Int:=(r.1.1,r.1.2.1,r.1.2.2.1,r.2)
theorem hd_a:dcV (decideF gH [⟨[0],[]⟩])=(2,[0,2],[1],0):=by rw [decideP_eq (pt_H _ (by decide +kernel))];decide +kernel
theorem hd_b:dcV (decideF gH [⟨[0],[]⟩,⟨[1],[]⟩])=(1,[0,2],[],0):=by rw [decideP_eq (pt_H _ (by decide +kernel))];decide +kernel
theorem hd_c:dcV (decideF gH [⟨[0,1],[]⟩])=(3,[],[0,2],0):=by rw [decideP_eq (pt_H _ (by decide +kernel))];decide +kernel
theorem hd_d:dcV (decideF gH [])=(3,[],[0,2],0):=by decide +kernel
theorem hd_x:(existsF gH [⟨[],[0]⟩] true).1=[1]∧(existsF gH [⟨[],[0]⟩] true).2.1.length=0∧(existsF gH [⟨[],[0]⟩] true).2.2=0:=by rw [existsP_eq (pt_H _ (by decide +kernel))];decide +kernel
theorem hd_k:(existsF gH [⟨[3],[]⟩] true).2.2=1:=by decide +kernel
theorem hd_pb:checkA gH [⟨[0],[]⟩,⟨[1],[]⟩] false (decideF gH [⟨[0],[]⟩,⟨[1],[]⟩]).1.2.2.2=true:=by rw [decideP_eq (pt_H _ (by decide +kernel))];decide +kernel
theorem hd_pd:checkA gH [] true (decideF gH []).1.2.2.2=true:=by decide +kernel
end Go.Proofs.YtdbcfpcicjgghaaGreatDoor

/- Solve: the fixed examples. -/
namespace Go.Proofs.YtdbcfpcicjgghaaGreatDoor
open Go.Vc
set_option maxRecDepth 100000
set_option maxHeartbeats 16000000
theorem litW0 {w:World}:∀ x∈([]:List WyI),WyOk w x:=fun x h=>by cases h
theorem litWc {w:World} {y:WyI} {W:List WyI} (h:WyOk w y) (t:∀ x∈W,WyOk w x):∀ x∈y :: W,WyOk w x:=fun x hx=>by
 rcases List.mem_cons.1 hx with e | h2
 ·rw [e];exact h
 ·exact t x h2
theorem litW {w:World} {b:Nat} {cs:Array Value} {W:List WyI} (h:Blk w b (.cells cs 53 (0,0))) (hr:(W.map encWy).flatten=cs.toList) (he:∀ x∈W,WyOk w x) (hm:W.length≤maxLen:=by exact Nat.le_of_ble_eq_true rfl):WL w (some ⟨b,0,none⟩) W :=
 ⟨OwnT.sl (B:=0) (OwnT.of_blk (l:=W) h (Nat.zero_le _) hr (fun r hr=>by obtain ⟨x,_,rfl⟩:=List.mem_map.1 hr;rfl) hm),he⟩
theorem litWl {W:List WyI} (h:(W.all fun x=>decide (x.p.l.length≤1000000)&&decide (x.n.l.length≤1000000))=true):∀ x∈W,WLen x:=fun x hx=>by
 have:=List.all_eq_true.1 h x hx
 rw [Bool.and_eq_true] at this
 exact ⟨of_decide_eq_true this.1,of_decide_eq_true this.2⟩
theorem litWh {W:List WyI} (h:(W.all fun x=>(x.p.a.isSome||x.p.c == 0)&&(x.n.a.isSome||x.n.c == 0))=true):∀ x∈W,(x.p.a=none→x.p.c=0)∧(x.n.a=none→x.n.c=0):=fun x hx=>by
 have:=List.all_eq_true.1 h x hx
 rw [Bool.and_eq_true] at this
 exact ⟨fun e=>by have h1:=this.1;rw [e] at h1;simpa using h1,fun e=>by have h1:=this.2;rw [e] at h1;simpa using h1⟩
theorem sets6 {a b c d e f:SlI} {k1 k2 k3 k4 k5 k6:SlI} (h1:a.l=k1.l) (h2:b.l=k2.l) (h3:c.l=k3.l) (h4:d.l=k4.l) (h5:e.l=k5.l) (h6:f.l=k6.l):vals [a,b,c,d,e,f]=vals [k1,k2,k3,k4,k5,k6]:=by
 show [a.l,b.l,c.l,d.l,e.l,f.l]=_
 rw [h1,h2,h3,h4,h5,h6];rfl
theorem sets6l {a b c d e f:SlI} (h1:a.l=[0,2]) (h2:b.l=[1]) (h3:c.l=[0,2]) (h4:d.l=[0,2]) (h5:e.l=[0,2]) (h6:f.l=[1]):∀ x∈[a,b,c,d,e,f],x.l.length≤9223372036854775807:=fun x hx=>by
 simp only [List.mem_cons,List.not_mem_nil,or_false] at hx
 rcases hx with e | e | e | e | e | e <;> subst e
 ·rw [h1];decide
 ·rw [h2];decide
 ·rw [h3];decide
 ·rw [h4];decide
 ·rw [h5];decide
 ·rw [h6];decide
theorem shows_is (g:GrW) (wa:Option Addr) (wc:Nat) (W:List WyI) (h:Bool) (sa:Option Addr) (sc:Nat) (S:List St4) (w:World) (hc:checkA (grV g) (W.map wyV) h S=true) (hG:GOk w g) (hl:GLen g) (hW:WL w wa W) (hWl:∀ y∈W,WLen y) (hWm:W.length≤1000000) (hS:TSl encS4 4 w sa S) :
  RetsP Tryz.prog 18 #[.agg (encGr g).toArray,.slice wa W.length wc,.bool h,.agg #[.slice sa S.length sc]] w (.bool true):=by
 have h1:S.length≤9223372036854775807:=by
  unfold checkA at hc
  rw [Bool.and_eq_true,Bool.and_eq_true,decide_eq_true_eq] at hc
  omega
 have:=rshows29_spec g wa wc W h sa sc S w hG hl hW hWl hWm hS h1
 rwa [hc] at this
theorem dc_of {w:World} {g:Gr} {W:List Wy} {z:CmX×Int} {w':World} {v c:Int} {a b:List Int} (h:DcK w (decideF g W) z w') (hd:dcV (decideF g W)=(v,a,b,c)):z.1.v=v∧z.1.i.l=a∧z.1.o.l=b∧z.2=c∧z.1.p.S=(decideF g W).1.2.2.2:=by
 have he:=h.e
 rw [←he] at hd ⊢
 unfold dcV at hd
 simp only [Prod.mk.injEq] at hd
 exact ⟨hd.1,hd.2.1,hd.2.2.1,hd.2.2.2,rfl⟩
theorem head29_spec (B:Nat) (w:World) (hB:B≤w.heap.size) (hT:TabW B w):RetsP Tryz.prog 10 #[] w (.bool true):=by
 refine enter (args:=[]) Tryz.func10 rfl Tryz.ntmps10 (by kernel_rfl) rfl ?_
 refine V.seq (V.region (VL.op (R.asB rfl) (VL.nil (V.seq (V.region (VL.buildSl Tryz.runUnderlying22 Tryz.sizeOf3 Tryz.zeroValue3 rfl rfl rfl fun b1_0 w1_0 hb1_0 e1_0 hB1_0=>VL.buildSl Tryz.runUnderlying22 Tryz.sizeOf3 Tryz.zeroValue3 rfl rfl rfl fun b1_1 w1_1 hb1_1 e1_1 hB1_1=>VL.buildSl Tryz.runUnderlying22 Tryz.sizeOf3 Tryz.zeroValue3 rfl rfl rfl fun b1_2 w1_2 hb1_2 e1_2 hB1_2=>VL.buildSl Tryz.runUnderlying23 Tryz.sizeOf22 Tryz.zeroValue22 rfl rfl rfl fun b1_3 w1_3 hb1_3 e1_3 hB1_3=>VL.op (R.build Tryz.zeroValue25 Tryz.runUnderlying25 pl25 rfl) (VL.allocSt (v:=.agg _) Tryz.zeroValue25 Tryz.sizeOf25 rfl rfl rfl rfl rfl fun b1_5 w1_5 hb1_5 e1_5 hB1_5=>VL.nil (V.seq (?_)))))))))
 obtain ⟨gw,hgw⟩:∃ gw:GrW,gw=⟨3,some ⟨b1_0,0,none⟩,3,[0,0,0],some ⟨b1_3,0,none⟩,2,[⟨some ⟨b1_1,0,none⟩,2,[0,1]⟩,⟨some ⟨b1_2,0,none⟩,2,[1,2]⟩]⟩:=⟨_,rfl⟩
 have hX1:Blk w1_5 b1_5 (.cells (Value.agg (encGr gw).toArray).cells 25 (0,0)):=by rw [hgw];exact hB1_5
 have hG1:GOk w1_5 gw:=by
  rw [hgw]
  exact ⟨(litI (l:=[0,0,0]) hB1_0 rfl (by decide)).ext (e1_1.trans (e1_2.trans (e1_3.trans e1_5))),(litL hB1_3 rfl (litA ((litI (l:=[0,1]) hB1_1 rfl (by decide)).ext (e1_2.trans e1_3)) (litA ((litI (l:=[1,2]) hB1_2 rfl (by decide)).ext e1_3) litA0))).ext e1_5⟩
 have hgV:grV gw=gH:=by rw [hgw];rfl
 have hgl:GLen gw:=by
  rw [hgw]
  exact ⟨Nat.le_of_ble_eq_true rfl,Nat.le_of_ble_eq_true rfl,fun x hx=>⟨(litOk_iff (E:=[⟨some ⟨b1_1,0,none⟩,2,[0,1]⟩,⟨some ⟨b1_2,0,none⟩,2,[1,2]⟩]) rfl x hx).1,(litOk_iff (E:=[⟨some ⟨b1_1,0,none⟩,2,[0,1]⟩,⟨some ⟨b1_2,0,none⟩,2,[1,2]⟩]) rfl x hx).2.1⟩⟩
 have E1:Ext w w1_5:=e1_0.trans (e1_1.trans (e1_2.trans (e1_3.trans e1_5)))
 clear hB1_0 hB1_1 hB1_2 hB1_3 hB1_5 hgw
 refine V.region (VL.op (R.ldA Tryz.isAgg25 Tryz.sizeOf25 rfl rfl ((show RowAt _ _ _ (encGr gw) from hX1.rowAt 0 3)) rfl) (VL.buildSl Tryz.runUnderlying22 Tryz.sizeOf3 Tryz.zeroValue3 rfl rfl rfl fun b2_1 w2_1 hb2_1 e2_1 hB2_1=>VL.op (R.build Tryz.zeroValue53 Tryz.runUnderlying53 pl53 rfl) (VL.buildSl Tryz.runUnderlying26 Tryz.sizeOf53 Tryz.zeroValue53 rfl rfl rfl fun b2_3 w2_3 hb2_3 e2_3 hB2_3=>VL.callX Tryz.call13 rfl (decide29_spec gw (some ⟨b2_3,0,none⟩) 1 [⟨⟨some ⟨b2_1,0,none⟩,1,[0]⟩,default⟩] B w2_3 (hG1.ext (e2_1.trans e2_3)) hgl (litW (W:=[⟨⟨some ⟨b2_1,0,none⟩,1,[0]⟩,default⟩]) hB2_3 rfl (litWc ⟨(litI (l:=[0]) hB2_1 rfl (by decide)).ext e2_3,TSl.nil _ _ _ _⟩ litW0)) (litWl rfl) (litWh rfl) (Nat.le_of_ble_eq_true rfl) (Nat.le_trans hB (Vc.Mod.size (E1.trans (e2_1.trans e2_3)))) (hT.ext hB (E1.trans (e2_1.trans e2_3)))) fun z2 w2 h2 e2=>VL.op (R.mvT rfl) (VL.op (R.extr rfl rfl) (VL.op (R.extr rfl rfl) (VL.allocSt (v:=.agg _) Tryz.zeroValue33 Tryz.sizeOf33 rfl rfl rfl rfl rfl fun b2_8 w2_8 hb2_8 e2_8 hB2_8=>VL.op (R.asI rfl) (VL.nil (V.seq (?_)))))))))
 have hd2:=dc_of (g:=gH) (W:=[⟨[0],[]⟩]) (by rw [←hgV];exact h2) hd_a
 have hY2:Blk w2_8 b2_8 (.cells (Value.agg (encCm z2.1).toArray).cells 33 (0,0)):=hB2_8
 have hI2:=(h2.i.ext e2_8).sl
 have hO2:=(h2.o.ext e2_8).sl
 have hP2:=(h2.s.ext e2_8).sl
 obtain ⟨v2,i2,o2,c2,p2⟩:=hd2
 clear h2 hB2_1 hB2_3 hB2_8
 have E2:=E1.trans (e2_1.trans (e2_3.trans (e2.trans e2_8)))
 have hX2:=hX1.ext (e2_1.trans (e2_3.trans (e2.trans e2_8)))
 have hG2:=hG1.ext (e2_1.trans (e2_3.trans (e2.trans e2_8)))
 refine V.region (VL.op (R.ldA Tryz.isAgg25 Tryz.sizeOf25 rfl rfl ((show RowAt _ _ _ (encGr gw) from hX2.rowAt 0 3)) rfl) (VL.buildSl Tryz.runUnderlying22 Tryz.sizeOf3 Tryz.zeroValue3 rfl rfl rfl fun b3_1 w3_1 hb3_1 e3_1 hB3_1=>VL.op (R.build Tryz.zeroValue53 Tryz.runUnderlying53 pl53 rfl) (VL.buildSl Tryz.runUnderlying22 Tryz.sizeOf3 Tryz.zeroValue3 rfl rfl rfl fun b3_3 w3_3 hb3_3 e3_3 hB3_3=>VL.op (R.build Tryz.zeroValue53 Tryz.runUnderlying53 pl53 rfl) (VL.buildSl Tryz.runUnderlying26 Tryz.sizeOf53 Tryz.zeroValue53 rfl rfl rfl fun b3_5 w3_5 hb3_5 e3_5 hB3_5=>VL.callX Tryz.call13 rfl (decide29_spec gw (some ⟨b3_5,0,none⟩) 2 [⟨⟨some ⟨b3_1,0,none⟩,1,[0]⟩,default⟩,⟨⟨some ⟨b3_3,0,none⟩,1,[1]⟩,default⟩] B w3_5 (hG2.ext (e3_1.trans (e3_3.trans e3_5))) hgl (litW (W:=[⟨⟨some ⟨b3_1,0,none⟩,1,[0]⟩,default⟩,⟨⟨some ⟨b3_3,0,none⟩,1,[1]⟩,default⟩]) hB3_5 rfl (litWc ⟨(litI (l:=[0]) hB3_1 rfl (by decide)).ext (e3_3.trans e3_5),TSl.nil _ _ _ _⟩ (litWc ⟨(litI (l:=[1]) hB3_3 rfl (by decide)).ext e3_5,TSl.nil _ _ _ _⟩ litW0))) (litWl rfl) (litWh rfl) (Nat.le_of_ble_eq_true rfl) (Nat.le_trans hB (Vc.Mod.size (E2.trans (e3_1.trans (e3_3.trans e3_5))))) (hT.ext hB (E2.trans (e3_1.trans (e3_3.trans e3_5))))) fun z3 w3 h3 e3=>VL.op (R.mvT rfl) (VL.op (R.extr rfl rfl) (VL.op (R.extr rfl rfl) (VL.allocSt (v:=.agg _) Tryz.zeroValue33 Tryz.sizeOf33 rfl rfl rfl rfl rfl fun b3_10 w3_10 hb3_10 e3_10 hB3_10=>VL.op (R.asI rfl) (VL.nil (V.seq (?_))))))))))
 have hd3:=dc_of (g:=gH) (W:=[⟨[0],[]⟩,⟨[1],[]⟩]) (by rw [←hgV];exact h3) hd_b
 have hY3:Blk w3_10 b3_10 (.cells (Value.agg (encCm z3.1).toArray).cells 33 (0,0)):=hB3_10
 have hI3:=(h3.i.ext e3_10).sl
 have hO3:=(h3.o.ext e3_10).sl
 have hP3:=(h3.s.ext e3_10).sl
 obtain ⟨v3,i3,o3,c3,p3⟩:=hd3
 clear h3 hB3_1 hB3_3 hB3_5 hB3_10
 have E3:=E2.trans (e3_1.trans (e3_3.trans (e3_5.trans (e3.trans e3_10))))
 have hX3:=hX2.ext (e3_1.trans (e3_3.trans (e3_5.trans (e3.trans e3_10))))
 have hG3:=hG2.ext (e3_1.trans (e3_3.trans (e3_5.trans (e3.trans e3_10))))
 have hY2:=hY2.ext (e3_1.trans (e3_3.trans (e3_5.trans (e3.trans e3_10))))
 have hI2:=hI2.ext (e3_1.trans (e3_3.trans (e3_5.trans (e3.trans e3_10))))
 have hO2:=hO2.ext (e3_1.trans (e3_3.trans (e3_5.trans (e3.trans e3_10))))
 have hP2:=hP2.ext (e3_1.trans (e3_3.trans (e3_5.trans (e3.trans e3_10))))
 refine V.region (VL.op (R.ldA Tryz.isAgg25 Tryz.sizeOf25 rfl rfl ((show RowAt _ _ _ (encGr gw) from hX3.rowAt 0 3)) rfl) (VL.buildSl Tryz.runUnderlying22 Tryz.sizeOf3 Tryz.zeroValue3 rfl rfl rfl fun b4_1 w4_1 hb4_1 e4_1 hB4_1=>VL.op (R.build Tryz.zeroValue53 Tryz.runUnderlying53 pl53 rfl) (VL.buildSl Tryz.runUnderlying26 Tryz.sizeOf53 Tryz.zeroValue53 rfl rfl rfl fun b4_3 w4_3 hb4_3 e4_3 hB4_3=>VL.callX Tryz.call13 rfl (decide29_spec gw (some ⟨b4_3,0,none⟩) 1 [⟨⟨some ⟨b4_1,0,none⟩,2,[0,1]⟩,default⟩] B w4_3 (hG3.ext (e4_1.trans e4_3)) hgl (litW (W:=[⟨⟨some ⟨b4_1,0,none⟩,2,[0,1]⟩,default⟩]) hB4_3 rfl (litWc ⟨(litI (l:=[0,1]) hB4_1 rfl (by decide)).ext e4_3,TSl.nil _ _ _ _⟩ litW0)) (litWl rfl) (litWh rfl) (Nat.le_of_ble_eq_true rfl) (Nat.le_trans hB (Vc.Mod.size (E3.trans (e4_1.trans e4_3)))) (hT.ext hB (E3.trans (e4_1.trans e4_3)))) fun z4 w4 h4 e4=>VL.op (R.mvT rfl) (VL.op (R.extr rfl rfl) (VL.op (R.extr rfl rfl) (VL.allocSt (v:=.agg _) Tryz.zeroValue33 Tryz.sizeOf33 rfl rfl rfl rfl rfl fun b4_8 w4_8 hb4_8 e4_8 hB4_8=>VL.op (R.asI rfl) (VL.nil (V.seq (?_)))))))))
 have hd4:=dc_of (g:=gH) (W:=[⟨[0,1],[]⟩]) (by rw [←hgV];exact h4) hd_c
 have hY4:Blk w4_8 b4_8 (.cells (Value.agg (encCm z4.1).toArray).cells 33 (0,0)):=hB4_8
 have hI4:=(h4.i.ext e4_8).sl
 have hO4:=(h4.o.ext e4_8).sl
 have hP4:=(h4.s.ext e4_8).sl
 obtain ⟨v4,i4,o4,c4,p4⟩:=hd4
 clear h4 hB4_1 hB4_3 hB4_8
 have E4:=E3.trans (e4_1.trans (e4_3.trans (e4.trans e4_8)))
 have hX4:=hX3.ext (e4_1.trans (e4_3.trans (e4.trans e4_8)))
 have hG4:=hG3.ext (e4_1.trans (e4_3.trans (e4.trans e4_8)))
 have hY2:=hY2.ext (e4_1.trans (e4_3.trans (e4.trans e4_8)))
 have hI2:=hI2.ext (e4_1.trans (e4_3.trans (e4.trans e4_8)))
 have hO2:=hO2.ext (e4_1.trans (e4_3.trans (e4.trans e4_8)))
 have hP2:=hP2.ext (e4_1.trans (e4_3.trans (e4.trans e4_8)))
 have hY3:=hY3.ext (e4_1.trans (e4_3.trans (e4.trans e4_8)))
 have hI3:=hI3.ext (e4_1.trans (e4_3.trans (e4.trans e4_8)))
 have hO3:=hO3.ext (e4_1.trans (e4_3.trans (e4.trans e4_8)))
 have hP3:=hP3.ext (e4_1.trans (e4_3.trans (e4.trans e4_8)))
 refine V.region (VL.op (R.ldA Tryz.isAgg25 Tryz.sizeOf25 rfl rfl ((show RowAt _ _ _ (encGr gw) from hX4.rowAt 0 3)) rfl) (VL.callX Tryz.call13 rfl (decide29_spec gw none 0 [] B w4_8 hG4 hgl ⟨TSl.nil _ _ _ _,litW0⟩ (litWl rfl) (litWh rfl) (Nat.le_of_ble_eq_true rfl) (Nat.le_trans hB (Vc.Mod.size E4)) (hT.ext hB E4)) fun z5 w5 h5 e5=>VL.op (R.mvT rfl) (VL.op (R.extr rfl rfl) (VL.op (R.extr rfl rfl) (VL.allocSt (v:=.agg _) Tryz.zeroValue33 Tryz.sizeOf33 rfl rfl rfl rfl rfl fun b5_5 w5_5 hb5_5 e5_5 hB5_5=>VL.op (R.asI rfl) (VL.nil (V.seq (?_))))))))
 have hd5:=dc_of (g:=gH) (W:=[]) (by rw [←hgV];exact h5) hd_d
 have hY5:Blk w5_5 b5_5 (.cells (Value.agg (encCm z5.1).toArray).cells 33 (0,0)):=hB5_5
 have hI5:=(h5.i.ext e5_5).sl
 have hO5:=(h5.o.ext e5_5).sl
 have hP5:=(h5.s.ext e5_5).sl
 obtain ⟨v5,i5,o5,c5,p5⟩:=hd5
 clear h5 hB5_5
 have E5:=E4.trans (e5.trans e5_5)
 have hX5:=hX4.ext (e5.trans e5_5)
 have hG5:=hG4.ext (e5.trans e5_5)
 have hY2:=hY2.ext (e5.trans e5_5)
 have hI2:=hI2.ext (e5.trans e5_5)
 have hO2:=hO2.ext (e5.trans e5_5)
 have hP2:=hP2.ext (e5.trans e5_5)
 have hY3:=hY3.ext (e5.trans e5_5)
 have hI3:=hI3.ext (e5.trans e5_5)
 have hO3:=hO3.ext (e5.trans e5_5)
 have hP3:=hP3.ext (e5.trans e5_5)
 have hY4:=hY4.ext (e5.trans e5_5)
 have hI4:=hI4.ext (e5.trans e5_5)
 have hO4:=hO4.ext (e5.trans e5_5)
 have hP4:=hP4.ext (e5.trans e5_5)
 refine V.region (VL.op (R.ldA Tryz.isAgg25 Tryz.sizeOf25 rfl rfl ((show RowAt _ _ _ (encGr gw) from hX5.rowAt 0 3)) rfl) (VL.buildSl Tryz.runUnderlying22 Tryz.sizeOf3 Tryz.zeroValue3 rfl rfl rfl fun b6_1 w6_1 hb6_1 e6_1 hB6_1=>VL.op (R.build Tryz.zeroValue53 Tryz.runUnderlying53 pl53 rfl) (VL.buildSl Tryz.runUnderlying26 Tryz.sizeOf53 Tryz.zeroValue53 rfl rfl rfl fun b6_3 w6_3 hb6_3 e6_3 hB6_3=>VL.callX Tryz.call16 rfl (exists_spec gw (some ⟨b6_3,0,none⟩) 1 [⟨default,⟨some ⟨b6_1,0,none⟩,1,[0]⟩⟩] true B w6_3 (hG5.ext (e6_1.trans e6_3)) hgl (litW (W:=[⟨default,⟨some ⟨b6_1,0,none⟩,1,[0]⟩⟩]) hB6_3 rfl (litWc ⟨TSl.nil _ _ _ _,(litI (l:=[0]) hB6_1 rfl (by decide)).ext e6_3⟩ litW0)) (litWl rfl) (litWh rfl) (Nat.le_of_ble_eq_true rfl) (Nat.le_trans hB (Vc.Mod.size (E5.trans (e6_1.trans e6_3)))) (hT.ext hB (E5.trans (e6_1.trans e6_3)))) fun z6 w6 h6 e6=>VL.op (R.mvT rfl) (VL.op (R.extr rfl rfl) (VL.op (R.extr rfl rfl) (VL.op (R.extr rfl rfl) (VL.allocSt1 (v:=.agg _) (v2:=.slice _ _ _) Tryz.zeroValue31 Tryz.sizeOf31 rfl rfl rfl rfl rfl rfl rfl rfl rfl fun b6_9 w6_9 hb6_9 e6_9 hB6_9=>VL.op (R.asI rfl) (VL.nil (V.seq (?_))))))))))
 have hx6:(z6.1.l,z6.2.1.S,z6.2.2)=existsF gH [⟨[],[0]⟩] true:=by have:=h6.e;rw [hgV] at this;exact this
 have hY6:Blk w6_9 b6_9 (.cells (Value.agg (encPf z6.2.1).toArray).cells 31 (0,0)):=hB6_9
 have hI6:=(h6.o.ext e6_9).sl
 clear h6 hB6_1 hB6_3 hB6_9
 have E6:=E5.trans (e6_1.trans (e6_3.trans (e6.trans e6_9)))
 have hX6:=hX5.ext (e6_1.trans (e6_3.trans (e6.trans e6_9)))
 have hG6:=hG5.ext (e6_1.trans (e6_3.trans (e6.trans e6_9)))
 have hY2:=hY2.ext (e6_1.trans (e6_3.trans (e6.trans e6_9)))
 have hI2:=hI2.ext (e6_1.trans (e6_3.trans (e6.trans e6_9)))
 have hO2:=hO2.ext (e6_1.trans (e6_3.trans (e6.trans e6_9)))
 have hP2:=hP2.ext (e6_1.trans (e6_3.trans (e6.trans e6_9)))
 have hY3:=hY3.ext (e6_1.trans (e6_3.trans (e6.trans e6_9)))
 have hI3:=hI3.ext (e6_1.trans (e6_3.trans (e6.trans e6_9)))
 have hO3:=hO3.ext (e6_1.trans (e6_3.trans (e6.trans e6_9)))
 have hP3:=hP3.ext (e6_1.trans (e6_3.trans (e6.trans e6_9)))
 have hY4:=hY4.ext (e6_1.trans (e6_3.trans (e6.trans e6_9)))
 have hI4:=hI4.ext (e6_1.trans (e6_3.trans (e6.trans e6_9)))
 have hO4:=hO4.ext (e6_1.trans (e6_3.trans (e6.trans e6_9)))
 have hP4:=hP4.ext (e6_1.trans (e6_3.trans (e6.trans e6_9)))
 have hY5:=hY5.ext (e6_1.trans (e6_3.trans (e6.trans e6_9)))
 have hI5:=hI5.ext (e6_1.trans (e6_3.trans (e6.trans e6_9)))
 have hO5:=hO5.ext (e6_1.trans (e6_3.trans (e6.trans e6_9)))
 have hP5:=hP5.ext (e6_1.trans (e6_3.trans (e6.trans e6_9)))
 refine V.region (VL.op (R.ldA Tryz.isAgg25 Tryz.sizeOf25 rfl rfl ((show RowAt _ _ _ (encGr gw) from hX6.rowAt 0 3)) rfl) (VL.buildSl Tryz.runUnderlying22 Tryz.sizeOf3 Tryz.zeroValue3 rfl rfl rfl fun b7_1 w7_1 hb7_1 e7_1 hB7_1=>VL.op (R.build Tryz.zeroValue53 Tryz.runUnderlying53 pl53 rfl) (VL.buildSl Tryz.runUnderlying26 Tryz.sizeOf53 Tryz.zeroValue53 rfl rfl rfl fun b7_3 w7_3 hb7_3 e7_3 hB7_3=>VL.callX Tryz.call16 rfl (exists_spec gw (some ⟨b7_3,0,none⟩) 1 [⟨⟨some ⟨b7_1,0,none⟩,1,[3]⟩,default⟩] true B w7_3 (hG6.ext (e7_1.trans e7_3)) hgl (litW (W:=[⟨⟨some ⟨b7_1,0,none⟩,1,[3]⟩,default⟩]) hB7_3 rfl (litWc ⟨(litI (l:=[3]) hB7_1 rfl (by decide)).ext e7_3,TSl.nil _ _ _ _⟩ litW0)) (litWl rfl) (litWh rfl) (Nat.le_of_ble_eq_true rfl) (Nat.le_trans hB (Vc.Mod.size (E6.trans (e7_1.trans e7_3)))) (hT.ext hB (E6.trans (e7_1.trans e7_3)))) fun z7 w7 h7 e7=>VL.op (R.mvT rfl) (VL.op (R.extr rfl rfl) (VL.op (R.extr rfl rfl) (VL.op (R.extr rfl rfl) (VL.allocSt1 (v:=.agg _) (v2:=.slice _ _ _) Tryz.zeroValue31 Tryz.sizeOf31 rfl rfl rfl rfl rfl rfl rfl rfl rfl fun b7_9 w7_9 hb7_9 e7_9 hB7_9=>VL.op (R.asI rfl) (VL.nil (V.seq (?_))))))))))
 have hx7:(z7.1.l,z7.2.1.S,z7.2.2)=existsF gH [⟨[3],[]⟩] true:=by have:=h7.e;rw [hgV] at this;exact this
 have hY7:Blk w7_9 b7_9 (.cells (Value.agg (encPf z7.2.1).toArray).cells 31 (0,0)):=hB7_9
 have hI7:=(h7.o.ext e7_9).sl
 clear h7 hB7_1 hB7_3 hB7_9
 have E7:=E6.trans (e7_1.trans (e7_3.trans (e7.trans e7_9)))
 have hX7:=hX6.ext (e7_1.trans (e7_3.trans (e7.trans e7_9)))
 have hG7:=hG6.ext (e7_1.trans (e7_3.trans (e7.trans e7_9)))
 have hY2:=hY2.ext (e7_1.trans (e7_3.trans (e7.trans e7_9)))
 have hI2:=hI2.ext (e7_1.trans (e7_3.trans (e7.trans e7_9)))
 have hO2:=hO2.ext (e7_1.trans (e7_3.trans (e7.trans e7_9)))
 have hP2:=hP2.ext (e7_1.trans (e7_3.trans (e7.trans e7_9)))
 have hY3:=hY3.ext (e7_1.trans (e7_3.trans (e7.trans e7_9)))
 have hI3:=hI3.ext (e7_1.trans (e7_3.trans (e7.trans e7_9)))
 have hO3:=hO3.ext (e7_1.trans (e7_3.trans (e7.trans e7_9)))
 have hP3:=hP3.ext (e7_1.trans (e7_3.trans (e7.trans e7_9)))
 have hY4:=hY4.ext (e7_1.trans (e7_3.trans (e7.trans e7_9)))
 have hI4:=hI4.ext (e7_1.trans (e7_3.trans (e7.trans e7_9)))
 have hO4:=hO4.ext (e7_1.trans (e7_3.trans (e7.trans e7_9)))
 have hP4:=hP4.ext (e7_1.trans (e7_3.trans (e7.trans e7_9)))
 have hY5:=hY5.ext (e7_1.trans (e7_3.trans (e7.trans e7_9)))
 have hI5:=hI5.ext (e7_1.trans (e7_3.trans (e7.trans e7_9)))
 have hO5:=hO5.ext (e7_1.trans (e7_3.trans (e7.trans e7_9)))
 have hP5:=hP5.ext (e7_1.trans (e7_3.trans (e7.trans e7_9)))
 have hY6:=hY6.ext (e7_1.trans (e7_3.trans (e7.trans e7_9)))
 have hI6:=hI6.ext (e7_1.trans (e7_3.trans (e7.trans e7_9)))
 have x6:z6.1.l=[1]:=by have:=congrArg Prod.fst hx6;exact this.trans hd_x.1
 have y6:z6.2.1.S.length=0:=by have:=congrArg (fun q=>q.2.1.length) hx6;exact this.trans hd_x.2.1
 have c6:z6.2.2=0:=by have:=congrArg (fun q=>q.2.2) hx6;exact this.trans hd_x.2.2
 have c7:z7.2.2=1:=by have:=congrArg (fun q=>q.2.2) hx7;exact this.trans hd_k
 refine V.region (VL.op (R.fld' (o:=1) Tryz.runUnderlying33 rfl rfl Tryz.sizeOf22 rfl rfl) (VL.op (R.ld1 Tryz.isAgg22 rfl ((show _=some (Value.slice z2.1.i.a z2.1.i.l.length z2.1.i.c) from hY2.cell 1))) (VL.op (R.fld' (o:=2) Tryz.runUnderlying33 rfl rfl Tryz.sizeOf22 rfl rfl) (VL.op (R.ld1 Tryz.isAgg22 rfl ((show _=some (Value.slice z2.1.o.a z2.1.o.l.length z2.1.o.c) from hY2.cell 2))) (VL.op (R.fld' (o:=1) Tryz.runUnderlying33 rfl rfl Tryz.sizeOf22 rfl rfl) (VL.op (R.ld1 Tryz.isAgg22 rfl ((show _=some (Value.slice z3.1.i.a z3.1.i.l.length z3.1.i.c) from hY3.cell 1))) (VL.op (R.fld' (o:=2) Tryz.runUnderlying33 rfl rfl Tryz.sizeOf22 rfl rfl) (VL.op (R.ld1 Tryz.isAgg22 rfl ((show _=some (Value.slice z4.1.o.a z4.1.o.l.length z4.1.o.c) from hY4.cell 2))) (VL.op (R.fld' (o:=2) Tryz.runUnderlying33 rfl rfl Tryz.sizeOf22 rfl rfl) (VL.op (R.ld1 Tryz.isAgg22 rfl ((show _=some (Value.slice z5.1.o.a z5.1.o.l.length z5.1.o.c) from hY5.cell 2))) (VL.op (R.mvS rfl) (VL.buildSl Tryz.runUnderlying23 Tryz.sizeOf22 Tryz.zeroValue22 rfl rfl rfl fun b8_11 w8_11 hb8_11 e8_11 hB8_11=>VL.buildSl Tryz.runUnderlying22 Tryz.sizeOf3 Tryz.zeroValue3 rfl rfl rfl fun b8_12 w8_12 hb8_12 e8_12 hB8_12=>VL.buildSl Tryz.runUnderlying22 Tryz.sizeOf3 Tryz.zeroValue3 rfl rfl rfl fun b8_13 w8_13 hb8_13 e8_13 hB8_13=>VL.buildSl Tryz.runUnderlying22 Tryz.sizeOf3 Tryz.zeroValue3 rfl rfl rfl fun b8_14 w8_14 hb8_14 e8_14 hB8_14=>VL.buildSl Tryz.runUnderlying22 Tryz.sizeOf3 Tryz.zeroValue3 rfl rfl rfl fun b8_15 w8_15 hb8_15 e8_15 hB8_15=>VL.buildSl Tryz.runUnderlying22 Tryz.sizeOf3 Tryz.zeroValue3 rfl rfl rfl fun b8_16 w8_16 hb8_16 e8_16 hB8_16=>VL.buildSl Tryz.runUnderlying22 Tryz.sizeOf3 Tryz.zeroValue3 rfl rfl rfl fun b8_17 w8_17 hb8_17 e8_17 hB8_17=>VL.buildSl Tryz.runUnderlying23 Tryz.sizeOf22 Tryz.zeroValue22 rfl rfl rfl fun b8_18 w8_18 hb8_18 e8_18 hB8_18=>VL.callP Tryz.call14 rfl (sets_is [z2.1.i,z2.1.o,z3.1.i,z4.1.o,z5.1.o,z6.1] [⟨some ⟨b8_12,0,none⟩,2,[0,2]⟩,⟨some ⟨b8_13,0,none⟩,1,[1]⟩,⟨some ⟨b8_14,0,none⟩,2,[0,2]⟩,⟨some ⟨b8_15,0,none⟩,2,[0,2]⟩,⟨some ⟨b8_16,0,none⟩,2,[0,2]⟩,⟨some ⟨b8_17,0,none⟩,1,[1]⟩] (some ⟨b8_11,0,none⟩) (some ⟨b8_18,0,none⟩) 6 6 w8_18 (sets6 i2 o2 i3 o4 o5 x6) (Nat.le_of_ble_eq_true rfl) (sets6l i2 o2 i3 o4 o5 x6) (fun x hx=>Nat.le_trans (litOk_iff (E:=[⟨some ⟨b8_12,0,none⟩,2,[0,2]⟩,⟨some ⟨b8_13,0,none⟩,1,[1]⟩,⟨some ⟨b8_14,0,none⟩,2,[0,2]⟩,⟨some ⟨b8_15,0,none⟩,2,[0,2]⟩,⟨some ⟨b8_16,0,none⟩,2,[0,2]⟩,⟨some ⟨b8_17,0,none⟩,1,[1]⟩]) rfl x hx).1 (Nat.le_of_ble_eq_true rfl))
   ((litL hB8_11 rfl (litA (c:=z2.1.i.c) (hI2.ext e8_11) (litA (c:=z2.1.o.c) (hO2.ext e8_11) (litA (c:=z3.1.i.c) (hI3.ext e8_11) (litA (c:=z4.1.o.c) (hO4.ext e8_11) (litA (c:=z5.1.o.c) (hO5.ext e8_11) (litA (c:=z6.1.c) (hI6.ext e8_11) litA0))))))).ext (e8_12.trans (e8_13.trans (e8_14.trans (e8_15.trans (e8_16.trans (e8_17.trans e8_18)))))))
   (litL hB8_18 rfl (litA ((litI (l:=[0,2]) hB8_12 rfl (by decide)).ext (e8_13.trans (e8_14.trans (e8_15.trans (e8_16.trans (e8_17.trans e8_18)))))) (litA ((litI (l:=[1]) hB8_13 rfl (by decide)).ext (e8_14.trans (e8_15.trans (e8_16.trans (e8_17.trans e8_18))))) (litA ((litI (l:=[0,2]) hB8_14 rfl (by decide)).ext (e8_15.trans (e8_16.trans (e8_17.trans e8_18)))) (litA ((litI (l:=[0,2]) hB8_15 rfl (by decide)).ext (e8_16.trans (e8_17.trans e8_18))) (litA ((litI (l:=[0,2]) hB8_16 rfl (by decide)).ext (e8_17.trans e8_18)) (litA ((litI (l:=[1]) hB8_17 rfl (by decide)).ext e8_18) litA0)))))))) fun w8_19 e8_19=>VL.op (R.asB rfl) (VL.nil (V.seq (?_)))))))))))))))
 have F8:Ext w7_9 w8_19:=e8_11.trans (e8_12.trans (e8_13.trans (e8_14.trans (e8_15.trans (e8_16.trans (e8_17.trans (e8_18.trans e8_19)))))))
 have E8:=E7.trans F8
 have hX8:=hX7.ext F8
 have hG8:=hG7.ext F8
 have hY2:=hY2.ext F8
 have hY3:=hY3.ext F8
 have hY4:=hY4.ext F8
 have hY5:=hY5.ext F8
 have hY6:=hY6.ext F8
 have hP3:=hP3.ext F8
 have hP5:=hP5.ext F8
 clear hB8_11 hB8_12 hB8_13 hB8_14 hB8_15 hB8_16 hB8_17 hB8_18
 refine V.region (VL.op (R.mvI rfl) (VL.op (R.lit (R.eql rfl rfl) ((decide_eq_true c2))) (VL.op (R.mvB rfl) (VL.gT rfl rfl (VL.op (R.fld' (o:=0) Tryz.runUnderlying33 rfl rfl Tryz.sizeOf3 rfl rfl) (VL.gT rfl rfl (VL.op (R.ld1 Tryz.isAgg3 rfl ((show _=some (Value.int .i64 z2.1.v) from hY2.cell 0))) (VL.gT rfl rfl (VL.op (R.lit (R.eql rfl rfl) ((decide_eq_true v2))) (VL.op (R.pickTB rfl rfl) (VL.op (R.mvB rfl) (VL.gT rfl rfl (VL.op (R.mvI rfl) (VL.gT rfl rfl (VL.op (R.lit (R.eql rfl rfl) ((decide_eq_true c3))) (VL.op (R.pickTB rfl rfl) (VL.op (R.mvB rfl) (VL.gT rfl rfl (VL.op (R.fld' (o:=0) Tryz.runUnderlying33 rfl rfl Tryz.sizeOf3 rfl rfl) (VL.gT rfl rfl (VL.op (R.ld1 Tryz.isAgg3 rfl ((show _=some (Value.int .i64 z3.1.v) from hY3.cell 0))) (VL.gT rfl rfl (VL.op (R.lit (R.eql rfl rfl) ((decide_eq_true v3))) (VL.op (R.pickTB rfl rfl) (VL.op (R.mvB rfl) (VL.gT rfl rfl (VL.op (R.mvI rfl) (VL.gT rfl rfl (VL.op (R.lit (R.eql rfl rfl) ((decide_eq_true c4))) (VL.op (R.pickTB rfl rfl) (VL.op (R.mvB rfl) (VL.gT rfl rfl (VL.op (R.fld' (o:=0) Tryz.runUnderlying33 rfl rfl Tryz.sizeOf3 rfl rfl) (VL.gT rfl rfl (VL.op (R.ld1 Tryz.isAgg3 rfl ((show _=some (Value.int .i64 z4.1.v) from hY4.cell 0))) (VL.gT rfl rfl (VL.op (R.lit (R.eql rfl rfl) ((decide_eq_true v4))) (VL.op (R.pickTB rfl rfl) (VL.op (R.mvB rfl) (VL.gT rfl rfl (VL.op (R.mvI rfl) (VL.gT rfl rfl (VL.op (R.lit (R.eql rfl rfl) ((decide_eq_true c5))) (VL.op (R.pickTB rfl rfl) (VL.op (R.mvB rfl) (VL.gT rfl rfl (VL.op (R.fld' (o:=0) Tryz.runUnderlying33 rfl rfl Tryz.sizeOf3 rfl rfl) (VL.gT rfl rfl (VL.op (R.ld1 Tryz.isAgg3 rfl ((show _=some (Value.int .i64 z5.1.v) from hY5.cell 0))) (VL.gT rfl rfl (VL.op (R.lit (R.eql rfl rfl) ((decide_eq_true v5))) (VL.op (R.pickTB rfl rfl) (VL.op (R.asB rfl) (VL.nil (V.seq (?_))))))))))))))))))))))))))))))))))))))))))))))))))))))))
 refine V.region (VL.op (R.mvB rfl) (VL.op (R.mvB rfl) (VL.gT rfl rfl (VL.op (R.mvB rfl) (VL.op (R.pickTB rfl rfl) (VL.op (R.mvB rfl) (VL.gT rfl rfl (VL.op (R.fld' (o:=0) Tryz.runUnderlying31 rfl rfl Tryz.sizeOf29 rfl rfl) (VL.gT rfl rfl (VL.op (R.ld1 Tryz.isAgg29 rfl ((show _=some (Value.slice z6.2.1.a z6.2.1.S.length z6.2.1.c) from hY6.cell 0))) (VL.gT rfl rfl (VL.op (R.lenS Tryz.runUnderlying29 rfl) (VL.gT rfl rfl (VL.op (R.lit (R.eql rfl rfl) ((decide_eq_true (by omega)))) (VL.op (R.pickTB rfl rfl) (VL.op (R.mvB rfl) (VL.gT rfl rfl (VL.op (R.mvI rfl) (VL.gT rfl rfl (VL.op (R.lit (R.eql rfl rfl) ((decide_eq_true c6))) (VL.op (R.pickTB rfl rfl) (VL.op (R.mvB rfl) (VL.gT rfl rfl (VL.op (R.mvI rfl) (VL.gT rfl rfl (VL.op (R.lit (R.eql rfl rfl) ((decide_eq_true c7))) (VL.op (R.pickTB rfl rfl) (VL.op (R.mvB rfl) (VL.gT rfl rfl (VL.op (R.ldA Tryz.isAgg25 Tryz.sizeOf25 rfl rfl ((show RowAt _ _ _ (encGr gw) from hX8.rowAt 0 3)) rfl) (VL.gT rfl rfl (VL.buildSl Tryz.runUnderlying22 Tryz.sizeOf3 Tryz.zeroValue3 rfl rfl rfl fun b10_20 w10_20 hb10_20 e10_20 hB10_20=>VL.gT rfl rfl (VL.op (R.build Tryz.zeroValue53 Tryz.runUnderlying53 pl53 rfl) (VL.gT rfl rfl (VL.buildSl Tryz.runUnderlying22 Tryz.sizeOf3 Tryz.zeroValue3 rfl rfl rfl fun b10_22 w10_22 hb10_22 e10_22 hB10_22=>VL.gT rfl rfl (VL.op (R.build Tryz.zeroValue53 Tryz.runUnderlying53 pl53 rfl) (VL.gT rfl rfl (VL.buildSl Tryz.runUnderlying26 Tryz.sizeOf53 Tryz.zeroValue53 rfl rfl rfl fun b10_24 w10_24 hb10_24 e10_24 hB10_24=>VL.gT rfl rfl (VL.op (R.fld' (o:=3) Tryz.runUnderlying33 rfl rfl Tryz.sizeOf31 rfl rfl) (VL.gT rfl rfl (VL.op (R.ldA Tryz.isAgg31 Tryz.sizeOf31 rfl rfl ((show RowAt _ _ _ (encPf z3.1.p) from (hY3.ext (e10_20.trans (e10_22.trans e10_24))).rowAt 3 1)) rfl) (VL.gT rfl rfl (VL.callP Tryz.call18 rfl (shows_is gw (some ⟨b10_24,0,none⟩) 2 [⟨⟨some ⟨b10_20,0,none⟩,1,[0]⟩,default⟩,⟨⟨some ⟨b10_22,0,none⟩,1,[1]⟩,default⟩] false z3.1.p.a z3.1.p.c z3.1.p.S w10_24 (by rw [hgV,p3];exact hd_pb) (hG8.ext (e10_20.trans (e10_22.trans e10_24))) hgl (litW hB10_24 rfl (litWc ⟨(litI (l:=[0]) hB10_20 rfl (by decide)).ext (e10_22.trans e10_24),TSl.nil _ _ _ _⟩ (litWc ⟨(litI (l:=[1]) hB10_22 rfl (by decide)).ext e10_24,TSl.nil _ _ _ _⟩ litW0))) (litWl rfl) (Nat.le_of_ble_eq_true rfl) (hP3.ext (e10_20.trans (e10_22.trans e10_24)))) fun w10_27 e10_27=>VL.op (R.pickTB rfl rfl) (VL.op (R.mvB rfl) (VL.gT rfl rfl (VL.op (R.ldA Tryz.isAgg25 Tryz.sizeOf25 rfl rfl ((show RowAt _ _ _ (encGr gw) from (hX8.ext (e10_20.trans (e10_22.trans (e10_24.trans e10_27)))).rowAt 0 3)) rfl) (VL.gT rfl rfl (VL.op (R.fld' (o:=3) Tryz.runUnderlying33 rfl rfl Tryz.sizeOf31 rfl rfl) (VL.gT rfl rfl (VL.op (R.ldA Tryz.isAgg31 Tryz.sizeOf31 rfl rfl ((show RowAt _ _ _ (encPf z5.1.p) from (hY5.ext (e10_20.trans (e10_22.trans (e10_24.trans e10_27)))).rowAt 3 1)) rfl) (VL.gT rfl rfl (VL.callP Tryz.call18 rfl (shows_is gw none 0 [] true z5.1.p.a z5.1.p.c z5.1.p.S w10_27 (by rw [hgV,p5];exact hd_pd) (hG8.ext (e10_20.trans (e10_22.trans (e10_24.trans e10_27)))) hgl ⟨TSl.nil _ _ _ _,litW0⟩ (litWl rfl) (Nat.le_of_ble_eq_true rfl) (hP5.ext (e10_20.trans (e10_22.trans (e10_24.trans e10_27))))) fun w10_33 e10_33=>VL.op (R.pickTB rfl rfl) (VL.op (R.asB rfl) (VL.nil (V.ret (fret1 (v:=.bool _) rfl rfl rfl (⟨rfl,E8.trans ((((e10_20.trans e10_22).trans e10_24).trans e10_27).trans e10_33)⟩)))))))))))))))))))))))))))))))))))))))))))))))))))))))))
end Go.Proofs.YtdbcfpcicjgghaaGreatDoor
