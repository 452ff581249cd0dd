/- Aggregate: the reference's Sum and Peak. -/
import Derived.Test.YtdkhcipjenfcnaaGreatDoorXA61
import Derived.Test.YtdkhcipjenfcnaaGreatDoorXA54
namespace Go.Proofs.YtdkhcipjenfcnaaGreatDoor
set_option maxRecDepth 100000
set_option maxHeartbeats 16000000
open Go.Vc Go.Proofs.Tryz
structure RefR (g:Gr) (ws:List Int) (least:Int) (F:List Int→Int) (w:World) (x:SpX) (er:Int):Prop where
 e:er=chkF g ws least
 no:er≠0→x=spZ
 r:er=0→SpanR g F w x
theorem RefR.ext {g:Gr} {ws:List Int} {least:Int} {F:List Int→Int} {w w':World} {x:SpX} {er:Int} (h:RefR g ws least F w x er) (e:Ext w w'):RefR g ws least F w' x er:=⟨h.e,h.no,fun k=>(h.r k).ext e⟩
theorem rsumS (g:GrW) (wa:Option Addr) (wc:Nat) (ws:List Int) (w:World) (hG:GOk w g) (hl:GLen g) (hn:g.n≤40) (h12:confI (grV g).edges g.n.toNat≤12) (hW:IntSl w wa ws) (hwl:ws.length≤1000000) :
  RetsX prog 14 #[.agg (encGr g).toArray,.slice wa ws.length wc] w (fun z:SpX×Int=>.tuple #[.agg (encSp z.1).toArray,.int .i64 z.2]) (fun z w'=>RefR (grV g) ws (-1000000000) (fnS ws true) w' z.1 z.2):=by
 refine eN (args:=[_,_]) func14 rfl ntmps14 ?_
 have hgn:(grV g).n=g.n:=rfl
 have hbad:(validG (grV g)&&wtsB (grV g) ws (-1000000000))=false→chkF (grV g) ws (-1000000000)=1:=fun h=>chk_one.2 h
 have ht:∀ {b:Bool},(!b)=false→b=true:=fun h=>by simpa using h
 refine Vs<|Vr<|VL.box (v:=.agg _) rfl fun b0_0 w0_0 hb0_0 e0_0 hB0_0=>VL.alloc zv32 fun b0_1 w0_1 hb0_1 e0_1 hB0_1=>oJ rfl<|Vn<|Vs<|Vs<|Vr<|Vo (R.ldA ag25 sz25 rfl rfl (show RowAt _ _ _ (encGr g) from (hB0_0.ext e0_1).rowAt 0 3) rfl)<|Vp call39 rfl (rvalid_spec g _ (hG.ext (e0_0.trans e0_1)) hl) fun w1_1 e1_1=>Vo (R.not rfl)<|oB rfl<|VL.or rfl rfl (fun g1_3=>Vo (R.ldA ag25 sz25 rfl rfl (show RowAt _ _ _ (encGr g) from ((hB0_0.ext e0_1).ext e1_1).rowAt 0 3) rfl)<|lT<|oS rfl<|lT<|Vp call40 rfl (rvalid31_spec g wa wc ws (-1000000000) _ (hW.ext ((e0_0.trans e0_1).trans e1_1)) (by omega)) fun w1_6 e1_6=>lT<|Vo (R.not rfl)<|oQ rfl rfl<|Vn<|Vh rfl (fun c14=>Vs<|Vr<|Vo (R.build zv32 ru32 pl32 rfl)<|VL.store (v:=.agg _) sz32 rfl rfl rfl rfl ((hB0_1.ext e1_1).ext e1_6) rfl rfl fun w2_1 m2_1 hs2_1 hB2_1=>oJ rfl<|Vn<|Vt (fretCT (v:=.int _ _) rfl rfl rfl rfl rfl ag32 sz32 rfl (hB2_1.rowAt 0 6) rfl (?_))) (fun c14=>Vk<|Vs<|Vs (?_))) (fun g1_3=>lF<|lF<|lF<|oP rfl rfl<|Vn<|Vg rfl<|Vs<|Vr<|Vo (R.build zv32 ru32 pl32 rfl)<|VL.store (v:=.agg _) sz32 rfl rfl rfl rfl (hB0_1.ext e1_1) rfl rfl fun w2_1 m2_1 hs2_1 hB2_1=>oJ rfl<|Vn<|Vt (fretCT (v:=.int _ _) rfl rfl rfl rfl rfl ag32 sz32 rfl (hB2_1.rowAt 0 6) rfl (?_)))
 ·have z0:=e0_0.size
  have k0:=hb0_1
  exact ⟨(spZ,1),rfl,⟨(hbad (by rw [show wtsB (grV g) ws (-1000000000)=false by simpa using c14];simp)).symm,fun _=>rfl,fun h=>absurd h (by decide)⟩,((e0_0.trans e0_1).trans (e1_1.trans e1_6)).own m2_1 (by dsimp only;omega)⟩
 rotate_left
 ·have z0:=e0_0.size
  have k0:=hb0_1
  exact ⟨(spZ,1),rfl,⟨(hbad (by rw [show validG (grV g)=false by simpa using g1_3];simp)).symm,fun _=>rfl,fun h=>absurd h (by decide)⟩,((e0_0.trans e0_1).trans e1_1).own m2_1 (by dsimp only;omega)⟩
 have hv:=ht g1_3
 have hwt:=ht c14
 have hwt2:=hwt
 unfold wtsB at hwt2
 rw [Bool.and_eq_true,decide_eq_true_eq,List.all_eq_true] at hwt2
 have hwn:(ws.length:Int)=g.n:=hwt2.1
 have hwb:∀ y∈ws,-1000000000≤y∧y≤1000000000:=fun y hy=>by have:=of_decide_eq_true (hwt2.2 y hy);omega
 have hc0:chkF (grV g) ws (-1000000000)=0:=by
  unfold chkF
  rw [if_pos ⟨hv,hwt⟩,if_neg (by omega)]
 have E1:=(e0_0.trans e0_1).trans (e1_1.trans e1_6)
 have hX1:=(hB0_0.ext e0_1).ext (e1_1.trans e1_6)
 have hR1:=hB0_1.ext (e1_1.trans e1_6)
 have hcb:=costB_iff.1 (validG_iff.1 hv).1
 refine Vr<|Vo (R.ldA ag25 sz25 rfl rfl (show RowAt _ _ _ (encGr g) from hX1.rowAt 0 3) rfl)<|Vp call32 rfl (conf31_spec g _ (hG.ext E1) hl (by omega)) fun w3_1 e3_1=>Vo (R.lit (R.gtr rfl rfl) (decide_eq_false (by have:confI (vals g.edges) g.n.toNat≤12:=h12;omega)))<|Vn<|V.condF rfl<|Vk<|Vs (?_)
 have E3:=E1.trans e3_1
 have hR3:=hR1.ext e3_1
 refine Vr<|Vo (R.ldA ag25 sz25 rfl rfl (show RowAt _ _ _ (encGr g) from (hX1.ext e3_1).rowAt 0 3) rfl)<|oS rfl<|VL.callX call41 rfl (span31_spec g wa wc ws true w3_1 (hG.ext E3) hl h12 hv (hW.ext E3) hwn hwb) fun x w5 h5 e5=>VL.store (v:=.agg _) sz32 rfl rfl rfl rfl (hR3.ext e5) rfl rfl fun w6 m6 hs6 hB6=>oJ rfl<|Vn<|Vt (fretCT (v:=.int _ _) rfl rfl rfl rfl rfl ag32 sz32 rfl (hB6.rowAt 0 6) rfl (?_))
 have m6':Vc.Mod (Vc.one b0_1) w5 w6:=m6
 have z0:=e0_0.size
 have k0:=hb0_1
 have l0:=hR3.lt
 refine ⟨(x,0),rfl,⟨hc0.symm,fun h=>absurd rfl h,fun _=>h5.mod m6' (hR3.ext e5)⟩,(E3.trans e5).own m6' (by omega)⟩
theorem rpeakS (g:GrW) (wa:Option Addr) (wc:Nat) (ws:List Int) (w:World) (hG:GOk w g) (hl:GLen g) (hn:g.n≤40) (h12:confI (grV g).edges g.n.toNat≤12) (hW:IntSl w wa ws) (hwl:ws.length≤1000000) :
  RetsX prog 16 #[.agg (encGr g).toArray,.slice wa ws.length wc] w (fun z:SpX×Int=>.tuple #[.agg (encSp z.1).toArray,.int .i64 z.2]) (fun z w'=>RefR (grV g) ws (0) (fnS ws false) w' z.1 z.2):=by
 refine eN (args:=[_,_]) func16 rfl ntmps16 ?_
 have hgn:(grV g).n=g.n:=rfl
 have hbad:(validG (grV g)&&wtsB (grV g) ws (0))=false→chkF (grV g) ws (0)=1:=fun h=>chk_one.2 h
 have ht:∀ {b:Bool},(!b)=false→b=true:=fun h=>by simpa using h
 refine Vs<|Vr<|VL.box (v:=.agg _) rfl fun b0_0 w0_0 hb0_0 e0_0 hB0_0=>VL.alloc zv32 fun b0_1 w0_1 hb0_1 e0_1 hB0_1=>oJ rfl<|Vn<|Vs<|Vs<|Vr<|Vo (R.ldA ag25 sz25 rfl rfl (show RowAt _ _ _ (encGr g) from (hB0_0.ext e0_1).rowAt 0 3) rfl)<|Vp call39 rfl (rvalid_spec g _ (hG.ext (e0_0.trans e0_1)) hl) fun w1_1 e1_1=>Vo (R.not rfl)<|oB rfl<|VL.or rfl rfl (fun g1_3=>Vo (R.ldA ag25 sz25 rfl rfl (show RowAt _ _ _ (encGr g) from ((hB0_0.ext e0_1).ext e1_1).rowAt 0 3) rfl)<|lT<|oS rfl<|lT<|Vp call40 rfl (rvalid31_spec g wa wc ws (0) _ (hW.ext ((e0_0.trans e0_1).trans e1_1)) (by omega)) fun w1_6 e1_6=>lT<|Vo (R.not rfl)<|oQ rfl rfl<|Vn<|Vh rfl (fun c14=>Vs<|Vr<|Vo (R.build zv32 ru32 pl32 rfl)<|VL.store (v:=.agg _) sz32 rfl rfl rfl rfl ((hB0_1.ext e1_1).ext e1_6) rfl rfl fun w2_1 m2_1 hs2_1 hB2_1=>oJ rfl<|Vn<|Vt (fretCT (v:=.int _ _) rfl rfl rfl rfl rfl ag32 sz32 rfl (hB2_1.rowAt 0 6) rfl (?_))) (fun c14=>Vk<|Vs<|Vs (?_))) (fun g1_3=>lF<|lF<|lF<|oP rfl rfl<|Vn<|Vg rfl<|Vs<|Vr<|Vo (R.build zv32 ru32 pl32 rfl)<|VL.store (v:=.agg _) sz32 rfl rfl rfl rfl (hB0_1.ext e1_1) rfl rfl fun w2_1 m2_1 hs2_1 hB2_1=>oJ rfl<|Vn<|Vt (fretCT (v:=.int _ _) rfl rfl rfl rfl rfl ag32 sz32 rfl (hB2_1.rowAt 0 6) rfl (?_)))
 ·have z0:=e0_0.size
  have k0:=hb0_1
  exact ⟨(spZ,1),rfl,⟨(hbad (by rw [show wtsB (grV g) ws (0)=false by simpa using c14];simp)).symm,fun _=>rfl,fun h=>absurd h (by decide)⟩,((e0_0.trans e0_1).trans (e1_1.trans e1_6)).own m2_1 (by dsimp only;omega)⟩
 rotate_left
 ·have z0:=e0_0.size
  have k0:=hb0_1
  exact ⟨(spZ,1),rfl,⟨(hbad (by rw [show validG (grV g)=false by simpa using g1_3];simp)).symm,fun _=>rfl,fun h=>absurd h (by decide)⟩,((e0_0.trans e0_1).trans e1_1).own m2_1 (by dsimp only;omega)⟩
 have hv:=ht g1_3
 have hwt:=ht c14
 have hwt2:=hwt
 unfold wtsB at hwt2
 rw [Bool.and_eq_true,decide_eq_true_eq,List.all_eq_true] at hwt2
 have hwn:(ws.length:Int)=g.n:=hwt2.1
 have hwb:∀ y∈ws,-1000000000≤y∧y≤1000000000:=fun y hy=>by have:=of_decide_eq_true (hwt2.2 y hy);omega
 have hc0:chkF (grV g) ws (0)=0:=by
  unfold chkF
  rw [if_pos ⟨hv,hwt⟩,if_neg (by omega)]
 have E1:=(e0_0.trans e0_1).trans (e1_1.trans e1_6)
 have hX1:=(hB0_0.ext e0_1).ext (e1_1.trans e1_6)
 have hR1:=hB0_1.ext (e1_1.trans e1_6)
 have hcb:=costB_iff.1 (validG_iff.1 hv).1
 refine Vr<|Vo (R.ldA ag25 sz25 rfl rfl (show RowAt _ _ _ (encGr g) from hX1.rowAt 0 3) rfl)<|Vp call32 rfl (conf31_spec g _ (hG.ext E1) hl (by omega)) fun w3_1 e3_1=>Vo (R.lit (R.gtr rfl rfl) (decide_eq_false (by have:confI (vals g.edges) g.n.toNat≤12:=h12;omega)))<|Vn<|V.condF rfl<|Vk<|Vs (?_)
 have E3:=E1.trans e3_1
 have hR3:=hR1.ext e3_1
 refine Vr<|Vo (R.ldA ag25 sz25 rfl rfl (show RowAt _ _ _ (encGr g) from (hX1.ext e3_1).rowAt 0 3) rfl)<|oS rfl<|VL.callX call41 rfl (span31_spec g wa wc ws false w3_1 (hG.ext E3) hl h12 hv (hW.ext E3) hwn hwb) fun x w5 h5 e5=>VL.store (v:=.agg _) sz32 rfl rfl rfl rfl (hR3.ext e5) rfl rfl fun w6 m6 hs6 hB6=>oJ rfl<|Vn<|Vt (fretCT (v:=.int _ _) rfl rfl rfl rfl rfl ag32 sz32 rfl (hB6.rowAt 0 6) rfl (?_))
 have m6':Vc.Mod (Vc.one b0_1) w5 w6:=m6
 have z0:=e0_0.size
 have k0:=hb0_1
 have l0:=hR3.lt
 refine ⟨(x,0),rfl,⟨hc0.symm,fun h=>absurd rfl h,fun _=>h5.mod m6' (hR3.ext e5)⟩,(E3.trans e5).own m6' (by omega)⟩
end Go.Proofs.YtdkhcipjenfcnaaGreatDoor
