/- Aggregate: what comes in (printed by mkJA.py). -/
import Derived.Test.YtdkhcipjenfcnaaGreatDoorXA52
namespace Go.Proofs.YtdkhcipjenfcnaaGreatDoor
set_option maxRecDepth 100000
set_option maxHeartbeats 16000000
open Go.Vc Go.Proofs.Tryz
theorem GIn.ext {w w':World} {g:GrW} (h:GIn w g) (e:Ext w w'):GIn w' g:=⟨h.ok.ext e,h.c,h.e,h.hc,h.he⟩
theorem small_glen {w:World} {g:GrW} {n:Int} (hI:GIn w g) (h:smallB (grV g) n=true):GLen g :=
 ⟨hI.c,hI.e.len,fun x hx=>⟨by have:x.l.length≤6:=(smallB_iff.1 h).2.2.2 x.l (List.mem_map_of_mem hx);omega,(hI.e.each x hx).2.1⟩⟩
def small31 (g:Gr) (n:Int) (wl:Nat):Bool:=smallB g n&&(decide (confI g.edges g.n.toNat≤12)&&decide ((wl:Int)≤n+1))
theorem small31_spec (g:GrW) (n:Int) (wa:Option Addr) (wc:Nat) (ws:List Int) (w:World) (hI:GIn w g) (hn0:0≤n) (hn1:n≤1000000) (_hwl:ws.length≤9223372036854775807) :
  RetsP prog 12 #[.agg (encGr g).toArray,.int .i64 n,.slice wa ws.length wc] w (.bool (small31 (grV g) n ws.length)):=by
 have hgn:(grV g).n=g.n:=rfl
 have hsm:smallB (grV g) n=true→g.n≤n:=fun h=>(smallB_iff.1 h).1
 refine eN (args:=[_,_,_]) func12 rfl ntmps12 ?_
 refine Vs<|Vr<|VL.box (v:=.agg _) rfl fun b0_0 w0_0 hb0_0 e0_0 hB0_0=>oA rfl<|Vn<|Vs<|Vr<|Vo (R.ldA ag25 sz25 rfl rfl (show RowAt _ _ _ (encGr g) from hB0_0.rowAt 0 3) rfl)<|oI rfl<|Vp call18 rfl (small_spec g n _ (hI.ok.ext e0_0) hI.c hI.e.len (fun x hx=>(hI.e.each x hx).1) hn0 hn1) fun w1_2 e1_2=>oB rfl<|VL.and rfl rfl (fun g1_3=>Vo (R.ldA ag25 sz25 rfl rfl (show RowAt _ _ _ (encGr g) from (hB0_0.ext e1_2).rowAt 0 3) rfl)<|lT<|Vp call32 rfl (conf31_spec g _ (hI.ok.ext (e0_0.trans e1_2)) (small_glen hI (by assumption)) (by have:=hsm (by assumption);omega)) fun w1_5 e1_5=>lT<|Vo (R.leq rfl rfl)<|oP rfl rfl<|oB rfl<|VL.andP rfl rfl (fun g1_8=>oS rfl<|lT<|Vo (R.lenS ru22 rfl)<|lT<|oI rfl<|lT<|oD rfl rfl<|lT<|Vo (R.leq rfl rfl)<|oP rfl rfl<|oA rfl<|Vn<|Vt<|tB rfl rfl rfl (⟨?_,((e0_0.trans e1_2).trans e1_5)⟩)) (fun g1_8=>lF<|lF<|lF<|lF<|oQ rfl rfl<|oA rfl<|Vn<|Vt<|tB rfl rfl rfl (⟨?_,((e0_0.trans e1_2).trans e1_5)⟩))) (fun g1_3=>lF<|lF<|oQ rfl rfl<|oB rfl<|lF<|lF<|lF<|lF<|lF<|oQ rfl rfl<|oA rfl<|Vn<|Vt<|tB rfl rfl rfl (⟨?_,(e0_0.trans e1_2)⟩))
 ·refine congrArg Value.bool (show _=small31 (grV g) n ws.length from ?_)
  have h:confI (vals g.edges) g.n.toNat≤12:=by omega
  unfold small31
  rw [g1_3,decide_eq_true (show confI (grV g).edges (grV g).n.toNat≤12 from h)];rfl
 ·refine congrArg Value.bool (show _=small31 (grV g) n ws.length from ?_)
  have h:¬confI (vals g.edges) g.n.toNat≤12:=by omega
  unfold small31
  rw [g1_3,decide_eq_false (show ¬confI (grV g).edges (grV g).n.toNat≤12 from h)];rfl
 ·refine congrArg Value.bool (show _=small31 (grV g) n ws.length from ?_)
  unfold small31
  rw [g1_3];rfl
end Go.Proofs.YtdkhcipjenfcnaaGreatDoor
