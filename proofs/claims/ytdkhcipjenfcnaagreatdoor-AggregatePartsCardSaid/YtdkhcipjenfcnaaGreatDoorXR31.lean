/- Repair: small graphs. -/
import Derived.Test.YtdkhcipjenfcnaaGreatDoorXHG
import Derived.Test.YtdkhcipjenfcnaaGreatDoorXN9
import Derived.Test.YtdkhcipjenfcnaaGreatDoorXVcRepP
import Derived.Test.YtdkhcipjenfcnaaGreatDoorXL7
import Derived.Test.YtdkhcipjenfcnaaGreatDoorXVcDiv
namespace Go.Proofs.YtdkhcipjenfcnaaGreatDoor
set_option maxRecDepth 100000
set_option maxHeartbeats 16000000
open Go.Vc Go.Proofs.Tryz
def smallB (g:Gr) (n:Int):Bool:=decide (g.n≤n)&&(decide ((g.cost.length:Int)≤n+1)&&(decide (g.edges.length≤30)&&g.edges.all fun e=>decide (e.length≤6)))
theorem smallB_iff {g:Gr} {n:Int}:smallB g n=true↔g.n≤n∧(g.cost.length:Int)≤n+1∧g.edges.length≤30∧∀ e∈g.edges,e.length≤6:=by
 unfold smallB
 simp only [Bool.and_eq_true,decide_eq_true_eq,List.all_eq_true]
theorem small_spec (g:GrW) (n:Int) (w:World) (hG:GOk w g) (_hlc:g.cost.length≤9223372036854775807) (hle:g.edges.length≤9223372036854775807) (hlk:∀ x∈g.edges,x.l.length≤9223372036854775807) (hn0:0≤n) (hn1:n≤1000000) :
  RetsP prog 18 #[.agg (encGr g).toArray,.int .i64 n] w (.bool (smallB (grV g) n)):=by
 have hev:(grV g).edges.length=g.edges.length:=List.length_map _
 refine enter (args:=[_,_]) func18 rfl ntmps18 (by kernel_rfl) rfl ?_
 refine Vs (Vr (VL.box (v:=.agg _) rfl fun b0_0 w0_0 hb0_0 e0_0 hB0_0=>oA rfl (Vn (Vs (Vs (Vr (Vo (R.fld' (o:=0) runUnderlying25 rfl rfl sizeOf3 rfl rfl) (Vo (R.ld1 isAgg3 rfl ((show w0_0.cell? ⟨b0_0,0,none⟩=some (Value.int .i64 g.n) from hB0_0.cell 0))) (oI rfl (Vo (R.gtr rfl rfl) (oB rfl (VL.orP rfl rfl (fun g1_4=>Vo (R.fld' (o:=1) runUnderlying25 rfl rfl sizeOf22 rfl rfl) (VL.gT rfl rfl (Vo (R.ld1 isAgg22 rfl ((show w0_0.cell? ⟨b0_0,1,none⟩=some (Value.slice g.ca g.cost.length g.cc) from hB0_0.cell 1))) (VL.gT rfl rfl (Vo (R.lenS runUnderlying22 rfl) (VL.gT rfl rfl (oI rfl (VL.gT rfl rfl (Vo (R.add rfl rfl (by omega) (by omega)) (VL.gT rfl rfl (Vo (R.gtr rfl rfl) (oQ rfl rfl (oB rfl (VL.orP rfl rfl (fun g1_12=>Vo (R.fld' (o:=2) runUnderlying25 rfl rfl sizeOf23 rfl rfl) (VL.gT rfl rfl (Vo (R.ld1 isAgg23 rfl ((show w0_0.cell? ⟨b0_0,2,none⟩=some (Value.slice g.ea g.edges.length g.ec) from hB0_0.cell 2))) (VL.gT rfl rfl (Vo (R.lenS runUnderlying23 rfl) (VL.gT rfl rfl (Vo (R.gtr rfl rfl) (oQ rfl rfl (Vn (V.condP rfl (fun c23=>Vs (Vr (oA rfl (Vn (V.ret (fret1 (v:=.bool _) rfl rfl rfl (⟨?_,e0_0⟩))))))) (fun c23=>V.skip (Vs (Vs (?_)))))))))))))) (fun g1_12=>VL.gF rfl rfl (VL.gF rfl rfl (VL.gF rfl rfl (oP rfl rfl (Vn (V.condT rfl (Vs (Vr (oA rfl (Vn (V.ret (fret1 (v:=.bool _) rfl rfl rfl (⟨?_,e0_0⟩))))))))))))))))))))))))))) (fun g1_4=>VL.gF rfl rfl (VL.gF rfl rfl (VL.gF rfl rfl (VL.gF rfl rfl (VL.gF rfl rfl (oP rfl rfl (oB rfl (VL.gF rfl rfl (VL.gF rfl rfl (VL.gF rfl rfl (VL.gF rfl rfl (oP rfl rfl (Vn (V.condT rfl (Vs (Vr (oA rfl (Vn (V.ret (fret1 (v:=.bool _) rfl rfl rfl (⟨?_,e0_0⟩)))))))))))))))))))))))))))))))))
 ·have:smallB (grV g) n=false:=Bool.eq_false_iff.2 fun hh=>by have h3:=(smallB_iff.1 hh).2.2.1;rw [hev] at h3;omega
  rw [this]
 ·refine Vr (oJ rfl (Vn (V.block (?_))))
  have hE:=hG.e
  refine V.loop [2,5] (fun k:Nat=>[.pointer (some ⟨b0_0,0,none⟩),.int .i64 (k:Nat)]) (fun k w'=>k≤g.edges.length∧(∀ i,i<k→(g.edges.getD i default).l.length≤6)∧Ext w0_0 w') (fun k=>g.edges.length-k) 0 rfl ⟨Nat.zero_le _,fun i h=>absurd h (Nat.not_lt_zero i),Vc.Mod.refl _ _⟩ ?_
  rintro ρ k w5 ⟨hk,hs,e5⟩
  have hX5:=hB0_0.ext e5
  have hE5:=hE.ext (e0_0.trans e5)
  refine Vs (Vs (Vr (oI rfl (Vo (R.fld' (o:=2) runUnderlying25 rfl rfl sizeOf23 rfl rfl) (Vo (R.ld1 isAgg23 rfl ((show w5.cell? ⟨b0_0,2,none⟩=some (Value.slice g.ea g.edges.length g.ec) from hX5.cell 2))) (Vo (R.lenS runUnderlying23 rfl) (oL rfl rfl (Vn (V.condP rfl (fun c28=>V.skip (Vs (V.block (Vs (?_))))) (fun c28=>V.exit (Vs (?_))))))))))))
  ·have hkl:k<g.edges.length:=by omega
   have hkm:=hlk _ (gmem hkl)
   refine Vr (Vo (R.fld' (o:=2) runUnderlying25 rfl rfl sizeOf23 rfl rfl) (Vo (R.ld1 isAgg23 rfl ((show w5.cell? ⟨b0_0,2,none⟩=some (Value.slice g.ea g.edges.length g.ec) from hX5.cell 2))) (oI rfl (Vo (R.ixS runUnderlying23 sizeOf22 rfl rfl (by omega) (by omega) (hE5.sl.some (i:=k) hkl)) (Vo (R.ld1 isAgg22 rfl (((hE5.sl.row (i:=k) hkl).cell (i:=0) rfl))) (Vo (R.lenS runUnderlying22 rfl) (Vo (R.gtr rfl rfl) (Vn (V.condP rfl (fun c37=>Vs (Vr (oA rfl (Vn (V.ret (fret1 (v:=.bool _) rfl rfl rfl (⟨?_,e0_0.trans e5⟩))))))) (fun c37=>V.skip (Vr (oI rfl (Vo (R.add rfl rfl (by omega) (by omega)) (oJ rfl (Vn (?_))))))))))))))))
   ·have:smallB (grV g) n=false:=Bool.eq_false_iff.2 fun hh=>by
     have h3:=(smallB_iff.1 hh).2.2.2 (g.edges.getD k default).l (List.mem_map_of_mem (gmem hkl))
     omega
    rw [this]
   ·refine ⟨k+1,rfl,⟨by omega,fun i hi=>?_,e5⟩,by omega⟩
    by_cases h:i=k
    ·subst h;omega
    ·exact hs i (by omega)
  ·have hke:k=g.edges.length:=by omega
   subst hke
   refine Vr (oA rfl (Vn (V.ret (fret1 (v:=.bool _) rfl rfl rfl (⟨?_,e0_0.trans e5⟩)))))
   have:smallB (grV g) n=true:=smallB_iff.2 ⟨by show g.n≤n;omega,by show (g.cost.length:Int)≤n+1;omega,by rw [hev];omega,fun e he=>by
    obtain ⟨x,hx,rfl⟩:=List.mem_map.1 he
    obtain ⟨i,hi,rfl⟩:=List.getElem_of_mem hx
    have:=hs i hi
    rwa [gget hi] at this⟩
   rw [this]
 ·have:smallB (grV g) n=false:=Bool.eq_false_iff.2 fun hh=>by have h3:(g.cost.length:Int)≤n+1:=(smallB_iff.1 hh).2.1;omega
  rw [this]
 ·have:smallB (grV g) n=false:=Bool.eq_false_iff.2 fun hh=>by have h3:g.n≤n:=(smallB_iff.1 hh).1;omega
  rw [this]
def isB (g:Gr) (S:List Int):Bool:=loadB g S&&(List.range g.n.toNat).all fun v=>decide ((v:Int)∈S)||blkB g.edges S (v:Int)
theorem isB_iff {g:Gr} (hg:validG g=true) {S:List Int}:isB g S=true↔IsRep g S:=by
 unfold isB
 rw [Bool.and_eq_true,loadB_iff,List.all_eq_true]
 constructor
 ·rintro ⟨⟨_,hs,hi⟩,hall⟩
  refine ⟨hs,indB_iff.1 hi,fun v h0 h1 hv=>?_⟩
  have:=hall v.toNat (List.mem_range.2 (by omega))
  rw [show ((v.toNat:Nat):Int)=v by omega,decide_eq_false hv,Bool.false_or] at this
  exact blkB_iff.1 this
 ·rintro ⟨hs,hi,hm⟩
  refine ⟨⟨hg,hs,indB_iff.2 hi⟩,fun u hu=>?_⟩
  have hu:=List.mem_range.1 hu
  by_cases h:(u:Int)∈S
  ·rw [decide_eq_true h];rfl
  ·rw [show blkB g.edges S (u:Int)=true from blkB_iff.2 (hm u (by omega) (by omega) h),Bool.or_true]
theorem is_spec28 (g:GrW) (a:Option Addr) (c:Nat) (S:List Int) (B:Nat) (w:World) (hG:GOk w g) (hl:GLen g) (hS:IntSl w a S) (hm:S.length≤1000000) (hB:B≤w.heap.size) (hT:TabW B w) :
  RetsP prog 28 #[.agg (encGr g).toArray,.slice a S.length c] w (.bool (isB (grV g) S)):=by
 refine enter (args:=[_,_]) func28 rfl ntmps28 (by kernel_rfl) rfl ?_
 refine Vs (Vr (VL.box (v:=.agg _) rfl fun b0_0 w0_0 hb0_0 e0_0 hB0_0=>oA rfl (Vn (Vs (Vr (Vo (R.ldA isAgg25 sizeOf25 rfl rfl ((show RowAt _ _ _ (encGr g) from (hB0_0.rowAt 0 3))) rfl) (oS rfl (VL.callX call59 rfl (load_spec g a c S B _ (hG.ext e0_0) hl (hS.ext e0_0) hm (Nat.le_trans hB (e0_0).size) (hT.ext hB e0_0)) fun x1 w1 h1 e1=>Vo (R.mvT rfl) (Vo (R.extr rfl rfl) (Vo (R.extr rfl rfl) (Vo (R.asP rfl) (oA rfl (Vn (Vs (?_)))))))))))))))
 obtain ⟨s0,b⟩:=x1
 obtain ⟨hb,hok⟩:=h1
 dsimp only at hb hok ⊢
 cases b with
 | false =>
  refine Vr (oB rfl (oB rfl (VL.gF rfl rfl (VL.gF rfl rfl (VL.gF rfl rfl (VL.gF rfl rfl (VL.gF rfl rfl (VL.gF rfl rfl (VL.gF rfl rfl (VL.gF rfl rfl (oQ rfl rfl (oA rfl (Vn (V.ret (fret1 (v:=.bool _) rfl rfl rfl (⟨?_,e0_0.trans e1⟩))))))))))))))))
  unfold isB;rw [←hb];rfl
 | true =>
  obtain ⟨hS0,hI0⟩:=hok rfl
  obtain ⟨hv,hset,hind⟩:=loadB_iff.1 hb.symm
  have hn:=costB_iff.1 (validG_iff.1 hv).1
  obtain ⟨N,hN⟩:∃ N:Nat,g.n=(N:Int):=⟨g.n.toNat,by have h0:0≤g.n:=hn.1;omega⟩
  have hNt:g.n.toNat=N:=by omega
  rw [hNt] at hI0
  have hN4:N≤4000:=by have h0:g.n≤4000:=hn.2.1;omega
  have hE20:g.edges.length≤20000:=by have:=(validG_iff.1 hv).2.1;simpa [grV,vals] using this
  have hnd:∀ e∈vals g.edges,e.Nodup:=fun e he=>inc_nodup ((validG_iff.1 hv).2.2.1 e he).2.1
  have hw1:=e0_0.trans e1
  have hS1:StOk w.heap.size w1 g s0:=hS0.weaken e0_0.size
  have hG1:=(hG.ext hw1).e
  have hcs:(if (true:Bool)=true then some (⟨s0.p,0,none⟩:Addr) else none)=some ⟨s0.p,0,none⟩:=rfl
  refine Vr (oB rfl (oB rfl (VL.gT rfl rfl (Vo (R.mvP rfl) (VL.gT rfl rfl (Vo (R.nilCheck rfl) (VL.gT rfl rfl (Vo (R.fld' (o:=3) runUnderlying87 rfl rfl sizeOf79 rfl rfl) (VL.gT rfl rfl (Vo (R.ld1 isAgg79 rfl ((show w1.cell? ⟨s0.p,3,none⟩=some (Value.slice (some ⟨s0.bi,0,none⟩) s0.bs.length s0.bs.length) from hS1.blk.cell 3))) (VL.gT rfl rfl (Vo (R.mvP rfl) (VL.gT rfl rfl (Vo (R.mkFn rfl rfl) (VL.gT rfl rfl (VL.callX call60 rfl (open_spec g w.heap.size N s0 S _ hS1 hI0 hG1 hl hE20 hnd hN4) fun i4 w4 h4 e4=>VL.gT rfl rfl (oL rfl rfl (oP rfl rfl (oA rfl (Vn (V.ret (fret1 (v:=.bool _) rfl rfl rfl (⟨?_,hw1.trans e4⟩)))))))))))))))))))))))
  unfold isB
  rw [←hb,Bool.true_and]
  rw [show (grV g).n.toNat=N from hNt]
  rcases h4 with ⟨rfl,h4⟩ | ⟨v,rfl,h1,h2,h3,_⟩
  ·rw [show ((List.range N).all fun v=>decide ((v:Int)∈S)||blkB (grV g).edges S (v:Int))=true from List.all_eq_true.2 fun u hu=>by
    rcases h4 u (List.mem_range.1 hu) with h | h
    ·rw [decide_eq_true h];rfl
    ·rw [show blkB (grV g).edges S (u:Int)=true from h,Bool.or_true]]
   rfl
  ·rw [show ((List.range N).all fun v=>decide ((v:Int)∈S)||blkB (grV g).edges S (v:Int))=false from List.all_eq_false.2 ⟨v,List.mem_range.2 h1,by
    rw [decide_eq_false h2,show blkB (grV g).edges S (v:Int)=false from h3];decide⟩]
   show Value.bool (decide _)=_
   rw [decide_eq_false (by omega)]
end Go.Proofs.YtdkhcipjenfcnaaGreatDoor
