/- Repair: small graphs. -/
import Derived.Test.YtdkhcipjenfcnaaGreatDoorXN9
import Derived.Test.YtdkhcipjenfcnaaGreatDoorXVcRepP
import Derived.Test.YtdkhcipjenfcnaaGreatDoorXL8
namespace Go.Proofs.YtdkhcipjenfcnaaGreatDoor
set_option maxRecDepth 100000
set_option maxHeartbeats 16000000
open Go.Vc Go.Proofs.Tryz
def smallB (g:Gr) (n:Int):Bool:=decide (g.n≤n)&&(decide ((g.cost.length:Int)≤n+1)&&(decide (g.edges.length≤30)&&g.edges.all fun e=>decide (e.length≤6)))
theorem smallB_iff {g:Gr} {n:Int}:smallB g n=true↔g.n≤n∧(g.cost.length:Int)≤n+1∧g.edges.length≤30∧∀ e∈g.edges,e.length≤6:=by
 unfold smallB
 simp only [Bool.and_eq_true,decide_eq_true_eq,List.all_eq_true]
theorem small_spec (g:GrW) (n:Int) (w:World) (hG:GOk w g) (_hlc:g.cost.length≤9223372036854775807) (hle:g.edges.length≤9223372036854775807) (hlk:∀ x∈g.edges,x.l.length≤9223372036854775807) (hn0:0≤n) (hn1:n≤1000000) :
  RetsP prog 18 #[.agg (encGr g).toArray,.int .i64 n] w (.bool (smallB (grV g) n)):=by
 have hev:(grV g).edges.length=g.edges.length:=List.length_map _
 refine eN (args:=[_,_]) func18 rfl ntmps18 ?_
 refine Vs<|Vr<|VL.box (v:=.agg _) rfl fun b0_0 w0_0 hb0_0 e0_0 hB0_0=>oA rfl<|Vn<|Vs<|Vs<|Vr<|Vo (R.fld' (o:=0) ru25 rfl rfl sz3 rfl rfl)<|Vo (rla ag3 rfl (show w0_0.cell? ⟨b0_0,0,none⟩=some (Value.int .i64 g.n) from hB0_0.cell 0))<|oI rfl<|Vo (R.gtr rfl rfl)<|oB rfl<|VL.orP rfl rfl (fun g1_4=>Vo (R.fld' (o:=1) ru25 rfl rfl sz22 rfl rfl)<|lT<|Vo (rla ag22 rfl (show w0_0.cell? ⟨b0_0,1,none⟩=some (Value.slice g.ca g.cost.length g.cc) from hB0_0.cell 1))<|lT<|Vo (R.lenS ru22 rfl)<|lT<|oI rfl<|lT<|oD rfl rfl<|lT<|Vo (R.gtr rfl rfl)<|oQ rfl rfl<|oB rfl<|VL.orP rfl rfl (fun g1_12=>Vo (R.fld' (o:=2) ru25 rfl rfl sz23 rfl rfl)<|lT<|Vo (rla ag23 rfl (show w0_0.cell? ⟨b0_0,2,none⟩=some (Value.slice g.ea g.edges.length g.ec) from hB0_0.cell 2))<|lT<|Vo (R.lenS ru23 rfl)<|lT<|Vo (R.gtr rfl rfl)<|oQ rfl rfl<|Vn<|Vd rfl (fun c23=>Vs<|Vr<|oA rfl<|Vn<|Vt<|tB rfl rfl rfl (⟨?_,e0_0⟩)) (fun c23=>Vk<|Vs<|Vs (?_))) (fun g1_12=>lF<|lF<|lF<|oP rfl rfl<|Vn<|Vg rfl<|Vs<|Vr<|oA rfl<|Vn<|Vt<|tB rfl rfl rfl (⟨?_,e0_0⟩))) (fun g1_4=>lF<|lF<|lF<|lF<|lF<|oP rfl rfl<|oB rfl<|lF<|lF<|lF<|lF<|oP rfl rfl<|Vn<|Vg rfl<|Vs<|Vr<|oA rfl<|Vn<|Vt<|tB rfl rfl rfl (⟨?_,e0_0⟩))
 ·have:smallB (grV g) n=false:=Bool.eq_false_iff.2 fun hh=>by have h3:=(smallB_iff.1 hh).2.2.1;rw [hev] at h3;omega
  rw [this]
 ·refine Vr<|oJ rfl<|Vn<|Vb (?_)
  have hE:=hG.e
  refine Vl [2,5] (fun k:Nat=>[pA b0_0,.int .i64 (k:Nat)]) (fun k w'=>k≤g.edges.length∧(∀ i,i<k→(g.edges.getD i default).l.length≤6)∧Ext w0_0 w') (fun k=>g.edges.length-k) 0 rfl ⟨Nat.zero_le _,fun i h=>absurd h (Nat.not_lt_zero i),Vc.Mod.refl _ _⟩ ?_
  rintro ρ k w5 ⟨hk,hs,e5⟩
  have hX5:=hB0_0.ext e5
  have hE5:=hE.ext (e0_0.trans e5)
  refine Vs<|Vs<|Vr<|oI rfl<|Vo (R.fld' (o:=2) ru25 rfl rfl sz23 rfl rfl)<|Vo (rla ag23 rfl (show w5.cell? ⟨b0_0,2,none⟩=some (Value.slice g.ea g.edges.length g.ec) from hX5.cell 2))<|Vo (R.lenS ru23 rfl)<|oL rfl rfl<|Vn<|Vd rfl (fun c28=>Vk<|Vs<|Vb<|Vs (?_)) (fun c28=>Ve<|Vs (?_))
  ·have hkl:k<g.edges.length:=by omega
   have hkm:=hlk _ (gmem hkl)
   refine Vr<|Vo (R.fld' (o:=2) ru25 rfl rfl sz23 rfl rfl)<|Vo (rla ag23 rfl (show w5.cell? ⟨b0_0,2,none⟩=some (Value.slice g.ea g.edges.length g.ec) from hX5.cell 2))<|oI rfl<|Vo (iX ru23 sz22 rfl rfl (hE5.sl.some (i:=k) hkl))<|Vo (rla ag22 rfl ((hE5.sl.row (i:=k) hkl).c0a rfl))<|Vo (R.lenS ru22 rfl)<|Vo (R.gtr rfl rfl)<|Vn<|Vd rfl (fun c37=>Vs<|Vr<|oA rfl<|Vn<|Vt<|tB rfl rfl rfl (⟨?_,e0_0.trans e5⟩)) (fun c37=>Vk<|Vr<|oI rfl<|oD rfl rfl<|oJ rfl<|Vn (?_))
   ·have:smallB (grV g) n=false:=Bool.eq_false_iff.2 fun hh=>by
     have h3:=(smallB_iff.1 hh).2.2.2 (g.edges.getD k default).l (List.mem_map_of_mem (gmem hkl))
     omega
    rw [this]
   ·refine ⟨k+1,rfl,⟨by omega,fun i hi=>?_,e5⟩,by omega⟩
    by_cases h:i=k
    ·subst h;omega
    ·exact hs i (by omega)
  ·have hke:k=g.edges.length:=by omega
   subst hke
   refine Vr<|oA rfl<|Vn<|Vt<|tB rfl rfl rfl (⟨?_,e0_0.trans e5⟩)
   have:smallB (grV g) n=true:=smallB_iff.2 ⟨by show g.n≤n;omega,by show (g.cost.length:Int)≤n+1;omega,by rw [hev];omega,fun e he=>by
    obtain ⟨x,hx,rfl⟩:=List.mem_map.1 he
    obtain ⟨i,hi,rfl⟩:=List.getElem_of_mem hx
    have:=hs i hi
    rwa [gget hi] at this⟩
   rw [this]
 ·have:smallB (grV g) n=false:=Bool.eq_false_iff.2 fun hh=>by have h3:(g.cost.length:Int)≤n+1:=(smallB_iff.1 hh).2.1;omega
  rw [this]
 ·have:smallB (grV g) n=false:=Bool.eq_false_iff.2 fun hh=>by have h3:g.n≤n:=(smallB_iff.1 hh).1;omega
  rw [this]
theorem rsetN_spec (a:Option Addr) (c n:Nat) (l:List Int) (w:World) (hn:n=l.length) (hm:l.length≤1000000) (hS:IntSl w a l) :
  RetsX prog 144 #[.slice a n c] w (fun x:Option Addr×Nat=>.slice x.1 (setF l).length x.2) (fun x w'=>OwnT Vc.encI 1 3 w.heap.size w' x.1 x.2 (setF l)):=by
 subst hn
 exact rset_spec a c l w hm hS
theorem put28_spec (a:Option Addr) (c:Nat) (S:List Int) (v:Int) (w:World) (hm:S.length≤100000) (hax:a=none→c=0) (hS:IntSl w a S) :
  RetsX prog 124 #[.slice a S.length c,.int .i64 v] w (fun x:Option Addr×Nat=>.slice x.1 (setF (S++[v])).length x.2) (fun x w'=>OwnT Vc.encI 1 3 w.heap.size w' x.1 x.2 (setF (S++[v]))):=by
 refine eN (args:=[_,_]) func124 rfl ntmps124 ?_
 refine Vs<|Vr<|oT rfl<|Vn<|Vs<|Vr<|VL.buildSl ru22 sz3 zv3 rfl rfl rfl fun b1 w1 hb1 e1 hB1=>oS rfl<|VL.appendT el22 (fun _=>rfl) rfl (rfl) (OwnT.of0 Vc.encI 1 hB1 (Nat.le_of_eq hb1.symm)) rfl (rfl) (hS.ext e1) (hax) (by simp;omega) (by simp [maxLen];omega) e1.size (show 0+S.length=([]++S:List Int).length by simp) fun a2 c2 w2 ho2 m2 hf2=>oI rfl<|VL.append1 el22 ru22 sz3 zv3 rfl (v) rfl rfl rfl ho2 rfl rfl rfl (by simp;omega) (by simp [maxLen];omega) (Nat.le_trans e1.size m2.size) fun a3 c3 w3 vt3 ho3 m3 hf3=>VL.callX call144 rfl (rsetN_spec a3 c3 (([]++S:List Int).length+1) (([]++S)++[v]) w3 (by simp) (by simp;omega) (OwnT.sl ho3)) fun s4 w4 hS4 e4=>oT rfl<|Vn<|Vt (fret1 (v:=.slice _ _ _) rfl rfl rfl (?_))
 have E1:Ext w w3:=((e1.ownA m2 fun q hq=>by have:=aBlk_some hq;omega).ownA m3 fun q hq=>ho2.ge q hq)
 rw [List.nil_append] at hS4 ⊢
 exact ⟨s4,rfl,hS4.weaken E1.size,E1.trans e4⟩
def isB (g:Gr) (S:List Int):Bool:=loadB g S&&(List.range g.n.toNat).all fun v=>decide ((v:Int)∈S)||blkB g.edges S (v:Int)
theorem isB_iff {g:Gr} (hg:validG g=true) {S:List Int}:isB g S=true↔IsRep g S:=by
 unfold isB
 rw [Bool.and_eq_true,loadB_iff,List.all_eq_true]
 constructor
 ·rintro ⟨⟨_,hs,hi⟩,hall⟩
  refine ⟨hs,indB_iff.1 hi,fun v h0 h1 hv=>?_⟩
  have:=hall v.toNat (List.mem_range.2 (by omega))
  rw [show ((v.toNat:Nat):Int)=v by omega,decide_eq_false hv,Bool.false_or] at this
  exact blkB_iff.1 this
 ·rintro ⟨hs,hi,hm⟩
  refine ⟨⟨hg,hs,indB_iff.2 hi⟩,fun u hu=>?_⟩
  have hu:=List.mem_range.1 hu
  by_cases h:(u:Int)∈S
  ·rw [decide_eq_true h];rfl
  ·rw [show blkB g.edges S (u:Int)=true from blkB_iff.2 (hm u (by omega) (by omega) h),Bool.or_true]
theorem is_spec28 (g:GrW) (a:Option Addr) (c:Nat) (S:List Int) (B:Nat) (w:World) (hG:GOk w g) (hl:GLen g) (hS:IntSl w a S) (hm:S.length≤1000000) (hB:B≤w.heap.size) (hT:TabW B w) :
  RetsP prog 28 #[.agg (encGr g).toArray,.slice a S.length c] w (.bool (isB (grV g) S)):=by
 refine eN (args:=[_,_]) func28 rfl ntmps28 ?_
 refine Vs<|Vr<|VL.box (v:=.agg _) rfl fun b0_0 w0_0 hb0_0 e0_0 hB0_0=>oA rfl<|Vn<|Vs<|Vr<|Vo (R.ldA ag25 sz25 rfl rfl (show RowAt _ _ _ (encGr g) from (hB0_0.rowAt 0 3)) rfl)<|oS rfl<|VL.callX call59 rfl (load_spec g a c S B _ (hG.ext e0_0) hl (hS.ext e0_0) hm (Nat.le_trans hB (e0_0).size) (hT.ext hB e0_0)) fun x1 w1 h1 e1=>Vo (R.mvT rfl)<|Vo (R.extr rfl rfl)<|Vo (R.extr rfl rfl)<|Vo (R.asP rfl)<|oA rfl<|Vn<|Vs (?_)
 obtain ⟨s0,b⟩:=x1
 obtain ⟨hb,hok⟩:=h1
 dsimp only at hb hok ⊢
 cases b with
 | false =>
  refine Vr<|oB rfl<|oB rfl<|lF<|lF<|lF<|lF<|lF<|lF<|lF<|lF<|oQ rfl rfl<|oA rfl<|Vn<|Vt<|tB rfl rfl rfl (⟨?_,e0_0.trans e1⟩)
  unfold isB;rw [←hb];rfl
 | true =>
  obtain ⟨hS0,hI0⟩:=hok rfl
  obtain ⟨hv,hset,hind⟩:=loadB_iff.1 hb.symm
  have hn:=costB_iff.1 (validG_iff.1 hv).1
  obtain ⟨N,hN⟩:∃ N:Nat,g.n=(N:Int):=⟨g.n.toNat,by have h0:0≤g.n:=hn.1;omega⟩
  have hNt:g.n.toNat=N:=by omega
  rw [hNt] at hI0
  have hN4:N≤4000:=by have h0:g.n≤4000:=hn.2.1;omega
  have hE20:g.edges.length≤20000:=by have:=(validG_iff.1 hv).2.1;simpa [grV,vals] using this
  have hnd:∀ e∈vals g.edges,e.Nodup:=fun e he=>inc_nodup ((validG_iff.1 hv).2.2.1 e he).2.1
  have hw1:=e0_0.trans e1
  have hS1:StOk w.heap.size w1 g s0:=hS0.weaken e0_0.size
  have hG1:=(hG.ext hw1).e
  have hcs:(if (true:Bool)=true then some (⟨s0.p,0,none⟩:Addr) else none)=some ⟨s0.p,0,none⟩:=rfl
  refine Vr<|oB rfl<|oB rfl<|lT<|Vo (R.mvP rfl)<|lT<|Vo (R.nilCheck rfl)<|lT<|Vo (R.fld' (o:=3) ru87 rfl rfl sizeOf79 rfl rfl)<|lT<|Vo (rla isAgg79 rfl (show w1.cell? ⟨s0.p,3,none⟩=some (Value.slice (some ⟨s0.bi,0,none⟩) s0.bs.length s0.bs.length) from hS1.blk.cell 3))<|lT<|Vo (R.mvP rfl)<|lT<|Vo (R.mkFn rfl rfl)<|lT<|VL.callX call60 rfl (open_spec g w.heap.size N s0 S _ hS1 hI0 hG1 hl hE20 hnd hN4) fun i4 w4 h4 e4=>lT<|oL rfl rfl<|oP rfl rfl<|oA rfl<|Vn<|Vt<|tB rfl rfl rfl (⟨?_,hw1.trans e4⟩)
  unfold isB
  rw [←hb,Bool.true_and]
  rw [show (grV g).n.toNat=N from hNt]
  rcases h4 with ⟨rfl,h4⟩ | ⟨v,rfl,h1,h2,h3,_⟩
  ·rw [show ((List.range N).all fun v=>decide ((v:Int)∈S)||blkB (grV g).edges S (v:Int))=true from List.all_eq_true.2 fun u hu=>by
    rcases h4 u (List.mem_range.1 hu) with h | h
    ·rw [decide_eq_true h];rfl
    ·rw [show blkB (grV g).edges S (u:Int)=true from h,Bool.or_true]]
   rfl
  ·rw [show ((List.range N).all fun v=>decide ((v:Int)∈S)||blkB (grV g).edges S (v:Int))=false from List.all_eq_false.2 ⟨v,List.mem_range.2 h1,by
    rw [decide_eq_false h2,show blkB (grV g).edges S (v:Int)=false from h3];decide⟩]
   show Value.bool (decide _)=_
   rw [decide_eq_false (by omega)]
theorem rcosts_spec (n:Int) (a:Option Addr) (c:Nat) (l:List Int) (w:World) (hL:IntSl w a l) (_hl:l.length≤9223372036854775807) :
  RetsP prog 78 #[.int .i64 n,.slice a l.length c] w (.bool (costB n l)):=by
 refine eN (args:=[_,_]) func78 rfl ntmps78 ?_
 have no:∀ {P:Prop},(costB n l=true→P)→¬P→Value.bool false=.bool (costB n l):=fun h hn=>by
  cases hc:costB n l with
  | false=>rfl
  | true=>exact absurd (h hc) hn
 refine Vs<|Vr<|oA rfl<|Vn<|Vs<|Vs<|Vr<|oI rfl<|oL rfl rfl<|oB rfl<|VL.orP rfl rfl (fun g1_2=>oI rfl<|lT<|Vo (R.gtr rfl rfl)<|oQ rfl rfl<|oB rfl<|VL.orP rfl rfl (fun g1_6=>oS rfl<|lT<|Vo (R.lenS ru22 rfl)<|lT<|oI rfl<|lT<|Vo (R.neq rfl rfl)<|oQ rfl rfl<|Vn<|Vd rfl (fun c17=>Vs<|Vr<|oA rfl<|Vn<|Vt<|tB rfl rfl rfl (⟨?_,(Mod.refl _ _)⟩)) (fun c17=>Vk<|Vs<|Vs (?_))) (fun g1_6=>lF<|lF<|lF<|oP rfl rfl<|Vn<|Vg rfl<|Vs<|Vr<|oA rfl<|Vn<|Vt<|tB rfl rfl rfl (⟨?_,(Mod.refl _ _)⟩))) (fun g1_2=>lF<|oP rfl rfl<|oB rfl<|lF<|lF<|lF<|lF<|oP rfl rfl<|Vn<|Vg rfl<|Vs<|Vr<|oA rfl<|Vn<|Vt<|tB rfl rfl rfl (⟨?_,(Mod.refl _ _)⟩))
 ·exact no (P:=0≤n∧n≤4000∧(l.length:Int)=n) (fun h=>⟨(costB_iff.1 h).1,(costB_iff.1 h).2.1,(costB_iff.1 h).2.2.1⟩) (by omega)
 ·refine Vr<|oJ rfl<|Vn<|Vb (?_)
  refine Vl [0,1,5] (fun k:Nat=>[.int .i64 n,.slice a l.length c,.int .i64 (k:Nat)]) (fun k w'=>k≤l.length∧(∀ i,i<k→0≤l.getD i default∧l.getD i default≤1000000000)∧Ext w w') (fun k=>l.length-k) 0 rfl ⟨Nat.zero_le _,fun i h=>absurd h (Nat.not_lt_zero i),Mod.refl _ _⟩ ?_
  rintro ρ k w1 ⟨hk,hi,e⟩
  have hL1:=hL.ext e
  refine Vs<|Vs<|Vr<|oI rfl<|oI rfl<|oL rfl rfl<|Vn<|Vd rfl (fun c20=>Vk<|Vs<|Vb<|Vs<|Vr<|oS rfl<|oI rfl<|Vo (iX ru22 sz3 rfl rfl ((hL).some (i:=k) (by omega)))<|Vo (rla ag3 rfl ((((hL).ext e).row (i:=k) (by omega)).c0a rfl))<|oL rfl rfl<|oB rfl<|VL.orP rfl rfl (fun g6_5=>oS rfl<|lT<|oI rfl<|lT<|Vo (iX ru22 sz3 rfl rfl ((hL).some (i:=k) (by omega)))<|lT<|Vo (rla ag3 rfl ((((hL).ext e).row (i:=k) (by omega)).c0a rfl))<|lT<|Vo (R.gtr rfl rfl)<|oQ rfl rfl<|Vn<|Vd rfl (fun c34=>Vs<|Vr<|oA rfl<|Vn<|Vt<|tB rfl rfl rfl (⟨?_,e⟩)) (fun c34=>Vk<|Vr<|oI rfl<|oD rfl rfl<|oJ rfl<|Vn (⟨k+1,rfl,⟨by omega,fun i h=>?_,e⟩,by omega⟩))) (fun g6_5=>lF<|lF<|lF<|lF<|oP rfl rfl<|Vn<|Vg rfl<|Vs<|Vr<|oA rfl<|Vn<|Vt<|tB rfl rfl rfl (⟨?_,e⟩))) (fun c20=>Ve<|Vs<|Vr<|oA rfl<|Vn<|Vt<|tB rfl rfl rfl (⟨?_,e⟩))
  ·exact no (P:=l.getD k default≤1000000000) (fun h=>((costB_iff.1 h).2.2.2 _ (gmem (by omega))).2) (by omega)
  ·by_cases h2:i=k
   ·subst h2;omega
   ·exact hi i (by omega)
  ·exact no (P:=0≤l.getD k default) (fun h=>((costB_iff.1 h).2.2.2 _ (gmem (by omega))).1) (by omega)
  ·refine congrArg Value.bool (costB_iff.2 ⟨by omega,by omega,by omega,fun x hx=>?_⟩).symm
   obtain ⟨i,hil,rfl⟩:=List.getElem_of_mem hx
   rw [←gget hil];exact hi i (by omega)
 ·exact no (P:=n≤4000) (fun h=>(costB_iff.1 h).2.1) (by omega)
 ·exact no (P:=0≤n) (fun h=>(costB_iff.1 h).1) (by omega)
theorem lex_up {E:List SlI} (h:∀ j,0<j→j<E.length→lexB (E.getD (j-1) default).l (E.getD j default).l=true):∀ j i,i<j→j<E.length→lexB (E.getD i default).l (E.getD j default).l=true:=by
 intro j
 induction j with
 | zero=>intro i hi;omega
 | succ j ih =>
  intro i hi hj
  have h1:=h (j+1) (by omega) hj
  rw [Nat.add_sub_cancel] at h1
  by_cases e:i=j
  ·subst e;exact h1
  ·exact lexB_sto.trans _ _ _ (ih i (by omega) (by omega)) h1
theorem up_vals {E:List SlI} (h:∀ j,0<j→j<E.length→lexB (E.getD (j-1) default).l (E.getD j default).l=true):Up lexB (vals E):=by
 refine List.pairwise_iff_getElem.2 fun i j hi hj hij=>?_
 have hi':i<E.length:=by simpa using hi
 have hj':j<E.length:=by simpa using hj
 have:=lex_up h j i hij hj'
 rw [gget hi',gget hj'] at this
 simpa [vals] using this
theorem vals_up {E:List SlI} (h:Up lexB (vals E)) {i j:Nat} (hij:i<j) (hj:j<E.length):lexB (E.getD i default).l (E.getD j default).l=true:=by
 have:=List.pairwise_iff_getElem.1 h i j (by rw [List.length_map];omega) (by rw [List.length_map];exact hj) hij
 rw [gget (show i<E.length by omega),gget hj]
 simpa [vals] using this
theorem vals_ne {E:List SlI} (h:Up lexB (vals E)) {i j:Nat} (hij:i≠j) (hi:i<E.length) (hj:j<E.length):(E.getD i default).l≠(E.getD j default).l:=fun e=>by
 rcases Nat.lt_or_gt_of_ne hij with h1 | h1
 ·have:=vals_up h h1 hj;rw [e,lexB_sto.irr] at this;cases this
 ·have:=vals_up h h1 hi;rw [e,lexB_sto.irr] at this;cases this
theorem rvalid_spec (g:GrW) (w:World) (hG:GOk w g) (hl:GLen g) :
  RetsP prog 39 #[.agg (encGr g).toArray] w (.bool (validG (grV g))):=by
 have hc:=hl.c
 have he:=hl.e
 have hx:∀ x∈g.edges,x.l.length≤1000000:=fun x h=>(hl.each x h).1
 refine eN (args:=[_]) func39 rfl ntmps39 ?_
 have no:∀ {P:Prop},(validG (grV g)=true→P)→¬P→Value.bool false=.bool (validG (grV g)):=fun h hn=>by
  cases hc:validG (grV g) with
  | false=>rfl
  | true=>exact absurd (h hc) hn
 refine Vs<|Vr<|VL.box (v:=.agg _) rfl fun b0_0 w0_0 hb0_0 e0_0 hB0_0=>oA rfl<|Vn<|Vs<|Vs<|Vr<|Vo (R.fld' (o:=0) ru25 rfl rfl sz3 rfl rfl)<|Vo (rla ag3 rfl (hB0_0.cell _))<|Vo (R.fld' (o:=1) ru25 rfl rfl sz22 rfl rfl)<|Vo (rla ag22 rfl (hB0_0.cell _))<|Vp call78 rfl (rcosts_spec g.n g.ca g.cc g.cost _ (hG.c.ext e0_0) hc) fun w1_4 e1_4=>Vo (R.not rfl)<|oB rfl<|VL.or rfl rfl (fun g1_6=>Vo (R.fld' (o:=2) ru25 rfl rfl sz23 rfl rfl)<|lT<|Vo (rla ag23 rfl ((hB0_0.ext e1_4).cell _))<|lT<|Vo (R.lenS ru23 rfl)<|lT<|Vo (R.gtr rfl rfl)<|oQ rfl rfl<|Vn<|Vd rfl (fun c17=>Vs<|Vr<|oA rfl<|Vn<|Vt<|tB rfl rfl rfl (⟨?_,(e0_0.trans e1_4)⟩)) (fun c17=>Vk<|Vs<|Vs (?_))) (fun g1_6=>lF<|lF<|lF<|oP rfl rfl<|Vn<|Vg rfl<|Vs<|Vr<|oA rfl<|Vn<|Vt<|tB rfl rfl rfl (⟨?_,(e0_0.trans e1_4)⟩))
 ·exact no (P:=g.edges.length≤20000) (fun h=>by have:=(validG_iff.1 h).2.1;simpa [grV,vals] using this) (by omega)
 ·have hcb:costB g.n g.cost=true:=by simpa using g1_6
  have hw:=e0_0.trans e1_4
  have hB1:=hB0_0.ext e1_4
  refine Vr<|oJ rfl<|Vn<|Vb (?_)
  refine Vl [1,3] (fun i:Nat=>[pA b0_0,.int .i64 (i:Nat)]) (fun i w'=>i≤g.edges.length∧(∀ j,j<i→((g.edges.getD j default).l≠[]∧setB (g.edges.getD j default).l g.n=true)∧(0<j→lexB (g.edges.getD (j-1) default).l (g.edges.getD j default).l=true)∧∀ k,k<g.edges.length→k≠j→contF (g.edges.getD j default).l (g.edges.getD k default).l=false)∧Ext w1_4 w') (fun i=>g.edges.length-i) 0 rfl ⟨Nat.zero_le _,fun j h=>absurd h (Nat.not_lt_zero j),Mod.refl _ _⟩ ?_
  rintro ρ i w2 ⟨hi,hj,e2⟩
  have hB2:=hB1.ext e2
  have hE2:=((hG.ext hw).ext e2).e
  refine Vs<|Vs<|Vr<|oI rfl<|Vo (R.fld' (o:=2) ru25 rfl rfl sz23 rfl rfl)<|Vo (rla ag23 rfl (show w2.cell? ⟨b0_0,2,none⟩=some (Value.slice g.ea g.edges.length g.ec) from hB2.cell 2))<|Vo (R.lenS ru23 rfl)<|oL rfl rfl<|Vn<|Vd rfl (fun c22=>Vk<|Vs<|Vb<|Vs (?_)) (fun c22=>Ve<|Vs<|Vr<|oA rfl<|Vn<|Vt<|tB rfl rfl rfl (⟨?_,(hw.trans e2).trans (Mod.refl _ _)⟩))
  ·have hil:i<g.edges.length:=by omega
   have hxi:=hx _ (gmem hil)
   refine Vr<|Vo (R.fld' (o:=2) ru25 rfl rfl sz23 rfl rfl)<|Vo (rla ag23 rfl (show w2.cell? ⟨b0_0,2,none⟩=some (Value.slice g.ea g.edges.length g.ec) from hB2.cell 2))<|oI rfl<|Vo (iX ru23 sz22 rfl rfl ((hE2.sl).some (i:=i) (by omega)))<|Vo (rla ag22 rfl ((((hE2.sl).ext (Mod.refl _ _)).row (i:=i) (by omega)).c0a rfl))<|oT rfl<|Vn<|V.cut [1,3,4] (fun _:Unit=>[pA b0_0,.int .i64 (i:Nat),.slice (g.edges.getD i default).a (g.edges.getD i default).l.length (g.edges.getD i default).c]) (fun _ w'=>(((g.edges.getD i default).l≠[]∧setB (g.edges.getD i default).l g.n=true)∧(0<i→lexB (g.edges.getD (i-1) default).l (g.edges.getD i default).l=true))∧Ext w2 w') (Vs<|Vr<|oS rfl<|Vo (R.lenS ru22 rfl)<|Vo (R.eql rfl rfl)<|oB rfl<|VL.orP rfl rfl (fun g7_3=>oS rfl<|lT<|Vo (R.fld' (o:=0) ru25 rfl rfl sz3 rfl rfl)<|lT<|Vo (rla ag3 rfl (show w2.cell? ⟨b0_0,0,none⟩=some (Value.int .i64 g.n) from hB2.cell 0))<|lT<|Vp call79 rfl (verts_spec (g.edges.getD i default).a (g.edges.getD i default).c (g.edges.getD i default).l g.n _ (by omega) (hE2.at hil)) fun w7_7 e7_7=>lT<|Vo (R.not rfl)<|oQ rfl rfl<|oB rfl<|VL.or rfl rfl (fun g7_10=>oI rfl<|lT<|Vo (R.gtr rfl rfl)<|lT<|oB rfl<|VL.andP rfl rfl (fun g7_13=>Vo (R.fld' (o:=2) ru25 rfl rfl sz23 rfl rfl)<|lT<|Vo (rla ag23 rfl (show World.cell? _ ⟨b0_0,2,none⟩=some (Value.slice g.ea g.edges.length g.ec) from (hB2.ext e7_7).cell 2))<|lT<|oI rfl<|lT<|Vo (R.sub rfl rfl (by omega) (by omega))<|lT<|Vo (iX ru23 sz22 rfl rfl ((hE2.sl).some (i:=((i:Int)-1).toNat) (by omega)))<|lT<|Vo (rla ag22 rfl ((((hE2.sl).ext e7_7).row (i:=((i:Int)-1).toNat) (by omega)).c0a rfl))<|lT<|oS rfl<|lT<|Vp call80 rfl (less_spec (g.edges.getD ((i:Int)-1).toNat default).a (g.edges.getD i default).a (g.edges.getD ((i:Int)-1).toNat default).c (g.edges.getD i default).c (g.edges.getD ((i:Int)-1).toNat default).l (g.edges.getD i default).l _ (by have:=hx _ (gmem (l:=g.edges) (i:=((i:Int)-1).toNat) (by omega));omega) (by omega) ((hE2.ext e7_7).at (by omega)) ((hE2.ext e7_7).at hil)) fun w7_21 e7_21=>lT<|Vo (R.not rfl)<|lT<|oP rfl rfl<|oQ rfl rfl<|Vn<|Vh rfl (fun c54=>Vs<|Vr<|oA rfl<|Vn<|Vt<|tB rfl rfl rfl (⟨?_,(hw.trans e2).trans (e7_7.trans e7_21)⟩)) (fun c54=>Vk (?_))) (fun g7_13=>lF<|lF<|lF<|lF<|lF<|lF<|lF<|lF<|lT<|oQ rfl rfl<|oQ rfl rfl<|Vn<|V.condF rfl<|Vk (?_))) (fun g7_10=>lF<|lF<|VL.gU rfl rfl<|VL.gU rfl rfl<|VL.gU rfl rfl<|VL.gU rfl rfl<|VL.gU rfl rfl<|VL.gU rfl rfl<|VL.gU rfl rfl<|VL.gU rfl rfl<|VL.gU rfl rfl<|lF<|oP rfl rfl<|Vn<|Vg rfl<|Vs<|Vr<|oA rfl<|Vn<|Vt<|tB rfl rfl rfl (⟨?_,(hw.trans e2).trans e7_7⟩))) (fun g7_3=>lF<|lF<|lF<|lF<|oP rfl rfl<|oB rfl<|lF<|lF<|lF<|VL.gU rfl rfl<|VL.gU rfl rfl<|VL.gU rfl rfl<|VL.gU rfl rfl<|VL.gU rfl rfl<|VL.gU rfl rfl<|VL.gU rfl rfl<|VL.gU rfl rfl<|VL.gU rfl rfl<|lF<|oP rfl rfl<|Vn<|Vg rfl<|Vs<|Vr<|oA rfl<|Vn<|Vt<|tB rfl rfl rfl (⟨?_,(hw.trans e2).trans (Mod.refl _ _)⟩))) (fun rgC54 xC54 wBC54 hBC54=>Vs (?_))
   ·refine no (P:=Up lexB (vals g.edges)) (fun h=>(validG_iff2.1 h).2.2.2.1) fun h=>?_
    have:=vals_up h (show ((i:Int)-1).toNat<i by omega) hil
    rw [this] at c54;cases c54
   ·exact ⟨(),rfl,⟨⟨fun h=>by rw [h] at g7_3;exact g7_3 rfl,by simpa using g7_10⟩,fun h0=>by rw [show i-1=((i:Int)-1).toNat by omega];simpa using c54⟩,e7_7.trans e7_21⟩
   ·exact ⟨(),rfl,⟨⟨fun h=>by rw [h] at g7_3;exact g7_3 rfl,by simpa using g7_10⟩,fun h0=>by omega⟩,e7_7⟩
   ·refine no (P:=setB (g.edges.getD i default).l g.n=true) (fun h=>setB_iff.2 ((validG_iff.1 h).2.2.1 _ (List.mem_map_of_mem (gmem hil))).2) fun h=>?_
    rw [h] at g7_10;cases g7_10
   ·exact no (P:=(g.edges.getD i default).l≠[]) (fun h=>((validG_iff.1 h).2.2.1 _ (List.mem_map_of_mem (gmem hil))).1) fun h=>h (List.eq_nil_of_length_eq_zero (by omega))
   ·obtain ⟨⟨hne,hlt⟩,e7⟩:=hBC54
    refine Vr<|oJ rfl<|Vn<|Vb (?_)
    refine Vl [1,3,4,5] (fun k:Nat=>[pA b0_0,.int .i64 (i:Nat),.slice (g.edges.getD i default).a (g.edges.getD i default).l.length (g.edges.getD i default).c,.int .i64 (k:Nat)]) (fun k w'=>k≤g.edges.length∧(∀ j,j<k→j≠i→contF (g.edges.getD i default).l (g.edges.getD j default).l=false)∧Ext w2 w') (fun k=>g.edges.length-k) 0 rfl ⟨Nat.zero_le _,fun j h=>absurd h (Nat.not_lt_zero j),e7⟩ ?_
    rintro ρ k w3 ⟨hk,hkc,e3⟩
    have hB3:=hB2.ext e3
    have hE3:=hE2.ext e3
    refine Vs<|Vs<|Vr<|oI rfl<|Vo (R.fld' (o:=2) ru25 rfl rfl sz23 rfl rfl)<|Vo (rla ag23 rfl (show w3.cell? ⟨b0_0,2,none⟩=some (Value.slice g.ea g.edges.length g.ec) from hB3.cell 2))<|Vo (R.lenS ru23 rfl)<|oL rfl rfl<|Vn<|Vd rfl (fun c59=>Vk<|Vs<|Vb<|Vs (?_)) (fun c59=>Ve<|Vr<|oI rfl<|oD rfl rfl<|oJ rfl<|Vn (⟨i+1,rfl,⟨by omega,fun j hj2=>?_,e2.trans e3⟩,by omega⟩))
    ·have hkl:k<g.edges.length:=by omega
     have hxk:=hx _ (gmem hkl)
     refine Vr<|oI rfl<|oI rfl<|Vo (R.neq rfl rfl)<|oB rfl<|VL.andP rfl rfl (fun g12_3=>oS rfl<|lT<|Vo (R.fld' (o:=2) ru25 rfl rfl sz23 rfl rfl)<|lT<|Vo (rla ag23 rfl (show w3.cell? ⟨b0_0,2,none⟩=some (Value.slice g.ea g.edges.length g.ec) from hB3.cell 2))<|lT<|oI rfl<|lT<|Vo (iX ru23 sz22 rfl rfl ((hE3.sl).some (i:=k) (by omega)))<|lT<|Vo (rla ag22 rfl ((((hE3.sl).ext (Mod.refl _ _)).row (i:=k) (by omega)).c0a rfl))<|lT<|Vp call81 rfl (cont_spec (g.edges.getD i default).a (g.edges.getD k default).a (g.edges.getD i default).c (g.edges.getD k default).c (g.edges.getD i default).l (g.edges.getD k default).l _ (by omega) (by omega) (hE3.at hil) (hE3.at hkl)) fun w12_10 e12_10=>oP rfl rfl<|Vn<|Vh rfl (fun c73=>Vs<|Vr<|oA rfl<|Vn<|Vt<|tB rfl rfl rfl (⟨?_,((hw.trans e2).trans e3).trans e12_10⟩)) (fun c73=>Vk<|Vr<|oI rfl<|oD rfl rfl<|oJ rfl<|Vn (?_))) (fun g12_3=>lF<|lF<|lF<|lF<|lF<|lF<|oQ rfl rfl<|Vn<|V.condF rfl<|Vk<|Vr<|oI rfl<|oD rfl rfl<|oJ rfl<|Vn (?_))
     ·refine no (P:=contF (g.edges.getD i default).l (g.edges.getD k default).l=false) (fun h=>?_) (by intro h;rw [h] at c73;cases c73)
      obtain ⟨_,_,h3,h4,h5⟩:=validG_iff2.1 h
      have m1:=List.mem_map_of_mem (f:=SlI.l) (gmem hil)
      have m2:=List.mem_map_of_mem (f:=SlI.l) (gmem hkl)
      rw [contF_sub (h3 _ m1).2.1 (h3 _ m2).2.1]
      cases hs:subB (g.edges.getD k default).l (g.edges.getD i default).l with
      | false=>rfl
      | true=>exact absurd (h5 _ m1 _ m2 hs) (vals_ne h4 (by omega) hkl hil)
     ·refine ⟨k+1,rfl,⟨by omega,fun j h1 h2=>?_,e3.trans e12_10⟩,by omega⟩
      by_cases h:j=k
      ·rw [h];exact c73
      ·exact hkc j (by omega) h2
     ·refine ⟨k+1,rfl,⟨by omega,fun j h1 h2=>?_,e3⟩,by omega⟩
      by_cases h:j=k
      ·omega
      ·exact hkc j (by omega) h2
    ·by_cases h:j=i
     ·rw [h];exact ⟨hne,hlt,fun k h1 h2=>hkc k (by omega) h2⟩
     ·exact hj j (by omega)
  ·have hie:i=g.edges.length:=by omega
   subst hie
   refine congrArg Value.bool (validG_iff2.2 ⟨hcb,by show (vals g.edges).length≤20000;rw [List.length_map];omega,fun e he=>?_,up_vals fun j h0 h1=>((hj j h1).2.1 h0),fun e he f hf hs=>?_⟩).symm
   ·obtain ⟨x,hx2,rfl⟩:=List.mem_map.1 he
    obtain ⟨j,hjl,rfl⟩:=List.getElem_of_mem hx2
    have:=(hj j hjl).1
    rw [gget hjl] at this
    exact ⟨this.1,setB_iff.1 this.2⟩
   ·obtain ⟨x,hx2,rfl⟩:=List.mem_map.1 he
    obtain ⟨j,hjl,rfl⟩:=List.getElem_of_mem hx2
    obtain ⟨y,hy2,rfl⟩:=List.mem_map.1 hf
    obtain ⟨k,hkl,rfl⟩:=List.getElem_of_mem hy2
    by_cases hjk:k=j
    ·subst hjk;rfl
    ·have h1:=(hj j hjl).2.2 k hkl hjk
     have h2:=(setB_iff.1 (hj j hjl).1.2).1
     have h3:=(setB_iff.1 (hj k hkl).1.2).1
     rw [contF_sub h2 h3,gget hjl,gget hkl,hs] at h1
     cases h1
 ·exact no (P:=costB g.n g.cost=true) (fun h=>(validG_iff.1 h).1) (by intro h;rw [h] at g1_6;cases g1_6)
theorem blkR_eq {g:Gr} (hg:validG g=true) {S:List Int} (_hi:Inc S) (hf:indB g.edges S=true) (v:Int):(!freeF g.edges (setF (S++[v])))=blkB g.edges S v:=by
 have hE:=(validG_iff.1 hg).2.2.1
 have hf:=indB_iff.1 hf
 have key:freeF g.edges (setF (S++[v]))=true↔blkB g.edges S v=false:=by
  rw [freeF_sets (fun e he=>⟨(hE e he).2.1,(hE e he).1⟩) (setF_inc _)]
  constructor
  ·intro h
   rw [←Bool.not_eq_true]
   intro hb
   obtain ⟨e,he,hve,hall⟩:=blkB_iff.1 hb
   have:=h e he
   rw [subB_iff.2 fun x hx=>(setF_mem _ _).2 (List.mem_append.2 (by
    by_cases hxv:x=v
    ·exact .inr (by simp [hxv])
    ·exact .inl (hall x hx hxv)))] at this
   cases this
  ·intro hb e he
   rw [←Bool.not_eq_true]
   intro hs
   have hs:=subB_iff.1 hs
   have hin:∀ x∈e,x≠v→x∈S:=fun x hx hne=>by
    rcases List.mem_append.1 ((setF_mem _ _).1 (hs x hx)) with h | h
    ·exact h
    ·exact absurd (List.mem_singleton.1 h) hne
   by_cases hve:v∈e
   ·rw [blkB_iff.2 ⟨e,he,hve,hin⟩] at hb;cases hb
   ·have:=hf e he
    rw [subB_iff.2 fun x hx=>hin x hx fun e=>hve (e▸hx)] at this
    cases this
 cases h:freeF g.edges (setF (S++[v])) with
 | true=>rw [key.1 h];rfl
 | false =>
  cases hb:blkB g.edges S v with
  | true=>rfl
  | false=>rw [key.2 hb] at h;cases h
theorem free_ind {g:Gr} (hg:validG g=true) {S:List Int} (hi:Inc S):freeF g.edges S=indB g.edges S:=by
 have hE:=(validG_iff.1 hg).2.2.1
 rw [Bool.eq_iff_iff,freeF_sets (fun e he=>⟨(hE e he).2.1,(hE e he).1⟩) hi,indB_iff]
theorem blocked28_spec (g:GrW) (a:Option Addr) (c:Nat) (S:List Int) (v:Int) (w:World) (hG:GOk w g) (hl:GLen g) (hm:S.length≤100000) (hax:a=none→c=0) (hS:IntSl w a S) :
  RetsP prog 94 #[.agg (encGr g).toArray,.slice a S.length c,.int .i64 v] w (.bool (!freeF (vals g.edges) (setF (S++[v])))):=by
 have hpl:=setF_len (S++[v])
 have hpl2:(S++[v]).length=S.length+1:=by simp
 refine eN (args:=[_,_,_]) func94 rfl ntmps94 ?_
 refine Vs<|Vr<|VL.box (v:=.agg _) rfl fun b0_0 w0_0 hb0_0 e0_0 hB0_0=>oA rfl<|Vn<|Vs (?_)
 refine V.regionD (T:=Ext) mixed 5 (by kernel_rfl) rfl (fun us=>VD.op (fun wq eq=>R.fld' (o:=2) ru25 rfl rfl sz23 rfl rfl) (VD.op (fun wq eq=>rla ag23 rfl (show wq.cell? ⟨b0_0,2,none⟩=some (Value.slice g.ea g.edges.length g.ec) from (hB0_0.ext eq).cell 2)) (VD.op (fun wq eq=>R.mvS rfl) (VD.op (fun wq eq=>R.mvI rfl) (VD.callX (fun _=>fun u w'=>∃ x:Option Addr×Nat,u=.slice x.1 (setF (S++[v])).length x.2∧IntSl w' x.1 (setF (S++[v]))) (DepS.const _) (fun u a b _ ⟨x,h1,h2⟩ eb=>⟨x,h1,h2.ext eb⟩) call124 rfl (fun wq eq hq=>by
   refine Rets.mono (put28_spec a c S v wq hm hax (hS.ext (e0_0.trans eq))) ?_
   rintro u w' ⟨x,hu,h1,he⟩
   exact ⟨⟨x,hu,OwnT.sl h1⟩,he⟩) (VD.nil (fun w1 e1 h1=>?_))))))) rfl
 obtain ⟨x,hx,hxs⟩:=h1 4
 rw [hx]
 refine Vp call123 rfl (free_spec g.edges g.ea x.1 g.ec x.2 (setF (S++[v])) w1 (by have:=hl.e;omega) (fun y hy=>by have:=(hl.each y hy).1;omega) (by omega) (hG.e.ext (e0_0.trans e1)) hxs) fun w1_5 e1_5=>Vo (R.not rfl)<|oA rfl<|Vn<|Vt<|tB rfl rfl rfl (⟨rfl,e0_0.trans (e1.trans e1_5)⟩)
theorem ind28_spec (g:GrW) (a:Option Addr) (c:Nat) (S:List Int) (w:World) (hG:GOk w g) (hl:GLen g) (hm:S.length≤100000) (hS:IntSl w a S) :
  RetsP prog 93 #[.agg (encGr g).toArray,.slice a S.length c] w (.bool (loadB (grV g) S)):=by
 have hle:=hl.e
 refine eN (args:=[_,_]) func93 rfl ntmps93 ?_
 refine Vs<|Vr<|VL.box (v:=.agg _) rfl fun b0_0 w0_0 hb0_0 e0_0 hB0_0=>oA rfl<|Vn<|Vs<|Vr<|Vo (R.ldA ag25 sz25 rfl rfl (show RowAt _ _ _ (encGr g) from (hB0_0.rowAt 0 3)) rfl)<|Vp call39 rfl (rvalid_spec g _ (hG.ext e0_0) hl) fun w1_1 e1_1=>oB rfl<|VL.and rfl rfl (fun g1_2=>oS rfl<|lT<|Vo (R.fld' (o:=0) ru25 rfl rfl sz3 rfl rfl)<|lT<|Vo (rla ag3 rfl ((hB0_0.ext e1_1).cell 0))<|lT<|Vp call79 rfl (verts_spec a c S g.n _ (by omega) (hS.ext (e0_0.trans e1_1))) fun w1_6 e1_6=>oP rfl rfl<|oB rfl<|VL.and rfl rfl (fun g1_8=>oS rfl<|lT<|Vp call105 rfl (incr_spec a c S _ (by omega) (hS.ext ((e0_0.trans e1_1).trans e1_6))) fun w1_10 e1_10=>oP rfl rfl<|oB rfl<|VL.and rfl rfl (fun g1_12=>Vo (R.fld' (o:=2) ru25 rfl rfl sz23 rfl rfl)<|lT<|Vo (rla ag23 rfl ((hB0_0.ext (e1_1.trans (e1_6.trans e1_10))).cell 2))<|lT<|oS rfl<|lT<|Vp call123 rfl (free_spec g.edges g.ea a g.ec c S _ (by omega) (fun y hy=>by have:=(hl.each y hy).1;omega) (by omega) (hG.e.ext (((e0_0.trans e1_1).trans e1_6).trans e1_10)) (hS.ext (((e0_0.trans e1_1).trans e1_6).trans e1_10))) fun w1_16 e1_16=>oP rfl rfl<|oA rfl<|Vn<|Vt<|tB rfl rfl rfl (⟨?_,((((e0_0.trans e1_1).trans e1_6).trans e1_10).trans e1_16)⟩)) (fun g1_12=>lF<|lF<|lF<|oQ rfl rfl<|oA rfl<|Vn<|Vt<|tB rfl rfl rfl (⟨?_,(((e0_0.trans e1_1).trans e1_6).trans e1_10)⟩))) (fun g1_8=>lF<|oQ rfl rfl<|oB rfl<|lF<|lF<|lF<|lF<|oQ rfl rfl<|oA rfl<|Vn<|Vt<|tB rfl rfl rfl (⟨?_,((e0_0.trans e1_1).trans e1_6)⟩))) (fun g1_2=>lF<|lF<|lF<|oQ rfl rfl<|oB rfl<|lF<|lF<|oQ rfl rfl<|oB rfl<|lF<|lF<|lF<|lF<|oQ rfl rfl<|oA rfl<|Vn<|Vt<|tB rfl rfl rfl (⟨?_,(e0_0.trans e1_1)⟩))
 ·rw [show freeF (vals g.edges) S=indB (grV g).edges S from free_ind (g:=grV g) g1_2 (setB_iff.1 g1_8).1]
  unfold loadB
  rw [g1_2,show setB S (grV g).n=true from g1_8]
  rfl
 ·exact absurd (setB_iff.1 g1_8).1 (of_decide_eq_false g1_12)
 ·unfold loadB
  rw [show setB S (grV g).n=false from g1_8,Bool.and_false,Bool.false_and]
 ·unfold loadB
  rw [g1_2,Bool.false_and,Bool.false_and]
theorem ris28_spec (g:GrW) (a:Option Addr) (c:Nat) (S:List Int) (w:World) (hG:GOk w g) (hl:GLen g) (hm:S.length≤100000) (hax:a=none→c=0) (hS:IntSl w a S) :
  RetsP prog 53 #[.agg (encGr g).toArray,.slice a S.length c] w (.bool (isB (grV g) S)):=by
 refine eN (args:=[_,_]) func53 rfl ntmps53 ?_
 refine Vs<|Vr<|VL.box (v:=.agg _) rfl fun b0_0 w0_0 hb0_0 e0_0 hB0_0=>oA rfl<|Vn<|Vs<|Vs<|Vr<|Vo (R.ldA ag25 sz25 rfl rfl (show RowAt _ _ _ (encGr g) from (hB0_0.rowAt 0 3)) rfl)<|oS rfl<|Vp call93 rfl (ind28_spec g a c S _ (hG.ext e0_0) hl hm (hS.ext e0_0)) fun w1_2 e1_2=>Vo (R.not rfl)<|Vn<|Vh rfl (fun c9=>Vs<|Vr<|oA rfl<|Vn<|Vt<|tB rfl rfl rfl (⟨?_,(e0_0.trans e1_2)⟩)) (fun c9=>Vk<|Vs<|Vs (?_))
 ·have hb:loadB (grV g) S=false:=by simpa using c9
  unfold isB;rw [hb,Bool.false_and]
 have hb:loadB (grV g) S=true:=by simpa using c9
 obtain ⟨hv,hset,hind⟩:=loadB_iff.1 hb
 have hcb:=costB_iff.1 (validG_iff.1 hv).1
 have hgn:(grV g).n=g.n:=rfl
 obtain ⟨N,hN⟩:∃ N:Nat,g.n=(N:Int):=⟨g.n.toNat,by have:=hcb.1;omega⟩
 have hN4:N≤4000:=by have:=hcb.2.1;omega
 have E1:=e0_0.trans e1_2
 have hX1:Blk w1_2 b0_0 (.cells (Value.agg (encGr g).toArray).cells 25 (0,0)):=hB0_0.ext e1_2
 refine Vr<|oJ rfl<|Vn<|Vb (?_)
 refine Vl [1,2,5] (fun v:Nat=>[.slice a S.length c,pA b0_0,.int .i64 (v:Nat)]) (fun v w'=>v≤N∧(∀ u:Nat,u<v→(u:Int)∈S∨blkB (vals g.edges) S (u:Int)=true)∧Ext w1_2 w') (fun v=>N-v) 0 rfl ⟨Nat.zero_le _,fun u h=>absurd h (Nat.not_lt_zero u),Vc.Mod.refl _ _⟩ ?_
 rintro ρ v w2 ⟨hvN,hu,e2⟩
 have hX2:=hX1.ext e2
 have hS2:=hS.ext (E1.trans e2)
 have hbl:(!freeF (vals g.edges) (setF (S++[(v:Int)])))=blkB (vals g.edges) S (v:Int):=blkR_eq hv (setB_iff.1 hset).1 hind (v:Int)
 refine Vs<|Vs<|Vr<|oI rfl<|Vo (R.fld' (o:=0) ru25 rfl rfl sz3 rfl rfl)<|Vo (rla ag3 rfl (show w2.cell? ⟨b0_0,0,none⟩=some (Value.int .i64 ((N:Nat):Int)) from by rw [←hN];exact hX2.cell 0))<|oL rfl rfl<|Vn<|Vd rfl (fun c13=>Vk<|Vs<|Vb<|Vs (?_)) (fun c13=>Ve<|Vs<|Vr<|oA rfl<|Vn<|Vt<|tB rfl rfl rfl (⟨?_,E1.trans e2⟩))
 ·have hvl:v<N:=by omega
  refine Vr<|oS rfl<|oI rfl<|Vp call23 rfl (in_spec a c S (v:Int) w2 (by omega) hS2) fun w6_2 e6_2=>Vo (R.not rfl)<|oB rfl<|VL.and rfl rfl (fun g6_4=>Vo (R.ldA ag25 sz25 rfl rfl (show RowAt _ _ _ (encGr g) from (hX2.ext e6_2).rowAt 0 3) rfl)<|lT<|oS rfl<|lT<|oI rfl<|lT<|Vp call94 rfl (blocked28_spec g a c S (v:Int) _ (hG.ext (E1.trans (e2.trans e6_2))) hl hm hax (hS2.ext e6_2)) fun w6_8 e6_8=>lT<|Vo (R.not rfl)<|oP rfl rfl<|Vn<|Vh rfl (fun c26=>Vs<|Vr<|oA rfl<|Vn<|Vt<|tB rfl rfl rfl (⟨?_,E1.trans (e2.trans (e6_2.trans e6_8))⟩)) (fun c26=>Vk<|Vr<|oI rfl<|oD rfl rfl<|oJ rfl<|Vn (⟨v+1,rfl,⟨by omega,fun u h=>?_,e2.trans (e6_2.trans e6_8)⟩,by omega⟩))) (fun g6_4=>lF<|lF<|lF<|lF<|oQ rfl rfl<|Vn<|V.condF rfl<|Vk<|Vr<|oI rfl<|oD rfl rfl<|oJ rfl<|Vn (⟨v+1,rfl,⟨by omega,fun u h=>?_,e2.trans e6_2⟩,by omega⟩))
  ·have h1:(v:Int)∉S:=by simpa using g6_4
   have h2:blkB (vals g.edges) S (v:Int)=false:=by rw [←hbl];simpa using c26
   have:isB (grV g) S=false:=Bool.eq_false_iff.2 fun hh=>by
    unfold isB at hh
    rw [hb,Bool.true_and,List.all_eq_true] at hh
    have:=hh v (List.mem_range.2 (by omega))
    rw [decide_eq_false h1,Bool.false_or] at this
    rw [show (grV g).edges=vals g.edges from rfl,h2] at this
    cases this
   rw [this]
  ·by_cases e:u=v
   ·subst e
    refine .inr ?_
    rw [←hbl];simpa using c26
   ·exact hu u (by omega)
  ·by_cases e:u=v
   ·subst e
    exact .inl (by simpa using g6_4)
   ·exact hu u (by omega)
 ·have:isB (grV g) S=true:=by
   unfold isB
   rw [hb,Bool.true_and,List.all_eq_true]
   intro v' hv'
   have hv':=List.mem_range.1 hv'
   rcases hu v' (by omega) with h | h
   ·rw [decide_eq_true h,Bool.true_or]
   ·rw [show (grV g).edges=vals g.edges from rfl,h,Bool.or_true]
  rw [this]
theorem vals_ex {E:List SlI} {e:List Int}:e∈vals E↔∃ i,i<E.length∧(E.getD i default).l=e:=by
 constructor
 ·intro h
  obtain ⟨y,hy,rfl⟩:=List.mem_map.1 h
  obtain ⟨i,hi,rfl⟩:=List.getElem_of_mem hy
  exact ⟨i,hi,by rw [gget hi]⟩
 ·rintro ⟨i,hi,rfl⟩
  exact List.mem_map_of_mem (gmem hi)
def needB (E:List (List Int)) (P:List Int) (v:Int):Bool:=E.any fun e=>decide (v∈e)&&e.all fun x=>decide (v≤x)||decide (x∈P)
theorem needB_iff {E:List (List Int)} {P:List Int} {v:Int}:needB E P v=true↔∃ e∈E,v∈e∧∀ x∈e,v≤x∨x∈P:=by
 unfold needB
 simp only [List.any_eq_true,Bool.and_eq_true,decide_eq_true_eq,List.all_eq_true,Bool.or_eq_true]
def ndK (e P:List Int) (v:Int) (k:Nat):Bool:=decide (v∈e)&&(e.take k).all fun x=>decide (v≤x)||decide (x∈P)
theorem ndK_succ {e P:List Int} {v:Int} {k:Nat} (h:k<e.length):ndK e P v (k+1)=(ndK e P v k&&(decide (v≤e.getD k default)||decide (e.getD k default∈P))):=by
 unfold ndK
 rw [List.take_succ_eq_append_getElem h,List.all_append,gget h,Bool.and_assoc]
 simp
theorem needed28_spec (g:GrW) (a:Option Addr) (c:Nat) (P:List Int) (v:Int) (w:World) (hG:GOk w g) (hl:GLen g) (hm:P.length≤100000) (hS:IntSl w a P) :
  RetsP prog 137 #[.agg (encGr g).toArray,.slice a P.length c,.int .i64 v] w (.bool (needB (vals g.edges) P v)):=by
 have hle:=hl.e
 refine eN (args:=[_,_,_]) func137 rfl ntmps137 ?_
 refine Vs<|Vr<|VL.box (v:=.agg _) rfl fun b0_0 w0_0 hb0_0 e0_0 hB0_0=>oA rfl<|Vn<|Vs<|Vs<|Vr<|oJ rfl<|Vn<|Vb (?_)
 refine Vl [1,2,3,7] (fun i:Nat=>[.slice a P.length c,.int .i64 v,pA b0_0,.int .i64 (i:Nat)]) (fun i w'=>i≤g.edges.length∧(∀ j,j<i→ndK (g.edges.getD j default).l P v (g.edges.getD j default).l.length=false)∧Ext w0_0 w') (fun i=>g.edges.length-i) 0 rfl ⟨Nat.zero_le _,fun j h=>absurd h (Nat.not_lt_zero j),Vc.Mod.refl _ _⟩ ?_
 rintro ρ i w1 ⟨hi,hj,e1⟩
 have hX1:=hB0_0.ext e1
 have hE1:=(hG.ext (e0_0.trans e1)).e
 have hP1:=hS.ext (e0_0.trans e1)
 have hex:needB (vals g.edges) P v=true↔∃ j,j<g.edges.length∧ndK (g.edges.getD j default).l P v (g.edges.getD j default).l.length=true:=by
  have hnd:∀ e:List Int,ndK e P v e.length=true↔v∈e∧∀ x∈e,v≤x∨x∈P:=fun e=>by
   unfold ndK
   rw [List.take_length]
   simp only [Bool.and_eq_true,decide_eq_true_eq,List.all_eq_true,Bool.or_eq_true]
  rw [needB_iff]
  constructor
  ·rintro ⟨e,he,h⟩
   obtain ⟨j,hjl,rfl⟩:=vals_ex.1 he
   exact ⟨j,hjl,(hnd _).2 h⟩
  ·rintro ⟨j,hjl,h⟩
   exact ⟨_,vals_ex.2 ⟨j,hjl,rfl⟩,(hnd _).1 h⟩
 refine Vs<|Vs<|Vr<|oI rfl<|Vo (R.fld' (o:=2) ru25 rfl rfl sz23 rfl rfl)<|Vo (rla ag23 rfl (show w1.cell? ⟨b0_0,2,none⟩=some (Value.slice g.ea g.edges.length g.ec) from hX1.cell 2))<|Vo (R.lenS ru23 rfl)<|oL rfl rfl<|Vn<|Vd rfl (fun c15=>Vk<|Vs<|Vb<|Vs (?_)) (fun c15=>Ve<|Vs<|Vr<|oA rfl<|Vn<|Vt<|tB rfl rfl rfl (?_))
 ·have hil:i<g.edges.length:=by omega
  have hx1:=hE1.at hil
  have hxl:(g.edges.getD i default).l.length≤1000000:=(hl.each _ (gmem hil)).1
  refine Vr<|Vo (R.fld' (o:=2) ru25 rfl rfl sz23 rfl rfl)<|Vo (rla ag23 rfl (show w1.cell? ⟨b0_0,2,none⟩=some (Value.slice g.ea g.edges.length g.ec) from hX1.cell 2))<|oI rfl<|Vo (iX ru23 sz22 rfl rfl (hE1.sl.some (i:=i) hil))<|Vo (rla ag22 rfl ((hE1.sl.row (i:=i) hil).c0a rfl))<|oI rfl<|Vp call23 rfl (in_spec (g.edges.getD i default).a (g.edges.getD i default).c (g.edges.getD i default).l v _ (by omega) hx1) fun w4_6 e4_6=>oA rfl<|Vn<|Vs<|Vs (?_)
  refine Vr<|oJ rfl<|Vn<|Vb (?_)
  refine Vl [1,2,3,7,8,9] (fun k:Nat=>[.slice a P.length c,.int .i64 v,pA b0_0,.int .i64 (i:Nat),.bool (ndK (g.edges.getD i default).l P v k),.int .i64 (k:Nat)]) (fun k w'=>k≤(g.edges.getD i default).l.length∧Ext w1 w') (fun k=>(g.edges.getD i default).l.length-k) 0 (by unfold ndK;rw [List.take_zero,List.all_nil,Bool.and_true];rfl) ⟨Nat.zero_le _,e4_6⟩ ?_
  rintro ρ2 k w2 ⟨hk,e2⟩
  have hX2:=hX1.ext e2
  have hE2:=hE1.ext e2
  have hx2:=hE2.at hil
  have hP2:=hP1.ext e2
  refine Vs<|Vs<|Vr<|oI rfl<|Vo (R.fld' (o:=2) ru25 rfl rfl sz23 rfl rfl)<|Vo (rla ag23 rfl (show w2.cell? ⟨b0_0,2,none⟩=some (Value.slice g.ea g.edges.length g.ec) from hX2.cell 2))<|oI rfl<|Vo (iX ru23 sz22 rfl rfl (hE2.sl.some (i:=i) hil))<|Vo (rla ag22 rfl ((hE2.sl.row (i:=i) hil).c0a rfl))<|Vo (R.lenS ru22 rfl)<|oL rfl rfl<|Vn<|Vd rfl (fun c32=>Vk<|Vs<|Vb<|Vs (?_)) (fun c32=>Ve<|Vs (?_))
  ·have hkl:k<(g.edges.getD i default).l.length:=by omega
   have hsu:=ndK_succ (P:=P) (v:=v) hkl
   obtain ⟨nd,hnd⟩:∃ nd,nd=ndK (g.edges.getD i default).l P v k:=⟨_,rfl⟩
   rw [←hnd] at hsu ⊢
   cases nd with
   | false =>
    refine Vr<|Vo (R.fld' (o:=2) ru25 rfl rfl sz23 rfl rfl)<|Vo (rla ag23 rfl (show w2.cell? ⟨b0_0,2,none⟩=some (Value.slice g.ea g.edges.length g.ec) from hX2.cell 2))<|oI rfl<|Vo (iX ru23 sz22 rfl rfl (hE2.sl.some (i:=i) hil))<|Vo (rla ag22 rfl ((hE2.sl.row (i:=i) hil).c0a rfl))<|oI rfl<|Vo (iX ru22 sz3 rfl rfl (hx2.some (i:=k) hkl))<|Vo (rla ag3 rfl ((hx2.row (i:=k) hkl).c0a rfl))<|oJ rfl<|Vn<|Vr<|oB rfl<|oB rfl<|lF<|lF<|lF<|lF<|VL.gU rfl rfl<|VL.gU rfl rfl<|VL.gU rfl rfl<|lF<|oQ rfl rfl<|oA rfl<|Vn<|Vr<|oI rfl<|oD rfl rfl<|oJ rfl<|Vn (⟨k+1,by rw [hsu];rfl,⟨by omega,e2.trans (Mod.refl _ _)⟩,by omega⟩)
   | true =>
    refine Vr<|Vo (R.fld' (o:=2) ru25 rfl rfl sz23 rfl rfl)<|Vo (rla ag23 rfl (show w2.cell? ⟨b0_0,2,none⟩=some (Value.slice g.ea g.edges.length g.ec) from hX2.cell 2))<|oI rfl<|Vo (iX ru23 sz22 rfl rfl (hE2.sl.some (i:=i) hil))<|Vo (rla ag22 rfl ((hE2.sl.row (i:=i) hil).c0a rfl))<|oI rfl<|Vo (iX ru22 sz3 rfl rfl (hx2.some (i:=k) hkl))<|Vo (rla ag3 rfl ((hx2.row (i:=k) hkl).c0a rfl))<|oJ rfl<|Vn<|Vr<|oB rfl<|oB rfl<|lT<|oI rfl<|lT<|oI rfl<|lT<|Vo (R.geq rfl rfl)<|lT<|oB rfl<|VL.orP rfl rfl (fun g9_5=>oS rfl<|lT<|oI rfl<|lT<|Vp call23 rfl (in_spec a c P ((g.edges.getD i default).l.getD k default) _ (by omega) hP2) fun w9_8 e9_8=>lT<|oQ rfl rfl<|oP rfl rfl<|oA rfl<|Vn<|Vr<|oI rfl<|oD rfl rfl<|oJ rfl<|Vn (⟨k+1,?_,⟨by omega,e2.trans e9_8⟩,by omega⟩)) (fun g9_5=>lF<|lF<|lT<|oP rfl rfl<|oP rfl rfl<|oA rfl<|Vn<|Vr<|oI rfl<|oD rfl rfl<|oJ rfl<|Vn (⟨k+1,?_,⟨by omega,e2.trans (Mod.refl _ _)⟩,by omega⟩))
    ·rw [hsu,Bool.true_and,decide_eq_false g9_5,Bool.false_or];rfl
    ·rw [hsu,Bool.true_and,decide_eq_true g9_5,Bool.true_or];rfl
  ·have hke:k=(g.edges.getD i default).l.length:=by omega
   subst hke
   refine Vr<|oB rfl<|Vn<|Vh rfl (fun c54=>Vs<|Vr<|oA rfl<|Vn<|Vt<|tB rfl rfl rfl (⟨?_,(e0_0.trans e1).trans e2⟩)) (fun c54=>Vk<|Vr<|oI rfl<|oD rfl rfl<|oJ rfl<|Vn (⟨i+1,rfl,⟨by omega,fun j h=>?_,e1.trans e2⟩,by omega⟩))
   ·rw [hex.2 ⟨i,hil,by assumption⟩]
   ·by_cases e:j=i
    ·subst e;assumption
    ·exact hj j (by omega)
 ·have hie:i=g.edges.length:=by omega
  subst hie
  refine ⟨?_,e0_0.trans e1⟩
  have:needB (vals g.edges) P v=false:=Bool.eq_false_iff.2 fun hh=>by
   obtain ⟨j,h1,h2⟩:=hex.1 hh
   rw [hj j h1] at h2;cases h2
  rw [this]
end Go.Proofs.YtdkhcipjenfcnaaGreatDoor
