/- Hyper: a list as a set (clone, sort, compact). -/
import Derived.Test.YtdkhcipjenfcnaaGreatDoorXH4
import Derived.Test.YtdkhcipjenfcnaaGreatDoorXShelf
import Derived.Sort.OwnSortedInts
import Derived.Test.YtdkhcipjenfcnaaGreatDoorXVcLaw
import Derived.Lib.ItoaLen
namespace Go.Proofs.YtdkhcipjenfcnaaGreatDoor
open Go.Proofs.Tryz
set_option maxRecDepth 100000
set_option maxHeartbeats 16000000
open Go.Vc
theorem cloneI_spec (a:Option Addr) (ca:Nat) (l:List Int) (w:World) (hm:l.length≤1000000) (hax:a=none→ca=0) (hS:IntSl w a l) :
  RetsX prog 145 #[.slice a l.length ca] w (fun x:Option Addr×Nat=>.slice x.1 l.length x.2) (fun x w'=>OwnT Vc.encI 1 3 w.heap.size w' x.1 x.2 l):=by
 refine eN (args:=[_]) func145 rfl ntmps145 ?_
 refine Vs<|Vr<|oT rfl<|Vn<|Vs<|Vs<|Vr<|oS rfl<|Vo (R.eqlNil ru22 rfl rfl)<|Vn<|Vh rfl (fun c4=>Vs<|Vr<|oT rfl<|Vn<|Vt (fret1 (v:=.slice _ _ _) rfl rfl rfl (?_))) (fun c4=>Vk<|Vs<|Vr<|VL.buildSl ru22 sz3 zv3 rfl rfl rfl fun b5 w5 hb5 e5 hX5=>oS rfl<|VL.appendT el22 (fun _=>rfl) rfl (rfl) (OwnT.of0 Vc.encI 1 hX5 (Nat.le_of_eq (Eq.symm hb5))) rfl (rfl) (hS.ext e5) (hax) (by simp;omega) (by simp [maxLen];omega) (e5).size rfl fun a6 c6 w6 ho6 m6 hf6=>oT rfl<|Vn<|Vt (fret1 (v:=.slice _ _ _) rfl rfl rfl (?_)))
 ·have ha:a=none:=of_decide_eq_true c4
  have hl:l=[]:=by
   cases l with
   | nil=>rfl
   | cons x l=>obtain ⟨b,o,h⟩:=TSl.some (i:=0) hS (by simp);rw [ha] at h;cases h
  subst hl
  exact ⟨(none,0),rfl,OwnT.nil Vc.encI 1 3 _ _,Mod.refl _ _⟩
 ·exact ⟨(a6,c6),by rw [Nat.zero_add],ho6,Mod.ownA e5 m6 fun k hk=>by have:=aBlk_some hk;omega⟩
def srtF (l:List Int):List Int:=l.mergeSort fun x y=>decide (x≤y)
theorem srtF_len (l:List Int):(srtF l).length=l.length:=List.length_mergeSort l
theorem srtF_mem (l:List Int) (x:Int):x∈srtF l↔x∈l:=(List.mergeSort_perm l _).mem_iff
theorem srtF_le (l:List Int):(srtF l).Pairwise (·≤·):=by
 have:=List.pairwise_mergeSort (le:=fun x y:Int=>decide (x≤y)) (fun a b c h1 h2=>by simp at *;omega) (fun a b=>by simp;omega) l
 exact this.imp fun {a b} h=>of_decide_eq_true h
theorem cells_take {l:List Int} {cur:Array Value} (ht:cur.toList.take (l.length*1)=(l.map Vc.encI).flatten):cur.toList.take l.length=l.map (Value.int .i64):=by
 rw [Nat.mul_one] at ht
 rw [ht]
 clear ht
 induction l with
 | nil=>rfl
 | cons x l ih=>rw [List.map_cons,List.flatten_cons,List.map_cons,ih];rfl
theorem len0_spec (w:World):RetsP prog 88 #[.int .u64 0] w (.int .i64 0):=by
 refine Calls.mono (Any.bits_Len Tryz.bits 0 w (by decide) (by decide)) ?_
 rintro e w' ⟨rfl,rfl⟩
 exact ⟨_,rfl,rfl,Mod.refl _ _⟩
theorem ins0_spec (w:World):RetsP prog 109 #[.slice none 0 0,.int .i64 0,.int .i64 0] w (.tuple #[]):=by
 refine eN (args:=[_,_,_]) func109 rfl ntmps109 ?_
 refine Vs<|Vr<|oI rfl<|oD rfl rfl<|oJ rfl<|Vn<|Vb (?_)
 refine Vl [2,6] (fun _:Unit=>[.int .i64 0,.int .i64 1]) (fun _ w'=>Ext w w') (fun _=>0) () rfl (Mod.refl _ _) ?_
 rintro ρ _ w1 e
 refine Vs<|Vs<|Vr<|oI rfl<|oI rfl<|Vo (R.lit (R.lss rfl rfl) (by decide))<|Vn<|V.condF rfl<|Ve (fend0 rfl (⟨rfl,e⟩))
theorem pdq0_spec (w:World):RetsP prog 87 #[.slice none 0 0,.int .i64 0,.int .i64 0,.int .i64 0] w (.tuple #[]):=by
 refine eN (args:=[_,_,_,_]) func87 rfl ntmps87 ?_
 refine Vs<|Vr<|oA rfl<|Vn<|Vs<|Vr<|oA rfl<|Vn<|Vb (?_)
 refine Vl [0,1,2,3] (fun _:Unit=>[.slice none 0 0,.int .i64 0,.int .i64 0,.int .i64 0]) (fun _ w'=>Ext w w') (fun _=>0) () rfl (Mod.refl _ _) ?_
 rintro ρ _ w1 e
 refine Vb<|Vs<|Vr<|oI rfl<|oI rfl<|Vo (R.sub rfl rfl (by omega) (by omega))<|oJ rfl<|Vn<|Vs<|Vs<|Vr<|oI rfl<|Vo (R.lit (R.leq rfl rfl) (by decide))<|Vn<|Vg rfl<|Vs<|Vr<|oS rfl<|oI rfl<|oI rfl<|Vp call109 rfl (ins0_spec _) fun w4_3 e4_3=>Vn<|Vt (fret0 rfl (⟨rfl,e.trans e4_3⟩))
theorem sort0_spec (w:World):RetsP prog 47 #[.slice none 0 0] w (.tuple #[]):=by
 refine eN (args:=[_]) func47 rfl ntmps47 ?_
 refine Vs<|Vr<|oS rfl<|Vo (R.lenS ru22 rfl)<|oJ rfl<|Vn<|Vr<|oS rfl<|oI rfl<|oI rfl<|Vo (R.conv ru3 ru108 rfl (wrap_u64 (by decide) (by decide)))<|Vp call88 rfl (len0_spec _) fun w1_4 e1_4=>Vp call87 rfl (pdq0_spec _) fun w1_5 e1_5=>Vn (fend0 rfl (⟨rfl,(e1_4.trans e1_5)⟩))
theorem sortI_spec (a:Option Addr) (c B:Nat) (l:List Int) (w:World) (ho:OwnT Vc.encI 1 3 B w a c l) (hm:l.length≤1000000) :
  RetsK prog 47 #[.slice a l.length c] w (.tuple #[]) (fun w'=>Vc.Mod (aBlk a) w w'∧OwnT Vc.encI 1 3 B w' a c (srtF l)):=by
 rcases OwnSl.own ho |>.2 with ⟨hv,h0⟩ | ⟨g,cap',cur,hv,hB,hg,hn,hc1,hc,ht⟩
 ·injection hv with ha h1 h2
  rw [List.length_map] at h0
  have hl:l=[]:=List.eq_nil_of_length_eq_zero h0
  subst ha;subst h2;subst hl
  exact Rets.mono (sort0_spec w) fun u w' ⟨hu,he⟩=>⟨hu,he.mod,by rw [show srtF []=[] by simp [srtF]];exact ho.ext he⟩
 ·injection hv with ha h1 h2
  subst ha;subst h2
  rw [List.length_map] at hn ht
  have ht:=cells_take ht
  have hH:=holds_of_blockI hg ht
  have hlt:g<w.heap.size:=(Array.getElem?_eq_some_iff.1 hg).1
  refine Calls.mono (Any.slices_Sort_int Tryz.srt g 0 c l w hH hlt (by omega)) ?_
  rintro e w' ⟨rfl,n,os,rfl⟩
  have hgr:=grownBy_sortedI (w:=w) (g:=g) (n:=n) (os:=os) (srtF l).toArray
  refine ⟨_,rfl,rfl,⟨hgr.os,hgr.tape,hgr.output,hgr.size,fun b hb hn=>hgr.block b hb fun e=>hn ⟨_,rfl,(Option.some.inj e).symm⟩⟩,?_⟩
  refine ⟨fun r hr=>?_,?_⟩
  ·obtain ⟨x,_,rfl⟩:=List.mem_map.1 hr;rfl
  ·have:=ownsRow_sortedI (w:=w) (base:=B) (g:=g) (cap:=c) (n:=n) (e:=3) (os:=os) (cur:=cur) (ss:=l) (ts:=srtF l) (srtF_len l) hB hg hn hc1 hc
   rw [List.length_map,srtF_len]
   have hfl:((srtF l).map Vc.encI).flatten=(srtF l).map (Value.int .i64):=by
    generalize srtF l=m
    induction m with
    | nil=>rfl
    | cons x m ih=>rw [List.map_cons,List.flatten_cons,List.map_cons,ih];rfl
   rw [hfl]
   exact this
end Go.Proofs.YtdkhcipjenfcnaaGreatDoor
/- Hyper: slices.Compact; a list as a set. -/
namespace Go.Proofs.YtdkhcipjenfcnaaGreatDoor
open Go.Proofs.Tryz
set_option maxRecDepth 100000
set_option maxHeartbeats 16000000
open Go.Vc Go.Sort
theorem eltI:Elt Vc.encI 1:=⟨fun _=>rfl,fun _=>rfl,by decide⟩
theorem compact_spec (a:Option Addr) (cap:Nat) (d:Array (Int)) (w0 w:World) (hs:Srt Vc.encI 1 w0 a d w) (h0:0<d.size) (hcap:d.size≤cap) (hm:d.size≤1000000) :
  RetsY prog 146 #[.slice a d.size cap] w (fun _:Array (Int)=>.slice a (cpL d.toList).length cap) (fun d' w'=>Srt Vc.encI 1 w0 a d' w'∧d'.toList=cpL d.toList):=by
 obtain ⟨b0,o0,ha⟩:=hs.ad
 obtain ⟨l,hl⟩:∃ l,l=d.toList:=⟨_,rfl⟩
 have hll:l.length=d.size:=by rw [hl];simp
 have hget:∀ i,l.getD i default=d[i]! := fun i=>by rw [hl];exact getD_bang d i
 have elt:=eltI
 rw [←hl]
 refine eN (args:=[_]) func146 rfl ntmps146 ?_
 refine Vs<|Vr<|oT rfl<|Vn<|Vs<|Vs<|Vr<|oS rfl<|Vo (R.lenS ru22 rfl)<|oL rfl rfl<|Vn<|Vd rfl (fun c8=>Vs<|Vr<|oS rfl<|oT rfl<|Vn<|Vt (fret1 (v:=.slice _ _ _) rfl rfl rfl (?_))) (fun c8=>Vk<|Vs<|Vs<|Vr<|oJ rfl<|Vn<|Vb (?_))
 ·have h1:cpL l=l:=by
   unfold cpL
   rw [cpN_take l l.length (Nat.le_refl _) (fun j h1 h2=>by omega),List.take_length]
  exact ⟨d,by rw [h1,hll],hs,by rw [h1,hl]⟩
 refine Vl [0,3] (fun k:Nat=>[.slice a d.size cap,.int .i64 (k:Nat)]) (fun k w'=>0<k∧k≤d.size∧(∀ j,0<j→j<k→l.getD j default≠l.getD (j-1) default)∧Ext w w') (fun k=>d.size-k) 1 rfl ⟨by omega,by omega,fun j h1 h2=>by omega,Mod.refl _ _⟩ ?_
 rintro ρ k w1 ⟨hk0,hk,hne,e⟩
 refine Vs<|Vs<|Vr<|oI rfl<|oS rfl<|Vo (R.lenS ru22 rfl)<|oL rfl rfl<|Vn<|Vd rfl (fun c13=>Vk<|Vs<|Vb<|Vs<|rQ 10 (qS rfl<|qI rfl<|Vq (fun wq eq=>iX ru22 sz3 rfl rfl (hs.ad))<|Vq (fun wq eq=>rla ag3 rfl (((hs.ext (e.trans eq)).row elt (i:=k) rfl (by omega)).c0a rfl))<|qS rfl<|qI rfl<|Vq (fun wq eq=>R.subE (z:=((k-1:Nat):Int)) rfl rfl (by omega) (by omega) (by omega))<|Vq (fun wq eq=>iX ru22 sz3 rfl rfl (hs.ad))<|Vq (fun wq eq=>rla ag3 rfl (((hs.ext (e.trans eq)).row elt (i:=k-1) rfl (by omega)).c0a rfl))<|Vq (fun wq eq=>R.eql rfl rfl)<|Vj fun w6q e6q=>Vn<|Vd rfl (fun c25=>Vs (?_)) (fun c25=>Vk<|Vr<|oI rfl<|oD rfl rfl<|oJ rfl<|Vn (⟨k+1,rfl,⟨by omega,by omega,?_,(e.trans e6q)⟩,by omega⟩)))) (fun c13=>Ve<|Vs<|Vr<|oS rfl<|oT rfl<|Vn<|Vt (fret1 (v:=.slice _ _ _) rfl rfl rfl (?_)))
 ·have hk2:k<d.size:=by omega
  have hdup:l.getD k default=l.getD (k-1) default:=by rw [hget,hget];exact c25
  have hck:cpN l k=l.take k:=cpN_take l k (by omega) hne
  have hnc:¬(k=0∨l.getD k default≠l.getD (k-1) default):=fun h=>h.elim (by omega) (fun h=>h hdup)
  have hck1:cpN l (k+1)=l.take k:=by rw [cpN,if_neg hnc,hck]
  have hckl:(cpN l (k+1)).length=k:=by rw [hck1];simp;omega
  have hshort:=cpN_short l hk0 hdup
  have hE:=e.trans e6q
  have hs1:=hs.ext hE
  refine Vr<|oS rfl<|oI rfl<|Vo (R.slLo ru22 sz3 rfl rfl (by omega) (by omega))<|oT rfl<|Vn<|V.cut [0,3] (fun _:Array (Int)=>[.slice a d.size cap,.int .i64 ((cpN l d.size).length:Nat)]) (fun d2 w'=>CpN Vc.encI 1 l w0 a d.size d2 w') (Vs<|Vr<|oJ rfl<|Vn<|Vb (?_)) (fun rgB2 xB2 wBB2 hBB2=>Vs (?_))
  ·refine Vl [0,3,4,5] (fun x:Nat×Array (Int)=>[.slice a d.size cap,.int .i64 ((cpN l (k+x.1)).length:Nat),.slice (cutA a 1 k cap) (d.size-k) (cap-k),.int .i64 (x.1:Nat)])
    (fun x w'=>1≤x.1∧k+x.1≤d.size∧CpN Vc.encI 1 l w0 a (k+x.1) x.2 w') (fun x=>d.size-x.1) (1,d) (by dsimp only;rw [hckl];rfl) ⟨by dsimp only;omega,by dsimp only;omega,hs1,hll.symm,?_,fun q h1 h2=>(hget q).symm⟩ ?_
   ·dsimp only
    intro q hq
    rw [hckl] at hq
    rw [hck1,←hget]
    simp [List.getD,hq]
   rintro ρ ⟨k2,d2⟩ w2 ⟨g1,g2,hJ⟩
   dsimp only at g1 g2 hJ ⊢
   have hsz:=hJ.sz
   have hsh:=hshort (k+k2) (by omega)
   have hcapk:cap≠k:=by omega
   have hsome:∃ b off,cutA a 1 k cap=some ⟨b,off,none⟩:=by rw [ha];exact ⟨_,_,cutSome hcapk⟩
   have hdif:((d.size-k:Nat):Int)=(d.size:Int)-k:=by omega
   have hv1:k2<d.size-k→d2[k+k2]! = l.getD (k+k2) default:=fun h=>hJ.hi _ (by omega) (by omega)
   have hv2:k2<d.size-k→d2[k+(k2-1)]! = l.getD (k+(k2-1)) default:=fun h=>hJ.hi _ (by omega) (by omega)
   refine Vs<|Vs<|Vr<|oI rfl<|oS rfl<|Vo (R.lenS ru22 rfl)<|oL rfl rfl<|Vn<|Vd rfl (fun c32=>Vk<|Vs<|Vb<|Vs<|rQ 10 (qS rfl<|qI rfl<|Vq (fun wq eq=>iX ru22 sz3 rfl rfl (hsome))<|Vq (fun wq eq=>rla ag3 rfl ((Srt.cutRow elt (hJ.s.ext eq) (q:=k2) hcapk (by omega)).c0a rfl))<|qS rfl<|qI rfl<|Vq (fun wq eq=>R.subE (z:=((k2-1:Nat):Int)) rfl rfl (by omega) (by omega) (by omega))<|Vq (fun wq eq=>iX ru22 sz3 rfl rfl (hsome))<|Vq (fun wq eq=>rla ag3 rfl ((Srt.cutRow elt (hJ.s.ext eq) (q:=k2-1) hcapk (by omega)).c0a rfl))<|Vq (fun wq eq=>R.neq rfl rfl)<|Vj fun w11q e11q=>Vn<|Vd rfl (fun c44=>Vs<|Vr<|oS rfl<|oI rfl<|oS rfl<|oI rfl<|Vo (iX ru22 sz3 rfl rfl (hsome))<|Vo (rla ag3 rfl ((Srt.cutRow elt (hJ.s.ext e11q) (q:=k2) hcapk (by omega)).c0a rfl))<|Vo (iX ru22 sz3 rfl rfl hJ.s.ad)<|VL.storeSt elt sz3 (hJ.s.ext e11q) rfl (i:=(cpN l (k+k2)).length) rfl (by omega) rfl fun w12 hs12=>Vn<|Vr<|oI rfl<|oD rfl rfl<|oJ rfl<|Vn<|Vr<|oI rfl<|oD rfl rfl<|oJ rfl<|Vn (?_)) (fun c44=>Vk<|Vr<|oI rfl<|oD rfl rfl<|oJ rfl<|Vn (?_)))) (fun c32=>Ve (?_))
   ·have hnew:cpN l (k+(k2+1))=cpN l (k+k2)++[l.getD (k+k2) default]:=by
     rw [show k+(k2+1)=k+k2+1 by omega,cpN,if_pos]
     right
     rw [←hv1 (by omega),show k+k2-1=k+(k2-1) by omega,←hv2 (by omega)]
     exact c44
    have hlen:(cpN l (k+(k2+1))).length=(cpN l (k+k2)).length+1:=by rw [hnew];simp
    refine ⟨(k2+1,d2.setIfInBounds (cpN l (k+k2)).length d2[k+k2]!),by dsimp only;rw [hlen];rfl,⟨by dsimp only;omega,by dsimp only;omega,⟨hs12,by simp [hsz],fun q hq=>?_,fun q h1 h2=>?_⟩⟩,by dsimp only;omega⟩
    ·dsimp only at hq ⊢
     rw [hlen] at hq
     by_cases hqe:q=(cpN l (k+k2)).length
     ·subst hqe
      rw [getElem!_pos _ _ (by simp;omega),Array.getElem_setIfInBounds_self,hv1 (by omega),hnew]
      simp [List.getD]
     ·rw [getElem!_pos _ q (by simp;omega),Array.getElem_setIfInBounds_ne (by omega) (Ne.symm hqe),←getElem!_pos d2 q (by omega),hJ.lo q (by omega),hnew]
      simp [List.getD,List.getElem?_append_left (show q<(cpN l (k+k2)).length by omega)]
    ·dsimp only at h1 ⊢
     rw [getElem!_pos _ q (by simp;omega),Array.getElem_setIfInBounds_ne (by omega) (by omega),←getElem!_pos d2 q (by omega)]
     exact hJ.hi q (by omega) h2
   ·have hnew:cpN l (k+(k2+1))=cpN l (k+k2):=by
     rw [show k+(k2+1)=k+k2+1 by omega,cpN,if_neg]
     rintro (h | h)
     ·omega
     ·rw [←hv1 (by omega),show k+k2-1=k+(k2-1) by omega,←hv2 (by omega)] at h
      exact c44 h
    refine ⟨(k2+1,d2),by dsimp only;rw [hnew];rfl,⟨by dsimp only;omega,by dsimp only;omega,⟨hJ.s.ext e11q,hsz,fun q hq=>?_,fun q h1 h2=>?_⟩⟩,by dsimp only;omega⟩
    ·dsimp only at hq ⊢
     rw [hnew] at hq ⊢
     exact hJ.lo q hq
    ·dsimp only at h1
     exact hJ.hi q (by omega) h2
   ·have hme:k+k2=d.size:=by omega
    rw [hme] at hJ ⊢
    exact ⟨d2,rfl,hJ⟩
  ·have hlt:(cpN l d.size).length<d.size:=hshort d.size (by omega)
   have hsz:=hBB2.sz
   have hs2:=hBB2.s
   refine Vr<|oS rfl<|oI rfl<|Vo (R.slLo ru22 sz3 rfl rfl (by omega) (by omega))<|VL.clearS eltI ru22 zv3 rfl rfl (hs2) rfl (by rw [hsz,hll];omega) (Or.inl (by omega)) fun w14 d3 hz3 hq3 hs3=>Vn<|Vs<|Vr<|oS rfl<|oI rfl<|Vo (R.slHi ru22 sz3 rfl rfl (by omega) (by omega))<|oT rfl<|Vn<|Vt (fret1 (v:=.slice _ _ _) rfl rfl rfl (?_))
   have hcl:(cpL l).length=(cpN l d.size).length:=by unfold cpL;rw [hll]
   refine ⟨d3,?_,hs3,?_⟩
   ·rw [hcl,ha,cut0];rfl
   ·refine List.ext_getElem (by rw [hcl];simpa using hz3) fun q h1 h2=>?_
    have h3:q<(cpN l d.size).length:=by rw [←hcl];exact h2
    have h4:=hBB2.lo q h3
    rw [←hq3 q h3,getElem!_pos d3 q (by simpa using h1)] at h4
    have h5:d3.toList[q]=d3[q]'(by simpa using h1):=by simp
    rw [h5,h4]
    unfold cpL
    simp only [hll]
    simp [List.getD,h3]
 ·intro j h1 h2
  by_cases hjk:j=k
  ·subst hjk;rw [hget,hget];exact c25
  ·exact hne j h1 (by omega)
 ·have hkn:k=d.size:=by omega
  have h1:cpL l=l:=by
   unfold cpL
   rw [cpN_take l l.length (Nat.le_refl _) (fun j h1 h2=>hne j h1 (by omega)),List.take_length]
  exact ⟨d,by rw [h1,hll],hs.ext e,by rw [h1,hl]⟩
theorem compact0_spec (a:Option Addr) (c:Nat) (w:World):RetsP prog 146 #[.slice a 0 c] w (.slice a 0 c):=by
 refine eN (args:=[_]) func146 rfl ntmps146 ?_
 refine Vs<|Vr<|oT rfl<|Vn<|Vs<|Vs<|Vr<|oS rfl<|Vo (R.lenS ru22 rfl)<|Vo (R.lit (R.lss rfl rfl) (by decide))<|Vn<|Vg rfl<|Vs<|Vr<|oS rfl<|oT rfl<|Vn<|Vt (fret1 (v:=.slice _ _ _) rfl rfl rfl (⟨rfl,(Mod.refl _ _)⟩))
structure SetI (w w':World) (x:Option Addr×Nat) (l:List Int):Prop where
 sl:IntSl w' x.1 l
 cap:l.length≤x.2
 new:∀ k,aBlk x.1 k→w.heap.size≤k∧k<w'.heap.size
theorem hset_spec (a:Option Addr) (ca:Nat) (l:List Int) (w:World) (hm:l.length≤1000000) (hax:a=none→ca=0) (hS:IntSl w a l) :
  RetsX prog 129 #[.slice a l.length ca] w (fun x:Option Addr×Nat=>.slice x.1 (setF l).length x.2) (fun x w'=>SetI w w' x (setF l)):=by
 refine eN (args:=[_]) func129 rfl ntmps129 ?_
 refine Vs<|Vr<|oT rfl<|Vn<|Vs<|Vr<|oS rfl<|VL.callX call145 rfl (cloneI_spec a ca l w hm hax hS) fun x w1 ho1 e1=>oT rfl<|Vn<|Vs<|Vr<|oS rfl<|VL.callK call47 rfl (sortI_spec x.1 x.2 w.heap.size l w1 ho1 hm) fun w2 ⟨m2,ho2⟩=>Vn<|Vs (?_)
 have e2:Ext w w2:=e1.ownA m2 fun k hk=>ho1.ge k hk
 have hlt:∀ k,aBlk x.1 k→w.heap.size≤k∧k<w2.heap.size:=fun k hk=>⟨ho2.ge k hk,ho2.lt k hk⟩
 have hcap:=ho2.cap
 rw [srtF_len] at hcap
 have hcp:cpL (srtF l)=setF l:=cpL_set (srtF_le l) fun y=>srtF_mem l y
 by_cases h0:l.length=0
 ·have hl:l=[]:=List.eq_nil_of_length_eq_zero h0
  subst hl
  refine Vr<|oS rfl<|Vp call146 rfl (compact0_spec x.1 x.2 w2) fun w3_1 e3_1=>oT rfl<|Vn<|Vt (fret1 (v:=.slice _ _ _) rfl rfl rfl (?_))
  have hs:=ho2.sl.ext e3_1
  rw [show srtF []=[] by simp [srtF]] at hs
  exact ⟨x,rfl,⟨hs,Nat.zero_le _,fun k hk=>⟨(hlt k hk).1,Nat.lt_of_lt_of_le (hlt k hk).2 e3_1.size⟩⟩,e2.trans e3_1⟩
 ·have hd:(srtF l).toArray.size=l.length:=by simp [srtF_len]
  have hs:=Srt.of_own (d:=(srtF l).toArray) eltI ho2 (by omega)
  have hC:=compact_spec x.1 x.2 (srtF l).toArray w2 w2 hs (by omega) (by omega) (by omega)
  rw [hd] at hC
  refine Vr<|oS rfl<|VL.callY call146 rfl (hC) fun d w3 ⟨hs3,hq3⟩=>oT rfl<|Vn<|Vt (fret1 (v:=.slice _ _ _) rfl rfl rfl (?_))
  have hq3:d.toList=setF l:=hq3.trans hcp
  have hsl:=hs3.sl eltI
  rw [hq3] at hsl
  have hlen:=setF_len l
  refine ⟨x,?_,⟨hsl,by omega,fun k hk=>⟨(hlt k hk).1,Nat.lt_of_lt_of_le (hlt k hk).2 hs3.m.size⟩⟩,e2.ownA hs3.m fun k hk=>(hlt k hk).1⟩
  rw [hcp]
def TabW (B : Nat) (w : World) : Prop := Lib.TabBelow prog B w "internal/strconv.uint64pow10" .u64 Lib.pow10Tab
theorem TabW.on {B:Nat} {w w':World} (h:TabW B w) (hB:B≤w.heap.size) (m:Mod (fun k=>B≤k) w w'):TabW B w':=Lib.TabBelow.on h (m.below hB fun x h1 h2=>by omega)
theorem TabW.ext {B:Nat} {w w':World} (h:TabW B w) (hB:B≤w.heap.size) (e:Ext w w'):TabW B w':=h.on hB (e.mod)
theorem TabW.up {B B':Nat} {w:World} (h:TabW B w) (hB:B≤B'):TabW B' w:=fun w' h'=>h w' (h'.mono hB)
theorem appendI_spec (x:Int) (a:Option Addr) (c B:Nat) (bs:List UInt8) (w:World) (ho:OwnT encU 1 5 B w a c bs) (hB:B≤w.heap.size) (h0:-9223372036854775808≤x) (h1:x≤9223372036854775807) (hl:bs.length≤1000000000) (hT:TabW B w) :
  RetsY prog 152 #[.slice a bs.length c,.int .i64 x,.int .i64 10] w (fun p:Option Addr×Nat=>.slice p.1 (bs++Lib.itoa x).length p.2) (fun p w'=>OwnT encU 1 5 B w' p.1 p.2 (bs++Lib.itoa x)∧Mod (fun k=>B≤k) w w'):=by
 have hown:=OwnSl.own ho
 rw [List.length_map,encU_flat] at hown
 refine Calls.mono (Any.strconv_AppendInt_10 Tryz.apd B bs.length x h0 h1 (.slice a bs.length c) (Lib.byteCells bs) w hown hB (by omega) hT) ?_
 rintro e w' ⟨v',rfl,hown2,hbl,_⟩
 have hr:Lib.byteCells bs++Lib.byteCells (Lib.itoa x)=Lib.byteCells (bs++Lib.itoa x):=by simp [Lib.byteCells]
 rw [hr,←List.length_append] at hown2
 refine ⟨_,rfl,?_⟩
 have hm:Mod (fun k=>B≤k) w w':=⟨hbl.os,hbl.tape,hbl.output,hbl.size,fun k hk hn=>hbl.block k (by omega)⟩
 obtain ⟨p,hp⟩:∃ p:Option Addr×Nat,v'=.slice p.1 (bs++Lib.itoa x).length p.2:=by
  rcases hown2.2 with ⟨hv,h0⟩ | ⟨g,cap,cur,hv,_⟩
  ·exact ⟨(none,0),by rw [hv,h0]⟩
  ·exact ⟨(some ⟨g,0,none⟩,cap),hv⟩
 refine ⟨p,hp,⟨encU_len _,?_⟩,hm⟩
 rw [List.length_map,encU_flat,←hp]
 exact hown2
theorem text_spec (a:Option Addr) (ca B:Nat) (l:List Int) (w:World) (hm:l.length≤1000000) (hS:IntSl w a l) (hr:∀ x∈l,-9223372036854775808≤x∧x≤9223372036854775807) (hB:B≤w.heap.size) (hT:TabW B w) :
  RetsP prog 133 #[.slice a l.length ca] w (.string ⟨(textF l).toArray⟩):=by
 have hT0:=hT.up hB
 have htl:∀ k,k≤l.length→(textF (l.take k)).length≤22*k:=by
  intro k hk
  induction k with
  | zero=>simp [textF]
  | succ k ih =>
   rw [List.take_succ_eq_append_getElem (by omega),textF_snoc,List.length_append,List.length_append]
   have:=hr _ (List.getElem_mem (show k<l.length by omega))
   have:=Lib.itoa_length_le l[k] this.1 this.2
   have:=ih (by omega)
   simp;omega
 refine eN (args:=[_]) func133 rfl ntmps133 ?_
 refine Vs<|Vr<|Vo (R.asG rfl)<|Vn<|Vs<|Vr<|oT rfl<|Vn<|V.cut [3] (fun z:Option Addr×Nat=>[.slice z.1 (textF l).length z.2]) (fun z w'=>OwnT encU 1 5 w.heap.size w' z.1 z.2 (textF l)∧Ext w w') (Vs<|Vr<|oS rfl<|Vo (R.lenS ru22 rfl)<|oI rfl<|Vn<|Vb (?_)) (fun rgB0 xB0 wBB0 hBB0=>Vs (?_))
 ·refine Vl [3,6,7,8] (fun z:Nat×Option Addr×Nat=>[.slice z.2.1 (textF (l.take z.1)).length z.2.2,.slice a l.length ca,.int .i64 (l.length:Nat),.int .i64 (z.1:Nat)])
   (fun z w'=>z.1≤l.length∧OwnT encU 1 5 w.heap.size w' z.2.1 z.2.2 (textF (l.take z.1))∧Ext w w') (fun z=>l.length-z.1) (0,none,0) rfl ⟨by omega,OwnT.nil encU 1 5 _ _,Mod.refl _ _⟩ ?_
  rintro ρ ⟨k,a1,c1⟩ w1 ⟨hk,ho,e⟩
  dsimp only at hk ho e ⊢
  have hlk:=htl k hk
  refine Vs<|Vr<|oL rfl rfl<|Vn<|Vs<|Vd rfl (fun c9=>Vk<|Vs<|Vb<|Vs<|Vr<|Vo (iX ru22 sz3 rfl rfl ((hS).some (i:=k) (by omega)))<|Vo (rla ag3 rfl ((((hS).ext e).row (i:=k) (by omega)).c0a rfl))<|oJ rfl<|Vn<|Vs (?_)) (fun c9=>Ve (?_))
  ·have hkl:k<l.length:=by omega
   have hx:=hr _ (gmem hkl)
   have hil:=Lib.itoa_length_le _ hx.1 hx.2
   have e5:=e
   refine Vr<|oS rfl<|oI rfl<|VL.callY call152 rfl (appendI_spec (l.getD k default) a1 c1 w.heap.size (textF (l.take k)) _ ho e5.size hx.1 hx.2 (by omega) (hT0.ext (Nat.le_refl _) e5)) fun p w5 ⟨ho5,m5⟩=>oT rfl<|Vn<|Vr<|oS rfl<|VL.append1 el149 runUnderlying149 sizeOf5 zeroValue5 rfl (32:UInt8) rfl rfl rfl ho5 rfl rfl rfl (by rw [List.length_append];omega) (by rw [List.length_append];unfold maxLen;omega) (Nat.le_trans e5.size m5.size) fun a6 c6 w6 vt6 ho6 m6 hf6=>oT rfl<|Vn<|Vr<|oD rfl rfl<|oI rfl<|Vn (?_)
   have ht:textF (l.take k)++Lib.itoa (l.getD k default)++[32]=textF (l.take (k+1)):=by
    rw [List.take_succ_eq_append_getElem hkl,textF_snoc,gget hkl]
   have hln:(textF (l.take (k+1))).length=(textF (l.take k)++Lib.itoa (l.getD k default)).length+1:=by rw [←ht,List.length_append];rfl
   rw [ht] at ho6
   refine ⟨(k+1,a6,c6),?_,⟨by dsimp only;omega,ho6,?_⟩,by dsimp only;omega⟩
   ·dsimp only;rw [hln];rfl
   ·exact (e5.ownA m5 fun k hk=>hk).ownA m6 fun k hk=>(ho5.ge k hk)
  ·have hkl:k=l.length:=by omega
   subst hkl
   rw [List.take_length] at ho ⊢
   exact ⟨(a1,c1),rfl,ho,e⟩
 ·refine Vr<|oS rfl<|Vo (R.convBS underlying149 underlying5 underlying9 rfl (rfl) (hBB0.1.sl))<|Vo (R.asG rfl)<|Vn<|Vt (fret1 (v:=.string _) rfl rfl rfl (⟨rfl,hBB0.2⟩))
structure GS (e:List Int) (B:Nat) (x:SlI) (W:World):Prop where
 sl:IntSl W x.a x.l
 new:∀ k,aBlk x.a k→B≤k
 sub:∃ b,x.l=subK e b e.length
def subsL (e:List Int) (k:Nat):List (List Int):=(List.range k).map fun b=>subK e b e.length
theorem subsL_succ (e:List Int) (k:Nat):subsL e (k+1)=subsL e k++[subK e k e.length]:=by simp [subsL,List.range_succ]
theorem subs_seq (m Bn:Nat) (a:Option Addr) (c:Nat) (e:List Int) (w:World) (hn:e.length≤60) (hB:Blk w Bn (.cells #[.slice a e.length c] 22 (0,0))) (hE:IntSl w a e) :
  SeqG m prog 160 #[pA Bn] (fun x:SlI=>#[.slice x.a x.l.length x.c]) (GS e) w.heap.size (fun xs=>vals xs=subsL e (2 ^ e.length)) (fun pre=>∀ x∈vals pre,∃ b,b<2 ^ e.length∧x=subK e b e.length) w:=by
 intro l J Jx W hEW hJe hJxe hY h0
 have hp2:2 ^ e.length≤1152921504606846976:=Nat.pow_le_pow_right (by omega) hn
 refine Calls.mono (R:=fun e' w'=>∃ v,e'=.returned v∧((∃ xs,vals xs=subsL e (2 ^ e.length)∧J xs w')∨(∃ pre,(∀ x∈vals pre,∃ b,b<2 ^ e.length∧x=subK e b e.length)∧Jx pre w'))) ?_ (fun e' w' ⟨v,h1,h2⟩=>⟨⟨v,h1⟩,h2⟩)
 refine eN (args:=[_,_]) func160 rfl ntmps160 ?_
 refine Vs<|Vr<|Vo (rla ag22 rfl ((hB.ext hEW).cell _))<|Vo (R.lenS ru22 rfl)<|Vo (R.shl1 rfl rfl (by omega))<|oI rfl<|Vn<|Vb (?_)
 refine Vl [0,1,9,10] (fun z:Nat×List SlI=>[.func (.yield l) #[] #[],pA Bn,.int .i64 ((2 ^ e.length:Nat):Int),.int .i64 (z.1:Nat)])
  (fun z w'=>z.1≤2 ^ e.length∧vals z.2=subsL e z.1∧J z.2 w'∧Mod (From w.heap.size) w w'∧W.heap.size≤w'.heap.size) (fun z=>2 ^ e.length-z.1) (0,[]) rfl ⟨Nat.zero_le _,rfl,h0,hEW.mod,Nat.le_refl _⟩ ?_
 rintro ρ ⟨k,pre⟩ w1 ⟨hk,hv,hJ,hm,hs⟩
 dsimp only at hk hv hJ hm hs ⊢
 have hB1:Blk w1 Bn (.cells #[.slice a e.length c] 22 (0,0)):=hB.mod hm (by have:=hB.lt;show ¬_≤_;omega)
 have hE1:IntSl w1 a e:=hE.from hm
 refine Vs<|Vr<|oL rfl rfl<|Vn<|Vs<|Vd rfl (fun c11=>Vk<|Vs<|Vb<|Vs<|Vr<|oI rfl<|oJ rfl<|Vn<|Vs<|Vr<|oT rfl<|Vn<|V.cut [0,1,4,9,10] (fun y:Option Addr×Nat=>[.func (.yield l) #[] #[],pA Bn,.slice y.1 (subK e k e.length).length y.2,.int .i64 ((2 ^ e.length:Nat):Int),.int .i64 (k:Nat)]) (fun y w'=>OwnT Vc.encI 1 3 w1.heap.size w' y.1 y.2 (subK e k e.length)∧Ext w1 w') (Vs<|Vr<|Vo (rla ag22 rfl (hB1.cell _))<|Vo (R.lenS ru22 rfl)<|oI rfl<|Vn<|Vb (?_)) (fun rgB2 xB2 wBB2 hBB2=>Vs (?_))) (fun c11=>Ve (fend0 rfl (?_)))
 ·refine Vl [0,1,3,4,9,10,13,14,15] (fun y:Nat×Option Addr×Nat=>[.func (.yield l) #[] #[],pA Bn,.int .i64 (k:Nat),.slice y.2.1 (subK e k y.1).length y.2.2,.int .i64 ((2 ^ e.length:Nat):Int),.int .i64 (k:Nat),.slice a e.length c,.int .i64 (e.length:Nat),.int .i64 (y.1:Nat)])
   (fun y w'=>y.1≤e.length∧OwnT Vc.encI 1 3 w1.heap.size w' y.2.1 y.2.2 (subK e k y.1)∧Ext w1 w') (fun y=>e.length-y.1) (0,none,0) rfl ⟨Nat.zero_le _,OwnT.nil _ _ _ _ _,Mod.refl _ _⟩ ?_
  rintro ρ ⟨i,a4,c4⟩ w2 ⟨hi,ho,e2⟩
  dsimp only at hi ho e2 ⊢
  have hlen:=subK_len e k i
  refine Vs<|Vr<|oL rfl rfl<|Vn<|Vs<|Vd rfl (fun c16=>Vk<|Vs<|Vb<|Vs<|Vr<|oI rfl<|Vo (iX ru22 sz3 rfl rfl ((hE1).some (i:=i) (by omega)))<|Vo (rla ag3 rfl ((((hE1).ext e2).row (i:=i) (by omega)).c0a rfl))<|oJ rfl<|oJ rfl<|Vn<|Vs<|Vr<|oI rfl<|oI rfl<|Vo (R.shrN rfl rfl (by omega))<|Vo (R.and1 rfl rfl (Nat.lt_of_le_of_lt (Nat.div_le_self _ _) (by omega)))<|Vo (R.eql rfl rfl)<|Vn<|Vd rfl (fun c24=>Vr<|oS rfl<|oI rfl<|VL.append1 el22 ru22 sz3 zv3 rfl (e.getD i default) rfl rfl rfl ho rfl rfl rfl (by omega) (by unfold maxLen;omega) e2.size fun a8 c8 w8 vt8 ho8 m8 hf8=>oT rfl<|Vn<|Vr<|oD rfl rfl<|oI rfl<|Vn (?_)) (fun c24=>Vk<|Vr<|oD rfl rfl<|oI rfl<|Vn (?_))) (fun c16=>Ve (?_))
  ·have hsu:subK e k (i+1)=subK e k i++[e.getD i default]:=by rw [subK_succ,if_pos (by omega)]
   rw [←hsu] at ho8
   have hln:(subK e k (i+1)).length=(subK e k i).length+1:=by rw [hsu,List.length_append];rfl
   exact ⟨(i+1,a8,c8),by dsimp only;rw [hln];rfl,⟨by dsimp only;omega,ho8,e2.ownA m8 fun k hk=>ho.ge k hk⟩,by dsimp only;omega⟩
  ·have hsu:subK e k (i+1)=subK e k i:=by rw [subK_succ,if_neg (by omega),List.append_nil]
   exact ⟨(i+1,a4,c4),by dsimp only;rw [hsu];rfl,⟨by dsimp only;omega,by dsimp only;rw [hsu];exact ho,e2⟩,by dsimp only;omega⟩
  ·have hie:i=e.length:=by omega
   subst hie
   exact ⟨(a4,c4),rfl,ho,e2⟩
 ·obtain ⟨ho,e2⟩:=hBB2
  have hJ2:=hJe _ _ _ hJ e2 hs
  have hk2:k<2 ^ e.length:=by omega
  have hvn:vals (pre++[SlI.mk xB2.1 xB2.2 (subK e k e.length)])=subsL e (k+1):=by rw [subsL_succ,←hv];simp [vals]
  have hy:=hY pre ⟨xB2.1,xB2.2,subK e k e.length⟩ _ hJ2 ⟨ho.sl,fun q hq=>Nat.le_trans hs (ho.ge q hq),k,rfl⟩
  dsimp only at hy
  refine V.yieldNot (d1:=30) (d2:=31) (d3:=32) (d4:=33) (x1:=.tmp 0) (x2:=.tmp 4) rfl rfl rfl hy ?_ rfl
  rintro ew w5 (⟨rfl,hJ5,hm5⟩ | ⟨rfl,hJx5⟩)
  ·refine ⟨true,rfl,?_⟩
   refine Vn<|V.condF rfl<|Vk<|Vr<|oD rfl rfl<|oI rfl<|Vn (⟨(k+1,pre++[⟨xB2.1,xB2.2,subK e k e.length⟩]),rfl,⟨by dsimp only;omega,hvn,hJ5,(hm.ext e2).trans hm5,Nat.le_trans hs (Nat.le_trans e2.size hm5.size)⟩,by dsimp only;omega⟩)
  ·refine ⟨false,rfl,?_⟩
   refine Vn<|Vg rfl<|Vt (fret0 rfl (.inr ⟨_,?_,hJx5⟩))
   rw [hvn]
   intro x hx
   obtain ⟨b,hb,rfl⟩:=List.mem_map.1 hx
   exact ⟨b,by rw [List.mem_range] at hb;omega,rfl⟩
 ·have hke:k=2 ^ e.length:=by omega
  subst hke
  exact .inl ⟨pre,hv,hJ⟩
end Go.Proofs.YtdkhcipjenfcnaaGreatDoor
