/- Repair: the reference: all. -/
import Derived.Test.YtdkhcipjenfcnaaGreatDoorXA47
namespace Go.Proofs.YtdkhcipjenfcnaaGreatDoor
set_option maxRecDepth 100000
set_option maxHeartbeats 16000000
open Go.Vc Go.Proofs.Tryz
def allR (g:Gr) (N:Nat):Nat→List Int→List (List Int)
 | 0,P=>if isB g P=true then [P] else []
 | f+1,P=>(if blkB g.edges P ((N-(f+1):Nat):Int)=true then [] else allR g N f (P++[((N-(f+1):Nat):Int)]))++if needB g.edges P ((N-(f+1):Nat):Int)=true then allR g N f P else []
theorem allR_mem {g:Gr} (hg:validG g=true) {N:Nat} (hN:g.n=(N:Int)):∀ (f:Nat),f≤N→∀ P,setB P ((N-f:Nat):Int)=true→∀ R,R∈allR g N f P↔IsRep g R∧below R (N-f)=P:=by
 intro f
 induction f with
 | zero =>
  intro _ P hP R
  have hall:∀ {Q:List Int},IsRep g Q→below Q (N-0)=Q:=fun h=>below_all fun x hx=>by have:=(setB_iff.1 h.set).2 x hx;omega
  unfold allR
  by_cases h:isB g P=true
  ·rw [if_pos h,List.mem_singleton]
   have hr:=(isB_iff hg).1 h
   constructor
   ·rintro rfl;exact ⟨hr,hall hr⟩
   ·rintro ⟨h1,h2⟩;rw [←h2,hall h1]
  ·rw [if_neg h]
   constructor
   ·intro h;cases h
   ·rintro ⟨h1,h2⟩
    rw [hall h1] at h2
    rw [←h2] at h
    exact absurd ((isB_iff hg).2 h1) h
 | succ f ih =>
  intro hf P hP R
  obtain ⟨v,hv⟩:∃ v,v=N-(f+1):=⟨_,rfl⟩
  have hv1:N-f=v+1:=by omega
  have hPs:=setB_iff.1 hP
  rw [←hv] at hPs ⊢
  have hP1:setB P ((v+1:Nat):Int)=true:=setB_iff.2 ⟨hPs.1,fun x hx=>by have:=hPs.2 x hx;omega⟩
  have hP2:setB (P++[(v:Int)]) ((v+1:Nat):Int)=true:=setB_iff.2 ⟨List.pairwise_append.2 ⟨hPs.1,List.pairwise_singleton _ _,fun x hx y hy=>by rw [List.mem_singleton.1 hy];exact (hPs.2 x hx).2⟩,fun x hx=>by
   rcases List.mem_append.1 hx with h | h
   ·have:=hPs.2 x h;omega
   ·rw [List.mem_singleton.1 h];omega⟩
  have i1:=ih (by omega) P (by rw [hv1];exact hP1) R
  have i2:=ih (by omega) (P++[(v:Int)]) (by rw [hv1];exact hP2) R
  rw [hv1] at i1 i2
  unfold allR
  rw [←hv,List.mem_append]
  have hvP:(v:Int)∉P:=fun h=>by have:=(hPs.2 _ h).2;omega
  constructor
  ·rintro (h | h)
   ·split at h
    ·cases h
    ·obtain ⟨h1,h2⟩:=i2.1 h
     refine ⟨h1,?_⟩
     have hvR:(v:Int)∈R:=by
      have:(v:Int)∈below R (v+1):=by rw [h2];simp
      exact (below_mem.1 this).1
     rw [below_in (setB_iff.1 h1.set).1 hvR] at h2
     exact (List.append_inj_left' h2 rfl)
   ·split at h
    ·obtain ⟨h1,h2⟩:=i1.1 h
     refine ⟨h1,?_⟩
     have hvR:(v:Int)∉R:=fun hh=>hvP (by rw [←h2];exact below_mem.2 ⟨hh,by omega⟩)
     rw [←h2]
     exact (below_out hvR).symm
    ·cases h
  ·rintro ⟨h1,h2⟩
   by_cases hvR:(v:Int)∈R
   ·refine .inl ?_
    have hb:blkB g.edges P (v:Int)=false:=by
     rw [←Bool.not_eq_true]
     intro hb
     have:=ind_blk (S:=R) (fun x hx=>by rw [←h2] at hx;exact (below_mem.1 hx).1) hvR hb
     rw [indB_iff.2 h1.free] at this
     cases this
    rw [hb,if_neg (by decide)]
    exact i2.2 ⟨h1,by rw [below_in (setB_iff.1 h1.set).1 hvR,h2]⟩
   ·refine .inr ?_
    have hn:needB g.edges P (v:Int)=true:=by
     obtain ⟨e,he,hve,hall⟩:=h1.max v (by omega) (by omega) hvR
     refine needB_iff.2 ⟨e,he,hve,fun x hx=>?_⟩
     by_cases hxv:(v:Int)≤x
     ·exact .inl hxv
     ·exact .inr (by rw [←h2];exact below_mem.2 ⟨hall x hx (by omega),by omega⟩)
    rw [hn,if_pos rfl]
    exact i1.2 ⟨h1,by rw [below_out hvR,h2]⟩
theorem allR_up {g:Gr} (hg:validG g=true) {N:Nat} (hN:g.n=(N:Int)):∀ (f:Nat),f≤N→∀ P,setB P ((N-f:Nat):Int)=true→Up lexB (allR g N f P):=by
 intro f
 induction f with
 | zero =>
  intro _ P _
  unfold allR
  split
  ·exact List.pairwise_singleton _ _
  ·exact List.Pairwise.nil
 | succ f ih =>
  intro hf P hP
  obtain ⟨v,hv⟩:∃ v,v=N-(f+1):=⟨_,rfl⟩
  have hv1:N-f=v+1:=by omega
  have hPs:=setB_iff.1 hP
  rw [←hv] at hPs
  have hP1:setB P ((N-f:Nat):Int)=true:=setB_iff.2 ⟨hPs.1,fun x hx=>by have:=hPs.2 x hx;omega⟩
  have hP2:setB (P++[(v:Int)]) ((N-f:Nat):Int)=true:=setB_iff.2 ⟨List.pairwise_append.2 ⟨hPs.1,List.pairwise_singleton _ _,fun x hx y hy=>by rw [List.mem_singleton.1 hy];exact (hPs.2 x hx).2⟩,fun x hx=>by
   rcases List.mem_append.1 hx with h | h
   ·have:=hPs.2 x h;omega
   ·rw [List.mem_singleton.1 h];omega⟩
  have hvP:(v:Int)∉P:=fun h=>by have:=(hPs.2 _ h).2;omega
  unfold allR
  rw [←hv]
  refine List.pairwise_append.2 ⟨?_,?_,fun x hx y hy=>?_⟩
  ·split
   ·exact List.Pairwise.nil
   ·exact ih (by omega) _ hP2
  ·split
   ·exact ih (by omega) _ hP1
   ·exact List.Pairwise.nil
  ·split at hx
   ·cases hx
   ·split at hy
    ·obtain ⟨h1,h2⟩:=(allR_mem hg hN f (by omega) _ hP2 x).1 hx
     obtain ⟨h3,h4⟩:=(allR_mem hg hN f (by omega) _ hP1 y).1 hy
     rw [hv1] at h2 h4
     have hvx:(v:Int)∈x:=(below_mem.1 (show (v:Int)∈below x (v+1) by rw [h2];simp)).1
     have hvy:(v:Int)∉y:=fun hh=>hvP (by rw [←h4];exact below_mem.2 ⟨hh,by omega⟩)
     rcases lex_first (setB_iff.1 h1.set).1 (setB_iff.1 h3.set).1 hvx hvy (fun z hz=>by
      have a1:z∈x↔z∈below x (v+1):=by rw [below_mem];exact ⟨fun h=>⟨h,by omega⟩,fun h=>h.1⟩
      have a2:z∈y↔z∈below y (v+1):=by rw [below_mem];exact ⟨fun h=>⟨h,by omega⟩,fun h=>h.1⟩
      rw [a1,a2,h2,h4,List.mem_append,List.mem_singleton]
      exact ⟨fun h=>h.resolve_right (by omega),.inl⟩) with h | h
     ·exact h
     ·have:=rep_anti h3 h1 h
      rw [this] at hvy
      exact absurd hvx hvy
    ·cases hy
theorem allR_reps {g:Gr} (hg:validG g=true) {N:Nat} (hN:g.n=(N:Int)):allR g N N []=repsG g:=by
 have hs:setB [] ((N-N:Nat):Int)=true:=setB_iff.2 ⟨List.Pairwise.nil,fun x hx=>nomatch hx⟩
 refine Up.ext lexB_sto (allR_up hg hN N (Nat.le_refl _) [] hs) (reps_up hg) fun R=>?_
 rw [allR_mem hg hN N (Nat.le_refl _) [] hs,reps_mem hg,Nat.sub_self]
 refine and_iff_left_of_imp fun h=>List.filter_eq_nil_iff.2 fun x hx=>?_
 have:=(setB_iff.1 h.set).2 x hx
 simp
 omega
structure AlE (w:World) (x:SlI):Prop where
 s:IntSl w x.a x.l
 t:TyA w x.a 3
 h:x.a=none→x.c=0
theorem AlE.ext {w w':World} {x:SlI} (h:AlE w x) (e:Ext w w'):AlE w' x:=⟨h.s.ext e,h.t.ext e,h.h⟩
theorem AlE.mod {w w':World} {x:SlI} {a:Option Addr} (h:AlE w x) (ht:TyA w a 22) (m:Vc.Mod (aBlk a) w w'):AlE w' x:=by
 have key:∀ k,aBlk x.a k→¬aBlk a k:=fun k hk hk2=>by
  obtain ⟨ad,ha,hb⟩:=hk2
  obtain ⟨c,z,hB⟩:=ht ad ha
  exact h.t.apart (hb▸hB) (by decide) hk
 exact ⟨h.s.mod m fun ad e=>key _ ⟨ad,e,rfl⟩,h.t.mod m key,h.h⟩
structure AlR (B:Nat) (w:World) (y:List SlI×Option Addr×Nat) (L:List (List Int)):Prop where
 o:OwnT encSl 1 22 B w y.2.1 y.2.2 y.1
 e:∀ x∈y.1,AlE w x
 v:vals y.1=L
theorem AlR.ext {B:Nat} {w w':World} {y:List SlI×Option Addr×Nat} {L:List (List Int)} (h:AlR B w y L) (e:Ext w w'):AlR B w' y L:=⟨h.o.ext e,fun x hx=>(h.e x hx).ext e,h.v⟩
theorem AlR.weaken {B B':Nat} {w:World} {y:List SlI×Option Addr×Nat} {L:List (List Int)} (h:AlR B w y L) (hB:B'≤B):AlR B' w y L:=⟨h.o.weaken hB,h.e,h.v⟩
theorem AlR.nil (B:Nat) (w:World):AlR B w ([],none,0) []:=⟨OwnT.nil _ _ _ _ _,fun _ h=>(nomatch h),rfl⟩
theorem AlR.len {B:Nat} {w:World} {y:List SlI×Option Addr×Nat} {L:List (List Int)} (h:AlR B w y L):y.1.length=L.length:=by rw [←h.v];exact (List.length_map _).symm
theorem allR_fewL {g:Gr} (hg:validG g=true) {N:Nat} (hN:g.n=(N:Int)) (hsp:∀ L,Up lexB L→(∀ R∈L,IsRep g R)→L.length≤924) (f:Nat) (hf:f≤N) (P:List Int) (hP:setB P ((N-f:Nat):Int)=true):(allR g N f P).length≤924 :=
 hsp _ (allR_up hg hN f hf P hP) fun R hR=>((allR_mem hg hN f hf P hP R).1 hR).1
theorem all28F_spec (g:GrW) (N:Nat) (hl:GLen g) (hv:validG (grV g)=true) (hN:g.n=(N:Int)) (hN12:N≤4000) (hsp:∀ L,Up lexB L→(∀ R∈L,IsRep (grV g) R)→L.length≤924):∀ (f v:Nat),v+f=N→∀ (a:Option Addr) (c:Nat) (P:List Int) (w:World),GOk w g→IntSl w a P→TyA w a 3→(a=none→c=0)→setB P (v:Int)=true→indB (vals g.edges) P=true →
  RetsX prog 106 #[.agg (encGr g).toArray,.slice a P.length c,.int .i64 (v:Nat)] w (fun y:List SlI×Option Addr×Nat=>.slice y.2.1 y.1.length y.2.2) (fun y w'=>AlR w.heap.size w' y (allR (grV g) N f P)):=by
 have hgn:(grV g).n=g.n:=rfl
 intro f
 induction f with
 | zero =>
  intro v hvf a c P w hG hS hTy hax hP hind
  have hPs:=setB_iff.1 hP
  have hpl:=set_len hPs.1 hPs.2 (by omega)
  refine eN (args:=[_,_,_]) func106 rfl ntmps106 ?_
  refine Vs<|Vr<|VL.box (v:=.agg _) rfl fun b0_0 w0_0 hb0_0 e0_0 hB0_0=>oT rfl<|Vn<|Vs<|Vs<|Vr<|oI rfl<|Vo (R.fld' (o:=0) ru25 rfl rfl sz3 rfl rfl)<|Vo (rla ag3 rfl (show w0_0.cell? ⟨b0_0,0,none⟩=some (Value.int .i64 ((N:Nat):Int)) from by rw [←hN];exact hB0_0.cell 0))<|Vo (R.lit (R.eql rfl rfl) (decide_eq_true (by omega)))<|Vn<|Vg rfl<|Vs<|Vs<|Vr<|Vo (R.ldA ag25 sz25 rfl rfl (show RowAt _ _ _ (encGr g) from (hB0_0.rowAt 0 3)) rfl)<|oS rfl<|Vp call53 rfl (ris28_spec g a c P _ (hG.ext e0_0) hl (by omega) hax (hS.ext e0_0)) fun w2_2 e2_2=>Vn<|Vh rfl (fun c14=>Vs<|Vr<|oS rfl<|VL.buildSl ru23 sz22 zv22 rfl rfl rfl fun b3_1 w3_1 hb3_1 e3_1 hB3_1=>oT rfl<|Vn<|Vt (fret1 (v:=.slice _ _ _) rfl rfl rfl (?_))) (fun c14=>Vk<|Vs<|Vr<|oT rfl<|Vn<|Vt (fret1 (v:=.slice _ _ _) rfl rfl rfl (?_)))
  ·have E3:Ext w w3_1:=e0_0.trans (e2_2.trans e3_1)
   refine ⟨([⟨a,c,P⟩],some ⟨b3_1,0,none⟩,1),rfl,⟨?_,fun x hx=>by rw [List.mem_singleton.1 hx];exact ⟨hS.ext E3,hTy.ext E3,hax⟩,?_⟩,E3⟩
   ·exact OwnT.of_blk (l:=[(⟨a,c,P⟩:SlI)]) hB3_1 (by rw [hb3_1];exact (e0_0.trans e2_2).size) rfl (fun r hr=>by obtain ⟨x,_,rfl⟩:=List.mem_map.1 hr;rfl) (by show 1≤maxLen;decide)
   ·unfold allR
    rw [if_pos (by assumption)]
    rfl
  ·refine ⟨([],none,0),rfl,⟨OwnT.nil _ _ _ _ _,fun _ h=>(nomatch h),?_⟩,e0_0.trans e2_2⟩
   unfold allR
   rw [if_neg (by simp_all)]
   rfl
 | succ f ih =>
  intro v hvf a c P w hG hS hTy hax hP hind
  have hPs:=setB_iff.1 hP
  have hpl:=set_len hPs.1 hPs.2 (by omega)
  have hvN:N-(f+1)=v:=by omega
  have hbl:(!freeF (vals g.edges) (setF (P++[(v:Int)])))=blkB (vals g.edges) P (v:Int):=blkR_eq hv hPs.1 hind (v:Int)
  have hset:setF (P++[(v:Int)])=P++[(v:Int)]:=setF_id (List.pairwise_append.2 ⟨hPs.1,List.pairwise_singleton _ _,fun x hx y hy=>by rw [List.mem_singleton.1 hy];exact (hPs.2 x hx).2⟩)
  have hP1:setB P ((v+1:Nat):Int)=true:=setB_iff.2 ⟨hPs.1,fun x hx=>by have:=hPs.2 x hx;omega⟩
  have hP2:setB (P++[(v:Int)]) ((v+1:Nat):Int)=true:=setB_iff.2 ⟨by rw [←hset];exact setF_inc _,fun x hx=>by
   rcases List.mem_append.1 hx with h | h
   ·have:=hPs.2 x h;omega
   ·rw [List.mem_singleton.1 h];omega⟩
  have hlen1:=allR_fewL hv hN hsp f (by omega) (P++[(v:Int)]) (by rw [show N-f=v+1 by omega];exact hP2)
  have hlen2:=allR_fewL hv hN hsp f (by omega) P (by rw [show N-f=v+1 by omega];exact hP1)
  refine eN (args:=[_,_,_]) func106 rfl ntmps106 ?_
  refine Vs<|Vr<|VL.box (v:=.agg _) rfl fun b0_0 w0_0 hb0_0 e0_0 hB0_0=>oT rfl<|Vn<|Vs<|Vs<|Vr<|oI rfl<|Vo (R.fld' (o:=0) ru25 rfl rfl sz3 rfl rfl)<|Vo (rla ag3 rfl (show w0_0.cell? ⟨b0_0,0,none⟩=some (Value.int .i64 ((N:Nat):Int)) from by rw [←hN];exact hB0_0.cell 0))<|Vo (R.lit (R.eql rfl rfl) (decide_eq_false (by omega)))<|Vn<|V.condF rfl<|Vk<|Vs<|Vr<|oT rfl<|Vn<|V.cut [1,2,3,7] (fun y:List SlI×Option Addr×Nat=>[.slice a P.length c,.int .i64 (v:Nat),pA b0_0,.slice y.2.1 y.1.length y.2.2]) (fun y w'=>AlR w.heap.size w' y (if blkB (vals g.edges) P (v:Int)=true then [] else allR (grV g) N f (P++[(v:Int)]))∧Ext w0_0 w') (Vs<|Vr<|Vo (R.ldA ag25 sz25 rfl rfl (show RowAt _ _ _ (encGr g) from (hB0_0.rowAt 0 3)) rfl)<|oS rfl<|oI rfl<|Vp call94 rfl (blocked28_spec g a c P (v:Int) _ (hG.ext e0_0) hl (by omega) hax (hS.ext e0_0)) fun w6_3 e6_3=>Vo (R.not rfl)<|Vn<|Vh rfl (fun c21=>?_) (fun c21=>Vk (?_))) (fun rgC21 xC21 wBC21 hBC21=>Vs<|Vs (?_))
  ·have hb:blkB (vals g.edges) P (v:Int)=false:=by rw [←hbl];simpa using c21
   have hX6:Blk w6_3 b0_0 (.cells (Value.agg (encGr g).toArray).cells 25 (0,0)):=hB0_0.ext e6_3
   have E6:=e0_0.trans e6_3
   refine V.regionD (T:=Ext) mixed 6 (by kernel_rfl) rfl (fun us=>VD.op (fun wq eq=>R.ldA ag25 sz25 rfl rfl (show RowAt _ _ _ (encGr g) from (hX6.ext eq).rowAt 0 3) rfl) (VD.op (fun wq eq=>R.mvS rfl) (VD.op (fun wq eq=>R.mvI rfl) (VD.callX (fun _=>fun u w'=>∃ x:Option Addr×Nat,u=.slice x.1 (setF (P++[(v:Int)])).length x.2∧AlE w' ⟨x.1,x.2,setF (P++[(v:Int)])⟩) (DepS.const _) (fun u a b _ ⟨x,h1,h2⟩ eb=>⟨x,h1,h2.ext eb⟩) call124 rfl (fun wq eq hq=>by
     refine Rets.mono (put28_spec a c P (v:Int) wq (by omega) hax (hS.ext (E6.trans eq))) ?_
     rintro u w' ⟨x,hu,h1,he⟩
     exact ⟨⟨x,hu,OwnT.sl h1,OwnT.tyA h1,OwnT.hax h1⟩,he⟩) (VD.op (fun wq eq=>R.mvI rfl) (VD.op (fun wq eq=>R.add rfl rfl (by omega) (by omega)) (VD.nil (fun w7 e7 h7=>?_)))))))) rfl
   obtain ⟨x,hx,hxe⟩:=h7 3
   rw [hx]
   refine VL.callX call106 rfl (ih (v+1) (by omega) x.1 x.2 (setF (P++[(v:Int)])) w7 (hG.ext (E6.trans e7)) hxe.s hxe.t hxe.h (by rw [hset];exact hP2) (by rw [hset];exact ind_snoc hind hb)) fun z8 w8 h8 e8=>oT rfl<|Vn (?_)
   rw [hset] at h8
   refine ⟨z8,rfl,?_,e6_3.trans (e7.trans e8)⟩
   rw [hb,if_neg (by decide)]
   exact h8.weaken (E6.trans e7).size
  ·have hb:blkB (vals g.edges) P (v:Int)=true:=by rw [←hbl];simpa using c21
   refine ⟨([],none,0),rfl,?_,e6_3⟩
   rw [hb,if_pos rfl]
   exact AlR.nil _ _
  ·obtain ⟨h7,e7⟩:=hBC21
   obtain ⟨y7,hy7⟩:∃ y,y=xC21:=⟨_,rfl⟩
   obtain ⟨w7,hw7⟩:∃ w,w=wBC21:=⟨_,rfl⟩
   rw [←hy7] at h7 ⊢
   rw [←hw7] at h7 e7 ⊢
   have hX7:Blk w7 b0_0 (.cells (Value.agg (encGr g).toArray).cells 25 (0,0)):=hB0_0.ext e7
   have E7:=e0_0.trans e7
   have hl7:=h7.len
   have hle7:y7.1.length≤924:=by
    rw [hl7]
    split
    ·exact Nat.zero_le _
    ·omega
   refine Vr<|oS rfl<|Vo (R.lenS ru23 rfl)<|Vo (R.lit (R.leq rfl rfl) (decide_eq_true (by omega)))<|oB rfl<|lT<|Vo (R.ldA ag25 sz25 rfl rfl (show RowAt _ _ _ (encGr g) from hX7.rowAt 0 3) rfl)<|lT<|oS rfl<|lT<|oI rfl<|lT<|Vp call137 rfl (needed28_spec g a c P (v:Int) _ (hG.ext E7) hl (by omega) (hS.ext E7)) fun w8_7 e8_7=>oP rfl rfl<|Vn<|Vh rfl (fun c37=>?_) (fun c37=>Vk<|Vs<|Vr<|oS rfl<|oT rfl<|Vn<|Vt (fret1 (v:=.slice _ _ _) rfl rfl rfl (?_)))
   ·have hX8:=hX7.ext e8_7
    have E8:=E7.trans e8_7
    have h8:=h7.ext e8_7
    refine Vr<|oS rfl<|Vo (R.ldA ag25 sz25 rfl rfl (show RowAt _ _ _ (encGr g) from hX8.rowAt 0 3) rfl)<|oS rfl<|oI rfl<|oD rfl rfl<|VL.callX call106 rfl (ih (v+1) (by omega) a c P w8_7 (hG.ext E8) (hS.ext E8) (hTy.ext E8) hax hP1 hind) fun z9 w9 h9 e9=>VL.appendT el23 (fun _=>rfl) rfl (rfl) (h8.o.ext e9) rfl (rfl) (OwnT.sl h9.o) (OwnT.hax h9.o) (by have:=h9.len;omega) (by have:=h9.len;simp [maxLen];omega) (E8.trans e9).size (show y7.1.length+z9.1.length=(y7.1++z9.1).length by simp) fun a10 c10 w10 ho10 m10 hf10=>oT rfl<|Vn<|Vs (?_)
    refine Vr<|oS rfl<|oT rfl<|Vn<|Vt (fret1 (v:=.slice _ _ _) rfl rfl rfl (?_))
    refine ⟨(y7.1++z9.1,a10,c10),rfl,⟨ho10,fun x hx=>?_,?_⟩,(E8.trans e9).ownA m10 fun q hq=>h8.o.ge q hq⟩
    ·have ht:TyA w9 y7.2.1 22:=(OwnT.tyA h8.o).ext e9
     rcases List.mem_append.1 hx with h | h
     ·exact ((h8.e x h).ext e9).mod ht m10
     ·exact (h9.e x h).mod ht m10
    ·unfold allR
     rw [hvN,show (grV g).edges=vals g.edges from rfl,c37,if_pos rfl,←h8.v,←h9.v]
     exact List.map_append
   ·refine ⟨y7,rfl,⟨(h7.ext e8_7).o,(h7.ext e8_7).e,?_⟩,E7.trans e8_7⟩
    unfold allR
    rw [hvN,show (grV g).edges=vals g.edges from rfl,c37]
    simp only [Bool.false_eq_true,if_false,List.append_nil]
    exact h7.v
structure LsR where
 a:Option Addr
 c:Nat
 L:List SlI
 e:Int
theorem less28_spec (a b:Option Addr) (ca cb:Nat) (l m:List Int) (w:World) (hl:l.length≤9223372036854775807) (hm:m.length≤9223372036854775807) (hS:IntSl w a l) (hT:IntSl w b m) :
  RetsP prog 138 #[.slice a l.length ca,.slice b m.length cb] w (.bool (lexB l m)):=by
 refine eN (args:=[_,_]) func138 rfl ntmps138 ?_
 refine Vs<|Vr<|oA rfl<|Vn<|Vs<|Vr<|oS rfl<|oS rfl<|Vp call80 rfl (less_spec a b ca cb l m _ hl hm hS hT) fun w1_2 e1_2=>oA rfl<|Vn<|Vt<|tB rfl rfl rfl (⟨rfl,e1_2⟩)
theorem up_at {L:List SlI} (h:Up lexB (vals L)) {i j:Nat} (hij:i<j) (hj:j<L.length):lexB (L.getD i default).l (L.getD j default).l=true:=by
 have hl:(vals L).length=L.length:=List.length_map _
 have:=List.pairwise_iff_getElem.1 h i j (by omega) (by omega) hij
 rw [←gget (l:=vals L) (by omega),←gget (l:=vals L) (by omega)] at this
 rwa [show (vals L).getD i default=(L.getD i default).l from gmap SlI.l L default (by omega),show (vals L).getD j default=(L.getD j default).l from gmap SlI.l L default hj] at this
theorem rep_len {g:Gr} {R:List Int} (hR:IsRep g R) (h0:0≤g.n):(R.length:Int)≤g.n:=by
 have h5:=setB_iff.1 hR.set
 exact set_len h5.1 h5.2 h0
theorem sorted28_spec (a:Option Addr) (c:Nat) (L:List SlI) (w:World) (hax:a=none→c=0) (hL:LL w a L) (hm:L.length≤100000) (hx:∀ x∈L,x.l.length≤1000000) (hup:Up lexB (vals L)) :
  RetsX prog 107 #[.slice a L.length c] w (fun x:Option Addr×Nat=>.slice x.1 L.length x.2) (fun x w'=>OwnT encSl 1 22 w.heap.size w' x.1 x.2 L):=by
 refine eN (args:=[_]) func107 rfl ntmps107 ?_
 refine Vs<|Vr<|oT rfl<|Vn<|Vs<|Vr<|VL.buildSl ru23 sz22 zv22 rfl rfl rfl fun b1 w1 hb1 e1 hB1=>oS rfl<|VL.appendT el23 (fun _=>rfl) rfl (rfl) (OwnT.of0 encSl 1 hB1 (Nat.le_of_eq hb1.symm)) rfl (rfl) (hL.sl.ext e1) (hax) (by simp;omega) (by simp [maxLen];omega) e1.size (show 0+L.length=([]++L:List SlI).length by simp) fun a2 c2 w2 ho2 m2 hf2=>oT rfl<|Vn<|Vs<|Vs (?_)
 rw [List.nil_append] at ho2 ⊢
 have E2:Ext w w2:=e1.ownA m2 fun q hq=>by have:=aBlk_some hq;omega
 have hL2:LL w2 a2 L:=⟨OwnT.sl ho2,fun x hx=>(hL.each x hx).ext E2⟩
 refine Vr<|oJ rfl<|Vn<|Vb (?_)
 refine Vl [3,4] (fun i:Nat=>[.slice a2 L.length c2,.int .i64 (i:Nat)]) (fun i w'=>1≤i∧i≤L.length+1∧Ext w2 w') (fun i=>L.length+1-i) 1 rfl ⟨Nat.le_refl _,by omega,Vc.Mod.refl _ _⟩ ?_
 rintro ρ i w3 ⟨hi1,hi,e3⟩
 have hL3:=hL2.ext e3
 refine Vs<|Vs<|Vr<|oI rfl<|oS rfl<|Vo (R.lenS ru23 rfl)<|oL rfl rfl<|Vn<|Vd rfl (fun c13=>Vk<|Vs<|Vb<|Vs (?_)) (fun c13=>Ve<|Vs<|Vr<|oS rfl<|oT rfl<|Vn<|Vt (fret1 (v:=.slice _ _ _) rfl rfl rfl (⟨(a2,c2),rfl,ho2.ext e3,E2.trans e3⟩)))
 have hil:i<L.length:=by omega
 refine Vr<|oI rfl<|oJ rfl<|Vn<|Vb (?_)
 refine Vl [3,4,5] (fun _:Unit=>[.slice a2 L.length c2,.int .i64 (i:Nat),.int .i64 (i:Nat)]) (fun _ w'=>Ext w3 w') (fun _=>0) () rfl (Vc.Mod.refl _ _) ?_
 rintro ρ2 _ w4 e4
 have hL4:=hL3.ext e4
 refine Vs<|Vs<|V.regionQCut mixed 14 (by kernel_rfl) rfl (fun w'=>Ext _ w') (Ext.drawn _) [17,18,19,20,21,22,23,24,25,26,27,28,29,30] 30 (.bool (false)) rfl (qI rfl<|Vq (fun wq eq=>R.gtr rfl rfl)<|Vq (fun wq eq=>R.mvB rfl)<|VQ.andP rfl rfl (fun g6_2=>qS rfl<|qT<|qI rfl<|qT<|Vq (fun wq eq=>iX ru23 sz22 rfl rfl ((hL4.sl).some (i:=i) (by omega)))<|qT<|Vq (fun wq eq=>rla ag22 rfl ((((hL4.sl).ext eq).row (i:=i) (by omega)).c0a rfl))<|qT<|qS rfl<|qT<|qI rfl<|qT<|Vq (fun wq eq=>R.sub rfl rfl (by omega) (by omega))<|qT<|Vq (fun wq eq=>iX ru23 sz22 rfl rfl ((hL4.sl).some (i:=((i:Int)-1).toNat) (by omega)))<|qT<|Vq (fun wq eq=>rla ag22 rfl ((((hL4.sl).ext eq).row (i:=((i:Int)-1).toNat) (by omega)).c0a rfl))<|qT<|VQ.callP (fun _ _ h k=>Mod.trans h k) call138 rfl (fun wq eq=>(by
   have h1:((i:Int)-1).toNat<i:=by omega
   have:=less28_spec (L.getD i default).a (L.getD ((i:Int)-1).toNat default).a (L.getD i default).c (L.getD ((i:Int)-1).toNat default).c (L.getD i default).l (L.getD ((i:Int)-1).toNat default).l wq (by have:=hx _ (gmem hil);omega) (by have:=hx _ (gmem (show ((i:Int)-1).toNat<L.length by omega));omega) ((hL4.at hil).ext eq) ((hL4.at (by omega)).ext eq)
   rwa [lexB_sto.asym (up_at hup h1 hil)] at this))<|Vq (fun wq eq=>R.pickTB rfl rfl)<|Vj (cutB rfl ?_)) (fun g6_2=>qF<|qF<|qF<|qF<|qF<|qF<|qF<|qF<|qF<|Vq (fun wq eq=>R.pickFB rfl rfl)<|Vj (cutB rfl ?_))) (fun rg6 w6c e6c=>Vh rfl (fun c30=>Vk<|Vs<|Vb<|Vs (?_)) (fun c30=>Ve<|Vr<|oI rfl<|oD rfl rfl<|oJ rfl<|Vn (?_)))
 ·rfl
 ·rfl
 ·nomatch c30
 ·exact ⟨i+1,rfl,⟨by omega,by omega,e3.trans (e4.trans e6c)⟩,by omega⟩
def cfL (g:Gr) (N:Nat):List Int:=((List.range N).filter fun v:Nat=>inE g.edges (v:Int)).map fun v:Nat=>(v:Int)
theorem cfL_len (g:Gr) (N:Nat):(cfL g N).length=confI g.edges N:=by unfold cfL confI;rw [List.length_map]
theorem cfL_mem {g:Gr} {N:Nat} {v:Int}:v∈cfL g N↔0≤v∧v<(N:Int)∧inE g.edges v=true:=by
 unfold cfL
 rw [List.mem_map]
 constructor
 ·rintro ⟨i,hi,rfl⟩
  obtain ⟨h1,h2⟩:=List.mem_filter.1 hi
  have:=List.mem_range.1 h1
  exact ⟨by omega,by omega,h2⟩
 ·rintro ⟨h0,h1,h2⟩
  refine ⟨v.toNat,List.mem_filter.2 ⟨List.mem_range.2 (by omega),?_⟩,by omega⟩
  rw [show ((v.toNat:Nat):Int)=v by omega];exact h2
theorem conf_sper {g:Gr} {N:Nat} (hN:g.n=(N:Int)) (h12:confI g.edges N≤12) (L:List (List Int)) (hu:Up lexB L) (hL:∀ R∈L,IsRep g R):L.length≤924:=by
 have hsub:∀ R∈L,∀ Q∈L,(∀ x∈inK (cfL g N) R (cfL g N).length,x∈inK (cfL g N) Q (cfL g N).length)→R=Q:=fun R hR Q hQ h=>by
  refine rep_anti (hL R hR) (hL Q hQ) fun v hv=>?_
  have hr:=(setB_iff.1 (hL R hR).set).2 v hv
  cases hie:inE g.edges v with
  | false=>exact (hL Q hQ).in hr.1 hr.2 hie
  | true =>
   obtain ⟨i,hi,rfl⟩:=List.getElem_of_mem ((cfL_mem (g:=g) (N:=N) (v:=v)).2 ⟨hr.1,by omega,hie⟩)
   have h1:((i:Nat):Int)∈inK (cfL g N) R (cfL g N).length:=inK_mem.2 ⟨i,hi,by rw [gget hi];exact hv,rfl⟩
   obtain ⟨j,_,hj,e⟩:=inK_mem.1 (h _ h1)
   have:j=i:=by omega
   subst this
   rw [gget hi] at hj;exact hj
 rw [←List.length_map (f:=fun R=>inK (cfL g N) R (cfL g N).length)]
 have hlen:=cfL_len g N
 refine sper12 (List.pairwise_map.2 ?_) (fun x hx=>?_) fun x hx y hy h=>?_
 ·have hn:L.Pairwise (·≠·):=List.Pairwise.imp (fun {a b} h e=>by subst e;rw [lexB_sto.irr] at h;cases h) hu
  refine List.Pairwise.imp_of_mem ?_ hn
  intro a b ha hb hne e
  exact hne (hsub a ha b hb fun x hx=>by rw [←e];exact hx)
 ·obtain ⟨R,hR,rfl⟩:=List.mem_map.1 hx
  refine ⟨inK_inc _ _ _,fun v hv=>?_⟩
  obtain ⟨i,hi,_,rfl⟩:=inK_mem.1 hv
  omega
 ·obtain ⟨R,hR,rfl⟩:=List.mem_map.1 hx
  obtain ⟨Q,hQ,rfl⟩:=List.mem_map.1 hy
  rw [hsub R hR Q hQ h]
theorem list31_spec (g:GrW) (w:World) (hG:GOk w g) (hl:GLen g) (_hn:g.n≤4000) (h12:confI (grV g).edges g.n.toNat≤12) (hv:validG (grV g)=true) :
  RetsX prog 82 #[.agg (encGr g).toArray] w (fun x:LsR=>.tuple #[.slice x.a x.L.length x.c,.int .i64 x.e]) (fun x w'=>LL w' x.a x.L∧(∀ y∈x.L,TyA w' y.a 3)∧vals x.L=repsG (grV g)∧x.L.length≤924):=by
 have hcb:=costB_iff.1 (validG_iff.1 hv).1
 have hgn:(grV g).n=g.n:=rfl
 obtain ⟨N,hN⟩:∃ N:Nat,g.n=(N:Int):=⟨g.n.toNat,by have:=hcb.1;omega⟩
 have hsp:∀ L,Up lexB L→(∀ R∈L,IsRep (grV g) R)→L.length≤924:=conf_sper hN (by rw [hN] at h12;exact h12)
 have hvr:validG (grV g)=true:=hv
 refine eN (args:=[_]) func82 rfl ntmps82 ?_
 refine Vs<|Vr<|VL.box (v:=.agg _) rfl fun b0_0 w0_0 hb0_0 e0_0 hB0_0=>oT rfl<|oJ rfl<|Vn<|Vs<|Vs<|Vr<|Vo (R.ldA ag25 sz25 rfl rfl (show RowAt _ _ _ (encGr g) from (hB0_0.rowAt 0 3)) rfl)<|Vp call39 rfl (rvalid_spec g _ (hG.ext e0_0) hl) fun w1_1 e1_1=>Vo (R.not rfl)<|Vn<|Vh rfl (fun c7=>Vs<|Vr<|oT rfl<|oJ rfl<|Vn<|Vt (fret2 (v:=.slice _ _ _) (x:=.int _ _) rfl rfl rfl rfl rfl (?_))) (fun c7=>Vk<|Vs (?_))
 ·have hv2:¬validG (grV g)=true:=by simpa using c7
  exact absurd hv hv2
 have hX1:Blk w1_1 b0_0 (.cells (Value.agg (encGr g).toArray).cells 25 (0,0)):=hB0_0.ext e1_1
 have E1:=e0_0.trans e1_1
 refine Vr<|Vo (R.ldA ag25 sz25 rfl rfl (show RowAt _ _ _ (encGr g) from hX1.rowAt 0 3) rfl)<|VL.callX call106 rfl (all28F_spec g N hl hv hN (by omega) hsp N 0 (by omega) none 0 [] w1_1 (hG.ext E1) (TSl.nil _ _ _ _) (TyA.none _ _) (fun _=>rfl) (setB_iff.2 ⟨List.Pairwise.nil,fun x hx=>nomatch hx⟩) (loadB_iff.1 (load_nil hv)).2.2) fun y w3 h3 e3=>oT rfl<|Vn<|Vs<|Vs (?_)
 rw [allR_reps hv hN] at h3
 have hlen:=h3.len
 have hle:=hsp (repsG (grV g)) (reps_up hv) fun R hR=>(reps_mem hv).1 hR
 refine Vr<|oS rfl<|Vo (R.lenS ru23 rfl)<|Vo (R.lit (R.gtr rfl rfl) (decide_eq_false (by omega)))<|Vn<|V.condF rfl<|Vk<|Vs (?_)
 have hxl:∀ x∈y.1,x.l.length≤1000000:=fun x hx=>by
  have:x.l∈repsG (grV g):=by rw [←h3.v];exact List.mem_map_of_mem hx
  have:=rep_len ((reps_mem hv).1 this) hcb.1
  omega
 have hL3:LL w3 y.2.1 y.1:=⟨OwnT.sl h3.o,fun x hx=>(h3.e x hx).s⟩
 refine Vr<|oS rfl<|VL.callX call107 rfl (sorted28_spec y.2.1 y.2.2 y.1 w3 (OwnT.hax h3.o) hL3 (by omega) hxl (by rw [h3.v];exact reps_up hv)) fun s w6 h6 e6=>oT rfl<|oJ rfl<|Vn<|Vt (fret2 (v:=.slice _ _ _) (x:=.int _ _) rfl rfl rfl rfl rfl (?_))
 exact ⟨⟨s.1,s.2,y.1,0⟩,rfl,⟨⟨OwnT.sl h6,fun x hx=>(hL3.each x hx).ext e6⟩,fun x hx=>(h3.e x hx).t.ext e6,h3.v,by show y.1.length≤924;omega⟩,E1.trans (e3.trans e6)⟩
structure PeakR (g:Gr) (ws:List Int) (x:SpX) (er:Int):Prop where
 e:er=chkF g ws 0
 no:er≠0→x=spZ
 lo:er=0→x.lo.l=lowG ws g
 hi:er=0→x.hi.l=highG ws g
 fr:er=0→x.fr=frG ws g
 to:er=0→x.to=toG ws g
 p:x.P=[]
 q:x.Q=[]
theorem run2 (ws:List Int) (x:SpX) (L:List (List Int)):runF (pk2F ws x) () L=((),L.find? (lowP ws x.fr)):=runF_unit (lowP ws x.fr) L
theorem run4 (ws:List Int) (x:SpX) (L:List (List Int)):runF (pk4F ws x) () L=((),L.find? (topP ws x.to)):=runF_unit (topP ws x.to) L
theorem run3 (L:List (List Int)):runF pk3F () L=((),L.find? anyP):=runF_unit anyP L
def catF (F:List Int→List Int) (g:Gr) (k:Nat):List Int:=(((compsG g).take k).map F).flatten
theorem catF_succ {F:List Int→List Int} {g:Gr} {k:Nat} (h:k<(compsG g).length):catF F g (k+1)=catF F g k++F ((compsG g).getD k default):=by
 unfold catF
 rw [List.take_succ_eq_append_getElem h,List.map_append,List.flatten_append,gget h]
 simp
theorem catF_all {F:List Int→List Int} {g:Gr}:srtF (catF F g (compsG g).length)=uniC g F:=by unfold catF uniC;rw [List.take_length]
theorem cndX_len {g:Gr} (hg:validG g=true) (ws:List Int) (t i:Int):∀ k,k≤(compsG g).length→(cndX ws t g i k).length≤(catF id g k).length
 | 0,_=>Nat.zero_le _
 | k+1,h=>by
  have ih:=cndX_len hg ws t i k (by omega)
  have hf:=(fnd_in hg (cndP ws t i (k:Nat)) (c:=(compsG g).getD k default) (gmem (by omega))).1
  rw [cndX_succ,catF_succ (by omega),List.length_append,List.length_append]
  show _≤(catF id g k).length+((compsG g).getD k default).length
  omega
theorem cndX_rng {g:Gr} (hg:validG g=true) (ws:List Int) (t i:Int):∀ k,k≤(compsG g).length→∀ v∈cndX ws t g i k,0≤v∧v<g.n
 | 0,_=>fun v hv=>nomatch hv
 | k+1,h=>fun v hv=>by
  rw [cndX_succ] at hv
  rcases List.mem_append.1 hv with hv | hv
  ·exact cndX_rng hg ws t i k (by omega) v hv
  ·have hm:(compsG g).getD k default∈compsG g:=gmem (by omega)
   exact (setB_iff.1 (comps_set hg hm)).2 v ((fnd_in hg _ hm).2 v hv)
theorem hiK_skip {ws:List Int} {t:Int} {g:Gr} {n:Nat} (h:skpB ws t g ((n:Nat)-1)):hiK ws t g (n+1)=hiK ws t g n:=by
 show hiS ws t (hiK ws t g n) (cndO ws t g ((n:Nat)-1))=_
 unfold cndO
 rw [if_pos h];rfl
theorem hiK_set {ws:List Int} {t:Int} {g:Gr} {n:Nat} (h:¬skpB ws t g ((n:Nat)-1)) {S:List Int} (hS:S=srtF (cndX ws t g ((n:Nat)-1) (compsG g).length)):hiK ws t g (n+1)=if gmx ws S=t∧(hiK ws t g n=none∨lexB S (resW (hiK ws t g n))=true) then some S else hiK ws t g n:=by
 subst hS
 show hiS ws t (hiK ws t g n) (cndO ws t g ((n:Nat)-1))=_
 unfold cndO
 rw [if_neg h];rfl
theorem cf_at {σ:Type} (f:σ→List Int→σ×Bool) (g':FuncId) (Cv:List Value) (J:Nat→σ→World→Prop) (T:Nat→Prop) (y:CmI) (w0 w:World) (hy:CmOk w0 y) (hv:validG (grV y.g)=true) (hn:y.g.n=(y.vs.l.length:Int)) (e:Ext w0 w) (H:HdC f g' Cv y.vs.l J T w.heap.size) (s:σ) (hT0:∀ q,T q→w0.heap.size≤q) (hJ:∀ t w',w.heap.size≤t→Ext w w'→J t s w')
  {G:Gr} (hg:grV y.g=G):RetsY prog 43 #[.agg (encCmI y).toArray,.func (.func g') #[] Cv.toArray] w (fun u:Option Addr×Nat=>.slice u.1 (resW (runF f s (repsW G y.vs.l)).2).length u.2) (fun u w'=>(∃ t,w.heap.size≤t∧J t (runF f s (repsW G y.vs.l)).1 w')∧Vc.Mod T w w'∧OwnT Vc.encI 1 3 w.heap.size w' u.1 u.2 (resW (runF f s (repsW G y.vs.l)).2)):=by
 subst hg
 exact cfirst_spec f g' Cv J T y.g y.vs.a y.vs.c y.vs.l w w0 H s hy.g hy.l hv hn hy.v e hT0 hJ
theorem peak31_spec (g:GrW) (wa:Option Addr) (wc:Nat) (ws:List Int) (B:Nat) (w:World) (hG:GOk w g) (hl:GLen g) (hW:IntSl w wa ws) (hwl:ws.length≤1000000) (hB:B≤w.heap.size) (hT:TabW B w) :
  RetsX prog 15 #[.agg (encGr g).toArray,.slice wa ws.length wc] w (fun z:SpX×Int=>.tuple #[.agg (encSp z.1).toArray,.int .i64 z.2])
   (fun z w'=>SpOk w.heap.size w' z.1∧PeakR (grV g) ws z.1 z.2):=by
 refine eN (args:=[_,_]) func15 rfl ntmps15 ?_
 refine Vs<|Vr<|VL.box (v:=.agg _) rfl fun b0_0 w0_0 hb0_0 e0_0 hB0_0=>VL.box (v:=.slice _ _ _) rfl fun b0_1 w0_1 hb0_1 e0_1 hB0_1=>VL.alloc zv32 fun b0_2 w0_2 hb0_2 e0_2 hB0_2=>oJ rfl<|Vn<|V.scope<|Vs<|Vs<|Vr<|Vo (R.ldA ag25 sz25 rfl rfl (show RowAt _ _ _ (encGr g) from (((hB0_0.ext e0_1).ext e0_2).rowAt 0 3)) rfl)<|Vo (rla ag22 rfl ((hB0_1.ext e0_2).cell _))<|Vp call33 rfl (check31_spec g wa wc ws 0 B _ (hG.ext ((e0_0.trans e0_1).trans e0_2)) hl (hW.ext ((e0_0.trans e0_1).trans e0_2)) hwl (Nat.le_trans hB ((e0_0.trans e0_1).trans e0_2).size) (hT.ext hB ((e0_0.trans e0_1).trans e0_2))) fun w1_2 e1_2=>oJ rfl<|Vn<|Vs<|Vr<|oI rfl<|Vo (R.neq rfl rfl)<|Vn<|Vd rfl (fun c27=>Vs<|Vr<|Vo (R.build zv32 ru32 pl32 rfl)<|oI rfl<|VL.store (v:=.agg _) sz32 rfl rfl rfl rfl (hB0_2.ext e1_2) rfl rfl fun w3_2 m3_2 hs3_2 hB3_2=>oJ rfl<|Vn<|Vt (fretCT (v:=.int _ _) rfl rfl rfl rfl rfl ag32 sz32 rfl (hB3_2.rowAt 0 6) rfl (?_))) (fun c27=>Vk<|Vs (?_))
 ·have z0:=e0_0.size
  have z01:=e0_1.size
  exact ⟨(spZ,chkF (grV g) ws 0),rfl,⟨SpOk.zero _ _,⟨rfl,fun _=>rfl,fun h=>absurd h c27,fun h=>absurd h c27,fun h=>absurd h c27,fun h=>absurd h c27,rfl,rfl⟩⟩,(((e0_0.trans e0_1).trans e0_2).trans e1_2).own m3_2 (by dsimp only;omega)⟩
 have h0:chkF (grV g) ws 0=0:=by omega
 obtain ⟨hv,hwn,hwb,hff⟩:=chk_zero h0
 have hcn:=costB_iff.1 (validG_iff.1 hv).1
 have hgn:(grV g).n=g.n:=rfl
 have hn4:g.n≤4000:=hcn.2.1
 obtain ⟨hcl,hce⟩:=compsL31 hv
 have hG1:GrB w1_2 b0_0 g:=((hB0_0.ext e0_1).ext e0_2).ext e1_2
 have hV1:Blk w1_2 b0_1 (.cells #[.slice wa ws.length wc] 22 (0,0)):=(hB0_1.ext e0_2).ext e1_2
 have hS1:Blk w1_2 b0_2 (.cells (encSp spZ).toArray 32 (0,0)):=hB0_2.ext e1_2
 have E1:Ext w w1_2:=((e0_0.trans e0_1).trans e0_2).trans e1_2
 refine Vr<|Vo (R.ldA ag25 sz25 rfl rfl (show RowAt _ _ _ (encGr g) from hG1.rowAt 0 3) rfl)<|VL.callX call42 rfl (comps31_spec g B _ (hG.ext E1) hl hv (Nat.le_trans hB E1.size) (hT.ext hB E1)) fun z w4 hz e4=>oT rfl<|Vn<|Vs (?_)
 obtain ⟨za,zc,L⟩:=z
 obtain ⟨hL,hLv⟩:=hz
 dsimp only at hL hLv ⊢
 have E4:Ext w w4:=E1.trans e4
 have z1:=E1.size;have z4:=e4.size
 have l0:=hB0_0.lt;have l1:=hV1.lt;have l2:=hS1.lt
 have hLl:L.length=(compsG (grV g)).length:=by have:=congrArg List.length hLv;simpa using this
 have hat:∀ k,k<L.length→(L.getD k default).vs.l=(compsG (grV g)).getD k default∧(compsG (grV g)).getD k default∈compsG (grV g)∧grV (L.getD k default).g=partG (grV g) (L.getD k default).vs.l∧validG (grV (L.getD k default).g)=true∧(L.getD k default).g.n=((L.getD k default).vs.l.length:Int)∧CmOk w4 (L.getD k default)∧(∀ v∈(L.getD k default).vs.l,0≤v∧v<(ws.length:Int))∧(L.getD k default).vs.l.length≤4000:=fun k hk=>by
  have h1:(L.map cmV).getD k default=cmV (L.getD k default):=gmap cmV L default hk
  rw [hLv] at h1
  have h2:((compsG (grV g)).map fun c=>(partG (grV g) c,c)).getD k default=(partG (grV g) ((compsG (grV g)).getD k default),(compsG (grV g)).getD k default):=gmap (fun c=>(partG (grV g) c,c)) (compsG (grV g)) default (by omega)
  have h3:=h2.symm.trans h1
  have hvl:(L.getD k default).vs.l=(compsG (grV g)).getD k default:=(congrArg Prod.snd h3).symm
  have hgv:grV (L.getD k default).g=partG (grV g) (L.getD k default).vs.l:=by rw [hvl];exact (congrArg Prod.fst h3).symm
  have hcm:(compsG (grV g)).getD k default∈compsG (grV g):=gmem (by omega)
  have hset:=comps_set hv hcm
  have h4:=hce _ hcm
  refine ⟨hvl,hcm,hgv,by rw [hgv,hvl];exact part_valid hv hset,?_,hL.each _ (gmem hk),fun v hv'=>?_,by rw [hvl];exact h4⟩
  ·have h1:(grV (L.getD k default).g).n=(partG (grV g) (L.getD k default).vs.l).n:=by rw [hgv]
   exact h1
  ·rw [hvl] at hv'
   have:=(setB_iff.1 hset).2 v hv'
   omega
 have hwa:∀ q,0<ws.length→aBlk wa q→q<w.heap.size:=fun q hp ⟨ad,ha,hq⟩=>by
  have:=TSl.lt hW hp
  rw [ha] at this
  rw [←hq];exact this
 have hws:ws.length≤4000:=by omega
 obtain ⟨F,hF⟩:∃ F,F=frG ws (grV g):=⟨_,rfl⟩
 obtain ⟨T,hTo⟩:∃ T,T=toG ws (grV g):=⟨_,rfl⟩
 have hcatk:∀ k,((catF (fndC (lowP ws F) (grV g)) (grV g) k).length:Int)≤(grV g).n:=fun k=>cat_len hv (F:=fndC (lowP ws F) (grV g)) (fun c hc=>(fnd_in hv _ hc).1) k
 refine Vr<|VL.alloc zv32 fun b5_0 w5_0 hb5_0 e5_0 hB5_0=>Vn<|V.cut [3,4,7,8] (fun _:Unit=>[pA b0_1,pA b0_2,.slice za L.length zc,pA b5_0]) (fun _ w'=>Ext w4 w'∧PkW b0_1 b5_0 wa wc ws { spZ with fr:=F,to:=T } w') (Vs<|Vr<|oS rfl<|Vo (R.lenS ru69 rfl)<|oI rfl<|Vn<|Vb (?_)) (fun rgB0 xB0 wBB0 hBB0=>V.cut [3,4,7,8] (fun _:Option Addr×Nat=>[pA b0_1,pA b0_2,.slice za L.length zc,pA b5_0]) (fun x w'=>Ext w4 w'∧PkW b0_1 b5_0 wa wc ws { spZ with fr:=F,to:=T,lo:=⟨x.1,x.2,catF (fndC (lowP ws F) (grV g)) (grV g) L.length⟩ } w'∧OwnT Vc.encI 1 3 wBB0.heap.size w' x.1 x.2 (catF (fndC (lowP ws F) (grV g)) (grV g) L.length)) (Vs<|Vr<|oS rfl<|Vo (R.lenS ru69 rfl)<|oI rfl<|Vn<|Vb (?_)) (fun rgB2 xB2 wBB2 hBB2=>Vs<|Vr<|Vo (R.fld' (o:=2) ru32 rfl rfl sz22 rfl rfl)<|Vo (rla ag22 rfl (show _=some (Value.slice xB2.1 (catF (fndC (lowP ws F) (grV g)) (grV g) L.length).length xB2.2) from hBB2.2.1.sp.cell 2))<|VL.callK call47 rfl (sortI_spec xB2.1 xB2.2 wBB0.heap.size (catF (fndC (lowP ws F) (grV g)) (grV g) L.length) _ hBB2.2.2 (by have:=hcatk L.length;omega)) fun w9 h9=>Vn<|Vs<|Vr<|oT rfl<|Vn<|V.cut [3,4,7,8,14] (fun x:List SlI×Option Addr×Nat=>[pA b0_1,pA b0_2,.slice za L.length zc,pA b5_0,.slice x.2.1 x.1.length x.2.2]) (fun x w'=>Ext w9 w'∧AlR w9.heap.size w' x ((compsG (grV g)).map (fndC anyP (grV g)))) (Vs<|Vr<|oS rfl<|Vo (R.lenS ru69 rfl)<|oI rfl<|Vn<|Vb (?_)) (fun rgB4 xB4 wBB4 hBB4=>Vs (?_))))
 ·have hS5:Blk w5_0 b5_0 (.cells (encSp spZ).toArray 32 (0,0)):=hB5_0
  have z5:w4.heap.size≤b5_0:=Nat.le_of_eq hb5_0.symm
  have e50:Ext w4 w5_0:=e5_0
  refine Vl [3,4,7,8,32,33,34] (fun k:Nat=>[pA b0_1,pA b0_2,.slice za L.length zc,pA b5_0,.slice za L.length zc,.int .i64 (L.length:Nat),.int .i64 (k:Nat)])
   (fun k w'=>k≤L.length∧Ext w4 w'∧PkW b0_1 b5_0 wa wc ws { spZ with fr:=frL ws (grV g) ((compsG (grV g)).take k),to:=toL ws (grV g) ((compsG (grV g)).take k) } w') (fun k=>L.length-k) 0 rfl ⟨Nat.zero_le _,e50,(hV1.ext e4).ext e50,TSl.ext hW (E4.trans e50),hS5⟩ ?_
  rintro ρ k w6 ⟨hk,e6,hP⟩
  refine Vs<|Vr<|oL rfl rfl<|Vn<|Vs<|Vd rfl (fun c35=>Vk<|Vs<|Vb<|Vs (?_)) (fun c35=>Ve (?_))
  ·have hkl:k<L.length:=by omega
   obtain ⟨a1,a2,a3,a4,a5,a6,a7,a8⟩:=hat k hkl
   have hL6:=hL.ext e6
   refine Vr<|Vo (iX ru69 sz72 rfl rfl (hL6.own.sl.some (i:=k) hkl))<|Vo (R.ldA ag72 sz72 rfl rfl (show RowAt _ _ _ (encCmI (L.getD k default)) from (hL6.own.sl.row (i:=k) hkl)) rfl)<|VL.allocSt (v:=.agg (encCmI (L.getD k default)).toArray) zv72 sz72 rfl rfl rfl rfl rfl fun b8_2 w8_2 hb8_2 e8_2 hB8_2=>Vn<|Vs<|Vr<|VL.allocSt (v:=.int _ _) zv3 sz3 rfl rfl rfl rfl rfl fun b9_0 w9_0 hb9_0 e9_0 hB9_0=>Vn<|Vs (?_)
   obtain ⟨y,hy⟩:∃ y,y=L.getD k default:=⟨_,rfl⟩
   rw [←hy] at hB8_2 a1 a3 a4 a5 a6 a7 a8 ⊢
   have hcb:Blk w9_0 b8_2 (.cells (Value.agg (encCmI y).toArray).cells 72 (0,0)):=hB8_2.ext e9_0
   have hnb:Blk w9_0 b9_0 (.cells #[.int .i64 (-1)] 3 (0,0)):=hB9_0
   have e69:Ext w6 w9_0:=e8_2.trans e9_0
   have hP9:=hP.ext e69
   have l9:=hnb.lt;have l5:=hP9.sp.lt;have lw:=hP9.wb.lt
   have z9:=e69.size;have z6:=e6.size;have z82:=e8_2.size
   have lp:=hP.sp.lt;have lv:=hP.wb.lt
   have hb9:b9_0=w8_2.heap.size:=hb9_0
   have hHd:=pk1_hd (bw:=b0_1) (bn:=b9_0) (bs:=b5_0) (wa:=wa) (wc:=wc) (ws:=ws) (vs:=y.vs.l) (B:=w9_0.heap.size) hws (by omega) (by omega) (by omega) (fun q hp hq=>by have:=hwa q hp hq;omega) a8 a7
   have hf:=cf_at (pk1F ws) _ _ _ _ y w4 w9_0 a6 a4 a5 (e6.trans e69) hHd ((-1:Int),({ spZ with fr:=frL ws (grV g) ((compsG (grV g)).take k),to:=toL ws (grV g) ((compsG (grV g)).take k) }:SpX)) (fun q hq=>by rcases hq with hq | hq <;> omega) (fun t w' ht e=>⟨hP9.ext e,hnb.ext e,by omega,by omega,by omega,fun q hp hq=>by have:=hwa q hp hq;omega⟩) a3
   rw [run_pk1] at hf
   refine Vr<|Vo (R.ldA ag72 sz72 rfl rfl (show RowAt _ _ _ (encCmI y) from hcb.rowAt 0 4) rfl)<|Vo (R.mkFn rfl rfl)<|VL.callY call43 rfl (hf) fun u w10 h10=>Vn (?_)
   obtain ⟨⟨t,ht,hJ⟩,m10,_⟩:=h10
   dsimp only at hJ
   refine Vr<|Vo (R.fld' (o:=0) ru32 rfl rfl sz3 rfl rfl)<|Vo (rla ag3 rfl (show _=some (Value.int .i64 (frL ws (grV g) ((compsG (grV g)).take k))) from hJ.k.sp.cell 0))<|Vo (rla ag3 rfl (show _=some (Value.int .i64 (lsF ws (repsW (partG (grV g) y.vs.l) y.vs.l) (-1))) from hJ.n.cell 0))<|Vo (R.max rfl rfl)<|Vo (R.fld' (o:=0) ru32 rfl rfl sz3 rfl rfl)<|VL.store (v:=.int _ _) sz3 rfl rfl rfl rfl hJ.k.sp rfl rfl fun w11 m11 hs11 hB11=>Vn<|Vr<|oD rfl rfl<|oI rfl<|Vn (?_)
   have m11':Vc.Mod (Vc.one b5_0) w10 w11:=m11
   have hn:(compsG (grV g)).take (k+1)=(compsG (grV g)).take k++[y.vs.l]:=by
    rw [List.take_succ_eq_append_getElem (by omega),a1,gget (by omega)]
   refine ⟨k+1,rfl,⟨by omega,?_,?_⟩,by omega⟩
   ·have hE:Ext w4 w10:=((e6.trans e69).weaken fun _ _ h=>h.elim).then m10 fun q hq h=>by
     rcases h with h | h <;> omega
    exact hE.own m11' z5
   ·rw [hn,frL_snoc,toL_snoc]
    refine ⟨hJ.k.wb.mod m11' fun (e:b0_1=_)=>by omega,modP hJ.k.v m11' fun q hp hq (e:q=_)=>by have:=hwa q hp hq;omega,hB11⟩
  ·have hke:k=L.length:=by omega
   refine ⟨(),rfl,e6,?_⟩
   rw [hke,hLl,List.take_length] at hP
   rw [hF,hTo]
   exact hP
 ·obtain ⟨e6,hP6⟩:=hBB0
  have lb5:=hP6.sp.lt
  have z56:=e6.size
  have z5:w4.heap.size≤b5_0:=Nat.le_of_eq hb5_0.symm
  have hx0:PkW b0_1 b5_0 wa wc ws { spZ with fr:=F,to:=T,lo:=⟨none,0,catF (fndC (lowP ws F) (grV g)) (grV g) 0⟩ } wBB0:=hP6
  refine Vl [3,4,7,8,47,48,49] (fun x:Nat×Option Addr×Nat=>[pA b0_1,pA b0_2,.slice za L.length zc,pA b5_0,.slice za L.length zc,.int .i64 (L.length:Nat),.int .i64 (x.1:Nat)])
   (fun x w'=>x.1≤L.length∧Ext w4 w'∧PkW b0_1 b5_0 wa wc ws { spZ with fr:=F,to:=T,lo:=⟨x.2.1,x.2.2,catF (fndC (lowP ws F) (grV g)) (grV g) x.1⟩ } w'∧OwnT Vc.encI 1 3 wBB0.heap.size w' x.2.1 x.2.2 (catF (fndC (lowP ws F) (grV g)) (grV g) x.1)∧wBB0.heap.size≤w'.heap.size) (fun x=>L.length-x.1) (0,none,0) rfl ⟨Nat.zero_le _,e6,hx0,OwnT.nil _ _ _ _ _,Nat.le_refl _⟩ ?_
  rintro ρ ⟨k,la,lc⟩ w7 ⟨hk,e7,hP7,ho7,z67⟩
  dsimp only at hk e7 hP7 ho7 ⊢
  have hcat:=cat_len hv (F:=fndC (lowP ws F) (grV g)) (fun c hc=>(fnd_in hv _ hc).1) k
  have hcat:((catF (fndC (lowP ws F) (grV g)) (grV g) k).length:Int)≤(grV g).n:=hcat
  refine Vs<|Vr<|oL rfl rfl<|Vn<|Vs<|Vd rfl (fun c50=>Vk<|Vs<|Vb<|Vs (?_)) (fun c50=>Ve (?_))
  ·have hkl:k<L.length:=by omega
   obtain ⟨a1,a2,a3,a4,a5,a6,a7,a8⟩:=hat k hkl
   have hL7:=hL.ext e7
   refine Vr<|Vo (iX ru69 sz72 rfl rfl (hL7.own.sl.some (i:=k) hkl))<|Vo (R.ldA ag72 sz72 rfl rfl (show RowAt _ _ _ (encCmI (L.getD k default)) from (hL7.own.sl.row (i:=k) hkl)) rfl)<|VL.allocSt (v:=.agg (encCmI (L.getD k default)).toArray) zv72 sz72 rfl rfl rfl rfl rfl fun b15_2 w15_2 hb15_2 e15_2 hB15_2=>Vn (?_)
   obtain ⟨y,hy⟩:∃ y,y=L.getD k default:=⟨_,rfl⟩
   rw [←hy] at hB15_2 a1 a3 a4 a5 a6 a7 a8 ⊢
   have hcb:Blk w15_2 b15_2 (.cells (Value.agg (encCmI y).toArray).cells 72 (0,0)):=hB15_2
   have hP15:=hP7.ext e15_2
   have E15:=e7.trans e15_2
   have z15:=E15.size
   have lp:=hP15.sp.lt;have lv:=hP15.wb.lt
   have hfd:=fnd_in hv (lowP ws F) a2
   rw [←a1] at hfd
   refine V.regionS mixed 5 (by kernel_rfl) rfl (fun us=>VS.op (fun wq eq=>R.fld' (o:=2) ru32 rfl rfl sz22 rfl rfl) (VS.op (fun wq eq=>rla ag22 rfl (show _=some (Value.slice la (catF (fndC (lowP ws F) (grV g)) (grV g) k).length lc) from (hP15.ext eq).sp.cell 2)) (VS.op (fun wq eq=>R.ldA ag72 sz72 rfl rfl (show RowAt _ _ _ (encCmI y) from (hcb.ext eq).rowAt 0 4) rfl) (VS.op (fun wq eq=>R.mkFn rfl rfl) (VS.callX (fun u w'=>∃ z:Option Addr×Nat,u=.slice z.1 (fndC (lowP ws F) (grV g) y.vs.l).length z.2∧OwnT Vc.encI 1 3 w15_2.heap.size w' z.1 z.2 (fndC (lowP ws F) (grV g) y.vs.l)) (fun u a b _ ⟨z,h1,h2⟩ eb=>⟨z,h1,h2.ext eb⟩) call43 rfl (fun wq eq hq=>by
     have zq:=eq.size
     have hHd:=pk2_hd (bw:=b0_1) (bs:=b5_0) (wa:=wa) (wc:=wc) (ws:=ws) (vs:=y.vs.l) (x:={ spZ with fr:=F,to:=T,lo:=⟨la,lc,catF (fndC (lowP ws F) (grV g)) (grV g) k⟩ }) (B:=wq.heap.size) hws (by omega) (by omega) (fun q hp hq=>by have:=hwa q hp hq;omega) a8 a7
     have hf:=cf_at _ _ _ _ _ y w4 wq a6 a4 a5 (E15.trans eq) hHd () (fun q hq=>hq.elim) (fun t w' ht e=>(hP15.ext eq).ext e) a3
     rw [run2] at hf
     exact Rets.mono hf fun u w' ⟨z,h1,_,h3,h4⟩=>⟨⟨z,h1,h4.weaken zq⟩,h3.weaken fun _ _ h=>h.elim⟩) (VS.nil (fun w16 e16 h16=>?_))))))) rfl
   obtain ⟨u16,hu16,ho16⟩:=h16 4
   rw [hu16]
   have hP16:=hP15.ext e16
   have ho7':=ho7.ext (e15_2.trans e16)
   have z16:=e16.size;have z152:=e15_2.size
   refine VL.appendT el22 (fun _=>rfl) rfl (rfl) (ho7') rfl (rfl) (OwnT.sl ho16) (OwnT.hax ho16) (by omega) (by unfold maxLen;omega) (show wBB0.heap.size≤w16.heap.size by omega) rfl fun a9 c9 w9 ho9 m9 hf9=>Vo (R.fld' (o:=2) ru32 rfl rfl sz22 rfl rfl)<|VL.store (v:=.slice _ _ _) sz22 rfl rfl rfl rfl (hP16.sp.mod m9 fun h=>by have:=ho7'.ge _ h;omega) rfl rfl fun w17 m17 hs17 hB17=>Vn<|Vr<|oD rfl rfl<|oI rfl<|Vn (?_)
   have m17':Vc.Mod (Vc.one b5_0) w9 w17:=m17
   have hs:catF (fndC (lowP ws F) (grV g)) (grV g) (k+1)=catF (fndC (lowP ws F) (grV g)) (grV g) k++fndC (lowP ws F) (grV g) y.vs.l:=by rw [catF_succ (by omega),a1]
   have E9:Ext w4 w9:=(E15.trans e16).ownA m9 fun q hq=>by have:=ho7'.ge q hq;omega
   refine ⟨(k+1,a9,c9),rfl,⟨by dsimp only;omega,E9.own m17' z5,?_,?_,?_⟩,by dsimp only;omega⟩
   ·dsimp only
    rw [hs]
    refine ⟨(hP16.wb.mod m9 fun h=>by have:=ho7'.ge _ h;omega).mod m17' fun (e:b0_1=_)=>by omega,modP (modP hP16.v m9 fun q hp hq h=>by have:=hwa q hp hq;have:=ho7'.ge _ h;omega) m17' fun q hp hq (e:q=_)=>by have:=hwa q hp hq;omega,?_⟩
    rw [encSp,List.length_append]
    exact hB17
   ·dsimp only
    rw [hs]
    exact ho9.mod m17' fun q hq (e:q=_)=>by have:=ho9.ge q hq;omega
   ·have:=m9.size;have:=m17'.size;omega
  ·have hke:k=L.length:=by omega
   subst hke
   exact ⟨(la,lc),rfl,e7,hP7,ho7⟩
 ·have lb5:=hBB0.2.sp.lt
  have z56:=hBB0.1.size
  have z5:w4.heap.size≤b5_0:=Nat.le_of_eq hb5_0.symm
  obtain ⟨la,lc⟩:=xB2
  obtain ⟨e8,hP8,ho8⟩:=hBB2
  dsimp only at hP8 ho8
  have hcat8:((catF (fndC (lowP ws F) (grV g)) (grV g) L.length).length:Int)≤(grV g).n:=cat_len hv (F:=fndC (lowP ws F) (grV g)) (fun c hc=>(fnd_in hv _ hc).1) L.length
  have hlow:srtF (catF (fndC (lowP ws F) (grV g)) (grV g) L.length)=lowG ws (grV g):=by rw [hLl,catF_all,hF];rfl
  obtain ⟨m9,ho9⟩:=h9
  have hll:(catF (fndC (lowP ws F) (grV g)) (grV g) L.length).length=(lowG ws (grV g)).length:=by rw [←hlow,srtF_len]
  rw [hlow] at ho9
  have E9:Ext w4 w9:=e8.ownA m9 fun q hq=>by have:=ho8.ge q hq;omega
  have hP9:PkW b0_1 b5_0 wa wc ws { spZ with fr:=F,to:=T,lo:=⟨la,lc,lowG ws (grV g)⟩ } w9:=by
   refine ⟨hP8.wb.mod m9 fun h=>by have:=ho8.ge _ h;omega,modP hP8.v m9 fun q hp hq h=>by have:=hwa q hp hq;have:=ho8.ge _ h;omega,?_⟩
   have h1:=hP8.sp.mod m9 fun h=>by have:=ho8.ge _ h;omega
   have h2:encSp { spZ with fr:=F,to:=T,lo:=⟨la,lc,catF (fndC (lowP ws F) (grV g)) (grV g) L.length⟩ }=encSp { spZ with fr:=F,to:=T,lo:=⟨la,lc,lowG ws (grV g)⟩ }:=by
    unfold encSp
    dsimp only
    rw [hll]
   rw [←h2];exact h1
  clear hP8 ho8 m9
  have z9:=E9.size
  have lb9:=hP9.sp.lt;have lv9:=hP9.wb.lt
  refine Vl [3,4,7,8,14,64,65,66] (fun x:Nat×List SlI×Option Addr×Nat=>[pA b0_1,pA b0_2,.slice za L.length zc,pA b5_0,.slice x.2.2.1 x.2.1.length x.2.2.2,.slice za L.length zc,.int .i64 (L.length:Nat),.int .i64 (x.1:Nat)])
   (fun x w'=>x.1≤L.length∧Ext w9 w'∧AlR w9.heap.size w' x.2 (((compsG (grV g)).take x.1).map (fndC anyP (grV g)))) (fun x=>L.length-x.1) (0,[],none,0) rfl ⟨Nat.zero_le _,Vc.Mod.refl _ _,AlR.nil _ _⟩ ?_
  rintro ρ ⟨k,P,pa,pc⟩ w7 ⟨hk,e7,hA7⟩
  dsimp only at hk e7 hA7 ⊢
  have hPl:=hA7.len
  rw [List.length_map,List.length_take] at hPl
  dsimp only at hPl
  refine Vs<|Vr<|oL rfl rfl<|Vn<|Vs<|Vd rfl (fun c67=>Vk<|Vs<|Vb<|Vs (?_)) (fun c67=>Ve (?_))
  ·have hkl:k<L.length:=by omega
   obtain ⟨a1,a2,a3,a4,a5,a6,a7,a8⟩:=hat k hkl
   have hL7:=hL.ext (E9.trans e7)
   refine Vr<|Vo (iX ru69 sz72 rfl rfl (hL7.own.sl.some (i:=k) hkl))<|Vo (R.ldA ag72 sz72 rfl rfl (show RowAt _ _ _ (encCmI (L.getD k default)) from (hL7.own.sl.row (i:=k) hkl)) rfl)<|VL.allocSt (v:=.agg (encCmI (L.getD k default)).toArray) zv72 sz72 rfl rfl rfl rfl rfl fun b22_2 w22_2 hb22_2 e22_2 hB22_2=>Vn (?_)
   obtain ⟨y,hy⟩:∃ y,y=L.getD k default:=⟨_,rfl⟩
   rw [←hy] at hB22_2 a1 a3 a4 a5 a6 a7 a8 ⊢
   have hcb:Blk w22_2 b22_2 (.cells (Value.agg (encCmI y).toArray).cells 72 (0,0)):=hB22_2
   have E22:=E9.trans (e7.trans e22_2)
   have z22:=e22_2.size;have z7:=e7.size
   have hHd:=pk3_hd (vs:=y.vs.l) (B:=w22_2.heap.size) (J:=fun _=>True) (fun _ _ _ _=>trivial) (fun _ _ _ _ _ _=>trivial)
   have hf:=cf_at _ _ _ _ _ y w4 w22_2 a6 a4 a5 E22 hHd () (fun q hq=>hq.elim) (fun t w' ht e=>trivial) a3
   rw [run3] at hf
   refine Vr<|oS rfl<|Vo (R.ldA ag72 sz72 rfl rfl (show RowAt _ _ _ (encCmI y) from hcb.rowAt 0 4) rfl)<|VL.callY call43 rfl (hf) fun u w10 h10=>VL.append1 el23 ru23 sz22 zv22 rfl (⟨u.1,u.2,fndC anyP (grV g) y.vs.l⟩:SlI) rfl rfl rfl (hA7.o.ext (e22_2.trans (h10.2.1.weaken fun _ _ h=>h.elim))) rfl rfl rfl (by omega) (by unfold maxLen;omega) (show w9.heap.size≤w10.heap.size by have:=h10.2.1.size;omega) fun a11 c11 w11 vt11 ho11 m11 hf11=>oT rfl<|Vn<|Vr<|oD rfl rfl<|oI rfl<|Vn (?_)
   have e10:Ext w22_2 w10:=h10.2.1.weaken fun _ _ h=>h.elim
   have ho10:=h10.2.2
   have hA10:=hA7.ext (e22_2.trans e10)
   have ht:=OwnT.tyA hA10.o
   refine ⟨(k+1,P++[⟨u.1,u.2,fndC anyP (grV g) y.vs.l⟩],a11,c11),by dsimp only;rw [List.length_append];rfl,⟨by dsimp only;omega,(e7.trans (e22_2.trans e10)).ownA m11 fun q hq=>hA10.o.ge q hq,⟨ho11,fun x hx=>?_,?_⟩⟩,by dsimp only;omega⟩
   ·dsimp only at hx
    rcases List.mem_append.1 hx with h | h
    ·exact (hA10.e x h).mod ht m11
    ·rw [List.mem_singleton.1 h]
     exact (AlE.mk (OwnT.sl ho10) (OwnT.tyA ho10) (OwnT.hax ho10):AlE w10 ⟨u.1,u.2,fndC anyP (grV g) y.vs.l⟩).mod ht m11
   ·dsimp only
    have hv7:=hA7.v
    dsimp only at hv7
    unfold vals at hv7 ⊢
    rw [List.take_succ_eq_append_getElem (by omega),List.map_append,List.map_append,hv7,←gget (show k<(compsG (grV g)).length by omega),←a1];rfl
  ·have hke:k=L.length:=by omega
   rw [hke,hLl,List.take_length] at hA7
   exact ⟨(P,pa,pc),rfl,e7,hA7⟩
 have lb5:=hBB0.2.sp.lt
 have z56:=hBB0.1.size
 have z5:w4.heap.size≤b5_0:=Nat.le_of_eq hb5_0.symm
 obtain ⟨la,lc⟩:=xB2
 obtain ⟨e8,hP8,ho8⟩:=hBB2
 dsimp only at hP8 ho8
 have hcat8:((catF (fndC (lowP ws F) (grV g)) (grV g) L.length).length:Int)≤(grV g).n:=cat_len hv (F:=fndC (lowP ws F) (grV g)) (fun c hc=>(fnd_in hv _ hc).1) L.length
 have hlow:srtF (catF (fndC (lowP ws F) (grV g)) (grV g) L.length)=lowG ws (grV g):=by rw [hLl,catF_all,hF];rfl
 obtain ⟨m9,ho9⟩:=h9
 have hll:(catF (fndC (lowP ws F) (grV g)) (grV g) L.length).length=(lowG ws (grV g)).length:=by rw [←hlow,srtF_len]
 rw [hlow] at ho9
 have E9:Ext w4 w9:=e8.ownA m9 fun q hq=>by have:=ho8.ge q hq;omega
 have hP9:PkW b0_1 b5_0 wa wc ws { spZ with fr:=F,to:=T,lo:=⟨la,lc,lowG ws (grV g)⟩ } w9:=by
  refine ⟨hP8.wb.mod m9 fun h=>by have:=ho8.ge _ h;omega,modP hP8.v m9 fun q hp hq h=>by have:=hwa q hp hq;have:=ho8.ge _ h;omega,?_⟩
  have h1:=hP8.sp.mod m9 fun h=>by have:=ho8.ge _ h;omega
  have h2:encSp { spZ with fr:=F,to:=T,lo:=⟨la,lc,catF (fndC (lowP ws F) (grV g)) (grV g) L.length⟩ }=encSp { spZ with fr:=F,to:=T,lo:=⟨la,lc,lowG ws (grV g)⟩ }:=by
   unfold encSp
   dsimp only
   rw [hll]
  rw [←h2];exact h1
 clear hP8 ho8 m9
 have z9:=E9.size
 have lb9:=hP9.sp.lt;have lv9:=hP9.wb.lt
 obtain ⟨P,pa,pc⟩:=xB4
 obtain ⟨e11,hA⟩:=hBB4
 dsimp only at hA ⊢
 have hPl:=hA.len
 rw [List.length_map] at hPl
 dsimp only at hPl
 have E11:=E9.trans e11
 have z11:=e11.size
 obtain ⟨X,hX⟩:∃ X:SpX,X={ spZ with fr:=F,to:=T,lo:=⟨la,lc,lowG ws (grV g)⟩ }:=⟨_,rfl⟩
 have hXt:X.to=T:=by rw [hX]
 rw [←hX] at hP9
 have hP11:=hP9.ext e11
 have hlo11:=ho9.ext e11
 have hPj:∀ j,j<L.length→(P.getD j default).l=fndC anyP (grV g) ((compsG (grV g)).getD j default):=fun j hj=>by
  have h1:(vals P).getD j default=(P.getD j default).l:=gmap SlI.l P default (by omega)
  have hAv:vals P=(compsG (grV g)).map (fndC anyP (grV g)):=hA.v
  rw [←h1,hAv]
  exact gmap (fndC anyP (grV g)) (compsG (grV g)) default (by omega)
 have hAm:∀ w',Vc.Mod (Vc.one b5_0) wBB4 w'→AlR w9.heap.size w' (P,pa,pc) ((compsG (grV g)).map (fndC anyP (grV g))):=fun w' m=>by
  refine ⟨hA.o.mod m fun q hq (e:q=_)=>by have:=hA.o.ge q hq;omega,fun x hx=>?_,hA.v⟩
  have h:=hA.e x hx
  have key:∀ k,aBlk x.a k→¬Vc.one b5_0 k:=fun k hk (e:k=_)=>by
   subst e
   exact h.t.apart hP11.sp (by decide) hk
  exact ⟨h.s.mod m fun ad e=>key _ ⟨ad,e,rfl⟩,h.t.mod m key,h.h⟩
 clear hPl
 have hPl:P.length=L.length:=by have:=hA.len;rw [List.length_map] at this;dsimp only at this;omega
 refine Vr<|oA rfl<|Vn<|Vs<|V.label<|Vs<|Vs<|Vr<|oJ rfl<|Vn<|Vb (?_)
 refine Vl [3,4,7,8,14,17,18] (fun x:Nat×Option Addr×Nat=>[pA b0_1,pA b0_2,.slice za L.length zc,pA b5_0,.slice pa P.length pc,.bool (hiK ws T (grV g) x.1).isSome,.int .i64 ((x.1:Nat)-1)])
  (fun x w'=>x.1≤L.length+1∧Vc.Mod (Vc.one b5_0) wBB4 w'∧PkW b0_1 b5_0 wa wc ws { X with hi:=⟨x.2.1,x.2.2,resW (hiK ws T (grV g) x.1)⟩ } w'∧OwnT Vc.encI 1 3 wBB4.heap.size w' x.2.1 x.2.2 (resW (hiK ws T (grV g) x.1))) (fun x=>L.length+1-x.1) (0,none,0) rfl ⟨Nat.zero_le _,Vc.Mod.refl _ _,by rw [hX] at hP11 ⊢;exact hP11,OwnT.nil _ _ _ _ _⟩ ?_
 rintro ρ ⟨n,ha,hc⟩ w6 ⟨hn,m6,hP6,ho6⟩
 dsimp only at hn hP6 ho6 ⊢
 have E6:Ext w4 w6:=E11.own m6 z5
 have z6:=m6.size
 have hA6:=hAm w6 m6
 have l56:=hP6.sp.lt;have l16:=hP6.wb.lt
 refine Vs<|Vs<|Vr<|oI rfl<|oS rfl<|Vo (R.lenS ru69 rfl)<|oL rfl rfl<|Vn<|Vd rfl (fun c79=>Vk<|V.cut [3,4,7,8,14,17,18] (fun x:Option Addr×Nat=>[pA b0_1,pA b0_2,.slice za L.length zc,pA b5_0,.slice pa P.length pc,.bool (hiK ws T (grV g) (n+1)).isSome,.int .i64 ((n:Nat)-1)]) (fun x w'=>Vc.Mod (Vc.one b5_0) w6 w'∧PkW b0_1 b5_0 wa wc ws { X with hi:=⟨x.1,x.2,resW (hiK ws T (grV g) (n+1))⟩ } w'∧OwnT Vc.encI 1 3 wBB4.heap.size w' x.1 x.2 (resW (hiK ws T (grV g) (n+1)))) (Vb<|Vs (?_)) (fun rgB7 xB7 wBB7 hBB7=>?_)) (fun c79=>Ve<|Vs (?_))
 ·obtain ⟨ii,hii⟩:∃ ii:Int,ii=(n:Nat)-1:=⟨_,rfl⟩
  rw [←hii]
  refine Vr<|oT rfl<|Vn<|Vs<|Vs<|Vr<|oS rfl<|Vo (R.lenS ru69 rfl)<|oI rfl<|Vn<|Vb (?_)
  refine Vl [3,4,7,8,14,17,18,19,82,83,84] (fun x:Nat×Option Addr×Nat=>[pA b0_1,pA b0_2,.slice za L.length zc,pA b5_0,.slice pa P.length pc,.bool (hiK ws T (grV g) n).isSome,.int .i64 ii,.slice x.2.1 (cndX ws T (grV g) ii x.1).length x.2.2,.slice za L.length zc,.int .i64 (L.length:Nat),.int .i64 (x.1:Nat)])
   (fun x w'=>x.1≤L.length∧Ext w6 w'∧OwnT Vc.encI 1 3 w6.heap.size w' x.2.1 x.2.2 (cndX ws T (grV g) ii x.1)∧∀ j,j<x.1→(j:Int)=ii→¬skpB ws T (grV g) ii) (fun x=>L.length-x.1) (0,none,0) rfl ⟨Nat.zero_le _,Vc.Mod.refl _ _,OwnT.nil _ _ _ _ _,fun j h=>absurd h (Nat.not_lt_zero _)⟩ ?_
  rintro ρ ⟨j,sa,sc⟩ w7 ⟨hj,e7,ho7,hsk⟩
  dsimp only at hj e7 ho7 hsk ⊢
  have hcx:=cndX_len hv ws T ii j (by omega)
  have hcy:=cat_len hv (F:=id) (fun c _=>Nat.le_refl _) j
  have hcy:((catF id (grV g) j).length:Int)≤(grV g).n:=hcy
  have hP7:=hP6.ext e7
  have z7:=e7.size
  refine Vs<|Vr<|oL rfl rfl<|Vn<|Vs<|Vd rfl (fun c85=>Vk<|Vs<|Vb<|Vs (?_)) (fun c85=>Ve<|Vs (?_))
  ·have hjl:j<L.length:=by omega
   obtain ⟨a1,a2,a3,a4,a5,a6,a7,a8⟩:=hat j hjl
   have hL7:=hL.ext (E6.trans e7)
   have hA7:AlR w9.heap.size w7 (P,pa,pc) ((compsG (grV g)).map (fndC anyP (grV g))):=hA6.ext e7
   have hjP:j<P.length:=by omega
   have hpj:=hPj j hjl
   refine Vr<|oI rfl<|Vo (iX ru69 sz72 rfl rfl (hL7.own.sl.some (i:=j) hjl))<|Vo (R.ldA ag72 sz72 rfl rfl (show RowAt _ _ _ (encCmI (L.getD j default)) from (hL7.own.sl.row (i:=j) hjl)) rfl)<|VL.allocSt1 (v:=.agg _) (v2:=.int _ _) zv72 sz72 rfl rfl rfl rfl rfl rfl rfl rfl rfl fun b32_3 w32_3 hb32_3 e32_3 hB32_3=>Vn<|Vs (?_)
   obtain ⟨y,hy⟩:∃ y,y=L.getD j default:=⟨_,rfl⟩
   rw [←hy] at hB32_3 a1 a3 a4 a5 a6 a7 a8 ⊢
   obtain ⟨w8,hw8⟩:∃ w8,w8=w32_3:=⟨_,rfl⟩
   have hcb:Blk w32_3 b32_3 (.cells (Value.agg (encCmI y).toArray).cells 72 (0,0)):=hB32_3
   have hA8:=hA7.ext e32_3
   have hpl:(P.getD j default).l.length≤4000:=by
    rw [hpj]
    have:=(fnd_in hv anyP a2).1
    have:=hce _ a2
    omega
   refine Vr<|oS rfl<|oI rfl<|Vo (iX ru23 sz22 rfl rfl (hA8.o.sl.some (i:=j) hjP))<|Vo (rla ag22 rfl ((hA8.o.sl.row (i:=j) hjP).c0a rfl))<|oT rfl<|Vn<|V.cut [3,4,7,8,14,17,18,19,82,83,84,22] (fun u:SlI=>[pA b0_1,pA b0_2,.slice za L.length zc,pA b5_0,.slice pa P.length pc,.bool (hiK ws T (grV g) n).isSome,.int .i64 ii,.slice sa (cndX ws T (grV g) ii j).length sc,.slice za L.length zc,.int .i64 (L.length:Nat),.int .i64 (j:Nat),.slice u.a u.l.length u.c]) (fun u w'=>Ext w7 w'∧IntSl w' u.a u.l∧(u.a=none→u.c=0)∧u.l=fndC (cndP ws T ii (j:Nat)) (grV g) ((compsG (grV g)).getD j default)∧((j:Int)=ii→¬skpB ws T (grV g) ii)) (Vs<|Vr<|oI rfl<|oI rfl<|Vo (R.eql rfl rfl)<|Vn<|Vd rfl (fun c95=>Vs (?_)) (fun c95=>Vk (?_))) (fun rgC95 xC95 wBC95 hBC95=>?_)
   ·have hji:(j:Int)=ii:=by omega
    have hP8:=hP7.ext e32_3
    have z8:=e32_3.size
    have hHd:=pk4_hd (bw:=b0_1) (bs:=b5_0) (wa:=wa) (wc:=wc) (ws:=ws) (vs:=y.vs.l) (x:={ X with hi:=⟨ha,hc,resW (hiK ws T (grV g) n)⟩ }) (B:=w32_3.heap.size) hws (by omega) (by omega) (fun q hp hq=>by have:=hwa q hp hq;omega) a8 a7
    have hf:=cf_at _ _ _ _ _ y w4 w32_3 a6 a4 a5 (E6.trans (e7.trans e32_3)) hHd () (fun q hq=>hq.elim) (fun t w' ht e=>hP8.ext e) a3
    rw [run4] at hf
    refine Vr<|Vo (R.ldA ag72 sz72 rfl rfl (show RowAt _ _ _ (encCmI y) from hcb.rowAt 0 4) rfl)<|Vo (R.mkFn rfl rfl)<|VL.callY call43 rfl (hf) fun u w10 h10=>oT rfl<|Vn<|Vs (?_)
    obtain ⟨_,m10,ho10⟩:=h10
    have e10:Ext w32_3 w10:=m10.weaken fun _ _ h=>h.elim
    have hfc:resW ((repsW (partG (grV g) y.vs.l) y.vs.l).find? (topP ws ({ X with hi:=⟨ha,hc,resW (hiK ws T (grV g) n)⟩ }:SpX).to))=fndC (topP ws T) (grV g) y.vs.l:=by
     rw [←hXt];rfl
    dsimp only at ho10 ⊢
    rw [hfc] at ho10 ⊢
    have hsx:skpB ws T (grV g) ii↔fndC (topP ws T) (grV g) y.vs.l=[]∧0<T:=by
     unfold skpB
     rw [show ii.toNat=j by omega,←a1]
     exact ⟨fun h=>h.2.2,fun h=>⟨by omega,by omega,h⟩⟩
    have hlen0:(fndC (topP ws T) (grV g) y.vs.l).length=0→fndC (topP ws T) (grV g) y.vs.l=[]:=fun h=>List.length_eq_zero_iff.1 h
    refine Vr<|oS rfl<|Vo (R.lenS ru22 rfl)<|Vo (R.eql rfl rfl)<|oB rfl<|VL.andP rfl rfl (fun g36_3=>Vo (R.fld' (o:=1) ru32 rfl rfl sz3 rfl rfl)<|lT<|Vo (rla ag3 rfl (show _=some (Value.int .i64 X.to) from (hP8.ext e10).sp.cell 1))<|lT<|Vo (R.gtr rfl rfl)<|oP rfl rfl<|Vn<|Vd rfl (fun c106=>Ve (?_)) (fun c106=>Vk (?_))) (fun g36_3=>lF<|lF<|oQ rfl rfl<|Vn<|V.condF rfl<|Vk (?_))
    ·have hskip:hiK ws T (grV g) (n+1)=hiK ws T (grV g) n:=hiK_skip (by rw [←hii];exact hsx.2 ⟨hlen0 (by omega),by omega⟩)
     rw [hskip]
     exact ⟨(ha,hc),rfl,((e7.trans (e32_3.trans e10)).weaken fun _ _ h=>h.elim),hP8.ext e10,ho6.ext (e7.trans (e32_3.trans e10))⟩
    ·exact ⟨⟨u.1,u.2,fndC (topP ws T) (grV g) y.vs.l⟩,rfl,e32_3.trans e10,ho10.sl,OwnT.hax ho10,by unfold cndP;rw [if_pos hji,←a1],fun _ h=>by have:=(hsx.1 h).2;omega⟩
    ·exact ⟨⟨u.1,u.2,fndC (topP ws T) (grV g) y.vs.l⟩,rfl,e32_3.trans e10,ho10.sl,OwnT.hax ho10,by unfold cndP;rw [if_pos hji,←a1],fun _ h=>g36_3 (by rw [(hsx.1 h).1];rfl)⟩
   ·exact ⟨P.getD j default,rfl,e32_3,(hA8.e _ (gmem hjP)).s,(hA8.e _ (gmem hjP)).h,by rw [hpj];unfold cndP;rw [if_neg c95],fun e=>absurd e c95⟩
   ·obtain ⟨eC,hS,hax,hlC,hsk2⟩:=hBC95
    have hxl:xC95.l.length≤4000:=by
     rw [hlC]
     have:=(fnd_in hv (cndP ws T ii (j:Nat)) a2).1
     have:=hce _ a2
     omega
    have zC:=eC.size
    refine Vr<|oS rfl<|oS rfl<|VL.appendT el22 (fun _=>rfl) rfl (rfl) (ho7.ext eC) rfl (rfl) (hS) (hax) (by omega) (by unfold maxLen;omega) (show w6.heap.size≤wBC95.heap.size by omega) rfl fun a37 c37 w37 ho37 m37 hf37=>oT rfl<|Vn<|Vr<|oD rfl rfl<|oI rfl<|Vn (?_)
    refine ⟨(j+1,a37,c37),by dsimp only;rw [cndX_succ,←hlC,List.length_append];rfl,⟨by dsimp only;omega,(e7.trans eC).ownA m37 fun q hq=>ho7.ge q hq,by dsimp only;rw [cndX_succ,←hlC];exact ho37,fun j' hj' e=>?_⟩,by dsimp only;omega⟩
    dsimp only at hj'
    by_cases h:j'=j
    ·exact hsk2 (by omega)
    ·exact hsk j' (by omega) e
  ·have hjL:j=L.length:=by omega
   have hns:¬skpB ws T (grV g) ii:=fun h=>hsk ii.toNat (by have:=h.1;have:=h.2.1;omega) (by have:=h.1;omega) h
   refine Vr<|oS rfl<|VL.callK call47 rfl (sortI_spec sa sc w6.heap.size (cndX ws T (grV g) ii j) _ ho7 (by omega)) fun w39 h39=>Vn<|Vs (?_)
   obtain ⟨m39,ho39⟩:=h39
   obtain ⟨S,hS⟩:∃ S,S=srtF (cndX ws T (grV g) ii j):=⟨_,rfl⟩
   have hSl:(cndX ws T (grV g) ii j).length=S.length:=by rw [hS,srtF_len]
   have hSr:∀ v∈S,0≤v∧v<(ws.length:Int):=fun v hv'=>by
    rw [hS,srtF_mem] at hv'
    have:=cndX_rng hv ws T ii j (by omega) v hv'
    omega
   have hset:=hiK_set (ws:=ws) (t:=T) (g:=grV g) (n:=n) (by rw [←hii];exact hns) (S:=S) (by rw [hS,←hii,hjL,hLl])
   rw [←hS] at ho39
   rw [hSl]
   have E39:Ext w6 w39:=e7.ownA m39 fun q hq=>ho7.ge q hq
   have hP39:=hP6.ext E39
   have ho6':=ho6.ext E39
   have hSn:S.length≤4000:=by omega
   have hrl:(resW (hiK ws T (grV g) n)).length≤1000000:=by
    cases hk:hiK ws T (grV g) n with
    | none=>exact Nat.zero_le _
    | some Q =>
     have h1:=setB_iff.1 ((hi_inv hv ws n (by omega)).1 Q (by rw [←hTo];exact hk)).1.set
     have h2:=set_len h1.1 h1.2 (by omega)
     show Q.length≤1000000
     omega
   have hyes:∀ {w40 w41:World},Ext w39 w40→Vc.Mod (Vc.one b5_0) w40 w41→Blk w41 b5_0 (.cells (encSp { X with hi:=⟨sa,sc,S⟩ }).toArray 32 (0,0))→Vc.Mod (Vc.one b5_0) w6 w41∧PkW b0_1 b5_0 wa wc ws { X with hi:=⟨sa,sc,S⟩ } w41∧OwnT Vc.encI 1 3 wBB4.heap.size w41 sa sc S:=fun e m hb=>by
    have hP40:=hP39.ext e
    refine ⟨((E39.trans e).weaken fun _ _ h=>h.elim).then m fun _ _ h=>h,⟨hP40.wb.mod m fun (e:b0_1=_)=>by omega,modP hP40.v m fun q hp hq (e:q=_)=>by have:=hwa q hp hq;omega,hb⟩,?_⟩
    exact ((ho39.ext e).mod m fun q hq (e2:q=_)=>by have:=(ho39.ext e).ge q hq;omega).weaken z6
   have hno:∀ {w40:World},Ext w39 w40→Vc.Mod (Vc.one b5_0) w6 w40∧PkW b0_1 b5_0 wa wc ws { X with hi:=⟨ha,hc,resW (hiK ws T (grV g) n)⟩ } w40∧OwnT Vc.encI 1 3 wBB4.heap.size w40 ha hc (resW (hiK ws T (grV g) n)):=fun e =>
    ⟨(E39.trans e).weaken fun _ _ h=>h.elim,hP39.ext e,ho6'.ext e⟩
   refine rQ 13 (Vq (fun wq eq=>rla ag22 rfl (show _=some (Value.slice wa ws.length wc) from (hP39.wb.ext eq).cell 0))<|qS rfl<|VQ.callP (fun _ _ h k=>Mod.trans h k) call45 rfl (fun wq eq=>greatest31_spec wa wc ws sa sc S wq (hP39.v.ext eq) hwl (ho39.sl.ext eq) (by omega) hSr)<|Vq (fun wq eq=>R.fld' (o:=1) ru32 rfl rfl sz3 rfl rfl)<|Vq (fun wq eq=>rla ag3 rfl (show _=some (Value.int .i64 X.to) from (hP39.sp.ext eq).cell 1))<|Vq (fun wq eq=>R.eql rfl rfl)<|Vq (fun wq eq=>R.mvB rfl)<|VQ.andP rfl rfl (fun g40_6=>Vq (fun wq eq=>R.mvB rfl)<|qT<|Vq (fun wq eq=>R.not rfl)<|qT<|Vq (fun wq eq=>R.mvB rfl)<|VQ.or rfl rfl (fun g40_9=>qS rfl<|qT<|Vq (fun wq eq=>R.fld' (o:=3) ru32 rfl rfl sz22 rfl rfl)<|qT<|Vq (fun wq eq=>rla ag22 rfl (show _=some (Value.slice ha (resW (hiK ws T (grV g) n)).length hc) from (hP39.sp.ext eq).cell 3))<|Vj fun w40q e40q=>lT<|Vp call50 rfl (cmpL_spec sa ha sc hc S (resW (hiK ws T (grV g) n)) _ (by omega) (by omega) (ho39.sl.ext ((Vc.Mod.refl Vc.nob w39).trans e40q)) (ho6'.sl.ext ((Vc.Mod.refl Vc.nob w39).trans e40q))) fun w40_13 e40_13=>lT<|oL rfl rfl<|lT<|oQ rfl rfl<|oP rfl rfl<|Vn<|Vd rfl (fun c129=>Vr<|oS rfl<|Vo (R.fld' (o:=3) ru32 rfl rfl sz22 rfl rfl)<|VL.store (v:=.slice _ _ _) sz22 rfl rfl rfl rfl (hP39.sp.ext (((Vc.Mod.refl Vc.nob w39).trans e40q).trans e40_13)) rfl rfl fun w41 m41 hs41 hB41=>oA rfl<|Vn (?_)) (fun c129=>Vk (?_))) (fun g40_9=>qF<|qF<|Vj fun w40q e40q=>lF<|lF<|lT<|oP rfl rfl<|oP rfl rfl<|Vn<|Vg rfl<|Vr<|oS rfl<|Vo (R.fld' (o:=3) ru32 rfl rfl sz22 rfl rfl)<|VL.store (v:=.slice _ _ _) sz22 rfl rfl rfl rfl (hP39.sp.ext ((Vc.Mod.refl Vc.nob w39).trans e40q)) rfl rfl fun w41 m41 hs41 hB41=>oA rfl<|Vn (?_))) (fun g40_6=>qF<|qF<|VQ.gU rfl rfl<|VQ.gU rfl rfl<|VQ.gU rfl rfl<|Vj fun w40q e40q=>VL.gU rfl rfl<|VL.gU rfl rfl<|lF<|oQ rfl rfl<|Vn<|V.condF rfl<|Vk (?_)))
   ·have hlt:lexB S (resW (hiK ws T (grV g) n))=true:=by
     cases hb:lexB S (resW (hiK ws T (grV g) n)) with
     | true=>rfl
     | false =>
      exfalso
      unfold cmpL at c129
      rw [hb,if_neg (by decide)] at c129
      split at c129 <;> omega
    have hk:hiK ws T (grV g) (n+1)=some S:=by rw [hset,if_pos ⟨by omega,.inr hlt⟩]
    rw [hk]
    exact ⟨(sa,sc),rfl,hyes (e40q.trans e40_13) m41 hB41⟩
   ·have hlt:lexB S (resW (hiK ws T (grV g) n))=false:=by
     cases hb:lexB S (resW (hiK ws T (grV g) n)) with
     | false=>rfl
     | true =>
      exfalso
      unfold cmpL at c129
      rw [hb,if_pos rfl] at c129
      omega
    have hk:hiK ws T (grV g) (n+1)=hiK ws T (grV g) n:=by
     rw [hset,if_neg fun h=>?_]
     rcases h.2 with h | h
     ·rw [h] at g40_9;cases g40_9
     ·rw [hlt] at h;cases h
    rw [hk]
    have hsm:(hiK ws T (grV g) n).isSome=true:=by simpa using g40_9
    exact ⟨(ha,hc),rfl,hno (e40q.trans e40_13)⟩
   ·have hn0:hiK ws T (grV g) n=none:=by
     cases hh:hiK ws T (grV g) n with
     | none=>rfl
     | some Q=>rw [hh] at g40_9;cases g40_9
    have hk:hiK ws T (grV g) (n+1)=some S:=by rw [hset,if_pos ⟨by omega,.inl hn0⟩]
    rw [hk]
    exact ⟨(sa,sc),rfl,hyes e40q m41 hB41⟩
   ·have hk:hiK ws T (grV g) (n+1)=hiK ws T (grV g) n:=by rw [hset,if_neg fun h=>g40_6 (by omega)]
    rw [hk]
    exact ⟨(ha,hc),rfl,hno e40q⟩
 ·obtain ⟨m7,hP7,ho7⟩:=hBB7
  refine Vr<|oI rfl<|oD rfl rfl<|oJ rfl<|Vn (?_)
  refine ⟨(n+1,xB7.1,xB7.2),?_,⟨by dsimp only;omega,m6.trans m7,hP7,ho7⟩,by dsimp only;omega⟩
  dsimp only
  rw [show (((n+1:Nat):Int)-1)=(n:Nat)-1+1 by omega]
  rfl
 ·have hne:n=L.length+1:=by omega
  have hS6:=(hS1.ext e4).ext E6
  refine Vr<|Vo (R.ldA ag32 sz32 rfl rfl (show RowAt _ _ _ (encSp { X with hi:=⟨ha,hc,resW (hiK ws T (grV g) n)⟩ }) from hP6.sp.rowAt 0 6) rfl)<|VL.store (v:=.agg _) sz32 rfl rfl rfl rfl hS6 rfl rfl fun w42 m42 hs42 hB42=>oJ rfl<|Vn<|Vt (fretCT (v:=.int _ _) rfl rfl rfl rfl rfl ag32 sz32 rfl (hB42.rowAt 0 6) rfl (?_))
  have m42':Vc.Mod (Vc.one b0_2) w6 w42:=m42
  have hzb:w.heap.size≤wBB0.heap.size:=by omega
  have k0:=hb0_2
  have z01:=(e0_0.trans e0_1).size
  have hX1:X.P=[]:=by rw [hX];rfl
  have hX2:X.Q=[]:=by rw [hX];rfl
  have hX3:X.pa=none:=by rw [hX];rfl
  have hX4:X.pc=0:=by rw [hX];rfl
  have hX5:X.qa=none:=by rw [hX];rfl
  have hX6:X.qc=0:=by rw [hX];rfl
  have hX7:X.lo=⟨la,lc,lowG ws (grV g)⟩:=by rw [hX]
  have hX8:X.fr=F:=by rw [hX]
  refine ⟨({ X with hi:=⟨ha,hc,resW (hiK ws T (grV g) n)⟩ },0),rfl,⟨⟨?_,?_,?_,?_⟩,⟨h0.symm,fun h=>absurd rfl h,fun _=>?_,fun _=>?_,fun _=>?_,fun _=>?_,hX1,hX2⟩⟩,?_⟩
  ·rw [hX7]
   exact ((hlo11.mod m6 fun q hq (e:q=_)=>by have:=hlo11.ge q hq;omega).mod m42' fun q hq (e:q=_)=>by have:=hlo11.ge q hq;omega).weaken hzb
  ·exact (ho6.mod m42' fun q hq (e:q=_)=>by have:=ho6.ge q hq;omega).weaken (by omega)
  ·show OwnT encS4 4 100 _ _ X.pa X.pc X.P
   rw [hX1,hX3,hX4];exact OwnT.nil _ _ _ _ _
  ·show OwnT encS4 4 100 _ _ X.qa X.qc X.Q
   rw [hX2,hX5,hX6];exact OwnT.nil _ _ _ _ _
  ·show X.lo.l=_
   rw [hX7]
  ·show resW (hiK ws T (grV g) n)=highG ws (grV g)
   rw [hne,hLl,hTo];rfl
  ·show X.fr=_
   rw [hX8,hF]
  ·show X.to=_
   rw [hXt,hTo]
  ·exact (E4.trans E6).own m42' (by omega)
end Go.Proofs.YtdkhcipjenfcnaaGreatDoor
