/- Aggregate: the least repair of a component. -/
import Derived.Test.YtdkhcipjenfcnaaGreatDoorXA19
import Derived.Test.YtdkhcipjenfcnaaGreatDoorXZiT3
namespace Go.Proofs.YtdkhcipjenfcnaaGreatDoor
open Go.Proofs.Tryz
set_option maxRecDepth 100000
set_option maxHeartbeats 16000000
open Go.Vc
def exS (ws:List Int) (o:Option (List Int)) (S:List Int):Option (List Int):=match o with
 | none=>some S
 | some b=>if totW ws S<totW ws b then some S else some b
def exF (ws:List Int) (o:Option (List Int)) (S:List Int):Option (List Int)×Bool:=(exS ws o S,false)
structure ExJ (bb bw:Nat) (wa:Option Addr) (wc:Nat) (ws:List Int) (B t:Nat) (o:Option (List Int)) (w:World):Prop where
 box:∃ a c,Blk w bb (.cells #[.slice a (resW o).length c] 22 (0,0))∧(a=none↔o=none)∧(a=none→c=0)∧IntSl w a (resW o)∧∀ q,aBlk a q→q≠t∧B≤q
 wb:Blk w bw (.cells #[.slice wa ws.length wc] 22 (0,0))
 wv:IntSl w wa ws
 i:∀ v∈resW o,0≤v∧v<(ws.length:Int)
 n:(resW o).length≤4000
theorem ext1_spec (bb bw:Nat) (wa:Option Addr) (wc:Nat) (ws:List Int) (B t:Nat) (o:Option (List Int)) (w:World) (a:Option Addr) (c:Nat) (Z:List Int) (hJ:ExJ bb bw wa wc ws B t o w) (hwl:ws.length≤4000) (hwb:∀ x∈ws,-1000000000≤x∧x≤1000000000) (hbB:bb<B) (_hbw:bw<B) (hne:bb≠bw) (hvw:∀ q,0<ws.length→aBlk wa q→q≠bb) (ha:a≠none) (hS:IntSl w a Z) (hq:∀ q,aBlk a q→q≠t∧B≤q) (hZl:Z.length≤4000) (hZ:∀ v∈Z,0≤v∧v<(ws.length:Int)) :
  RetsY prog 66 #[.slice a Z.length c,pA bb,pA bw] w (fun _:Unit=>.bool false) (fun _ w'=>ExJ bb bw wa wc ws B t (exS ws o Z) w'∧Vc.Mod (Vc.one bb) w w'):=by
 obtain ⟨ba,bc,hb,hnn,hax,hbv,hbq⟩:=hJ.box
 have fin:∀ w',Blk w' bb (.cells #[.slice a Z.length c] 22 (0,0))→Vc.Mod (Vc.one bb) w w'→ExJ bb bw wa wc ws B t (some Z) w':=fun w' hb' m=>by
  refine ⟨⟨a,c,hb',⟨fun h=>absurd h ha,fun h=>by cases h⟩,fun h=>absurd h ha,TSl.mod hS m fun ad e (q:_=_)=>?_,hq⟩,hJ.wb.mod m fun (q:_=_)=>hne q.symm,modP hJ.wv m fun q hp hk (e:_=_)=>hvw q hp hk e,hZ,hZl⟩
  have:=(hq ad.block ⟨ad,e,rfl⟩).2
  omega
 refine eN (args:=[_,_,_]) func66 rfl ntmps66 ?_
 cases o with
 | none =>
  have hba:ba=none:=hnn.2 rfl
  refine Vs<|Vr<|oA rfl<|Vn<|Vs<|Vs<|rQ 8 (Vq (fun wq eq=>rla ag22 rfl (show _=some (Value.slice ba (resW none).length bc) from (hb.ext eq).cell 0))<|Vq (fun wq eq=>R.lit (R.eqlNil ru22 rfl rfl) (decide_eq_true hba))<|Vq (fun wq eq=>R.mvB rfl)<|qF<|qF<|qF<|qF<|qF<|Vj fun w1q e1q=>lF<|lF<|oP rfl rfl<|Vn<|Vg rfl<|Vr<|oS rfl<|VL.store (v:=.slice _ _ _) sz22 rfl rfl rfl rfl (hb.ext e1q) rfl rfl fun w2 m2 hs2 hB2=>Vn<|Vs<|Vr<|oA rfl<|Vn<|Vt<|tB rfl rfl rfl (?_))
  have M:Vc.Mod (Vc.one bb) w w2:=(e1q.weaken fun _ _ h=>h.elim).then m2 fun _ _ h=>h
  exact ⟨(),rfl,fin w2 hB2 M,M⟩
 | some b =>
  have hba:ba≠none:=fun h=>by have:=hnn.1 h;cases this
  have hW:=fun wq (eq:Ext w wq)=>total31_spec wa wc ws a c Z wq (TSl.ext hJ.wv eq) (by omega) (TSl.ext hS eq) (by omega) hwb hZ
  have hW2:=fun wq (eq:Ext w wq)=>total31_spec wa wc ws ba bc b wq (TSl.ext hJ.wv eq) (by omega) (TSl.ext hbv eq) (by have:=hJ.n;exact Nat.le_trans this (by decide)) hwb hJ.i
  refine Vs<|Vr<|oA rfl<|Vn<|Vs<|Vs<|rQ 8 (Vq (fun wq eq=>rla ag22 rfl (show _=some (Value.slice ba b.length bc) from (hb.ext eq).cell 0))<|Vq (fun wq eq=>R.lit (R.eqlNil ru22 rfl rfl) (decide_eq_false hba))<|Vq (fun wq eq=>R.mvB rfl)<|qT<|Vq (fun wq eq=>rla ag22 rfl (show _=some (Value.slice wa ws.length wc) from (hJ.wb.ext eq).cell 0))<|qT<|qS rfl<|qT<|VQ.callP (fun _ _ h k=>Mod.trans h k) call35 rfl (fun wq eq=>hW wq eq)<|qT<|Vq (fun wq eq=>rla ag22 rfl (show _=some (Value.slice wa ws.length wc) from (hJ.wb.ext eq).cell 0))<|qT<|Vq (fun wq eq=>rla ag22 rfl (show _=some (Value.slice ba b.length bc) from (hb.ext eq).cell 0))<|Vj fun w1q e1q=>lT<|Vp call35 rfl (hW2 _ e1q) fun w1_8 e1_8=>lT<|oL rfl rfl<|oQ rfl rfl<|Vn<|Vd rfl (fun c15=>Vr<|oS rfl<|VL.store (v:=.slice _ _ _) sz22 rfl rfl rfl rfl (hb.ext (e1q.trans e1_8)) rfl rfl fun w2 m2 hs2 hB2=>Vn<|Vs<|Vr<|oA rfl<|Vn<|Vt<|tB rfl rfl rfl (?_)) (fun c15=>Vk<|Vs<|Vr<|oA rfl<|Vn<|Vt<|tB rfl rfl rfl (?_)))
  ·have M:Vc.Mod (Vc.one bb) w w2:=((e1q.trans e1_8).weaken fun _ _ h=>h.elim).then m2 fun _ _ h=>h
   exact ⟨(),rfl,by unfold exS;dsimp only;rw [if_pos c15];exact fin w2 hB2 M,M⟩
  ·have e:=e1q.trans e1_8
   refine ⟨(),rfl,by unfold exS;dsimp only;rw [if_neg c15];exact ⟨⟨ba,bc,hb.ext e,hnn,hax,TSl.ext hbv e,hbq⟩,hJ.wb.ext e,TSl.ext hJ.wv e,hJ.i,hJ.n⟩,Ext.mod e⟩
theorem runF_no {σ:Type} {f:σ→List Int→σ×Bool} (hf:∀ s S,(f s S).2=false):∀ (L:List (List Int)) (s:σ),runF f s L=(L.foldl (fun s S=>(f s S).1) s,none)
 | [],s=>rfl
 | S :: L,s=>by
  rw [show runF f s (S :: L)=if (f s S).2=true then ((f s S).1,some S) else runF f (f s S).1 L from rfl,if_neg (by rw [hf];decide),runF_no hf L];rfl
def minW (ws:List Int) (L:List (List Int)):Option (List Int):=L.foldl (exS ws) none
theorem run_min (ws:List Int) (L:List (List Int)):runF (exF ws) none L=(minW ws L,none):=runF_no (fun _ _=>rfl) L none
theorem exJ_hd {bb bw:Nat} {wa:Option Addr} {wc:Nat} {ws vs:List Int} {B:Nat} (hwl:ws.length≤4000) (hwb:∀ x∈ws,-1000000000≤x∧x≤1000000000) (hbB:bb<B) (hbw:bw<B) (hne:bb≠bw) (hvw:∀ q,0<ws.length→aBlk wa q→q≠bb∧q<B) (hvl:vs.length≤4000) (hvs:∀ v∈vs,0≤v∧v<(ws.length:Int)) :
  HdC (exF ws) 66 [pA bb,pA bw] vs (ExJ bb bw wa wc ws B) (Vc.one bb) B:=by
 refine ⟨call66,fun t s w a c S hBt hJ ha hS hq hl hm=>?_,fun t s w w' hBt hJ m=>?_,fun q (hq:q=_)=>by omega⟩
 ·exact ext1_spec bb bw wa wc ws B t s w a c S hJ hwl hwb hbB hbw hne (fun q hp hk=>(hvw q hp hk).1) ha hS hq (by omega) (fun v hv=>hvs v (hm v hv))
 ·obtain ⟨a,c,h1,h2,h3,h4,h5⟩:=hJ.box
  refine ⟨⟨a,c,h1.mod m fun (q:_=_)=>by omega,h2,h3,modP h4 m fun q _ hq (e:_=_)=>(h5 q hq).1 e,h5⟩,hJ.wb.mod m fun (q:_=_)=>by omega,modP hJ.wv m fun q hp hk (e:_=_)=>by have:=(hvw q hp hk).2;omega,hJ.i,hJ.n⟩
theorem lex_first {A C:List Int} {v:Nat} (hA:Inc A) (hC:Inc C) (hv:(v:Int)∈A) (hn:(v:Int)∉C) (hb:∀ x,x<(v:Int)→(x∈A↔x∈C)):lexB A C=true∨∀ x∈C,x∈A:=by
 obtain ⟨S,hS,hSv⟩:=below_split (v:=v) hA
 obtain ⟨T,hT,hTv⟩:=below_split (v:=v) hC
 have hbl:below A v=below C v:=inc_ext (hA.sublist List.filter_sublist) (hC.sublist List.filter_sublist) fun x=>by
  rw [below_mem,below_mem]
  exact ⟨fun h=>⟨(hb x h.2).1 h.1,h.2⟩,fun h=>⟨(hb x h.2).2 h.1,h.2⟩⟩
 have hvS:(v:Int)∈S:=by
  rw [hS] at hv
  rcases List.mem_append.1 hv with h | h
  ·have:=(below_mem.1 h).2;omega
  ·exact h
 cases T with
 | nil =>
  refine .inr fun x hx=>?_
  rw [hT,List.append_nil,←hbl] at hx
  exact (below_mem.1 hx).1
 | cons t T =>
  refine .inl ?_
  rw [hS,hT,hbl,lex_app]
  cases S with
  | nil=>cases hvS
  | cons s S =>
   have hs:s=(v:Int):=by
    have h1:=hSv s (by simp)
    rcases List.mem_cons.1 hvS with h | h
    ·exact h.symm
    ·have hi:Inc (s :: S):=by
      rw [hS] at hA;exact (List.pairwise_append.1 hA).2.1
     have:=(List.pairwise_cons.1 hi).1 _ h
     omega
   have ht:=hTv t (by simp)
   have htn:t≠(v:Int):=fun e=>hn (by rw [hT];exact List.mem_append_right _ (by simp [e]))
   show (if s<t then true else _)=true
   rw [if_pos (by omega)]
theorem lex_asym {A C:List Int} (h1:lexB A C=true) (h2:lexB C A=true):False:=by
 have:=lexB_sto.asym h1
 rw [h2] at this;cases this
theorem lex_parts {g:Gr} (hg:validG g=true) {R Q:List Int} (hR:IsRep g R) (hQ:IsRep g Q) (h:∀ c∈compsG g,inK c Q c.length=inK c R c.length∨lexB (inK c Q c.length) (inK c R c.length)=true):lexB R Q=false:=by
 rw [←Bool.not_eq_true]
 intro hlt
 have hRs:=setB_iff.1 hR.set
 have hQs:=setB_iff.1 hQ.set
 have key:∀ (n v:Nat),v<n→((v:Int)∈R↔(v:Int)∈Q):=by
  intro n
  induction n with
  | zero=>exact fun v h=>absurd h (Nat.not_lt_zero _)
  | succ n ih =>
   intro v hv
   have hbl:∀ x,x<(v:Int)→(x∈R↔x∈Q):=fun x hx=>by
    by_cases h0:0≤x
    ·have:=ih x.toNat (by omega)
     rwa [show ((x.toNat:Nat):Int)=x by omega] at this
    ·exact ⟨fun h=>absurd (hRs.2 x h).1 h0,fun h=>absurd (hQs.2 x h).1 h0⟩
   by_cases hvR:(v:Int)∈R
   ·refine ⟨fun _=>Classical.byContradiction fun hvQ=>?_,fun _=>hvR⟩
    have hr:=hRs.2 _ hvR
    obtain ⟨hc,hvc,_⟩:=root_mem hg (i:=v) (by omega)
    obtain ⟨c,hcd⟩:∃ c,c=memsK (compE g.edges) g.n.toNat (compE g.edges v):=⟨_,rfl⟩
    rw [←hcd] at hc hvc
    have hci:=comp_inc hg hc
    obtain ⟨i1,i2,i3⟩:=ix_at hvc
    have hkR:=(parts_rep hg hR.set).1 hR c hc
    have hkQ:=(parts_rep hg hQ.set).1 hQ c hc
    have e1:(((ixI c (v:Int)).toNat:Nat):Int)=ixI c (v:Int):=by omega
    have m1:(((ixI c (v:Int)).toNat:Nat):Int)∈inK c R c.length:=by rw [e1];exact (inK_ix hvc).2 hvR
    have m2:(((ixI c (v:Int)).toNat:Nat):Int)∉inK c Q c.length:=by rw [e1];exact fun hh=>hvQ ((inK_ix hvc).1 hh)
    have m3:∀ x,x<(((ixI c (v:Int)).toNat:Nat):Int)→(x∈inK c R c.length↔x∈inK c Q c.length):=fun x hx=>by
     rw [inK_mem,inK_mem]
     have:∀ i:Nat,i<c.length→x=(i:Int)→(c.getD i default∈R↔c.getD i default∈Q):=fun i hi e=>by
      refine hbl _ ?_
      have:=inc_at hci (i:=i) (j:=(ixI c (v:Int)).toNat) (by omega) (by omega)
      rwa [i3] at this
     exact ⟨fun ⟨i,h1,h2,h3⟩=>⟨i,h1,(this i h1 h3).1 h2,h3⟩,fun ⟨i,h1,h2,h3⟩=>⟨i,h1,(this i h1 h3).2 h2,h3⟩⟩
    have hne:inK c Q c.length≠inK c R c.length:=fun e=>m2 (by rw [e];exact m1)
    rcases lex_first (inK_inc _ _ _) (inK_inc _ _ _) m1 m2 m3 with h1 | h1
    ·rcases h c hc with h2 | h2
     ·exact hne h2
     ·exact lex_asym h1 h2
    ·exact hne (rep_anti hkQ hkR h1)
   ·refine ⟨fun h=>absurd h hvR,fun hvQ=>absurd ?_ hvR⟩
    exfalso
    rcases lex_first hQs.1 hRs.1 hvQ hvR (fun x hx=>(hbl x hx).symm) with h1 | h1
    ·exact lex_asym hlt h1
    ·have:=rep_anti hR hQ h1
     exact hvR (by rw [this];exact hvQ)
 have:R=Q:=inc_ext hRs.1 hQs.1 fun x=>by
  by_cases h0:0≤x
  ·have:=key (x.toNat+1) x.toNat (by omega)
   rwa [show ((x.toNat:Nat):Int)=x by omega] at this
  ·exact ⟨fun h=>absurd (hRs.2 x h).1 h0,fun h=>absurd (hQs.2 x h).1 h0⟩
 rw [this,lexB_sto.irr] at hlt
 cases hlt
theorem filt_inK (c R:List Int):∀ k,k≤c.length→(c.take k).filter (fun v=>decide (v∈R))=(inK c R k).map fun v=>c.getD v.toNat default:=by
 intro k
 induction k with
 | zero=>exact fun _=>rfl
 | succ k ih =>
  intro h
  rw [List.take_succ_eq_append_getElem (by omega),List.filter_append,ih (by omega),inK_succ,List.map_append,gget (l:=c) (by omega)]
  by_cases hm:c[k]∈R
  ·simp only [List.filter_cons,hm,decide_true,if_true,List.filter_nil,List.map_cons,List.map_nil]
   rw [show ((k:Nat):Int).toNat=k by omega,gget (l:=c) (by omega)]
  ·simp [hm]
theorem rep_in {g:Gr} {c r:List Int} (h:IsRep (partG g c) r):∀ v∈r,∃ i:Nat,i<c.length∧v=(i:Int):=fun v hv=>by
 have:=(setB_iff.1 h.set).2 v hv
 have hn:(partG g c).n=((c.length:Nat):Int):=rfl
 exact ⟨v.toNat,by omega,by omega⟩
theorem inc_getD {c:List Int} (hi:Inc c) {i j:Nat} (h1:i<c.length) (h2:j<c.length) (h:c.getD i default=c.getD j default):i=j:=by
 have a:=@inc_at c hi i j
 have b:=@inc_at c hi j i
 by_cases h3:i<j
 ·have:=a h3 h2;omega
 ·by_cases h4:j<i
  ·have:=b h4 h1;omega
  ·omega
theorem pairwise_ne_disj {g:Gr} (hg:validG g=true) {L:List (List Int)} (hL:∀ c∈L,c∈compsG g) (hn:L.Nodup) (F:List Int→List Int) (hF:∀ c∈L,∀ v∈F c,v∈c) (hFn:∀ c∈L,(F c).Nodup):(L.map F).flatten.Nodup:=by
 induction L with
 | nil=>exact List.Pairwise.nil
 | cons c L ih =>
  rw [List.map_cons,List.flatten_cons]
  have h1:=List.pairwise_cons.1 hn
  refine List.pairwise_append.2 ⟨hFn c (by simp),ih (fun d hd=>hL d (by simp [hd])) h1.2 (fun d hd=>hF d (by simp [hd])) (fun d hd=>hFn d (by simp [hd])),fun a ha b hb e=>?_⟩
  subst e
  obtain ⟨l,hl,hal⟩:=List.mem_flatten.1 hb
  obtain ⟨d,hd,rfl⟩:=List.mem_map.1 hl
  have h2:=hF c (by simp) a ha
  have h3:=hF d (by simp [hd]) a hal
  exact h1.1 d hd (comp_disj hg (hL c (by simp)) (hL d (by simp [hd])) h2 h3)
theorem le_inc:∀ {l:List Int},l.Pairwise (·≤·)→l.Nodup→Inc l
 | [],_,_=>List.Pairwise.nil
 | a :: l,h,hn=>by
  have h1:=List.pairwise_cons.1 h
  have h2:=List.pairwise_cons.1 hn
  refine List.pairwise_cons.2 ⟨fun b hb=>?_,le_inc h1.2 h2.2⟩
  have:=h1.1 b hb
  have:=h2.1 b hb
  omega
theorem sm_eq {α:Type} {f h:α→Int}:∀ {l:List α},(∀ x∈l,f x≤h x)→sm (l.map f)=sm (l.map h)→∀ x∈l,f x=h x
 | [],_,_,x,hx=>by cases hx
 | a :: l,hle,he,x,hx=>by
  have h1:=hle a (by simp)
  have h2:=sm_le f h (l:=l) fun y hy=>hle y (by simp [hy])
  rw [List.map_cons,List.map_cons] at he
  have he:f a+sm (l.map f)=h a+sm (l.map h):=he
  rcases List.mem_cons.1 hx with e | e
  ·rw [e];omega
  ·exact sm_eq (fun y hy=>hle y (by simp [hy])) (by omega) x e
def uniC (g:Gr) (F:List Int→List Int):List Int:=srtF ((compsG g).map F).flatten
theorem union_rep {g:Gr} (hg:validG g=true) {r:List Int→List Int} (hr:∀ c∈compsG g,IsRep (partG g c) (r c)):IsRep g (uniC g fun c=>whC c (r c))∧∀ c∈compsG g,inK c (uniC g fun c=>whC c (r c)) c.length=r c:=by
 obtain ⟨F,hF⟩:∃ F:List Int→List Int,F=fun c=>whC c (r c):=⟨_,rfl⟩
 have hFc:∀ c,F c=whC c (r c):=fun c=>by rw [hF]
 rw [←hF]
 obtain ⟨b,hb⟩:∃ b,b=uniC g F:=⟨_,rfl⟩
 rw [←hb]
 have hF1:∀ c∈compsG g,∀ v∈F c,v∈c:=fun c hc v hv=>by
  rw [hFc] at hv
  obtain ⟨x,hx,rfl⟩:=List.mem_map.1 hv
  obtain ⟨i,hi,rfl⟩:=rep_in (hr c hc) x hx
  rw [show ((i:Nat):Int).toNat=i by omega]
  exact gmem hi
 have hF2:∀ c∈compsG g,(F c).Nodup:=fun c hc=>by
  rw [hFc]
  refine List.pairwise_map.2 (List.Pairwise.imp_of_mem ?_ (inc_nodup (setB_iff.1 (hr c hc).set).1))
  intro x y hx hy hne e
  refine hne ?_
  obtain ⟨i,hi,rfl⟩:=rep_in (hr c hc) x hx
  obtain ⟨j,hj,rfl⟩:=rep_in (hr c hc) y hy
  rw [show ((i:Nat):Int).toNat=i by omega,show ((j:Nat):Int).toNat=j by omega] at e
  rw [inc_getD (comp_inc hg hc) hi hj e]
 have hbm:∀ v,v∈b↔∃ c∈compsG g,v∈F c:=fun v=>by
  rw [hb]
  unfold uniC
  rw [srtF_mem,List.mem_flatten]
  constructor
  ·rintro ⟨l,hl,h⟩
   obtain ⟨c,hc,rfl⟩:=List.mem_map.1 hl
   exact ⟨c,hc,h⟩
  ·rintro ⟨c,hc,h⟩
   exact ⟨_,List.mem_map_of_mem hc,h⟩
 have hbi:Inc b:=by
  have hn:=pairwise_ne_disj hg (L:=compsG g) (fun c h=>h) (comps_nodup hg) F hF1 hF2
  refine le_inc (by rw [hb];exact srtF_le _) ?_
  rw [hb]
  exact ((List.mergeSort_perm _ _).nodup_iff).2 hn
 have hbs:setB b g.n=true:=setB_iff.2 ⟨hbi,fun v hv=>by
  obtain ⟨c,hc,h⟩:=(hbm v).1 hv
  exact (setB_iff.1 (comps_set hg hc)).2 v (hF1 c hc v h)⟩
 have hpart:∀ c∈compsG g,inK c b c.length=r c:=fun c hc=>by
  have hci:=comp_inc hg hc
  refine inc_ext (inK_inc _ _ _) (setB_iff.1 (hr c hc).set).1 fun x=>?_
  rw [inK_mem]
  constructor
  ·rintro ⟨i,hi,hm,rfl⟩
   obtain ⟨d,hd,h4⟩:=(hbm _).1 hm
   have hcd:=comp_disj hg hc hd (gmem hi) (hF1 d hd _ h4)
   subst hcd
   rw [hFc] at h4
   obtain ⟨y,hy,h5⟩:=List.mem_map.1 h4
   obtain ⟨j,hj,rfl⟩:=rep_in (hr c hc) y hy
   rw [show ((j:Nat):Int).toNat=j by omega] at h5
   rw [←inc_getD hci hj hi h5];exact hy
  ·intro hx
   obtain ⟨i,hi,rfl⟩:=rep_in (hr c hc) x hx
   refine ⟨i,hi,(hbm _).2 ⟨c,hc,?_⟩,rfl⟩
   rw [hFc]
   have:=List.mem_map_of_mem (f:=fun v:Int=>c.getD v.toNat default) hx
   rwa [show ((i:Nat):Int).toNat=i by omega] at this
 exact ⟨(parts_rep hg hbs).2 fun c hc=>by rw [hpart c hc];exact hr c hc,hpart⟩
theorem tot_parts {g:Gr} (hg:validG g=true) {ws R:List Int} (hR:setB R g.n=true):totW ws R=sm ((compsG g).map fun c=>totW ws (whC c (inK c R c.length))):=by
 have h:=rep_sum hg hR (wtF ws)
 unfold totW
 rw [h]
 refine sm_congr _ _ fun c hc=>?_
 have h1:=filt_inK c R c.length (Nat.le_refl _)
 rw [List.take_length] at h1
 rw [h1];rfl
theorem skol {α β:Type} [Inhabited β] {l:List α} {P:α→β→Prop} (h:∀ c∈l,∃ r,P c r):∃ r:α→β,∀ c∈l,P c (r c):=by
 refine ⟨fun c=>Classical.epsilon fun r=>P c r,fun c hc=>?_⟩
 exact Classical.epsilon_spec (h c hc)
def minC (ws:List Int) (g:Gr) (c:List Int):List Int:=resW (minW ws (repsW (partG g c) c))
def catX (ws:List Int) (g:Gr) (k:Nat):List Int:=(((compsG g).take k).map (minC ws g)).flatten
theorem catX_succ {ws:List Int} {g:Gr} {k:Nat} (h:k<(compsG g).length):catX ws g (k+1)=catX ws g k++minC ws g ((compsG g).getD k default):=by
 unfold catX
 rw [List.take_succ_eq_append_getElem h,List.map_append,List.flatten_append,gget h]
 simp
def extG (ws:List Int) (g:Gr):List Int:=uniC g (minC ws g)
theorem minW_mem {ws:List Int}:∀ {L:List (List Int)} {o:Option (List Int)} {b:List Int},L.foldl (exS ws) o=some b→o=some b∨b∈L
 | [],o,b,h=>.inl h
 | S :: L,o,b,h=>by
  rcases minW_mem (L:=L) h with h | h
  ·unfold exS at h
   split at h
   ·injection h with h;exact .inr (by rw [h];exact List.mem_cons_self)
   ·split at h
    ·injection h with h;exact .inr (by rw [h];exact List.mem_cons_self)
    ·exact .inl h
  ·exact .inr (List.mem_cons_of_mem _ h)
theorem minC_mem {ws:List Int} {g:Gr} {c:List Int}:minC ws g c=[]∨∃ r∈repsG (partG g c),minC ws g c=whC c r:=by
 unfold minC minW
 cases h:(repsW (partG g c) c).foldl (exS ws) none with
 | none=>exact .inl rfl
 | some b =>
  rcases minW_mem h with h2 | h2
  ·cases h2
  ·obtain ⟨r,hr,rfl⟩:=List.mem_map.1 h2
   exact .inr ⟨r,hr,rfl⟩
theorem minC_in {ws:List Int} {g:Gr} (hg:validG g=true) {c:List Int} (hc:c∈compsG g):(minC ws g c).length≤c.length∧∀ v∈minC ws g c,v∈c:=by
 have hpv:=part_valid hg (comps_set hg hc)
 rcases minC_mem (ws:=ws) (g:=g) (c:=c) with h | ⟨r,hr,h⟩
 ·rw [h];exact ⟨Nat.zero_le _,fun _ hv=>nomatch hv⟩
 ·have hs:=setB_iff.1 ((reps_mem hpv).1 hr).set
  have hn:(partG g c).n=((c.length:Nat):Int):=rfl
  have h1:=set_len hs.1 hs.2 (by omega)
  rw [h,whC_len]
  exact ⟨by omega,whC_sub fun v hv=>by have:=hs.2 v hv;omega⟩
theorem min_best {ws:List Int} {h:List Int→List Int} {L:List (List Int)} (hup:Up lexB L) (hL:L≠[]) :
  ∃ r∈L,minW ws (L.map h)=some (h r)∧∀ r'∈L,totW ws (h r)<totW ws (h r')∨totW ws (h r)=totW ws (h r')∧(r=r'∨lexB r r'=true):=by
 have snoc:∀ (L:List (List Int)) (x:List Int),minW ws ((L++[x]).map h)=exS ws (minW ws (L.map h)) (h x):=fun L x=>by
  unfold minW
  rw [List.map_append,List.foldl_append];rfl
 have key:∀ k,k<L.length→∃ r∈L.take (k+1),minW ws ((L.take (k+1)).map h)=some (h r)∧∀ r'∈L.take (k+1),totW ws (h r)<totW ws (h r')∨totW ws (h r)=totW ws (h r')∧(r=r'∨lexB r r'=true):=by
  intro k
  induction k with
  | zero =>
   intro hk
   rw [List.take_succ_eq_append_getElem hk,snoc]
   refine ⟨L[0],List.mem_append_right _ (List.mem_singleton.2 rfl),rfl,fun r' hr'=>?_⟩
   have:r'=L[0]:=by simpa using hr'
   rw [this];exact .inr ⟨rfl,.inl rfl⟩
  | succ k ih =>
   intro hk
   obtain ⟨r,hr,he,hall⟩:=ih (by omega)
   rw [List.take_succ_eq_append_getElem hk,snoc,he]
   by_cases hlt:totW ws (h L[k+1])<totW ws (h r)
   ·refine ⟨L[k+1],List.mem_append_right _ (List.mem_singleton.2 rfl),by unfold exS;dsimp only;rw [if_pos hlt],fun r' hr'=>?_⟩
    rcases List.mem_append.1 hr' with h1 | h1
    ·rcases hall r' h1 with h2 | ⟨h2,_⟩
     ·exact .inl (by omega)
     ·exact .inl (by omega)
    ·rw [List.mem_singleton.1 h1];exact .inr ⟨rfl,.inl rfl⟩
   ·refine ⟨r,List.mem_append_left _ hr,by unfold exS;dsimp only;rw [if_neg hlt],fun r' hr'=>?_⟩
    rcases List.mem_append.1 hr' with h1 | h1
    ·exact hall r' h1
    ·rw [List.mem_singleton.1 h1]
     by_cases he:totW ws (h r)=totW ws (h L[k+1])
     ·refine .inr ⟨he,.inr ?_⟩
      obtain ⟨i,hi,rfl⟩:=List.getElem_of_mem hr
      rw [List.getElem_take]
      rw [List.length_take] at hi
      exact List.pairwise_iff_getElem.1 hup i (k+1) (by omega) hk (by omega)
     ·exact .inl (by omega)
 have hp:=List.length_pos_iff.2 hL
 obtain ⟨r,hr,he⟩:=key (L.length-1) (by omega)
 rw [show L.length-1+1=L.length by omega,List.take_length] at hr he
 exact ⟨r,hr,he⟩
structure Least (g:Gr) (ws b:List Int):Prop where
 rep:IsRep g b
 le:∀ R,IsRep g R→totW ws b≤totW ws R
 first:∀ R,IsRep g R→totW ws R=totW ws b→lexB R b=false
theorem Least.unique {g:Gr} {ws b c:List Int} (h:Least g ws b) (k:Least g ws c):b=c:=by
 have h1:=h.le c k.rep
 have h2:=k.le b h.rep
 have h3:=h.first c k.rep (by omega)
 have h4:=k.first b h.rep (by omega)
 exact lexB_sto.tot _ _ h4 h3
theorem ext_least {g:Gr} (hg:validG g=true) (ws:List Int):Least g ws (extG ws g):=by
 obtain ⟨r,hr⟩:=skol (l:=compsG g) (P:=fun c r=>IsRep (partG g c) r∧minC ws g c=whC c r∧∀ r',IsRep (partG g c) r'→totW ws (whC c r)<totW ws (whC c r')∨totW ws (whC c r)=totW ws (whC c r')∧(r=r'∨lexB r r'=true)) fun c hc=>by
  have hpv:=part_valid hg (comps_set hg hc)
  obtain ⟨r,h1,h2,h3⟩:=min_best (ws:=ws) (h:=whC c) (L:=repsG (partG g c)) (reps_up hpv) (reps_ne hpv)
  exact ⟨r,(reps_mem hpv).1 h1,by unfold minC repsW;rw [h2];rfl,fun r' hr'=>h3 r' ((reps_mem hpv).2 hr')⟩
 have he:extG ws g=uniC g fun c=>whC c (r c):=by
  unfold extG uniC
  rw [List.map_congr_left fun c hc=>(hr c hc).2.1]
 obtain ⟨h1,h2⟩:=union_rep hg (r:=r) fun c hc=>(hr c hc).1
 rw [he]
 have ht:=tot_parts hg (ws:=ws) h1.set
 have hle:∀ R,IsRep g R→∀ c∈compsG g,totW ws (whC c (inK c (uniC g fun c=>whC c (r c)) c.length))≤totW ws (whC c (inK c R c.length)):=fun R hR c hc=>by
  rw [h2 c hc]
  have:=(hr c hc).2.2 _ ((parts_rep hg hR.set).1 hR c hc)
  omega
 refine ⟨h1,fun R hR=>?_,fun R hR e=>?_⟩
 ·rw [ht,tot_parts hg hR.set]
  exact sm_le _ _ (hle R hR)
 ·rw [ht,tot_parts hg hR.set] at e
  have heq:=sm_eq (hle R hR) e.symm
  refine lex_parts hg hR h1 fun c hc=>?_
  have h4:=heq c hc
  rw [h2 c hc] at h4 ⊢
  rcases (hr c hc).2.2 _ ((parts_rep hg hR.set).1 hR c hc) with h5 | ⟨_,h5⟩
  ·omega
  ·exact h5
theorem catX_len {ws:List Int} {g:Gr} (hg:validG g=true) (k:Nat):((catX ws g k).length:Int)≤g.n:=by
 have hs:=setB_iff.1 (ext_least hg ws).rep.set
 have h1:=set_len hs.1 hs.2 (costB_iff.1 (validG_iff.1 hg).1).1
 have h2:(catX ws g k).length≤(extG ws g).length:=by
  unfold extG uniC catX
  rw [srtF_len,←List.take_append_drop k (compsG g),List.map_append,List.flatten_append,List.length_append,List.take_append_drop]
  omega
 omega
theorem extreme31_spec (g:GrW) (wa:Option Addr) (wc:Nat) (ws:List Int) (B:Nat) (w:World) (hG:GOk w g) (hl:GLen g) (hv:validG (grV g)=true) (hW:IntSl w wa ws) (hwl:(ws.length:Int)=g.n) (hwb:∀ x∈ws,-1000000000≤x∧x≤1000000000) (hB:B≤w.heap.size) (hT:TabW B w) :
  RetsX prog 34 #[.agg (encGr g).toArray,.slice wa ws.length wc] w (fun y:Option Addr×Nat=>.slice y.1 (extG ws (grV g)).length y.2) (fun y w'=>OwnT Vc.encI 1 3 w.heap.size w' y.1 y.2 (extG ws (grV g))):=by
 have hn:=costB_iff.1 (validG_iff.1 hv).1
 have hn4:g.n≤4000:=hn.2.1
 obtain ⟨hcl,hce⟩:=compsL31 hv
 refine eN (args:=[_,_]) func34 rfl ntmps34 ?_
 refine Vs<|Vr<|VL.box (v:=.agg _) rfl fun b0_0 w0_0 hb0_0 e0_0 hB0_0=>VL.box (v:=.slice _ _ _) rfl fun b0_1 w0_1 hb0_1 e0_1 hB0_1=>oT rfl<|Vn<|Vs<|Vr<|oT rfl<|Vn<|Vs<|Vs<|Vr<|Vo (R.ldA ag25 sz25 rfl rfl (show RowAt _ _ _ (encGr g) from ((hB0_0.ext e0_1).rowAt 0 3)) rfl)<|VL.callX call42 rfl (comps31_spec g B _ (hG.ext (e0_0.trans e0_1)) hl hv (Nat.le_trans hB (e0_0.trans e0_1).size) (hT.ext hB (e0_0.trans e0_1))) fun z w3 hz e3=>Vo (R.lenS ru69 rfl)<|oI rfl<|Vn<|Vb (?_)
 obtain ⟨za,zc,L⟩:=z
 obtain ⟨hL,hLv⟩:=hz
 dsimp only at hL hLv ⊢
 have E3:Ext w w3:=(e0_0.trans e0_1).trans e3
 have hbw3:Blk w3 b0_1 (.cells #[.slice wa ws.length wc] 22 (0,0)):=hB0_1.ext e3
 have hLl:L.length=(compsG (grV g)).length:=by have:=congrArg List.length hLv;simpa using this
 have hLk:∀ k,k<L.length→cmV (L.getD k default)=(partG (grV g) ((compsG (grV g)).getD k default),(compsG (grV g)).getD k default):=fun k hk=>by
  have h1:(L.map cmV).getD k default=cmV (L.getD k default):=gmap cmV L default hk
  rw [←h1,hLv]
  exact gmap (fun c=>(partG (grV g) c,c)) (compsG (grV g)) default (by omega)
 refine Vl [3,5,10,11,12] (fun x:Nat×Option Addr×Nat=>[pA b0_1,.slice x.2.1 (catX ws (grV g) x.1).length x.2.2,.slice za L.length zc,.int .i64 (L.length:Nat),.int .i64 (x.1:Nat)])
  (fun x w'=>x.1≤L.length∧OwnT Vc.encI 1 3 w3.heap.size w' x.2.1 x.2.2 (catX ws (grV g) x.1)∧Ext w3 w') (fun x=>L.length-x.1) (0,none,0) rfl ⟨Nat.zero_le _,OwnT.nil _ _ _ _ _,Vc.Mod.refl _ _⟩ ?_
 rintro ρ ⟨k,a5,c5⟩ w5 ⟨hk,ho,e5⟩
 dsimp only at hk ho e5 ⊢
 have hL5:=hL.ext e5
 have E5:=E3.trans e5
 have hcat:=catX_len (ws:=ws) hv k
 have hgn:(grV g).n=g.n:=rfl
 refine Vs<|Vr<|oL rfl rfl<|Vn<|Vs<|Vd rfl (fun c13=>Vk<|Vs<|Vb<|Vs (?_)) (fun c13=>Ve<|Vs (?_))
 ·have hkl:k<L.length:=by omega
  have hck:=hLk k hkl
  have hcm:(compsG (grV g)).getD k default∈compsG (grV g):=gmem (by omega)
  obtain ⟨y,hy⟩:∃ y,y=L.getD k default:=⟨_,rfl⟩
  have hyL:y∈L:=by rw [hy];exact gmem hkl
  have hvl:y.vs.l=(compsG (grV g)).getD k default:=by rw [←hy] at hck;exact congrArg Prod.snd hck
  have hgv:grV y.g=partG (grV g) y.vs.l:=by rw [hvl];rw [←hy] at hck;exact congrArg Prod.fst hck
  rw [←hvl] at hcm
  have hset:=comps_set hv hcm
  have hpv:=part_valid hv hset
  have hy5:=hL5.each y hyL
  refine Vr<|Vo (iX ru69 sz72 rfl rfl (hL5.own.sl.some (i:=k) hkl))<|Vo (R.ldA ag72 sz72 rfl rfl (show RowAt _ _ _ (encCmI (L.getD k default)) from (hL5.own.sl.row (i:=k) hkl)) rfl)<|VL.allocSt (v:=.agg (encCmI (L.getD k default)).toArray) zv72 sz72 rfl rfl rfl rfl rfl fun b4_2 w4_2 hb4_2 e4_2 hB4_2=>Vn<|Vs<|Vr<|VL.alloc zv22 fun b5_0 w5_0 hb5_0 e5_0 hB5_0=>Vn<|Vs (?_)
  rw [←hy] at hB4_2 ⊢
  have hbb:Blk w5_0 b5_0 (.cells #[.slice none 0 0] 22 (0,0)):=hB5_0
  have hcb:Blk w5_0 b4_2 (.cells (Value.agg (encCmI y).toArray).cells 72 (0,0)):=hB4_2.ext e5_0
  have z3:=E3.size;have z5:=e5.size;have z4:=e4_2.size;have z50:=e5_0.size
  have lbw:=hbw3.lt;have lbb:=hbb.lt
  have hyn:y.g.n=(y.vs.l.length:Int):=by
   have h1:(grV y.g).n=(partG (grV g) y.vs.l).n:=by rw [hgv]
   exact h1
  have hvy:validG (grV y.g)=true:=by rw [hgv];exact hpv
  have hwa:∀ q,0<ws.length→aBlk wa q→q≠b5_0∧q<w5_0.heap.size:=fun q hp ⟨ad,ha,hq⟩=>by
   have:=TSl.lt hW hp
   rw [ha] at this
   have:ad.block<w.heap.size:=this
   omega
  have hvs:∀ v∈y.vs.l,0≤v∧v<(ws.length:Int):=fun v hv'=>by
   have:=(setB_iff.1 hset).2 v hv'
   have h2:(grV g).n=g.n:=rfl
   omega
  have hHd:=exJ_hd (bb:=b5_0) (bw:=b0_1) (wa:=wa) (wc:=wc) (ws:=ws) (vs:=y.vs.l) (B:=w5_0.heap.size) (by omega) hwb lbb (by omega) (by omega) hwa (hce _ hcm) hvs
  have hf:=cfirst_spec (exF ws) _ _ _ _ y.g y.vs.a y.vs.c y.vs.l w5_0 w4_2 hHd none (hy5.g.ext e4_2) hy5.l hvy hyn (hy5.v.ext e4_2) e5_0 (fun q (hq:q=_)=>by omega) (fun t w' ht e=>⟨⟨none,0,hbb.ext e,⟨fun _=>rfl,fun _=>rfl⟩,fun _=>rfl,TSl.nil _ _ _ _,fun q ⟨_,h,_⟩=>(by cases h)⟩,(hbw3.ext e5).ext (e4_2.trans (e5_0.trans e)),TSl.ext hW (E5.trans (e4_2.trans (e5_0.trans e))),(fun _ h=>nomatch h),Nat.zero_le _⟩)
  rw [run_min] at hf
  refine Vr<|Vo (R.ldA ag72 sz72 rfl rfl (show RowAt _ _ _ (encCmI y) from hcb.rowAt 0 4) rfl)<|Vo (R.mkFn rfl rfl)<|VL.callY call43 rfl (hf) fun u w6 h6=>Vn (?_)
  obtain ⟨⟨t,ht,hJ⟩,m6,_⟩:=h6
  obtain ⟨a,c,hb6,_,hax,hS6,_⟩:=hJ.box
  have e56:Ext w5 w6:=(e4_2.trans e5_0).ownA m6 fun q (hq:q=_)=>by omega
  have hmc:resW (minW ws (repsW (grV y.g) y.vs.l))=minC ws (grV g) y.vs.l:=by unfold minC;rw [hgv]
  dsimp only at hb6 hS6
  rw [hmc] at hb6 hS6
  have hmin:=minC_in (ws:=ws) hv hcm
  have hcl2:=hce _ hcm
  refine Vr<|oS rfl<|Vo (rla ag22 rfl (show _=some (Value.slice a (minC ws (grV g) y.vs.l).length c) from hb6.cell 0))<|VL.appendT el22 (fun _=>rfl) rfl (rfl) (ho.ext e56) rfl (rfl) (hS6) (hax) (by omega) (by unfold maxLen;omega) (e5.trans e56).size rfl fun a9 c9 w9 ho9 m9 hf9=>oT rfl<|Vn<|Vr<|oD rfl rfl<|oI rfl<|Vn (?_)
  have hs:catX ws (grV g) (k+1)=catX ws (grV g) k++minC ws (grV g) y.vs.l:=by rw [catX_succ (by omega),hvl]
  refine ⟨(k+1,a9,c9),by dsimp only;rw [hs,List.length_append];rfl,⟨by dsimp only;omega,by dsimp only;rw [hs];exact ho9,?_⟩,by dsimp only;omega⟩
  exact (e5.trans e56).ownA m9 fun q hq=>ho.ge q hq
 ·have hke:k=L.length:=by omega
  subst hke
  refine Vr<|oS rfl<|VL.callK call47 rfl (sortI_spec a5 c5 w3.heap.size (catX ws (grV g) L.length) _ ho (by omega)) fun w12 h12=>Vn<|Vs<|Vr<|oS rfl<|oT rfl<|Vn<|Vt (fret1 (v:=.slice _ _ _) rfl rfl rfl (?_))
  have hex:extG ws (grV g)=srtF (catX ws (grV g) L.length):=by
   unfold extG uniC catX
   rw [hLl,List.take_length]
  rw [hex]
  have z3:=E3.size
  exact ⟨(a5,c5),by rw [srtF_len],h12.2.weaken z3,E5.ownA h12.1 fun q hq=>by have:=ho.ge q hq;omega⟩
def cerF (E:List (List Int)) (v:Int):Int:=match adjK E E.length v with
 | []=>0
 | i :: _=>if (E.getD i.toNat default).length=1 then 0 else 1
theorem cerF_01 (E:List (List Int)) (v:Int):cerF E v=0∨cerF E v=1:=by
 unfold cerF
 split
 ·exact .inl rfl
 ·split
  ·exact .inl rfl
  ·exact .inr rfl
abbrev GrB (w:World) (b:Nat) (g:GrW):Prop:=Blk w b (.cells (Value.agg (encGr g).toArray).cells 25 (0,0))
structure CeA (x:AgX) (st:List Int) (b1 b2:Nat) (w:World):Prop where
 a:AgA x st b1 w
 g:GrB w b2 x.g
theorem CeA.ext {x:AgX} {st:List Int} {b1 b2:Nat} {w w':World} (h:CeA x st b1 b2 w) (e:Ext w w'):CeA x st b1 b2 w':=⟨h.a.ext e,h.g.ext e⟩
theorem certain31_spec (x:AgX) (N:Nat) (st:List Int) (b1 b2:Nat) (v:Int) (w:World) (h:CeA x st b1 b2 w) (hR:AgR x N) (h0:0≤v) (h1:v<(N:Int)) :
  RetsP prog 68 #[.int .i64 v,pA b1,pA b2] w (.int .i64 (cerF (vals x.g.edges) v)):=by
 obtain ⟨a1,a2,a3⟩:=hR.adj h0 h1
 have hg:=h.a.1.g
 have hz:=h.a.1.z
 have hcer:cerF (vals x.g.edges) v=if (x.z.getD v.toNat default).l=[] then 0 else if ((vals x.g.edges).getD ((x.z.getD v.toNat default).l.getD 0 default).toNat default).length=1 then 0 else 1:=by
  unfold cerF
  rw [←a2]
  cases (x.z.getD v.toNat default).l with
  | nil=>rfl
  | cons i L=>rw [if_neg (List.cons_ne_nil _ _)];rfl
 have hfi:0<(x.z.getD v.toNat default).l.length→∃ i:Nat,i<x.g.edges.length∧(x.z.getD v.toNat default).l.getD 0 default=(i:Int)∧((vals x.g.edges).getD ((x.z.getD v.toNat default).l.getD 0 default).toNat default)=(x.g.edges.getD i default).l∧(x.g.edges.getD i default).l.length≤1000000:=fun hk=>by
  obtain ⟨i,hi,he,_⟩:=hR.adjat h0 h1 hk
  obtain ⟨e1,_,e3⟩:=hR.edge hi
  exact ⟨i,hi,he,by rw [he,Int.toNat_natCast,e1],e3⟩
 have hzb:=hz.sl
 refine eN (args:=[_,_,_]) func68 rfl ntmps68 ?_
 by_cases hnil:(x.z.getD v.toNat default).l=[]
 ·rw [hcer,if_pos hnil]
  have hl0:(x.z.getD v.toNat default).l.length=0:=by rw [hnil];rfl
  refine Vs<|Vr<|oJ rfl<|Vn<|Vs<|Vs<|rQ 21 (Vq (fun wq eq=>rla ag92 rfl (show _=some (Value.pointer (some ⟨x.p,0,none⟩)) from (h.a.2.ext eq).cell 0))<|Vq (fun wq eq=>R.nilCheck rfl)<|Vq (fun wq eq=>R.fld' (o:=3) ru95 rfl rfl sz23 rfl rfl)<|Vq (fun wq eq=>rla ag23 rfl (show _=some (Value.slice (some ⟨x.zb,0,none⟩) x.z.length x.z.length) from (h.a.1.blk.ext eq).cell 3))<|qI rfl<|Vq (fun wq eq=>iX ru23 sz22 rfl rfl (hzb.some (i:=v.toNat) (by omega)))<|Vq (fun wq eq=>rla ag22 rfl (((hzb.ext eq).row (i:=v.toNat) (by omega)).c0a rfl))<|Vq (fun wq eq=>R.lenS ru22 rfl)<|Vq (fun wq eq=>R.lit (R.eql rfl rfl) (decide_eq_true (by omega)))<|Vq (fun wq eq=>R.mvB rfl)<|qF<|qF<|qF<|qF<|qF<|qF<|qF<|qF<|qF<|qF<|qF<|Vj fun w1q e1q=>lF<|lF<|lF<|lF<|oP rfl rfl<|Vn<|Vg rfl<|Vs<|Vr<|oJ rfl<|Vn<|Vt (fret1 (v:=.int _ _) rfl rfl rfl (⟨rfl,e1q⟩)))
 ·have hp:0<(x.z.getD v.toNat default).l.length:=List.length_pos_iff.2 hnil
  obtain ⟨i,hi,he,hv,hl⟩:=hfi hp
  rw [hcer,if_neg hnil,hv]
  have hzi:=hz.each _ (gmem a1)
  refine Vs<|Vr<|oJ rfl<|Vn<|Vs<|Vs<|rQ 21 (Vq (fun wq eq=>rla ag92 rfl (show _=some (Value.pointer (some ⟨x.p,0,none⟩)) from (h.a.2.ext eq).cell 0))<|Vq (fun wq eq=>R.nilCheck rfl)<|Vq (fun wq eq=>R.fld' (o:=3) ru95 rfl rfl sz23 rfl rfl)<|Vq (fun wq eq=>rla ag23 rfl (show _=some (Value.slice (some ⟨x.zb,0,none⟩) x.z.length x.z.length) from (h.a.1.blk.ext eq).cell 3))<|qI rfl<|Vq (fun wq eq=>iX ru23 sz22 rfl rfl (hzb.some (i:=v.toNat) (by omega)))<|Vq (fun wq eq=>rla ag22 rfl (((hzb.ext eq).row (i:=v.toNat) (by omega)).c0a rfl))<|Vq (fun wq eq=>R.lenS ru22 rfl)<|Vq (fun wq eq=>R.lit (R.eql rfl rfl) (decide_eq_false (by omega)))<|Vq (fun wq eq=>R.mvB rfl)<|qT<|Vq (fun wq eq=>R.fld' (o:=2) ru25 rfl rfl sz23 rfl rfl)<|qT<|Vq (fun wq eq=>rla ag23 rfl (show _=some (Value.slice x.g.ea x.g.edges.length x.g.ec) from (h.g.ext eq).cell 2))<|qT<|Vq (fun wq eq=>rla ag92 rfl (show _=some (Value.pointer (some ⟨x.p,0,none⟩)) from (h.a.2.ext eq).cell 0))<|qT<|Vq (fun wq eq=>R.nilCheck rfl)<|qT<|Vq (fun wq eq=>R.fld' (o:=3) ru95 rfl rfl sz23 rfl rfl)<|qT<|Vq (fun wq eq=>rla ag23 rfl (show _=some (Value.slice (some ⟨x.zb,0,none⟩) x.z.length x.z.length) from (h.a.1.blk.ext eq).cell 3))<|qT<|qI rfl<|qT<|Vq (fun wq eq=>iX ru23 sz22 rfl rfl (hzb.some (i:=v.toNat) (by omega)))<|qT<|Vq (fun wq eq=>rla ag22 rfl (((hzb.ext eq).row (i:=v.toNat) (by omega)).c0a rfl))<|qT<|Vq (fun wq eq=>R.ixS ru22 sz3 rfl rfl (by decide) (by omega) (hzi.some (i:=0) hp))<|qT<|Vq (fun wq eq=>rla ag3 rfl (show _=some (Value.int .i64 (i:Nat)) from by rw [←he];exact ((TSl.ext hzi eq).row (i:=0) hp).c0a rfl))<|Vj fun w1q e1q=>lT<|Vo (iX ru23 sz22 rfl rfl (hg.e.sl.some (i:=i) hi))<|lT<|Vo (rla ag22 rfl (((hg.e.sl.ext e1q).row (i:=i) hi).c0a rfl))<|lT<|Vo (R.lenS ru22 rfl)<|lT<|Vo (R.eql rfl rfl)<|oQ rfl rfl<|Vn<|Vd rfl (fun c30=>Vs<|Vr<|oJ rfl<|Vn<|Vt (fret1 (v:=.int _ _) rfl rfl rfl (⟨?_,e1q⟩))) (fun c30=>Vk<|Vs<|Vr<|oJ rfl<|Vn<|Vt (fret1 (v:=.int _ _) rfl rfl rfl (⟨?_,e1q⟩))))
  ·rw [if_pos (by omega)]
  ·rw [if_neg (by omega)]
abbrev FcC (w:World) (b b1 b2:Nat):Prop:=Blk w b (.cells #[.func (.func 68) #[] #[pA b1,pA b2]] 61 (0,0))
theorem byCer_spec (x:AgX) (N:Nat) (st:List Int) (b b1 b2:Nat) (u v:Int) (w:World) (hb:FcC w b b1 b2) (h:CeA x st b1 b2 w) (hR:AgR x N) (hu0:0≤u) (hu1:u<(N:Int)) (h0:0≤v) (h1:v<(N:Int)) :
  RetsP prog 70 #[.int .i64 u,.int .i64 v,pA b] w (.int .i64 (cerF (vals x.g.edges) u-cerF (vals x.g.edges) v)):=by
 have c1:=cerF_01 (vals x.g.edges) u
 have c2:=cerF_01 (vals x.g.edges) v
 refine eN (args:=[_,_,_]) func70 rfl ntmps70 ?_
 refine Vs<|Vr<|oJ rfl<|Vn<|Vs<|rQ 5 (Vq (fun wq eq=>rla isAgg61 rfl (show _=some (Value.func (.func 68) #[] #[pA b1,pA b2]) from (hb.ext eq).cell 0))<|qI rfl<|VQ.callCP (fun _ _ h k=>Mod.trans h k) rfl (call68) rfl (fun wq eq=>certain31_spec x N st b1 b2 u _ (h.ext eq) hR hu0 hu1)<|Vq (fun wq eq=>rla isAgg61 rfl (show _=some (Value.func (.func 68) #[] #[pA b1,pA b2]) from (hb.ext eq).cell 0))<|qI rfl<|Vj fun w1q e1q=>VL.callCP rfl (call68) rfl (certain31_spec x N st b1 b2 v _ (h.ext e1q) hR h0 h1) fun w1_5 e1_5=>Vo (R.sub rfl rfl (by omega) (by omega))<|oJ rfl<|Vn<|Vt (fret1 (v:=.int _ _) rfl rfl rfl (⟨rfl,(e1q.trans e1_5)⟩)))
end Go.Proofs.YtdkhcipjenfcnaaGreatDoor

/- Aggregate: the order in which a proof branches. -/
namespace Go.Proofs.YtdkhcipjenfcnaaGreatDoor
open Go.Proofs.Tryz
set_option maxRecDepth 100000
set_option maxHeartbeats 16000000
open Go.Vc Go.Sort
theorem ins0_31 (g:Nat) (cb:List Value) (cap:Nat) (a:Option Addr) (w:World):RetsP prog 135 #[.slice a 0 cap,.int .i64 0,.int .i64 0,.func (.func g) #[] cb.toArray] w (.tuple #[]):=by
 refine eN (args:=[_,_,_,_]) func135 rfl ntmps135 ?_
 refine Vs<|Vr<|oI rfl<|oD rfl rfl<|oJ rfl<|Vn<|Vb (?_)
 refine Vl [2,8] (fun _:Unit=>[.int .i64 0,.int .i64 1]) (fun _ w'=>Ext w w') (fun _=>0) () rfl (Vc.Mod.refl _ _) ?_
 rintro ρ _ w1 e1
 refine Vs<|Vs<|Vr<|oI rfl<|oI rfl<|oL rfl rfl<|Vn<|Vd rfl (fun c14=>Vk<|Vs<|Vb<|Vs (?_)) (fun c14=>Ve (fend0 rfl (⟨rfl,e1⟩)))
 all_goals (exfalso;omega)
theorem stable0_31 (g:Nat) (cb:List Value) (cap:Nat) (a:Option Addr) (w:World):RetsP prog 103 #[.slice a 0 cap,.int .i64 0,.func (.func g) #[] cb.toArray] w (.tuple #[]):=by
 refine eN (args:=[_,_,_]) func103 rfl ntmps103 ?_
 refine Vs<|Vr<|oJ rfl<|Vn<|Vs<|Vr<|oI rfl<|oJ rfl<|oJ rfl<|Vn<|Vs<|Vb (?_)
 refine Vl [0,1,2,6,7,8] (fun _:Unit=>[.slice a 0 cap,.int .i64 0,.func (.func g) #[] cb.toArray,.int .i64 20,.int .i64 0,.int .i64 20]) (fun _ w'=>Ext w w') (fun _=>0) () rfl (Vc.Mod.refl _ _) ?_
 rintro ρ _ w1 e1
 refine Vs<|Vs<|Vr<|oI rfl<|oI rfl<|Vo (R.leq rfl rfl)<|Vn<|Vd rfl (fun c13=>Vk<|Vb<|Vs (?_)) (fun c13=>Ve<|Vs (?_))
 ·exfalso;omega
 ·refine Vr<|oS rfl<|oI rfl<|oI rfl<|Vo (R.mvF rfl)<|Vp call135 rfl (ins0_31 g cb cap a _) fun w6_4 e6_4=>Vn<|Vb (?_)
  refine Vl [1,6] (fun _:Unit=>[.int .i64 0,.int .i64 20]) (fun _ w'=>Ext w w') (fun _=>0) () rfl (e1.trans (by assumption)) ?_
  rintro ρ _ w2 e2
  refine Vs<|Vs<|Vr<|oI rfl<|oI rfl<|oL rfl rfl<|Vn<|Vd rfl (fun c30=>Vk<|Vb<|Vs (?_)) (fun c30=>Ve (fend0 rfl (⟨rfl,e2⟩)))
  all_goals (exfalso;omega)
theorem sort0_31 (g:Nat) (cb:List Value) (cap:Nat) (a:Option Addr) (w:World):RetsP prog 69 #[.slice a 0 cap,.func (.func g) #[] cb.toArray] w (.tuple #[]):=by
 refine eN (args:=[_,_]) func69 rfl ntmps69 ?_
 refine Vr<|oS rfl<|oS rfl<|Vo (R.lenS ru22 rfl)<|Vo (R.mvF rfl)<|Vp call103 rfl (stable0_31 g cb cap a _) fun w0_4 e0_4=>Vn (fend0 rfl (⟨rfl,e0_4⟩))
def cfC (E:List (List Int)) (N:Nat) (x y:{ v:Nat // v<N }):Int:=cerF E (x.1:Int)-cerF E (y.1:Int)
theorem swoC (E:List (List Int)) (N:Nat):SWO (StbI.ltf (cfC E N)) where
 irrefl x:=by simp [StbI.ltf,cfC]
 trans x y z h1 h2:=by
  have h1:=of_decide_eq_true h1
  have h2:=of_decide_eq_true h2
  refine decide_eq_true ?_
  unfold cfC at *;omega
 ntrans x y z h1 h2:=by
  have h1:=of_decide_eq_false h1
  have h2:=of_decide_eq_false h2
  refine decide_eq_false ?_
  unfold cfC at *;omega
def valC {N:Nat} (x:{ v:Nat // v<N }×Nat):Int:=(x.1.1:Int)
theorem tsl_map31 {α:Type} {pr:α→Int} {w:World} {a:Option Addr} {l:List α} (h:TSl (enI pr) 1 w a l):IntSl w a (l.map pr):=by
 show TSl Vc.encI 1 w a (l.map pr)
 unfold TSl at h ⊢
 rw [List.map_map];exact h
theorem extract_all {α:Type} (d:Array α) {n:Nat} (h:d.size=n):(d.extract 0 n).toList=d.toList:=by subst h;simp
structure OrdC (E:List (List Int)) (N:Nat) (O:List Nat):Prop where
 perm:O.Perm (List.range N)
 up:O.Pairwise fun u v:Nat=>cerF E ((u:Nat):Int)≤cerF E ((v:Nat):Int)
theorem order31_spec (x:AgX) (N:Nat) (hR:AgR x N) (st:List Int) (b b1 b2 B:Nat) (oa:Option Addr) (oc:Nat) (w:World) (ho:OwnT Vc.encI 1 3 B w oa oc (rngI N)) (hst:∀ w',Vc.Mod (aBlk oa) w w'→FcC w' b b1 b2∧CeA x st b1 b2 w') :
  RetsY prog 69 #[.slice oa N oc,.func (.func 70) #[] #[pA b]] w (fun _:List Nat=>.tuple #[]) (fun O w'=>Vc.Mod (aBlk oa) w w'∧IntSl w' oa (O.map fun v=>((v:Nat):Int))∧OrdC (vals x.g.edges) N O):=by
 have hN4:=hR.N4
 by_cases h0:N=0
 ·subst h0
  exact Rets.mono (sort0_31 70 [pA b] oc oa w) fun u w' ⟨hu,he⟩=>⟨[],hu,he.mod,TSl.nil _ _ _ _,List.Perm.refl _,List.Pairwise.nil⟩
 ·haveI:Inhabited { v:Nat // v<N }:=⟨⟨0,by omega⟩⟩
  obtain ⟨D,hD⟩:∃ D:Array ({ v:Nat // v<N }×Nat),D=Array.ofFn fun i:Fin N=>((⟨i.1,i.2⟩:{ v:Nat // v<N }),i.1):=⟨_,rfl⟩
  have hDs:D.size=N:=by rw [hD];simp
  have hDg:∀ q,q<N→D[q]!.1.1=q∧D[q]!.2=q:=fun q hq=>by
   rw [getElem!_pos D q (by omega)]
   subst hD
   rw [Array.getElem_ofFn]
   exact ⟨rfl,rfl⟩
  have hrl:(rngI N).length=N:=rngI_len N
  have hS0:Srt Vc.encI 1 w oa (rngI N).toArray w:=Srt.of_own ⟨fun _=>rfl,fun _=>rfl,by decide⟩ (by simpa using ho) (by simp;omega)
  have hS:Srt (enI valC) 1 w oa D w:=hS0.conv (by simp;omega) fun q hq=>by
   have hq:q<N:=by simpa [hrl] using hq
   show [Value.int .i64 ((D[q]!.1.1:Nat):Int)]=[Value.int .i64 ((rngI N).toArray[q]!)]
   rw [(hDg q hq).1,getElem!_pos _ q (by simp [hrl];exact hq)]
   unfold rngI
   simp
  have hC:StbI.CmpOk valC oa w 70 [pA b] (fun x' y:{ v:Nat // v<N }×Nat=>cfC (vals x.g.edges) N x'.1 y.1) :=
   ⟨eltOfI valC,call70,fun w' m u v=>by
    obtain ⟨k1,k2⟩:=hst w' m
    have hu:=u.1.2
    have hv:=v.1.2
    exact byCer_spec x N st b b1 b2 (u.1.1:Int) (v.1.1:Int) w' k1 k2 hR (by omega) (by omega) (by omega) (by omega)⟩
  have hcap:=ho.cap
  refine Rets.mono (StbI.sortStable_spec hC (swoC _ N) oc N (by omega) D w hS hDs fun i j hij hj=>?_) ?_
  ·rw [(hDg i (by omega)).2,(hDg j hj).2];exact hij
  ·rintro u w' ⟨d',rfl,h1,h2,h3⟩
   have hsl:=tsl_map31 (h3.sl hC.elt)
   have hd:d'.size=N:=h1.1.trans hDs
   refine ⟨d'.toList.map fun y=>y.1.1,rfl,h3.m,?_,?_,?_⟩
   ·rw [List.map_map];exact hsl
   ·have hp:=h1.2.2
    rw [extract_all d' hd,extract_all D hDs] at hp
    have hp2:=hp.map fun y=>y.1.1
    rwa [show D.toList.map (fun y=>y.1.1)=List.range N from List.ext_getElem (by simp [hDs]) fun i k1 k2=>by
     rw [List.length_range] at k2
     have:=(hDg i k2).1
     rw [getElem!_pos D i (by omega)] at this
     rw [List.getElem_map,List.getElem_range,Array.getElem_toList]
     exact this] at hp2
   ·rw [List.pairwise_map]
    refine List.pairwise_iff_getElem.2 fun i j hi hj hij=>?_
    rw [Array.length_toList] at hi hj
    have:=h2 i j (Nat.zero_le _) hij (by omega)
    rw [getElem!_pos d' i hi,getElem!_pos d' j hj] at this
    rw [Array.getElem_toList,Array.getElem_toList]
    have h5:=(Bool.or_eq_false_iff.1 this).1
    have h6:=of_decide_eq_false h5
    unfold cfC at h6
    omega
end Go.Proofs.YtdkhcipjenfcnaaGreatDoor
