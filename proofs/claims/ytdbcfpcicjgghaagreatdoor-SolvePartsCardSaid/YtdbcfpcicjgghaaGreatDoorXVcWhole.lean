/- Own library: the two parts of a choice of components; opposite weights. Plain. -/
import Derived.Test.YtdbcfpcicjgghaaGreatDoorXVcRepP
import Derived.Test.YtdbcfpcicjgghaaGreatDoorXVcDiv
import Derived.Test.YtdbcfpcicjgghaaGreatDoorXVcSrch4
namespace Go.Vc
set_option maxHeartbeats 16000000
set_option maxRecDepth 100000
theorem comps_eq {g:Gr} (hg:validG g=true):compsG g=grpsK (compE g.edges) g.n.toNat:=by unfold compsG;rw [if_pos hg]
theorem comp_ix {g:Gr} (hg:validG g=true) {i j:Nat} (hi:i<(compsG g).length) (hj:j<(compsG g).length) {v:Int} (h1:v∈(compsG g).getD i default) (h2:v∈(compsG g).getD j default):i=j:=by
 rw [comps_eq hg] at *
 rw [grpsK_len] at hi hj
 rw [←grp_pos hi h1,←grp_pos hj h2]
end Go.Vc

/- Own library: a part of whole components: repairs of the graph and of the part, the first ones, and ways about the part. Plain. -/
namespace Go.Vc
theorem whole_rep {g:Gr} (hg:validG g=true) {V S:List Int} (hV:Whole g V) (h:IsRep g S):IsRep (partG g V) (inK V S V.length):=by
 have hVs:=setB_iff.1 hV.set
 refine ⟨inK_set,fun e' he'=>?_,fun v h0 h1 hv=>?_⟩
 ·obtain ⟨e,he,hs,rfl⟩:=part_edges.1 he'
  rw [←Bool.not_eq_true]
  intro hh
  have hh:=subB_iff.1 hh
  have:=h.free e he
  rw [subB_iff.2 fun x hx=>(inK_ix (subB_iff.1 hs x hx)).1 (hh _ (List.mem_map_of_mem hx))] at this
  cases this
 ·have h1:v<(V.length:Int):=h1
  have hm:=get_mem (c:=V) (k:=v.toNat) (by omega)
  have hix:ixI V (V.getD v.toNat default)=v:=by rw [ix_get hVs.1 (by omega)];omega
  have hvS:V.getD v.toNat default∉S:=fun hh=>hv (by rw [←hix];exact (inK_ix hm).2 hh)
  have hr:=hVs.2 _ hm
  obtain ⟨e,he,hve,hall⟩:=h.max _ hr.1 hr.2 hvS
  have hin:∀ x∈e,x∈V:=by
   rcases hV.edge hg he with h2 | h2
   ·exact h2
   ·exact absurd hm (h2 _ hve)
  refine ⟨e.map (ixI V),part_edges.2 ⟨e,he,subB_iff.2 hin,rfl⟩,by rw [←hix];exact List.mem_map_of_mem hve,fun x hx hne=>?_⟩
  obtain ⟨y,hy,rfl⟩:=List.mem_map.1 hx
  refine (inK_ix (hin y hy)).2 (hall y hy fun e=>hne ?_)
  rw [e,hix]
def pickI (n:Nat) (p:Nat→Bool):List Int:=((List.range n).filter p).map fun i=>((i:Nat):Int)
theorem pickI_mem {n:Nat} {p:Nat→Bool} {x:Int}:x∈pickI n p↔∃ i,i<n∧p i=true∧x=(i:Int):=by
 unfold pickI
 rw [List.mem_map]
 constructor
 ·rintro ⟨i,hi,rfl⟩
  have:=List.mem_filter.1 hi
  exact ⟨i,List.mem_range.1 this.1,this.2,rfl⟩
 ·rintro ⟨i,h1,h2,rfl⟩
  exact ⟨i,List.mem_filter.2 ⟨List.mem_range.2 h1,h2⟩,rfl⟩
theorem pickI_inc (n:Nat) (p:Nat→Bool):Inc (pickI n p):=by
 unfold pickI Inc
 rw [List.pairwise_map]
 refine (List.Pairwise.sublist List.filter_sublist List.pairwise_lt_range).imp fun h=>?_
 omega
theorem pickI_succ (n:Nat) (p:Nat→Bool):pickI (n+1) p=pickI n p++if p n=true then [(n:Int)] else []:=by
 unfold pickI
 rw [List.range_succ,List.filter_append,List.map_append]
 congr 1
 by_cases h:p n=true
 ·rw [if_pos h,List.filter_cons,if_pos h];rfl
 ·rw [if_neg h,List.filter_cons,if_neg h];rfl
theorem pickI_set (n:Nat) (p:Nat→Bool):setB (pickI n p) (n:Int)=true :=
 setB_iff.2 ⟨pickI_inc _ _,fun x hx=>by obtain ⟨i,hi,_,rfl⟩:=pickI_mem.1 hx;omega⟩
theorem whole_join {g:Gr} (hg:validG g=true) {V R Y:List Int} (hV:Whole g V) (hR:IsRep g R) (hY:IsRep (partG g V) Y):∃ X,IsRep g X∧inK V X V.length=Y∧∀ v,v∉V→(v∈X↔v∈R):=by
 have hVs:=setB_iff.1 hV.set
 have hn:=(costB_iff.1 (validG_iff.1 hg).1).1
 have hRs:=setB_iff.1 hR.set
 have hYs:=setB_iff.1 hY.set
 obtain ⟨X,hX⟩:∃ X,X=pickI g.n.toNat fun i=>if ((i:Nat):Int)∈V then decide (ixI V (i:Int)∈Y) else decide (((i:Nat):Int)∈R):=⟨_,rfl⟩
 have hXs:setB X g.n=true:=by
  have:=pickI_set g.n.toNat fun i=>if ((i:Nat):Int)∈V then decide (ixI V (i:Int)∈Y) else decide (((i:Nat):Int)∈R)
  rw [show ((g.n.toNat:Nat):Int)=g.n by omega] at this
  rw [hX];exact this
 have hin:∀ v,v∈V→(v∈X↔ixI V v∈Y):=fun v hv=>by
  have hr:=hVs.2 v hv
  rw [hX,pickI_mem]
  constructor
  ·rintro ⟨i,_,hp,rfl⟩
   rw [if_pos hv] at hp
   exact of_decide_eq_true hp
  ·intro h
   refine ⟨v.toNat,by omega,?_,by omega⟩
   rw [show ((v.toNat:Nat):Int)=v by omega,if_pos hv]
   exact decide_eq_true h
 have hout:∀ v,v∉V→(v∈X↔v∈R):=fun v hv=>by
  rw [hX,pickI_mem]
  constructor
  ·rintro ⟨i,_,hp,rfl⟩
   rw [if_neg hv] at hp
   exact of_decide_eq_true hp
  ·intro h
   have hr:=hRs.2 v h
   refine ⟨v.toNat,by omega,?_,by omega⟩
   rw [show ((v.toNat:Nat):Int)=v by omega,if_neg hv]
   exact decide_eq_true h
 refine ⟨X,⟨hXs,fun e he=>?_,fun v h0 h1 hv=>?_⟩,?_,hout⟩
 ·rw [←Bool.not_eq_true]
  intro hh
  have hh:=subB_iff.1 hh
  rcases hV.edge hg he with h2 | h2
  ·have:=hY.free _ (part_edges.2 ⟨e,he,subB_iff.2 h2,rfl⟩)
   rw [subB_iff.2 fun x hx=>by
    obtain ⟨y,hy,rfl⟩:=List.mem_map.1 hx
    exact (hin y (h2 y hy)).1 (hh y hy)] at this
   cases this
  ·have:=hR.free e he
   rw [subB_iff.2 fun x hx=>(hout x (h2 x hx)).1 (hh x hx)] at this
   cases this
 ·by_cases hvV:v∈V
  ·have hi:=ix_at hvV
   obtain ⟨e',he',hve,hall⟩:=hY.max (ixI V v) hi.1 hi.2.1 fun hh=>hv ((hin v hvV).2 hh)
   obtain ⟨e,he,hs,rfl⟩:=part_edges.1 he'
   have hs:=subB_iff.1 hs
   obtain ⟨y,hy,hyv⟩:=List.mem_map.1 hve
   have hyv:=ix_inj (hs y hy) hvV hyv
   subst hyv
   refine ⟨e,he,hy,fun x hx hne=>?_⟩
   exact (hin x (hs x hx)).2 (hall _ (List.mem_map_of_mem hx) fun e=>hne (ix_inj (hs x hx) hvV e))
  ·obtain ⟨e,he,hve,hall⟩:=hR.max v h0 h1 fun hh=>hv ((hout v hvV).2 hh)
   have h2:∀ x∈e,x∉V:=by
    rcases hV.edge hg he with h2 | h2
    ·exact absurd (h2 _ hve) hvV
    ·exact h2
   exact ⟨e,he,hve,fun x hx hne=>(hout x (h2 x hx)).2 (hall x hx hne)⟩
 ·refine inc_ext (inK_inc _ _ _) hYs.1 fun x=>?_
  rw [inK_mem]
  constructor
  ·rintro ⟨i,hi,hm,rfl⟩
   have:=(hin _ (get_mem hi)).1 hm
   rwa [ix_get hVs.1 hi] at this
  ·intro hx
   have hr:=hYs.2 x hx
   have hl:x<(V.length:Int):=hr.2
   refine ⟨x.toNat,by omega,(hin _ (get_mem (by omega))).2 ?_,by omega⟩
   rw [ix_get hVs.1 (by omega),show ((x.toNat:Nat):Int)=x by omega]
   exact hx
theorem rep_less {g:Gr} {R X:List Int} (hR:IsRep g R) (hX:IsRep g X) {d:Nat} (h1:(d:Int)∈R) (h2:(d:Int)∉X) (h3:∀ x,x<(d:Int)→(x∈R↔x∈X)):lexB R X=true:=by
 rcases lexA_first (setB_iff.1 hR.set).1 (setB_iff.1 hX.set).1 h1 h2 h3 with h | h
 ·exact h
 ·have:=rep_anti hX hR h
  rw [this] at h2
  exact absurd h1 h2
theorem whole_first {g:Gr} (hg:validG g=true) {V R Y:List Int} (hV:Whole g V) (hR:IsRep g R) (hY:IsRep (partG g V) Y) (hf:∀ X,IsRep g X→inK V X V.length=Y→X=R∨lexB R X=true):Y=inK V R V.length∨lexB (inK V R V.length) Y=true:=by
 have hVs:=setB_iff.1 hV.set
 obtain ⟨X,hX,hXY,hout⟩:=whole_join hg hV hR hY
 have hP:=whole_rep hg hV hR
 refine rep_diff hY hP fun d hd hnd hb=>?_
 have hdl:d<V.length:=by have:=(setB_iff.1 hY.set).2 _ hd;have h:(d:Int)<(V.length:Int):=this.2;omega
 have hmem:∀ i,i<V.length→(V.getD i default∈X↔(i:Int)∈Y):=fun i hi=>by
  rw [←hXY]
  have:=inK_ix (S:=X) (get_mem hi)
  rw [ix_get hVs.1 hi] at this
  exact this.symm
 have hmemR:∀ i,i<V.length→(V.getD i default∈R↔(i:Int)∈inK V R V.length):=fun i hi=>by
  have:=inK_ix (S:=R) (get_mem hi)
  rw [ix_get hVs.1 hi] at this
  exact this.symm
 obtain ⟨u,hu⟩:∃ u:Nat,V.getD d default=(u:Int):=⟨(V.getD d default).toNat,by have:=(hVs.2 _ (get_mem hdl)).1;omega⟩
 have h1:(u:Int)∈X:=by rw [←hu];exact (hmem d hdl).2 hd
 have h2:(u:Int)∉R:=by rw [←hu];exact fun h=>hnd ((hmemR d hdl).1 h)
 have h3:∀ x,x<(u:Int)→(x∈X↔x∈R):=fun x hx=>by
  by_cases hxV:x∈V
  ·have hi:=ix_at hxV
   have hlt:ixI V x<(d:Int):=by
    have:=(ix_lt hVs.1 hxV (get_mem hdl)).1 (by rw [hu];exact hx)
    rwa [ix_get hVs.1 hdl] at this
   have e1:=hmem (ixI V x).toNat (by omega)
   have e2:=hmemR (ixI V x).toNat (by omega)
   rw [hi.2.2,show (((ixI V x).toNat:Nat):Int)=ixI V x by omega] at e1 e2
   rw [e1,e2]
   exact hb _ hlt
  ·exact hout x hxV
 have h4:=rep_less hX hR h1 h2 h3
 rcases hf X hX hXY with h5 | h5
 ·rw [h5] at h1;exact h2 h1
 ·have:=lexB_sto.trans _ _ _ h4 h5
  rw [lexB_sto.irr] at this;cases this
def mvW (V:List Int) (w:Wy):Wy:=⟨inK V w.pos V.length,inK V w.neg V.length⟩
theorem hold_part {V X:List Int} (hVi:Inc V) {w:Wy} (hp:∀ v∈w.pos,v∈V) (hn:∀ v∈w.neg,v∈V):holdW (inK V X V.length) (mvW V w)=holdW X w:=by
 have key:∀ l:List Int,(∀ v∈l,v∈V)→∀ P:Bool→Bool,((inK V l V.length).all fun v=>P (decide (v∈inK V X V.length)))=l.all fun v=>P (decide (v∈X)):=fun l hl P=>by
  rw [Bool.eq_iff_iff,List.all_eq_true,List.all_eq_true]
  constructor
  ·intro h v hv
   have h1:=h (ixI V v) ((inK_ix (hl v hv)).2 hv)
   rw [show decide (ixI V v∈inK V X V.length)=decide (v∈X) from decide_eq_decide.2 (inK_ix (hl v hv))] at h1
   exact h1
  ·intro h x hx
   obtain ⟨i,hi,hm,rfl⟩:=inK_mem.1 hx
   have h1:=h _ hm
   have h2:=inK_ix (S:=X) (get_mem hi)
   rw [ix_get hVi hi] at h2
   rw [decide_eq_decide.2 h2]
   exact h1
 unfold holdW mvW
 rw [key w.pos hp fun b=>b,key w.neg hn fun b=>!b]
theorem some_part {V X:List Int} (hVi:Inc V) {W:List Wy} (h:∀ w∈W,(∀ v∈w.pos,v∈V)∧∀ v∈w.neg,v∈V):someW (W.map (mvW V)) (inK V X V.length)=someW W X:=by
 unfold someW
 rw [List.any_map,Bool.eq_iff_iff,List.any_eq_true,List.any_eq_true]
 constructor
 ·rintro ⟨w,hw,h1⟩
  rw [Function.comp_apply,hold_part hVi (h w hw).1 (h w hw).2] at h1
  exact ⟨w,hw,h1⟩
 ·rintro ⟨w,hw,h1⟩
  refine ⟨w,hw,?_⟩
  rw [Function.comp_apply,hold_part hVi (h w hw).1 (h w hw).2]
  exact h1
end Go.Vc
