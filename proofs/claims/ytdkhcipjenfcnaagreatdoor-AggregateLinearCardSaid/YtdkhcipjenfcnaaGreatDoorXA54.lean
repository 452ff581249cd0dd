/- Repair: vertices in every repair, in none. (Printed by mkB.py.) -/
import Derived.Test.YtdkhcipjenfcnaaGreatDoorXA47
import Derived.Test.YtdkhcipjenfcnaaGreatDoorXA39
namespace Go.Proofs.YtdkhcipjenfcnaaGreatDoor
set_option maxRecDepth 100000
set_option maxHeartbeats 16000000
open Go.Vc
theorem fix_all {g:Gr} (hg:validG g=true) {v:Int} (h0:0≤v) (h1:v<g.n):(∀ R,IsRep g R→v∈R)↔inE g.edges v=false:=by
 constructor
 ·intro h
  rw [←Bool.not_eq_true]
  intro hin
  obtain ⟨e,he,hve⟩:=inE_iff.1 hin
  obtain ⟨_,hi,hr⟩:=(validG_iff.1 hg).2.2.1 e he
  have hS:loadB g (e.filter fun x=>decide (x≠v))=true:=by
   refine loadB_iff.2 ⟨hg,setB_iff.2 ⟨hi.sublist List.filter_sublist,fun x hx=>hr x (List.mem_filter.1 hx).1⟩,indB_iff.2 fun f hf=>?_⟩
   rw [←Bool.not_eq_true]
   intro hs
   have hs:=subB_iff.1 hs
   have:=(validG_iff2.1 hg).2.2.2.2 e he f hf (subB_iff.2 fun x hx=>(List.mem_filter.1 (hs x hx)).1)
   subst this
   have:=(List.mem_filter.1 (hs v hve)).2
   simp at this
  obtain ⟨hR,hin⟩:=ext_rep hS
  have:=hR.free e he
  rw [subB_iff.2 fun x hx=>by
   by_cases hxv:x=v
   ·rw [hxv];exact h _ hR
   ·exact hin x (List.mem_filter.2 ⟨hx,decide_eq_true hxv⟩)] at this
  cases this
 ·exact fun h R hR=>hR.in h0 h1 h
theorem fix_none {g:Gr} (hg:validG g=true) {v:Int} (h0:0≤v) (h1:v<g.n):(∀ R,IsRep g R→v∉R)↔[v]∈g.edges:=by
 constructor
 ·intro h
  refine Classical.byContradiction fun hn=>?_
  have hS:loadB g [v]=true:=by
   refine loadB_iff.2 ⟨hg,setB_iff.2 ⟨List.pairwise_singleton _ _,fun x hx=>by rw [List.mem_singleton.1 hx];exact ⟨h0,h1⟩⟩,indB_iff.2 fun f hf=>?_⟩
   rw [←Bool.not_eq_true]
   intro hs
   obtain ⟨hne,hi,_⟩:=(validG_iff.1 hg).2.2.1 f hf
   have hs:=subB_iff.1 hs
   refine hn ?_
   have:f=[v]:=inc_ext hi (List.pairwise_singleton _ _) fun x=>⟨hs x,fun hx=>by
    obtain ⟨y,hy⟩:=List.exists_mem_of_ne_nil f hne
    rw [List.mem_singleton.1 hx,←List.mem_singleton.1 (hs y hy)];exact hy⟩
   rwa [this] at hf
  obtain ⟨hR,hin⟩:=ext_rep hS
  exact h _ hR (hin v (by simp))
 ·exact fun h R hR=>hR.out (barE_iff.2 h)
def MinV (g:Gr) (ws:List Int) (m:Int):Prop:=(∃ R,IsRep g R∧totW ws R=m)∧∀ R,IsRep g R→m≤totW ws R
def MaxV (g:Gr) (ws:List Int) (m:Int):Prop:=(∃ R,IsRep g R∧totW ws R=m)∧∀ R,IsRep g R→totW ws R≤m
theorem MinV.uniq {g:Gr} {ws:List Int} {m k:Int} (h:MinV g ws m) (h2:MinV g ws k):m=k:=by
 obtain ⟨R,h3,h4⟩:=h.1
 obtain ⟨Q,k3,k4⟩:=h2.1
 have:=h.2 Q k3
 have:=h2.2 R h3
 omega
theorem MaxV.uniq {g:Gr} {ws:List Int} {m k:Int} (h:MaxV g ws m) (h2:MaxV g ws k):m=k:=by
 obtain ⟨R,h3,h4⟩:=h.1
 obtain ⟨Q,k3,k4⟩:=h2.1
 have:=h.2 Q k3
 have:=h2.2 R h3
 omega
theorem SumR.min {g:Gr} {ws:List Int} {x:SpX} (hg:validG g=true) (h:SumR g ws x 0):MinV g ws x.fr:=by
 have L:=ext_least hg ws
 have h1:=h.fr rfl
 rw [h.lo rfl] at h1
 exact ⟨⟨_,L.rep,h1.symm⟩,fun R hR=>by rw [h1];exact L.le R hR⟩
theorem SumR.max {g:Gr} {ws:List Int} {x:SpX} (hg:validG g=true) (h:SumR g ws x 0):MaxV g ws x.to:=by
 have L:=ext_least hg (negW ws)
 have h1:=h.to rfl
 rw [h.hi rfl] at h1
 refine ⟨⟨_,L.rep,h1.symm⟩,fun R hR=>?_⟩
 have:=L.le R hR
 rw [totW_neg,totW_neg] at this
 omega
theorem check_ends {g:Gr} {ws:List Int} {x:SpX} (h:checkG g ws x=true):validG g=true∧MinV g ws x.fr∧MaxV g ws x.to:=by
 unfold checkG at h
 simp only [Bool.and_eq_true,decide_eq_true_eq] at h
 obtain ⟨⟨hv,_⟩,h1,h2,h3,h4,h5,h6⟩:=h
 refine ⟨hv,⟨⟨_,(isB_iff hv).1 h1,h3⟩,fun R hR=>?_⟩,⟨_,(isB_iff hv).1 h2,h4⟩,fun R hR=>?_⟩
 ·have:=prov_sound hv h5 hR
  unfold goodA at this
  rw [if_neg (by decide)] at this
  exact of_decide_eq_true this
 ·have:=prov_sound hv h6 hR
  unfold goodA at this
  rw [if_pos rfl] at this
  exact of_decide_eq_true this
theorem totW_cons (ws:List Int) (v:Int) (R:List Int):totW ws (v :: R)=wtF ws v+totW ws R:=rfl
theorem wtF_set {ws:List Int} {v:Nat} (hv:v<ws.length) (y u:Int) (hu:0≤u):wtF (ws.set v y) u=if u=(v:Int) then y else wtF ws u:=by
 unfold wtF
 by_cases h:u=(v:Int)
 ·subst h
  rw [if_pos rfl,Int.toNat_natCast,List.getD,List.getElem?_set_self hv];rfl
 ·rw [if_neg h,List.getD,List.getElem?_set_ne (by omega)];rfl
theorem tot_set {ws:List Int} {v:Nat} (hv:v<ws.length) (y:Int):∀ {R:List Int},R.Nodup→(∀ u∈R,0≤u)→totW (ws.set v y) R=totW ws R+if (v:Int)∈R then y-wtF ws (v:Int) else 0
 | [],_,_=>rfl
 | u :: R,hn,h0=>by
  have hn':=List.nodup_cons.1 hn
  have ih:=tot_set hv y hn'.2 fun x hx=>h0 x (by simp [hx])
  rw [totW_cons,totW_cons,ih,wtF_set hv y u (h0 u (by simp))]
  by_cases h:u=(v:Int)
  ·subst h
   rw [if_pos rfl,if_neg hn'.1,if_pos (by simp)]
   omega
  ·rw [if_neg h]
   by_cases h2:(v:Int)∈R
   ·rw [if_pos h2,if_pos (by simp [h2])];omega
   ·rw [if_neg h2,if_neg (by simp [h2];exact fun e=>h e.symm)];omega
theorem rep_nodup {g:Gr} {R:List Int} (h:IsRep g R):R.Nodup∧∀ u∈R,0≤u:=⟨inc_nodup (setB_iff.1 h.set).1,fun u hu=>((setB_iff.1 h.set).2 u hu).1⟩
theorem shift_in {g:Gr} {ws:List Int} {v:Nat} (hv:v<ws.length) (y:Int) (hin:∀ R,IsRep g R→(v:Int)∈R):(∀ m,MinV g ws m→MinV g (ws.set v y) (m+(y-wtF ws (v:Int))))∧∀ m,MaxV g ws m→MaxV g (ws.set v y) (m+(y-wtF ws (v:Int))):=by
 have key:∀ R,IsRep g R→totW (ws.set v y) R=totW ws R+(y-wtF ws (v:Int)):=fun R hR=>by
  rw [tot_set hv y (rep_nodup hR).1 (rep_nodup hR).2,if_pos (hin R hR)]
 refine ⟨fun m ⟨⟨R,h1,h2⟩,h3⟩=>⟨⟨R,h1,by rw [key R h1];omega⟩,fun Q hQ=>?_⟩,fun m ⟨⟨R,h1,h2⟩,h3⟩=>⟨⟨R,h1,by rw [key R h1];omega⟩,fun Q hQ=>?_⟩⟩
 ·have:=h3 Q hQ;rw [key Q hQ];omega
 ·have:=h3 Q hQ;rw [key Q hQ];omega
theorem shift_out {g:Gr} {ws:List Int} {v:Nat} (hv:v<ws.length) (y:Int) (hout:∀ R,IsRep g R→(v:Int)∉R):(∀ m,MinV g ws m→MinV g (ws.set v y) m)∧∀ m,MaxV g ws m→MaxV g (ws.set v y) m:=by
 have key:∀ R,IsRep g R→totW (ws.set v y) R=totW ws R:=fun R hR=>by
  rw [tot_set hv y (rep_nodup hR).1 (rep_nodup hR).2,if_neg (hout R hR)];omega
 refine ⟨fun m ⟨⟨R,h1,h2⟩,h3⟩=>⟨⟨R,h1,by rw [key R h1];omega⟩,fun Q hQ=>?_⟩,fun m ⟨⟨R,h1,h2⟩,h3⟩=>⟨⟨R,h1,by rw [key R h1];omega⟩,fun Q hQ=>?_⟩⟩
 ·have:=h3 Q hQ;rw [key Q hQ];omega
 ·have:=h3 Q hQ;rw [key Q hQ];omega
/-! ### Components -/
/-! ### Counts -/
theorem tot_ones (n:Nat):∀ {R:List Int},(∀ v∈R,0≤v∧v<(n:Int))→totW (List.replicate n 1) R=R.length
 | [],_=>rfl
 | v :: R,h=>by
  have ih:=tot_ones n (R:=R) fun u hu=>h u (by simp [hu])
  have hv:=h v (by simp)
  rw [totW_cons,ih,List.length_cons]
  have:wtF (List.replicate n 1) v=1:=by
   unfold wtF
   rw [List.getD,List.getElem?_replicate,if_pos (by omega)];rfl
  rw [this];omega
theorem chk_err {g:Gr} {ws:List Int} {least:Int} (h:chkF g ws least≠0) (hn:g.n≤40):(validG g&&wtsB g ws least)=false:=by
 rw [←chk_one]
 unfold chkF at h ⊢
 split at h
 ·split at h
  ·omega
  ·exact absurd rfl h
 ·rename_i h1;rw [if_neg h1]
end Go.Proofs.YtdkhcipjenfcnaaGreatDoor
