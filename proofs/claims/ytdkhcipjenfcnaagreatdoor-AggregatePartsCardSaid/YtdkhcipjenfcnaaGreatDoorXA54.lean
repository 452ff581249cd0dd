/- Repair: vertices in every repair, in none. (Printed by mkB.py.) -/
import Derived.Test.YtdkhcipjenfcnaaGreatDoorXA47
import Derived.Test.YtdkhcipjenfcnaaGreatDoorXA39
namespace Go.Proofs.YtdkhcipjenfcnaaGreatDoor
set_option maxRecDepth 100000
set_option maxHeartbeats 16000000
open Go.Vc
theorem fix_none {g:Gr} (hg:validG g=true) {v:Int} (h0:0≤v) (h1:v<g.n):(∀ R,IsRep g R→v∉R)↔[v]∈g.edges:=by
 constructor
 ·intro h
  refine Classical.byContradiction fun hn=>?_
  have hS:loadB g [v]=true:=by
   refine loadB_iff.2 ⟨hg,setB_iff.2 ⟨List.pairwise_singleton _ _,fun x hx=>by rw [List.mem_singleton.1 hx];exact ⟨h0,h1⟩⟩,indB_iff.2 fun f hf=>?_⟩
   rw [←Bool.not_eq_true]
   intro hs
   obtain ⟨hne,hi,_⟩:=(validG_iff.1 hg).2.2.1 f hf
   have hs:=subB_iff.1 hs
   refine hn ?_
   have:f=[v]:=inc_ext hi (List.pairwise_singleton _ _) fun x=>⟨hs x,fun hx=>by
    obtain ⟨y,hy⟩:=List.exists_mem_of_ne_nil f hne
    rw [List.mem_singleton.1 hx,←List.mem_singleton.1 (hs y hy)];exact hy⟩
   rwa [this] at hf
  obtain ⟨hR,hin⟩:=ext_rep hS
  exact h _ hR (hin v (by simp))
 ·exact fun h R hR=>hR.out (barE_iff.2 h)
def MinV (g:Gr) (ws:List Int) (m:Int):Prop:=(∃ R,IsRep g R∧totW ws R=m)∧∀ R,IsRep g R→m≤totW ws R
def MaxV (g:Gr) (ws:List Int) (m:Int):Prop:=(∃ R,IsRep g R∧totW ws R=m)∧∀ R,IsRep g R→totW ws R≤m
theorem MinV.uniq {g:Gr} {ws:List Int} {m k:Int} (h:MinV g ws m) (h2:MinV g ws k):m=k:=by
 obtain ⟨R,h3,h4⟩:=h.1
 obtain ⟨Q,k3,k4⟩:=h2.1
 have:=h.2 Q k3
 have:=h2.2 R h3
 omega
theorem MaxV.uniq {g:Gr} {ws:List Int} {m k:Int} (h:MaxV g ws m) (h2:MaxV g ws k):m=k:=by
 obtain ⟨R,h3,h4⟩:=h.1
 obtain ⟨Q,k3,k4⟩:=h2.1
 have:=h.2 Q k3
 have:=h2.2 R h3
 omega
theorem SumR.min {g:Gr} {ws:List Int} {x:SpX} (hg:validG g=true) (h:SumR g ws x 0):MinV g ws x.fr:=by
 have L:=ext_least hg ws
 have h1:=h.fr rfl
 rw [h.lo rfl] at h1
 exact ⟨⟨_,L.rep,h1.symm⟩,fun R hR=>by rw [h1];exact L.le R hR⟩
theorem SumR.max {g:Gr} {ws:List Int} {x:SpX} (hg:validG g=true) (h:SumR g ws x 0):MaxV g ws x.to:=by
 have L:=ext_least hg (negW ws)
 have h1:=h.to rfl
 rw [h.hi rfl] at h1
 refine ⟨⟨_,L.rep,h1.symm⟩,fun R hR=>?_⟩
 have:=L.le R hR
 rw [totW_neg,totW_neg] at this
 omega
theorem totW_cons (ws:List Int) (v:Int) (R:List Int):totW ws (v :: R)=wtF ws v+totW ws R:=rfl
/-! ### Components -/
def wtsC (ws c:List Int):List Int:=c.map (wtF ws)
theorem tot_comp (ws c:List Int):∀ {r:List Int},(∀ v∈r,0≤v∧v<(c.length:Int))→totW (wtsC ws c) r=totW ws (whC c r)
 | [],_=>rfl
 | v :: r,h=>by
  have ih:=tot_comp ws c (r:=r) fun u hu=>h u (by simp [hu])
  have hv:=h v (by simp)
  rw [totW_cons,ih]
  show _=totW ws (c.getD v.toNat default :: whC c r)
  rw [totW_cons]
  congr 1
  show (c.map (wtF ws)).getD v.toNat 0=wtF ws (c.getD v.toNat default)
  have hl:v.toNat<c.length:=by omega
  rw [List.getD,List.getElem?_map,gget hl,List.getElem?_eq_getElem hl]
  rfl
theorem rep_rng {g:Gr} {c r:List Int} (h:IsRep (partG g c) r):∀ v∈r,0≤v∧v<(c.length:Int):=fun v hv=>(setB_iff.1 h.set).2 v hv
theorem min_parts {g:Gr} (hg:validG g=true) {ws:List Int} {f:List Int→Int} (hf:∀ c∈compsG g,MinV (partG g c) (wtsC ws c) (f c)):MinV g ws (sm ((compsG g).map f)):=by
 obtain ⟨r,hr⟩:=skol (l:=compsG g) (P:=fun c r=>IsRep (partG g c) r∧totW (wtsC ws c) r=f c) fun c hc=>(hf c hc).1
 obtain ⟨h1,h2⟩:=union_rep hg (r:=r) fun c hc=>(hr c hc).1
 refine ⟨⟨_,h1,?_⟩,fun R hR=>?_⟩
 ·rw [tot_parts hg h1.set]
  refine sm_congr _ _ fun c hc=>?_
  rw [h2 c hc,←tot_comp ws c (rep_rng (hr c hc).1)]
  exact (hr c hc).2
 ·rw [tot_parts hg hR.set]
  refine sm_le _ _ fun c hc=>?_
  have hp:=(parts_rep hg hR.set).1 hR c hc
  rw [←tot_comp ws c (rep_rng hp)]
  exact (hf c hc).2 _ hp
theorem max_parts {g:Gr} (hg:validG g=true) {ws:List Int} {f:List Int→Int} (hf:∀ c∈compsG g,MaxV (partG g c) (wtsC ws c) (f c)):MaxV g ws (sm ((compsG g).map f)):=by
 obtain ⟨r,hr⟩:=skol (l:=compsG g) (P:=fun c r=>IsRep (partG g c) r∧totW (wtsC ws c) r=f c) fun c hc=>(hf c hc).1
 obtain ⟨h1,h2⟩:=union_rep hg (r:=r) fun c hc=>(hr c hc).1
 refine ⟨⟨_,h1,?_⟩,fun R hR=>?_⟩
 ·rw [tot_parts hg h1.set]
  refine sm_congr _ _ fun c hc=>?_
  rw [h2 c hc,←tot_comp ws c (rep_rng (hr c hc).1)]
  exact (hr c hc).2
 ·rw [tot_parts hg hR.set]
  refine sm_le _ _ fun c hc=>?_
  have hp:=(parts_rep hg hR.set).1 hR c hc
  rw [←tot_comp ws c (rep_rng hp)]
  exact (hf c hc).2 _ hp
/-! ### Counts -/
end Go.Proofs.YtdkhcipjenfcnaaGreatDoor
