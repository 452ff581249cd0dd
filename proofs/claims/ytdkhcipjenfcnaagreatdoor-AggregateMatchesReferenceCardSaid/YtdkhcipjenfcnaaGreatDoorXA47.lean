/- Aggregate: Peak: what it computes, and that its two sets are the first ones (plain). -/
import Derived.Test.YtdkhcipjenfcnaaGreatDoorXA44
namespace Go.Proofs.YtdkhcipjenfcnaaGreatDoor
set_option maxRecDepth 100000
set_option maxHeartbeats 16000000
open Go.Vc
def fndC (p:List Int→Bool) (g:Gr) (c:List Int):List Int:=resW ((repsW (partG g c) c).find? p)
def lowP (ws:List Int) (f:Int) (Z:List Int):Bool:=decide (gmx ws Z≤f)
def topP (ws:List Int) (t:Int) (Z:List Int):Bool:=decide (gmx ws Z=t)
def anyP (_:List Int):Bool:=true
theorem runF_unit (p:List Int→Bool):∀ L:List (List Int),runF (fun (_:Unit) Z=>((),p Z)) () L=((),L.find? p)
 | []=>rfl
 | Z :: L=>by
  rw [show runF (fun (_:Unit) Z=>((),p Z)) () (Z :: L)=if p Z=true then ((),some Z) else runF (fun (_:Unit) Z=>((),p Z)) () L from rfl,List.find?_cons]
  cases h:p Z with
  | true=>rw [if_pos rfl]
  | false=>rw [if_neg (by decide)];exact runF_unit p L
def lsF (ws:List Int) (L:List (List Int)) (m:Int):Int:=L.foldl (fun m S=>lsM m (gmx ws S)) m
def gsF (ws:List Int) (L:List (List Int)) (t:Int):Int:=L.foldl (fun t S=>max t (gmx ws S)) t
theorem run_pk1 (ws:List Int):∀ (L:List (List Int)) (m:Int) (x:SpX),runF (pk1F ws) (m,x) L=((lsF ws L m,{ x with to:=gsF ws L x.to }),none)
 | [],m,x=>rfl
 | Z :: L,m,x=>by
  rw [show runF (pk1F ws) (m,x) (Z :: L)=runF (pk1F ws) (lsM m (gmx ws Z),{ x with to:=max x.to (gmx ws Z) }) L from rfl,run_pk1 ws L]
  rfl
theorem gmx_nn (ws S:List Int):0≤gmx ws S:=((gmx_iff ws _ S rfl _).1 (Int.le_refl _)).1
theorem lsF_spec (ws:List Int):∀ (L:List (List Int)) (m:Int),(0≤m→lsF ws L m≤m∧0≤lsF ws L m)∧(∀ Z∈L,lsF ws L m≤gmx ws Z)∧(lsF ws L m=m∨∃ Z∈L,lsF ws L m=gmx ws Z)
 | [],m=>⟨fun h=>⟨Int.le_refl _,h⟩,fun Z h=>(nomatch h),.inl rfl⟩
 | Z :: L,m=>by
  have he:lsF ws (Z :: L) m=lsF ws L (lsM m (gmx ws Z)):=rfl
  have hz:=gmx_nn ws Z
  obtain ⟨h1,h2,h3⟩:=lsF_spec ws L (lsM m (gmx ws Z))
  rw [he]
  have hl:0≤lsM m (gmx ws Z)∧lsM m (gmx ws Z)≤gmx ws Z∧(0≤m→lsM m (gmx ws Z)≤m)∧(lsM m (gmx ws Z)=gmx ws Z∨lsM m (gmx ws Z)=m):=by
   unfold lsM;split <;> omega
  have h1:=h1 hl.1
  refine ⟨fun h=>⟨by omega,h1.2⟩,fun Y hY=>?_,?_⟩
  ·rcases List.mem_cons.1 hY with e | e
   ·rw [e];omega
   ·exact h2 Y e
  ·rcases h3 with h3 | ⟨Y,hY,h3⟩
   ·rcases hl.2.2.2 with h | h
    ·exact .inr ⟨Z,by simp,by omega⟩
    ·exact .inl (by omega)
   ·exact .inr ⟨Y,by simp [hY],h3⟩
theorem gsF_spec (ws:List Int):∀ (L:List (List Int)) (t:Int),t≤gsF ws L t∧(∀ Z∈L,gmx ws Z≤gsF ws L t)∧(gsF ws L t=t∨∃ Z∈L,gsF ws L t=gmx ws Z)
 | [],t=>⟨Int.le_refl _,fun Z h=>(nomatch h),.inl rfl⟩
 | Z :: L,t=>by
  have he:gsF ws (Z :: L) t=gsF ws L (max t (gmx ws Z)):=rfl
  obtain ⟨h1,h2,h3⟩:=gsF_spec ws L (max t (gmx ws Z))
  rw [he]
  refine ⟨by omega,fun Y hY=>?_,?_⟩
  ·rcases List.mem_cons.1 hY with e | e
   ·rw [e];omega
   ·exact h2 Y e
  ·rcases h3 with h3 | ⟨Y,hY,h3⟩
   ·by_cases h:t≤gmx ws Z
    ·exact .inr ⟨Z,by simp,by omega⟩
    ·exact .inl (by omega)
   ·exact .inr ⟨Y,by simp [hY],h3⟩
def lsC (ws:List Int) (g:Gr) (c:List Int):Int:=lsF ws (repsW (partG g c) c) (-1)
def frL (ws:List Int) (g:Gr) (L:List (List Int)):Int:=L.foldl (fun f c=>max f (lsC ws g c)) 0
def toL (ws:List Int) (g:Gr) (L:List (List Int)):Int:=L.foldl (fun t c=>gsF ws (repsW (partG g c) c) t) 0
def frG (ws:List Int) (g:Gr):Int:=frL ws g (compsG g)
def toG (ws:List Int) (g:Gr):Int:=toL ws g (compsG g)
theorem frL_snoc {ws:List Int} {g:Gr} {L:List (List Int)} {c:List Int}:frL ws g (L++[c])=max (frL ws g L) (lsC ws g c):=by unfold frL;rw [List.foldl_append];rfl
theorem toL_snoc {ws:List Int} {g:Gr} {L:List (List Int)} {c:List Int}:toL ws g (L++[c])=gsF ws (repsW (partG g c) c) (toL ws g L):=by unfold toL;rw [List.foldl_append];rfl
theorem snocR {α:Type} {P:List α→Prop} (h0:P []) (hs:∀ L x,P L→P (L++[x])) (L:List α):P L:=by
 have:∀ n (L:List α),L.length=n→P L:=by
  intro n
  induction n with
  | zero=>intro L h;rw [List.length_eq_zero_iff.1 h];exact h0
  | succ n ih =>
   intro L h
   have hne:L≠[]:=fun e=>by subst e;cases h
   rw [←List.dropLast_concat_getLast hne]
   refine hs _ _ (ih _ ?_)
   rw [List.length_dropLast];omega
 exact this _ L rfl
theorem frL_spec (ws:List Int) (g:Gr) (L:List (List Int)):0≤frL ws g L∧(∀ c∈L,lsC ws g c≤frL ws g L)∧(frL ws g L=0∨∃ c∈L,frL ws g L=lsC ws g c):=by
 refine snocR (P:=fun L=>0≤frL ws g L∧(∀ c∈L,lsC ws g c≤frL ws g L)∧(frL ws g L=0∨∃ c∈L,frL ws g L=lsC ws g c)) ⟨Int.le_refl _,fun c h=>(nomatch h),.inl rfl⟩ (fun L x ⟨h1,h2,h3⟩=>?_) L
 rw [frL_snoc]
 refine ⟨by omega,fun c hc=>?_,?_⟩
 ·rcases List.mem_append.1 hc with h | h
  ·have:=h2 c h;omega
  ·rw [List.mem_singleton.1 h];omega
 ·by_cases h:lsC ws g x≤frL ws g L
  ·rcases h3 with h3 | ⟨c,hc,h3⟩
   ·exact .inl (by omega)
   ·exact .inr ⟨c,by simp [hc],by omega⟩
  ·exact .inr ⟨x,by simp,by omega⟩
theorem toL_spec (ws:List Int) (g:Gr) (L:List (List Int)):0≤toL ws g L∧(∀ c∈L,∀ Z∈repsW (partG g c) c,gmx ws Z≤toL ws g L)∧(toL ws g L=0∨∃ c∈L,∃ Z∈repsW (partG g c) c,toL ws g L=gmx ws Z):=by
 refine snocR (P:=fun L=>0≤toL ws g L∧(∀ c∈L,∀ Z∈repsW (partG g c) c,gmx ws Z≤toL ws g L)∧(toL ws g L=0∨∃ c∈L,∃ Z∈repsW (partG g c) c,toL ws g L=gmx ws Z)) ⟨Int.le_refl _,fun c h=>(nomatch h),.inl rfl⟩ (fun L x ⟨h1,h2,h3⟩=>?_) L
 rw [toL_snoc]
 obtain ⟨k1,k2,k3⟩:=gsF_spec ws (repsW (partG g x) x) (toL ws g L)
 refine ⟨by omega,fun c hc Z hZ=>?_,?_⟩
 ·rcases List.mem_append.1 hc with h | h
  ·have:=h2 c h Z hZ;omega
  ·rw [List.mem_singleton.1 h] at hZ;exact k2 Z hZ
 ·rcases k3 with k3 | ⟨Z,hZ,k3⟩
  ·rcases h3 with h3 | ⟨c,hc,Z,hZ,h3⟩
   ·exact .inl (by omega)
   ·exact .inr ⟨c,by simp [hc],Z,hZ,by omega⟩
  ·exact .inr ⟨x,by simp,Z,hZ,k3⟩
/-! ### The components' parts -/
theorem mem_part {R c:List Int} {v:Int}:v∈whC c (inK c R c.length)↔v∈c∧v∈R:=by
 have h:=filt_inK c R c.length (Nat.le_refl _)
 rw [List.take_length] at h
 have e:whC c (inK c R c.length)=c.filter fun v=>decide (v∈R):=h.symm
 rw [e,List.mem_filter]
 simp
theorem gmx_parts {g:Gr} (hg:validG g=true) {ws R:List Int} (hR:setB R g.n=true) (m:Int):gmx ws R≤m↔0≤m∧∀ c∈compsG g,gmx ws (whC c (inK c R c.length))≤m:=by
 rw [gmx_iff ws _ R rfl m]
 constructor
 ·rintro ⟨h0,h⟩
  refine ⟨h0,fun c hc=>(gmx_iff ws _ _ rfl m).2 ⟨h0,fun v hv=>h v (mem_part.1 hv).2⟩⟩
 ·rintro ⟨h0,h⟩
  refine ⟨h0,fun v hv=>?_⟩
  have hr:=(setB_iff.1 hR).2 v hv
  obtain ⟨hc,hvc,_⟩:=root_mem hg (i:=v.toNat) (by omega)
  rw [show ((v.toNat:Nat):Int)=v by omega] at hvc
  exact ((gmx_iff ws _ _ rfl m).1 (h _ hc)).2 v (mem_part.2 ⟨hvc,hv⟩)
structure FstC (g:Gr) (c:List Int) (p:List Int→Bool) (r:List Int):Prop where
 rep:IsRep (partG g c) r
 ok:p (whC c r)=true
 first:∀ r',IsRep (partG g c) r'→p (whC c r')=true→r=r'∨lexB r r'=true
theorem find_up {α:Type} {lt:α→α→Bool} {p:α→Bool}:∀ {L:List α} {r:α},Up lt L→L.find? p=some r→r∈L∧p r=true∧∀ r'∈L,p r'=true→r=r'∨lt r r'=true
 | [],r,_,h=>nomatch h
 | a :: L,r,hu,h=>by
  have hu':=List.pairwise_cons.1 hu
  rw [List.find?_cons] at h
  cases hp:p a with
  | true =>
   rw [hp] at h
   injection h with h
   subst h
   refine ⟨by simp,hp,fun r' hr' _=>?_⟩
   rcases List.mem_cons.1 hr' with e | e
   ·exact .inl e.symm
   ·exact .inr (hu'.1 _ e)
  | false =>
   rw [hp] at h
   obtain ⟨h1,h2,h3⟩:=find_up hu'.2 h
   refine ⟨by simp [h1],h2,fun r' hr' hp'=>?_⟩
   rcases List.mem_cons.1 hr' with e | e
   ·rw [e,hp] at hp';cases hp'
   ·exact h3 r' e hp'
theorem fnd_some {g:Gr} (hg:validG g=true) {c:List Int} (hc:c∈compsG g) {p:List Int→Bool} {Z:List Int} (h:(repsW (partG g c) c).find? p=some Z):∃ r,Z=whC c r∧FstC g c p r:=by
 have hpv:=part_valid hg (comps_set hg hc)
 unfold repsW at h
 rw [List.find?_map] at h
 cases hf:(repsG (partG g c)).find? (p ∘ whC c) with
 | none=>rw [hf] at h;cases h
 | some r =>
  rw [hf] at h
  injection h with h
  obtain ⟨h1,h2,h3⟩:=find_up (reps_up hpv) hf
  exact ⟨r,h.symm,(reps_mem hpv).1 h1,h2,fun r' hr' hp'=>h3 r' ((reps_mem hpv).2 hr') hp'⟩
theorem fnd_none {g:Gr} (hg:validG g=true) {c:List Int} (hc:c∈compsG g) {p:List Int→Bool} (h:(repsW (partG g c) c).find? p=none):∀ r,IsRep (partG g c) r→p (whC c r)=false:=fun r hr=>by
 have hpv:=part_valid hg (comps_set hg hc)
 have:=List.find?_eq_none.1 h (whC c r) (List.mem_map_of_mem ((reps_mem hpv).2 hr))
 cases hp:p (whC c r) with
 | false=>rfl
 | true=>exact absurd hp this
theorem fnd_fst {g:Gr} (hg:validG g=true) {c:List Int} (hc:c∈compsG g) {p:List Int→Bool} {r0:List Int} (h0:IsRep (partG g c) r0) (hp:p (whC c r0)=true):∃ r,fndC p g c=whC c r∧FstC g c p r:=by
 unfold fndC
 cases hf:(repsW (partG g c) c).find? p with
 | none=>rw [fnd_none hg hc hf r0 h0] at hp;cases hp
 | some Z =>
  obtain ⟨r,h1,h2⟩:=fnd_some hg hc hf
  exact ⟨r,h1,h2⟩
theorem fnd_in {g:Gr} (hg:validG g=true) (p:List Int→Bool) {c:List Int} (hc:c∈compsG g):(fndC p g c).length≤c.length∧∀ v∈fndC p g c,v∈c:=by
 unfold fndC
 cases hf:(repsW (partG g c) c).find? p with
 | none=>exact ⟨Nat.zero_le _,fun _ hv=>nomatch hv⟩
 | some Z =>
  obtain ⟨r,rfl,hr,_⟩:=fnd_some hg hc hf
  have hs:=setB_iff.1 hr.set
  have hn:(partG g c).n=((c.length:Nat):Int):=rfl
  have h1:=set_len hs.1 hs.2 (by omega)
  show (whC c r).length≤c.length∧∀ v∈whC c r,v∈c
  rw [whC_len]
  exact ⟨by omega,whC_sub fun v hv=>by have:=hs.2 v hv;omega⟩
structure FstG (g:Gr) (p:List Int→Prop) (b:List Int):Prop where
 rep:IsRep g b
 ok:p b
 first:∀ R,IsRep g R→p R→lexB R b=false
theorem FstG.unique {g:Gr} {p:List Int→Prop} {b c:List Int} (h:FstG g p b) (k:FstG g p c):b=c :=
 lexB_sto.tot _ _ (k.first b h.rep h.ok) (h.first c k.rep k.ok)
/-! ### The lower end -/
theorem exists_rep {g:Gr} (hg:validG g=true):∃ r,IsRep g r:=by
 have h:=reps_ne hg
 cases hL:repsG g with
 | nil=>exact absurd hL h
 | cons r L=>exact ⟨r,(reps_mem hg).1 (by rw [hL];simp)⟩
theorem lsC_spec {g:Gr} (hg:validG g=true) {c:List Int} (hc:c∈compsG g) (ws:List Int):(∀ r,IsRep (partG g c) r→lsC ws g c≤gmx ws (whC c r))∧∃ r,IsRep (partG g c) r∧lsC ws g c=gmx ws (whC c r):=by
 have hpv:=part_valid hg (comps_set hg hc)
 obtain ⟨h1,h2,h3⟩:=lsF_spec ws (repsW (partG g c) c) (-1)
 refine ⟨fun r hr=>h2 _ (List.mem_map_of_mem ((reps_mem hpv).2 hr)),?_⟩
 rcases h3 with h3 | ⟨Z,hZ,h3⟩
 ·exfalso
  have hne:=reps_ne hpv
  unfold repsW at h3
  cases hL:repsG (partG g c) with
  | nil=>exact hne hL
  | cons r L =>
   rw [hL] at h3
   have hz:=gmx_nn ws (whC c r)
   have he:lsM (-1) (gmx ws (whC c r))=gmx ws (whC c r):=if_pos (.inl (by decide))
   have h4:=(lsF_spec ws (L.map (whC c)) (gmx ws (whC c r))).1 hz
   have:lsF ws ((r :: L).map (whC c)) (-1)=lsF ws (L.map (whC c)) (gmx ws (whC c r)):=by
    rw [List.map_cons]
    show lsF ws _ (lsM (-1) (gmx ws (whC c r)))=_
    rw [he]
   omega
 ·obtain ⟨r,hr,rfl⟩:=List.mem_map.1 hZ
  exact ⟨r,(reps_mem hpv).1 hr,h3⟩
def lowG (ws:List Int) (g:Gr):List Int:=uniC g (fndC (lowP ws (frG ws g)) g)
theorem low_peak {g:Gr} (hg:validG g=true) (ws:List Int):(∀ R,IsRep g R→frG ws g≤gmx ws R)∧gmx ws (lowG ws g)=frG ws g∧FstG g (fun R=>gmx ws R≤frG ws g) (lowG ws g):=by
 obtain ⟨k1,k2,k3⟩:=frL_spec ws g (compsG g)
 have hge:∀ R,IsRep g R→frG ws g≤gmx ws R:=fun R hR=>by
  rcases k3 with k3 | ⟨c,hc,k3⟩
  ·unfold frG;rw [k3];exact gmx_nn ws R
  ·have h1:=(lsC_spec hg hc ws).1 _ ((parts_rep hg hR.set).1 hR c hc)
   have h2:=((gmx_parts hg hR.set (gmx ws R)).1 (Int.le_refl _)).2 c hc
   unfold frG;omega
 obtain ⟨r,hr⟩:=skol (l:=compsG g) (P:=fun c r=>fndC (lowP ws (frG ws g)) g c=whC c r∧FstC g c (lowP ws (frG ws g)) r) fun c hc=>by
  obtain ⟨r0,h1,h2⟩:=(lsC_spec hg hc ws).2
  refine fnd_fst hg hc h1 (decide_eq_true ?_)
  have:=k2 c hc
  unfold frG;omega
 have he:lowG ws g=uniC g fun c=>whC c (r c):=by
  unfold lowG uniC
  rw [List.map_congr_left fun c hc=>(hr c hc).1]
 obtain ⟨h1,h2⟩:=union_rep hg (r:=r) fun c hc=>(hr c hc).2.rep
 have hle:gmx ws (lowG ws g)≤frG ws g:=by
  rw [he]
  refine (gmx_parts hg h1.set _).2 ⟨k1,fun c hc=>?_⟩
  rw [h2 c hc]
  exact of_decide_eq_true (hr c hc).2.ok
 have hrep:IsRep g (lowG ws g):=by rw [he];exact h1
 have:=hge _ hrep
 refine ⟨hge,by omega,hrep,hle,fun R hR hp=>?_⟩
 rw [he]
 refine lex_parts hg hR h1 fun c hc=>?_
 rw [h2 c hc]
 exact (hr c hc).2.first _ ((parts_rep hg hR.set).1 hR c hc) (decide_eq_true (((gmx_parts hg hR.set _).1 hp).2 c hc))
def cndP (ws:List Int) (t i j:Int):List Int→Bool:=if j=i then topP ws t else anyP
def cndX (ws:List Int) (t:Int) (g:Gr) (i:Int) (k:Nat):List Int:=((List.range k).map fun j=>fndC (cndP ws t i (j:Nat)) g ((compsG g).getD j default)).flatten
def skpB (ws:List Int) (t:Int) (g:Gr) (i:Int):Prop:=0≤i∧i<((compsG g).length:Nat)∧(fndC (topP ws t) g ((compsG g).getD i.toNat default)=[]∧0<t)
instance {ws:List Int} {t:Int} {g:Gr} {i:Int}:Decidable (skpB ws t g i):=by unfold skpB;infer_instance
def cndO (ws:List Int) (t:Int) (g:Gr) (i:Int):Option (List Int):=if skpB ws t g i then none else some (srtF (cndX ws t g i (compsG g).length))
def hiS (ws:List Int) (t:Int) (h:Option (List Int)):Option (List Int)→Option (List Int)
 | none=>h
 | some S=>if gmx ws S=t∧(h=none∨lexB S (resW h)=true) then some S else h
def hiK (ws:List Int) (t:Int) (g:Gr):Nat→Option (List Int)
 | 0=>none
 | n+1=>hiS ws t (hiK ws t g n) (cndO ws t g ((n:Nat)-1))
def highG (ws:List Int) (g:Gr):List Int:=resW (hiK ws (toG ws g) g ((compsG g).length+1))
theorem cndX_succ (ws:List Int) (t:Int) (g:Gr) (i:Int) (k:Nat):cndX ws t g i (k+1)=cndX ws t g i k++fndC (cndP ws t i (k:Nat)) g ((compsG g).getD k default):=by
 unfold cndX
 rw [List.range_succ,List.map_append,List.flatten_append]
 simp
theorem range_map31 {β:Type} (f:List Int→β) (L:List (List Int)):(List.range L.length).map (fun j=>f (L.getD j default))=L.map f:=by
 refine List.ext_getElem (by simp) fun i h1 h2=>?_
 rw [List.getElem_map,List.getElem_map,List.getElem_range]
 rw [List.length_map] at h2
 rw [gget h2]
theorem comp_ix {g:Gr} {c:List Int} (hc:c∈compsG g):∃ i,i<(compsG g).length∧(compsG g).getD i default=c:=by
 obtain ⟨i,hi,h⟩:=List.getElem_of_mem hc
 exact ⟨i,hi,by rw [gget hi];exact h⟩
theorem comp_inj {g:Gr} (hg:validG g=true) {i j:Nat} (hi:i<(compsG g).length) (hj:j<(compsG g).length) (h:(compsG g).getD i default=(compsG g).getD j default):i=j:=by
 rw [gget hi,gget hj] at h
 have:=List.pairwise_iff_getElem.1 (comps_nodup hg)
 by_cases h1:i<j
 ·exact absurd h (this i j hi hj h1)
 ·by_cases h2:j<i
  ·exact absurd h.symm (this j i hj hi h2)
  ·omega
def allG (g:Gr):List Int:=uniC g (fndC anyP g)
def oneG (ws:List Int) (t:Int) (g:Gr) (d:List Int):List Int:=uniC g fun c=>fndC (if c=d then topP ws t else anyP) g c
theorem cnd_all (ws:List Int) (t:Int) (g:Gr):srtF (cndX ws t g (-1) (compsG g).length)=allG g:=by
 unfold cndX allG uniC
 congr 2
 rw [←range_map31]
 refine List.map_congr_left fun j hj=>?_
 unfold cndP
 rw [if_neg (by omega)]
theorem cnd_one {g:Gr} (hg:validG g=true) (ws:List Int) (t:Int) {i:Nat} (hi:i<(compsG g).length):srtF (cndX ws t g (i:Nat) (compsG g).length)=oneG ws t g ((compsG g).getD i default):=by
 unfold cndX oneG uniC
 congr 2
 rw [←range_map31 (fun c=>fndC (if c=(compsG g).getD i default then topP ws t else anyP) g c)]
 refine List.map_congr_left fun j hj=>?_
 have hj:=List.mem_range.1 hj
 unfold cndP
 by_cases h:j=i
 ·subst h;rw [if_pos rfl,if_pos rfl]
 ·rw [if_neg (by omega),if_neg fun e=>h (comp_inj hg hj hi e)]
theorem to_le {g:Gr} (hg:validG g=true) (ws:List Int) {R:List Int} (hR:IsRep g R):gmx ws R≤toG ws g∧∀ c∈compsG g,gmx ws (whC c (inK c R c.length))≤toG ws g:=by
 obtain ⟨k1,k2,_⟩:=toL_spec ws g (compsG g)
 have h:∀ c∈compsG g,gmx ws (whC c (inK c R c.length))≤toG ws g:=fun c hc =>
  k2 c hc _ (List.mem_map_of_mem ((reps_mem (part_valid hg (comps_set hg hc))).2 ((parts_rep hg hR.set).1 hR c hc)))
 exact ⟨(gmx_parts hg hR.set _).2 ⟨k1,h⟩,h⟩
theorem all_first {g:Gr} (hg:validG g=true):FstG g (fun _=>True) (allG g):=by
 obtain ⟨r,hr⟩:=skol (l:=compsG g) (P:=fun c r=>fndC anyP g c=whC c r∧FstC g c anyP r) fun c hc=>by
  obtain ⟨r0,h0⟩:=exists_rep (part_valid hg (comps_set hg hc))
  exact fnd_fst hg hc h0 rfl
 have he:allG g=uniC g fun c=>whC c (r c):=by
  unfold allG uniC
  rw [List.map_congr_left fun c hc=>(hr c hc).1]
 obtain ⟨h1,h2⟩:=union_rep hg (r:=r) fun c hc=>(hr c hc).2.rep
 rw [he]
 refine ⟨h1,trivial,fun R hR _=>lex_parts hg hR h1 fun c hc=>?_⟩
 rw [h2 c hc]
 exact (hr c hc).2.first _ ((parts_rep hg hR.set).1 hR c hc) rfl
theorem one_first {g:Gr} (hg:validG g=true) (ws:List Int) {d:List Int} (hd:d∈compsG g) {r0:List Int} (h0:IsRep (partG g d) r0) (hp:gmx ws (whC d r0)=toG ws g):IsRep g (oneG ws (toG ws g) g d)∧gmx ws (oneG ws (toG ws g) g d)=toG ws g∧∀ R,IsRep g R→gmx ws (whC d (inK d R d.length))=toG ws g→lexB R (oneG ws (toG ws g) g d)=false:=by
 obtain ⟨r,hr⟩:=skol (l:=compsG g) (P:=fun c r=>fndC (if c=d then topP ws (toG ws g) else anyP) g c=whC c r∧FstC g c (if c=d then topP ws (toG ws g) else anyP) r) fun c hc=>by
  by_cases h:c=d
  ·subst h
   refine fnd_fst hg hc h0 ?_
   rw [if_pos rfl]
   exact decide_eq_true hp
  ·obtain ⟨r1,h1⟩:=exists_rep (part_valid hg (comps_set hg hc))
   refine fnd_fst hg hc h1 ?_
   rw [if_neg h];rfl
 have he:oneG ws (toG ws g) g d=uniC g fun c=>whC c (r c):=by
  unfold oneG uniC
  rw [List.map_congr_left fun c hc=>(hr c hc).1]
 obtain ⟨h1,h2⟩:=union_rep hg (r:=r) fun c hc=>(hr c hc).2.rep
 rw [he]
 refine ⟨h1,?_,fun R hR hp=>lex_parts hg hR h1 fun c hc=>?_⟩
 ·have a:=(to_le hg ws h1).1
  have b:=((gmx_parts hg h1.set (ws:=ws) _).1 (Int.le_refl _)).2 d hd
  rw [h2 d hd] at b
  have c:=(hr d hd).2.ok
  rw [if_pos rfl] at c
  have c:gmx ws (whC d (r d))=toG ws g:=of_decide_eq_true c
  omega
 ·rw [h2 c hc]
  refine (hr c hc).2.first _ ((parts_rep hg hR.set).1 hR c hc) ?_
  by_cases h:c=d
  ·subst h
   rw [if_pos rfl];exact decide_eq_true hp
  ·rw [if_neg h];rfl
theorem cnd_is {g:Gr} (hg:validG g=true) (ws:List Int) {n:Nat} (hn:n≤(compsG g).length) {S:List Int} (h:cndO ws (toG ws g) g ((n:Nat)-1)=some S):(n=0∧S=allG g)∨∃ d∈compsG g,n=n∧S=oneG ws (toG ws g) g d∧∃ r0,IsRep (partG g d) r0∧gmx ws (whC d r0)=toG ws g:=by
 unfold cndO at h
 split at h
 ·cases h
 ·rename_i hs
  injection h with h
  cases n with
  | zero =>
   rw [show ((0:Nat):Int)-1=-1 by omega,cnd_all] at h
   exact .inl ⟨rfl,h.symm⟩
  | succ n =>
   rw [show ((n+1:Nat):Int)-1=(n:Nat) by omega] at h hs
   rw [cnd_one hg ws _ (by omega)] at h
   have hd:(compsG g).getD n default∈compsG g:=gmem (by omega)
   refine .inr ⟨_,hd,rfl,h.symm,?_⟩
   unfold skpB at hs
   rw [Int.toNat_natCast] at hs
   obtain ⟨k1,k2,k3⟩:=toL_spec ws g (compsG g)
   have hpv:=part_valid hg (comps_set hg hd)
   by_cases ht:0<toG ws g
   ·have hne:fndC (topP ws (toG ws g)) g ((compsG g).getD n default)≠[]:=fun e=>hs ⟨by omega,by omega,e,ht⟩
    unfold fndC at hne
    cases hf:(repsW (partG g ((compsG g).getD n default)) ((compsG g).getD n default)).find? (topP ws (toG ws g)) with
    | none=>rw [hf] at hne;exact absurd rfl hne
    | some Z =>
     obtain ⟨r,rfl,hr⟩:=fnd_some hg hd hf
     exact ⟨r,hr.rep,of_decide_eq_true hr.ok⟩
   ·obtain ⟨r,hr⟩:=exists_rep hpv
    refine ⟨r,hr,?_⟩
    have a:=k2 _ hd _ (List.mem_map_of_mem (f:=whC ((compsG g).getD n default)) ((reps_mem hpv).2 hr))
    have b:=gmx_nn ws (whC ((compsG g).getD n default) r)
    unfold toG at ht ⊢
    omega
theorem cnd_at {g:Gr} (hg:validG g=true) (ws:List Int) {d:List Int} (hd:d∈compsG g) {r0:List Int} (h0:IsRep (partG g d) r0) (hp:gmx ws (whC d r0)=toG ws g):∃ n,n≤(compsG g).length∧cndO ws (toG ws g) g ((n:Nat)-1)=some (oneG ws (toG ws g) g d):=by
 obtain ⟨i,hi,rfl⟩:=comp_ix hd
 refine ⟨i+1,by omega,?_⟩
 unfold cndO
 rw [show ((i+1:Nat):Int)-1=(i:Nat) by omega,cnd_one hg ws _ hi,if_neg]
 intro hs
 unfold skpB at hs
 rw [Int.toNat_natCast] at hs
 obtain ⟨_,_,he,ht⟩:=hs
 obtain ⟨r,h1,h2⟩:=fnd_fst hg hd (p:=topP ws (toG ws g)) h0 (decide_eq_true hp)
 have h3:gmx ws (whC ((compsG g).getD i default) r)=toG ws g:=of_decide_eq_true h2.ok
 rw [←h1,he] at h3
 have:gmx ws []=0:=rfl
 omega
theorem lex_ff {a b c:List Int} (h1:lexB a b=false) (h2:lexB b c=false):lexB a c=false:=by
 cases h:lexB a c with
 | false=>rfl
 | true =>
  cases h3:lexB b a with
  | false =>
   have:=lexB_sto.tot _ _ h1 h3
   subst this
   rw [h] at h2;exact h2
  | true=>rw [lexB_sto.trans _ _ _ h3 h] at h2;cases h2
theorem hi_inv {g:Gr} (hg:validG g=true) (ws:List Int):∀ n,n≤(compsG g).length+1→(∀ S,hiK ws (toG ws g) g n=some S→IsRep g S∧gmx ws S=toG ws g)∧∀ m,m<n→∀ S',cndO ws (toG ws g) g ((m:Nat)-1)=some S'→gmx ws S'=toG ws g→∃ S,hiK ws (toG ws g) g n=some S∧lexB S' S=false:=by
 intro n
 induction n with
 | zero=>exact fun _=>⟨fun S h=>(nomatch h),fun m h=>absurd h (Nat.not_lt_zero _)⟩
 | succ n ih =>
  intro hn
  obtain ⟨h1,h2⟩:=ih (by omega)
  have hrep:∀ S,cndO ws (toG ws g) g ((n:Nat)-1)=some S→IsRep g S:=fun S h=>by
   rcases cnd_is hg ws (by omega) h with ⟨_,rfl⟩ | ⟨d,hd,_,rfl,r0,h3,h4⟩
   ·exact (all_first hg).rep
   ·exact (one_first hg ws hd h3 h4).1
  rw [show hiK ws (toG ws g) g (n+1)=hiS ws (toG ws g) (hiK ws (toG ws g) g n) (cndO ws (toG ws g) g ((n:Nat)-1)) from rfl]
  cases hc:cndO ws (toG ws g) g ((n:Nat)-1) with
  | none =>
   refine ⟨h1,fun m hm S' hS' hp=>?_⟩
   by_cases e:m=n
   ·subst e;rw [hc] at hS';cases hS'
   ·exact h2 m (by omega) S' hS' hp
  | some C =>
   by_cases hh:gmx ws C=toG ws g∧(hiK ws (toG ws g) g n=none∨lexB C (resW (hiK ws (toG ws g) g n))=true)
   ·rw [show hiS ws (toG ws g) (hiK ws (toG ws g) g n) (some C)=some C from if_pos hh]
    refine ⟨fun S h=>?_,fun m hm S' hS' hp=>⟨C,rfl,?_⟩⟩
    ·injection h with h;subst h;exact ⟨hrep _ hc,hh.1⟩
    ·by_cases e:m=n
     ·subst e;rw [hc] at hS';injection hS' with hS';subst hS';exact lexB_sto.irr _
     ·obtain ⟨S,h3,h4⟩:=h2 m (by omega) S' hS' hp
      rcases hh.2 with h5 | h5
      ·rw [h5] at h3;cases h3
      ·rw [h3] at h5
       exact lex_ff h4 (lexB_sto.asym h5)
   ·rw [show hiS ws (toG ws g) (hiK ws (toG ws g) g n) (some C)=hiK ws (toG ws g) g n from if_neg hh]
    refine ⟨h1,fun m hm S' hS' hp=>?_⟩
    by_cases e:m=n
    ·subst e;rw [hc] at hS';injection hS' with hS';subst hS'
     cases hk:hiK ws (toG ws g) g m with
     | none=>exact absurd ⟨hp,.inl hk⟩ hh
     | some S =>
      refine ⟨S,rfl,?_⟩
      cases hb:lexB C S with
      | false=>rfl
      | true=>exact absurd ⟨hp,.inr (by rw [hk];exact hb)⟩ hh
    ·exact h2 m (by omega) S' hS' hp
theorem high_peak {g:Gr} (hg:validG g=true) (ws:List Int):FstG g (fun R=>gmx ws R=toG ws g) (highG ws g)∧hiK ws (toG ws g) g ((compsG g).length+1)=some (highG ws g):=by
 obtain ⟨h1,h2⟩:=hi_inv hg ws ((compsG g).length+1) (Nat.le_refl _)
 obtain ⟨k1,k2,k3⟩:=toL_spec ws g (compsG g)
 have hA:=all_first hg
 have h0:cndO ws (toG ws g) g (((0:Nat):Int)-1)=some (allG g):=by
  unfold cndO
  rw [if_neg (fun h=>by have:=h.1;omega),show ((0:Nat):Int)-1=-1 by omega,cnd_all]
 have hAn:=gmx_nn ws (allG g)
 by_cases ha:gmx ws (allG g)=toG ws g
 ·obtain ⟨S,h3,h4⟩:=h2 0 (by omega) _ h0 ha
  have hS:highG ws g=S:=by unfold highG;rw [h3];rfl
  obtain ⟨h5,h6⟩:=h1 S h3
  have h7:=hA.first S h5 trivial
  have h8:=lexB_sto.tot _ _ h4 h7
  rw [hS]
  refine ⟨⟨h5,h6,fun R hR _=>?_⟩,h3⟩
  rw [←h8];exact hA.first R hR trivial
 ·have ht:0<toG ws g:=by
   have:=(to_le hg ws hA.rep).1
   omega
  have hex:∃ d∈compsG g,∃ r0,IsRep (partG g d) r0∧gmx ws (whC d r0)=toG ws g:=by
   rcases k3 with k3 | ⟨c,hc,Z,hZ,k3⟩
   ·unfold toG at ht;omega
   ·obtain ⟨r,hr,rfl⟩:=List.mem_map.1 hZ
    exact ⟨c,hc,r,(reps_mem (part_valid hg (comps_set hg hc))).1 hr,k3.symm⟩
  obtain ⟨d,hd,r0,hr0,hp0⟩:=hex
  obtain ⟨n,hn,hc⟩:=cnd_at hg ws hd hr0 hp0
  obtain ⟨S,h3,h4⟩:=h2 n (by omega) _ hc (one_first hg ws hd hr0 hp0).2.1
  have hS:highG ws g=S:=by unfold highG;rw [h3];rfl
  obtain ⟨h5,h6⟩:=h1 S h3
  rw [hS]
  refine ⟨⟨h5,h6,fun R hR hp=>?_⟩,h3⟩
  have hq:¬gmx ws R≤toG ws g-1:=by omega
  rw [gmx_parts hg hR.set] at hq
  have:∃ c∈compsG g,¬gmx ws (whC c (inK c R c.length))≤toG ws g-1:=Classical.byContradiction fun hn=>hq ⟨by omega,fun c hc=>Classical.byContradiction fun h=>hn ⟨c,hc,h⟩⟩
  obtain ⟨c,hcm,hcp⟩:=this
  have hle:=(to_le hg ws hR).2 c hcm
  have heq:gmx ws (whC c (inK c R c.length))=toG ws g:=by omega
  have hrc:=(parts_rep hg hR.set).1 hR c hcm
  obtain ⟨n2,hn2,hc2⟩:=cnd_at hg ws hcm hrc heq
  obtain ⟨o1,o2,o3⟩:=one_first hg ws hcm hrc heq
  obtain ⟨S2,h7,h8⟩:=h2 n2 (by omega) _ hc2 o2
  rw [h3] at h7
  injection h7 with h7
  subst h7
  exact lex_ff (o3 R hR heq) h8
/-! ### How long the lists get -/
theorem cat_len {g:Gr} (hg:validG g=true) {F:List Int→List Int} (hF:∀ c∈compsG g,(F c).length≤c.length) (k:Nat):((((compsG g).take k).map F).flatten.length:Int)≤g.n:=by
 have h0:=(costB_iff.1 (validG_iff.1 hg).1).1
 have hn:=pairwise_ne_disj hg (L:=compsG g) (fun c h=>h) (comps_nodup hg) id (fun c _ v hv=>hv) (fun c hc=>inc_nodup (comp_inc hg hc))
 have h1:(((compsG g).map id).flatten.length:Int)≤g.n:=by
  have hi:Inc (srtF ((compsG g).map id).flatten):=le_inc (srtF_le _) (((List.mergeSort_perm _ _).nodup_iff).2 hn)
  have:=set_len hi (fun x hx=>by
   rw [srtF_mem,List.mem_flatten] at hx
   obtain ⟨l,hl,h⟩:=hx
   obtain ⟨c,hc,rfl⟩:=List.mem_map.1 hl
   exact (setB_iff.1 (comps_set hg hc)).2 x h) h0
  rw [srtF_len] at this;exact this
 have h2:∀ L:List (List Int),(∀ c∈L,(F c).length≤c.length)→(L.map F).flatten.length≤(L.map id).flatten.length:=by
  intro L
  induction L with
  | nil=>exact fun _=>Nat.le_refl _
  | cons c L ih =>
   intro h
   have a:=ih fun d hd=>h d (by simp [hd])
   have b:=h c (by simp)
   rw [List.map_cons,List.map_cons,List.flatten_cons,List.flatten_cons,List.length_append,List.length_append]
   have b:(F c).length≤(id c).length:=b
   omega
 have h3:=h2 ((compsG g).take k) fun c hc=>hF c (List.mem_of_mem_take hc)
 have h4:(((compsG g).take k).map id).flatten.length≤((compsG g).map id).flatten.length:=by
  rw [←List.take_append_drop k (compsG g),List.map_append,List.flatten_append,List.length_append,List.take_append_drop]
  omega
 omega
end Go.Proofs.YtdkhcipjenfcnaaGreatDoor
