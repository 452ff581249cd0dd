/- Own library: ways, repairs, and what bounds say, plainly. No program. -/
import Derived.Test.YtdkhcipjenfcnaaGreatDoorXVcDiv
namespace Go.Vc
set_option maxRecDepth 100000
set_option maxHeartbeats 16000000
structure Wy where
 pos:List Int
 neg:List Int
instance:Inhabited Wy:=⟨⟨[],[]⟩⟩
def wyB (n:Int) (w:Wy):Bool:=setB w.pos n&&setB w.neg n
def holdW (R:List Int) (w:Wy):Bool:=(w.pos.all fun v=>decide (v∈R))&&w.neg.all fun v=>!decide (v∈R)
def someW (W:List Wy) (R:List Int):Bool:=W.any (holdW R)
structure IsRep (g:Gr) (R:List Int):Prop where
 set:setB R g.n=true
 free:∀ e∈g.edges,subB e R=false
 max:∀ v,0≤v→v<g.n→v∉R→∃ e∈g.edges,v∈e∧∀ x∈e,x≠v→x∈R
theorem IsRep.in {g:Gr} {R:List Int} (h:IsRep g R) {v:Int} (h0:0≤v) (h1:v<g.n) (hf:inE g.edges v=false):v∈R:=by
 by_cases hv:v∈R
 ·exact hv
 ·obtain ⟨e,he,hve,_⟩:=h.max v h0 h1 hv
  rw [inE_iff.2 ⟨e,he,hve⟩] at hf;cases hf
def blkB (E:List (List Int)) (P:List Int) (v:Int):Bool:=E.any fun e=>decide (v∈e)&&e.all fun x=>decide (x=v)||decide (x∈P)
theorem blkB_iff {E:List (List Int)} {P:List Int} {v:Int}:blkB E P v=true↔∃ e∈E,v∈e∧∀ x∈e,x≠v→x∈P:=by
 unfold blkB
 simp only [List.any_eq_true,Bool.and_eq_true,decide_eq_true_eq,List.all_eq_true,Bool.or_eq_true]
 constructor
 ·rintro ⟨e,he,hv,h⟩
  exact ⟨e,he,hv,fun x hx hne=>(h x hx).resolve_left hne⟩
 ·rintro ⟨e,he,hv,h⟩
  exact ⟨e,he,hv,fun x hx=>by by_cases e:x=v <;> simp [e,h x hx]⟩
theorem blkB_mono {E:List (List Int)} {P Q:List Int} {v:Int} (hs:∀ x∈P,x∈Q) (h:blkB E P v=true):blkB E Q v=true:=by
 obtain ⟨e,he,hv,hx⟩:=blkB_iff.1 h
 exact blkB_iff.2 ⟨e,he,hv,fun x h1 h2=>hs x (hx x h1 h2)⟩
def indB (E:List (List Int)) (P:List Int):Bool:=E.all fun e=>!subB e P
theorem indB_iff {E:List (List Int)} {P:List Int}:indB E P=true↔∀ e∈E,subB e P=false:=by simp [indB]
theorem ind_snoc {E:List (List Int)} {P:List Int} {v:Int} (h:indB E P=true) (hb:blkB E P v=false):indB E (P++[v])=true:=by
 refine indB_iff.2 fun e he=>?_
 cases hs:subB e (P++[v]) with
 | false=>rfl
 | true =>
  have hx:=subB_iff.1 hs
  by_cases hv:v∈e
  ·rw [blkB_iff.2 ⟨e,he,hv,fun x h1 h2=>by have:=hx x h1;simp at this;exact this.resolve_right h2⟩] at hb;cases hb
  ·have:=indB_iff.1 h e he
   rw [subB_iff.2 fun x h1=>by
    have h2:=hx x h1
    simp at h2
    exact h2.resolve_right fun e2=>hv (e2▸h1)] at this
   cases this
theorem ind_blk {E:List (List Int)} {P S:List Int} {v:Int} (hs:∀ x∈P,x∈S) (hv:v∈S) (hb:blkB E P v=true):indB E S=false:=by
 cases h:indB E S with
 | false=>rfl
 | true =>
  obtain ⟨e,he,_,hx⟩:=blkB_iff.1 hb
  have:=indB_iff.1 h e he
  rw [subB_iff.2 fun x h1=>by
   by_cases e2:x=v
   ·rw [e2];exact hv
   ·exact hs x (hx x h1 e2)] at this
  cases this
def loadB (g:Gr) (S:List Int):Bool:=validG g&&setB S g.n&&indB g.edges S
theorem loadB_iff {g:Gr} {S:List Int}:loadB g S=true↔validG g=true∧setB S g.n=true∧indB g.edges S=true:=by
 unfold loadB;simp only [Bool.and_eq_true];exact ⟨fun h=>⟨h.1.1,h.1.2,h.2⟩,fun h=>⟨⟨h.1,h.2.1⟩,h.2.2⟩⟩
def stepX (E:List (List Int)) (P:List Int) (v:Int):List Int:=if v∈P∨blkB E P v=true then P else P++[v]
theorem stepX_sub {E:List (List Int)} {P:List Int} {v x:Int} (h:x∈P):x∈stepX E P v:=by
 unfold stepX;split
 ·exact h
 ·exact List.mem_append_left _ h
def extK (E:List (List Int)) (P:List Int) (k:Nat):List Int:=(List.range k).foldl (fun Q v=>stepX E Q ((v:Nat):Int)) P
theorem extK_succ (E:List (List Int)) (P:List Int) (k:Nat):extK E P (k+1)=stepX E (extK E P k) (k:Int):=by unfold extK;rw [List.range_succ,List.foldl_append];rfl
theorem extK_mono {E:List (List Int)} {P:List Int} {k:Nat} {x:Int}:∀ {m:Nat},k≤m→x∈extK E P k→x∈extK E P m:=by
 intro m
 induction m with
 | zero =>
   intro h hx;obtain rfl:k=0:=by omega
   exact hx
 | succ m ih =>
  intro h hx
  by_cases e:k=m+1
  ·rw [←e];exact hx
  ·rw [extK_succ];exact stepX_sub (ih (by omega) hx)
theorem extK_sub {E:List (List Int)} {P:List Int} (k:Nat) {x:Int} (h:x∈P):x∈extK E P k:=extK_mono (k:=0) (Nat.zero_le _) h
theorem extK_dec {E:List (List Int)} {P:List Int} {v:Nat}:∀ {k:Nat},v<k→(v:Int)∈extK E P k∨blkB E (extK E P k) v=true:=by
 intro k
 induction k with
 | zero=>intro h;omega
 | succ k ih =>
  intro h
  rw [extK_succ]
  by_cases e:v=k
  ·subst e
   unfold stepX
   split
   ·assumption
   ·left;simp
  ·rcases ih (by omega) with h1 | h1
   ·exact .inl (stepX_sub h1)
   ·exact .inr (blkB_mono (fun x hx=>stepX_sub hx) h1)
theorem extK_mem {E:List (List Int)} {P:List Int} {x:Int}:∀ {k:Nat},x∈extK E P k→x∈P∨0≤x∧x<k:=by
 intro k
 induction k with
 | zero=>intro h;exact .inl h
 | succ k ih =>
  intro h
  rw [extK_succ] at h
  unfold stepX at h
  split at h
  ·rcases ih h with h | h
   ·exact .inl h
   ·right;omega
  ·rw [List.mem_append,List.mem_singleton] at h
   rcases h with h | h
   ·rcases ih h with h | h
    ·exact .inl h
    ·right;omega
   ·right;omega
theorem extK_ind {E:List (List Int)} {P:List Int} (h:indB E P=true):∀ k,indB E (extK E P k)=true:=by
 intro k
 induction k with
 | zero=>exact h
 | succ k ih =>
  rw [extK_succ]
  unfold stepX
  split
  ·exact ih
  ·rename_i hn
   exact ind_snoc ih (by cases hb:blkB E (extK E P k) k with
    | false=>rfl
    | true=>exact absurd (.inr hb) hn)
def memK (P:List Int) (k:Nat):List Int:=((List.range k).filter fun i=>decide (((i:Nat):Int)∈P)).map fun i=>((i:Nat):Int)
theorem memK_succ (P:List Int) (k:Nat):memK P (k+1)=memK P k++if (k:Int)∈P then [(k:Int)] else []:=by
 unfold memK
 rw [List.range_succ,List.filter_append,List.map_append]
 congr 1
 by_cases h:(k:Int)∈P <;> simp [h]
theorem memK_mem {P:List Int} {k:Nat} {x:Int}:x∈memK P k↔0≤x∧x<k∧x∈P:=by
 unfold memK
 rw [List.mem_map]
 constructor
 ·rintro ⟨i,hi,rfl⟩
  rw [List.mem_filter,List.mem_range] at hi
  exact ⟨by omega,by omega,by simpa using hi.2⟩
 ·rintro ⟨h1,h2,h3⟩
  refine ⟨x.toNat,List.mem_filter.2 ⟨List.mem_range.2 (by omega),decide_eq_true ?_⟩,by omega⟩
  rw [show ((x.toNat:Nat):Int)=x by omega];exact h3
theorem memK_inc (P:List Int) (k:Nat):Inc (memK P k):=filt_inc _ k
def extF (g:Gr) (S:List Int):List Int:=memK (extK g.edges S g.n.toNat) g.n.toNat
theorem ext_rep {g:Gr} {S:List Int} (h:loadB g S=true):IsRep g (extF g S)∧∀ x∈S,x∈extF g S:=by
 obtain ⟨hg,hs,hi⟩:=loadB_iff.1 h
 have hn:=costB_iff.1 (validG_iff.1 hg).1
 have hsr:=(setB_iff.1 hs).2
 have hmem:∀ x,x∈extF g S↔x∈extK g.edges S g.n.toNat:=fun x=>by
  unfold extF
  rw [memK_mem]
  refine ⟨fun h=>h.2.2,fun h=>?_⟩
  rcases extK_mem h with h1 | h1
  ·have:=hsr x h1;exact ⟨this.1,by omega,h⟩
  ·exact ⟨h1.1,h1.2,h⟩
 refine ⟨⟨setB_iff.2 ⟨memK_inc _ _,fun x hx=>?_⟩,fun e he=>?_,fun v h0 h1 hv=>?_⟩,fun x hx=>(hmem x).2 (extK_sub _ hx)⟩
 ·have:=memK_mem.1 hx
  exact ⟨this.1,by have:=this.2.1;have:=hn.1;omega⟩
 ·cases hs2:subB e (extF g S) with
  | false=>rfl
  | true =>
   have:=indB_iff.1 (extK_ind hi g.n.toNat) e he
   rw [subB_iff.2 fun x hx=>(hmem x).1 (subB_iff.1 hs2 x hx)] at this;cases this
 ·rw [hmem] at hv
  have:=extK_dec (E:=g.edges) (P:=S) (v:=v.toNat) (k:=g.n.toNat) (by omega)
  rw [show ((v.toNat:Nat):Int)=v by omega] at this
  obtain ⟨e,he,hve,hx⟩:=blkB_iff.1 (this.resolve_left hv)
  exact ⟨e,he,hve,fun x h1 h2=>(hmem x).2 (hx x h1 h2)⟩
def adjK (E:List (List Int)) (k:Nat) (v:Int):List Int:=((List.range k).filter fun i=>decide (v∈E.getD i default)).map fun i=>((i:Nat):Int)
theorem adjK_succ (E:List (List Int)) (k:Nat) (v:Int):adjK E (k+1) v=adjK E k v++if v∈E.getD k default then [(k:Int)] else []:=by
 unfold adjK
 rw [List.range_succ,List.filter_append,List.map_append]
 congr 1
 by_cases h:v∈E.getD k default
 ·rw [if_pos h,List.filter_cons_of_pos (by simpa using h)];rfl
 ·rw [if_neg h,List.filter_cons_of_neg (by simpa using h)];rfl
theorem adjK_mem {E:List (List Int)} {k:Nat} {v x:Int}:x∈adjK E k v↔∃ i,i<k∧v∈E.getD i default∧x=(i:Int):=by
 unfold adjK
 rw [List.mem_map]
 constructor
 ·rintro ⟨i,hi,rfl⟩
  rw [List.mem_filter,List.mem_range,decide_eq_true_eq] at hi
  exact ⟨i,hi.1,hi.2,rfl⟩
 ·rintro ⟨i,h1,h2,rfl⟩
  exact ⟨i,List.mem_filter.2 ⟨List.mem_range.2 h1,decide_eq_true h2⟩,rfl⟩
theorem adjK_inc (E:List (List Int)) (k:Nat) (v:Int):Inc (adjK E k v):=filt_inc _ k
theorem adjK_len (E:List (List Int)) (k:Nat) (v:Int):(adjK E k v).length≤k:=by
 unfold adjK;rw [List.length_map];exact Nat.le_trans (List.length_filter_le _ _) (by simp)
def cntE (e P:List Int):Nat:=(e.filter fun x=>decide (x∈P)).length
theorem cntE_nil (e:List Int):cntE e []=0:=by unfold cntE;simp
theorem cntE_le (e P:List Int):cntE e P≤e.length:=List.length_filter_le _ _
theorem cntE_put {P P':List Int} {v:Int} (hv:v∉P) (hP:∀ x,x∈P'↔x=v∨x∈P):∀ {e:List Int},e.Nodup→cntE e P'=cntE e P+if v∈e then 1 else 0:=by
 intro e
 induction e with
 | nil=>intro _;simp [cntE]
 | cons x e ih =>
  intro hn
  rw [List.nodup_cons] at hn
  have h:=ih hn.2
  unfold cntE at h ⊢
  by_cases e1:x=v
  ·subst e1
   rw [if_neg hn.1] at h
   rw [List.filter_cons_of_pos (by simpa using (hP x).2 (.inl rfl)),List.filter_cons_of_neg (by simpa using hv),if_pos List.mem_cons_self,List.length_cons,h]
  ·have hm:v∈x :: e↔v∈e:=by rw [List.mem_cons];exact ⟨fun h=>h.resolve_left (Ne.symm e1),.inr⟩
   have hif:(if v∈x :: e then 1 else 0)=if v∈e then 1 else 0:=by by_cases hh:v∈e <;> simp [hh,Ne.symm e1]
   rw [hif]
   by_cases hx:x∈P
   ·rw [List.filter_cons_of_pos (by simpa using (hP x).2 (.inr hx)),List.filter_cons_of_pos (by simpa using hx),List.length_cons,List.length_cons,h]
    omega
   ·rw [List.filter_cons_of_neg (by simpa using fun hh=>hx (((hP x).1 hh).resolve_left e1)),List.filter_cons_of_neg (by simpa using hx),h]
theorem filt_len (e:List Int) (p:Int→Bool):(e.filter p).length+(e.filter fun x=>!p x).length=e.length:=by
 induction e with
 | nil=>rfl
 | cons x e ih =>
  cases h:p x
  ·rw [List.filter_cons_of_neg (by simp [h]),List.filter_cons_of_pos (by simp [h]),List.length_cons,List.length_cons];omega
  ·rw [List.filter_cons_of_pos h,List.filter_cons_of_neg (by simp [h]),List.length_cons,List.length_cons];omega
theorem cnt_blk {e P:List Int} {v:Int} (hn:e.Nodup) (hv:v∈e) (hP:v∉P):((cntE e P:Nat):Int)=(e.length:Int)-1↔∀ x∈e,x≠v→x∈P:=by
 have hs:=filt_len e fun x=>decide (x∈P)
 have hvm:v∈e.filter fun x=>!decide (x∈P):=List.mem_filter.2 ⟨hv,by simpa using hP⟩
 have hnd:(e.filter fun x=>!decide (x∈P)).Nodup:=List.Pairwise.sublist List.filter_sublist hn
 unfold cntE
 constructor
 ·intro h x hx hne
  by_cases hxP:x∈P
  ·exact hxP
  ·exfalso
   have hxm:x∈e.filter fun x=>!decide (x∈P):=List.mem_filter.2 ⟨hx,by simpa using hxP⟩
   have h2:=nodup_sub (a:=[v,x]) (b:=e.filter fun x=>!decide (x∈P)) (by simp [Ne.symm hne]) (by intro y hy;rw [List.mem_cons,List.mem_singleton] at hy;exact hy.elim (fun h1=>h1▸hvm) (fun h1=>h1▸hxm))
   simp only [List.length_cons,List.length_nil] at h2
   omega
 ·intro h
  have h1:(e.filter fun x=>!decide (x∈P)).length≤[v].length:=nodup_sub hnd fun x hx=>by
   rw [List.mem_filter] at hx
   by_cases e1:x=v
   ·simp [e1]
   ·have:=h x hx.1 e1
    simp [this] at hx
  have h2:0<(e.filter fun x=>!decide (x∈P)).length:=List.length_pos_of_mem hvm
  simp only [List.length_cons,List.length_nil] at h1
  omega
theorem adj_blk {E:List (List Int)} {P:List Int} {v:Int} (hE:∀ e∈E,e.Nodup) (hP:v∉P) :
  ((adjK E E.length v).any fun k=>decide (((cntE (E.getD k.toNat default) P:Nat):Int)=((E.getD k.toNat default).length:Int)-1))=blkB E P v:=by
 have hg:∀ i,i<E.length→E.getD i default∈E:=fun i hi=>by rw [show E.getD i default=E[i] by simp [List.getD,hi]];exact List.getElem_mem _
 rw [Bool.eq_iff_iff,List.any_eq_true,blkB_iff]
 constructor
 ·rintro ⟨x,hx,h⟩
  obtain ⟨i,hi,hv,rfl⟩:=adjK_mem.1 hx
  rw [decide_eq_true_eq,Int.toNat_natCast] at h
  exact ⟨_,hg i hi,hv,(cnt_blk (hE _ (hg i hi)) hv hP).1 h⟩
 ·rintro ⟨e,he,hv,h⟩
  obtain ⟨i,hi,rfl⟩:=List.getElem_of_mem he
  have e1:E.getD i default=E[i]:=by simp [List.getD,hi]
  refine ⟨(i:Int),adjK_mem.2 ⟨i,hi,by rw [e1];exact hv,rfl⟩,?_⟩
  rw [decide_eq_true_eq,Int.toNat_natCast,e1]
  exact (cnt_blk (hE _ he) hv hP).2 h
def sm:List Int→Int
 | []=>0
 | x :: l=>x+sm l
theorem sm_app (l m:List Int):sm (l++m)=sm l+sm m:=by
 induction l with
 | nil=>show sm m=0+sm m;omega
 | cons x l ih=>show x+sm (l++m)=x+sm l+sm m;rw [ih];omega
theorem sm_snoc (l:List Int) (x:Int):sm (l++[x])=sm l+x:=by rw [sm_app];show sm l+(x+0)=_;omega
theorem sm_le {α:Type} (f g:α→Int):∀ {l:List α},(∀ x∈l,f x≤g x)→sm (l.map f)≤sm (l.map g):=by
 intro l
 induction l with
 | nil=>intro _;exact Int.le_refl _
 | cons x l ih =>
  intro h
  have h1:=h x List.mem_cons_self
  have h2:=ih fun y hy=>h y (List.mem_cons_of_mem _ hy)
  show f x+sm (l.map f)≤g x+sm (l.map g)
  omega
theorem sm_bnd {M:Int}:∀ {l:List Int},(∀ x∈l,-M≤x∧x≤M)→-(M*l.length)≤sm l∧sm l≤M*l.length:=by
 intro l
 induction l with
 | nil=>intro _;simp [sm]
 | cons x l ih =>
  intro h
  have h1:=h x List.mem_cons_self
  have h2:=ih fun y hy=>h y (List.mem_cons_of_mem _ hy)
  have h3:M*((x :: l).length:Int)=M*l.length+M:=by rw [List.length_cons];rw [Int.natCast_add,Int.mul_add];simp
  rw [h3]
  show -(M * ↑l.length+M)≤x+sm l∧x+sm l≤_
  omega
theorem sm_congr {α:Type} (f g:α→Int) {l:List α} (h:∀ x∈l,f x=g x):sm (l.map f)=sm (l.map g):=by rw [List.map_congr_left h]
theorem sm_filter {α:Type} (p:α→Bool) (f:α→Int) (l:List α):sm ((l.filter p).map f)=sm (l.map fun v=>if p v=true then f v else 0):=by
 induction l with
 | nil=>rfl
 | cons x l ih =>
  cases h:p x
  ·rw [List.filter_cons_of_neg (by simp [h]),List.map_cons,ih,h]
   show _=(if false=true then f x else 0)+sm _
   rw [if_neg (by decide)];omega
  ·rw [List.filter_cons_of_pos h,List.map_cons,List.map_cons,h]
   show f x+_=(if true=true then f x else 0)+sm _
   rw [if_pos rfl,ih]
def wtF (ws:List Int) (v:Int):Int:=ws.getD v.toNat default
theorem sm_hds (f:Nat→Int) (x:Nat) (a:Int):∀ {H:List Nat},H.Nodup→x∈H→sm (H.map fun h=>f h+if x=h then a else 0)=sm (H.map f)+a:=by
 intro H
 induction H with
 | nil=>intro _ h;cases h
 | cons y H ih =>
  intro hn hx
  rw [List.nodup_cons] at hn
  show f y+(if x=y then a else 0)+sm _=f y+sm _+a
  by_cases e:x=y
  ·subst e
   rw [if_pos rfl,sm_congr (fun h=>f h+if x=h then a else 0) f fun h hh=>by rw [if_neg (fun e=>hn.1 (by rw [e];exact hh))];omega]
   omega
  ·rw [if_neg e,ih hn.2 ((List.mem_cons.1 hx).resolve_left e)]
   omega
theorem sm_grps (r:Nat→Nat) (f:Int→Int):∀ {n:Nat},(∀ i,i<n→r i≤i)→(∀ i,i<n→r (r i)=r i)→sm ((grpsK r n).map fun c=>sm (c.map f))=sm ((List.range n).map fun i=>f ((i:Nat):Int)):=by
 intro n
 induction n with
 | zero=>intro _ _;rfl
 | succ n ih =>
  intro hle hid
  have h0:=ih (fun i hi=>hle i (by omega)) (fun i hi=>hid i (by omega))
  have hx:r n∈hdsK r (n+1):=hdsK_mem.2 ⟨by have:=hle n (by omega);omega,hid n (by omega)⟩
  rw [List.range_succ,List.map_append,List.map_cons,List.map_nil,sm_snoc,←h0]
  unfold grpsK
  rw [List.map_map,List.map_map]
  have hs:∀ h,((fun c=>sm (c.map f)) ∘ memsK r (n+1)) h=((fun c=>sm (c.map f)) ∘ memsK r n) h+if r n=h then f (n:Int) else 0:=fun h=>by
   show sm ((memsK r (n+1) h).map f)=sm ((memsK r n h).map f)+_
   rw [memsK_succ,List.map_append,sm_app]
   by_cases e:r n=h
   ·rw [if_pos e,if_pos e];show _+(f n+0)=_;omega
   ·rw [if_neg e,if_neg e];rfl
  rw [show ((fun c=>sm (c.map f)) ∘ memsK r (n+1))=fun h=>((fun c=>sm (c.map f)) ∘ memsK r n) h+if r n=h then f (n:Int) else 0 from funext hs,sm_hds _ _ _ (hdsK_nodup r (n+1)) hx,hdsK_succ,List.map_append,sm_app]
  by_cases e:r n=n
  ·rw [if_pos e]
   have:memsK r n n=[]:=by
    refine List.eq_nil_iff_forall_not_mem.2 fun x hx=>?_
    obtain ⟨i,hi,hri,_⟩:=memsK_mem.1 hx
    have:=hle i (by omega)
    omega
   show _+(sm ((memsK r n n).map f)+0)+_=_
   rw [this];show _+((0:Int)+0)+_=_;omega
  ·rw [if_neg e];show _+(0:Int)+_=_;omega
theorem sm_memK (P:List Int) (f:Int→Int) (n:Nat):sm ((memK P n).map f)=sm ((List.range n).map fun i=>if ((i:Nat):Int)∈P then f ((i:Nat):Int) else 0):=by
 induction n with
 | zero=>rfl
 | succ n ih =>
  rw [memK_succ,List.map_append,sm_app,List.range_succ,List.map_append,List.map_cons,List.map_nil,sm_snoc,ih]
  by_cases e:(n:Int)∈P
  ·rw [if_pos e,if_pos e];show _+(f n+0)=_;omega
  ·rw [if_neg e,if_neg e];rfl
theorem comps_sum {g:Gr} (hg:validG g=true) (f:Int→Int):sm ((compsG g).map fun c=>sm (c.map f))=sm ((List.range g.n.toNat).map fun i=>f ((i:Nat):Int)):=by
 unfold compsG
 rw [if_pos hg]
 have h:=validG_comp hg
 exact sm_grps _ _ h.le h.idem
theorem rep_sum {g:Gr} {R:List Int} (hg:validG g=true) (hR:setB R g.n=true) (f:Int→Int):sm (R.map f)=sm ((compsG g).map fun c=>sm ((c.filter fun v=>decide (v∈R)).map f)):=by
 obtain ⟨h1,h2⟩:=setB_iff.1 hR
 have hn:=(costB_iff.1 (validG_iff.1 hg).1).1
 have e1:R=memK R g.n.toNat:=inc_ext h1 (memK_inc _ _) fun x=>by
  rw [memK_mem];exact ⟨fun h=>⟨(h2 x h).1,by have:=(h2 x h).2;omega,h⟩,fun h=>h.2.2⟩
 have e2:sm (R.map f)=sm ((memK R g.n.toNat).map f):=by rw [←e1]
 rw [e2,sm_memK,←comps_sum hg fun v=>if v∈R then f v else 0]
 refine sm_congr _ _ fun c _=>?_
 rw [sm_filter]
 exact sm_congr _ _ fun v _=>by by_cases e:v∈R <;> simp [e]
theorem comp_edge {g:Gr} (hg:validG g=true) {c e:List Int} (hc:c∈compsG g) (he:e∈g.edges) {v:Int} (hv:v∈e) (hvc:v∈c):∀ u∈e,u∈c:=by
 obtain ⟨h,hh,hr,rfl⟩:=(comps_mem hg).1 hc
 have hs:=prsE_same.1 (validG_comp hg).join e he
 have hlt:=validG_lt hg e he
 obtain ⟨i,hi,hri,hvi⟩:=memsK_mem.1 hvc
 intro u hu
 have hu0:=hlt u hu
 refine memsK_mem.2 ⟨u.toNat,by omega,?_,by omega⟩
 rw [←hs v hv u hu,←hri]
 congr 1
 omega
theorem comp_inc {g:Gr} (hg:validG g=true) {c:List Int} (hc:c∈compsG g):Inc c:=(setB_iff.1 (comps_set hg hc)).1
end Go.Vc
