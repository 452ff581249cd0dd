/- Own library: the stable sort, as plain mathematics over arrays of elements with tags. -/
import Derived.Test.YtdkhcipjenfcnaaGreatDoorXVcOwn
namespace Go.Vc
set_option maxRecDepth 100000
set_option maxHeartbeats 16000000
open Go.Sort
variable {α:Type} [Inhabited α]
def ixm (d:Array α) (f:Nat→Nat):Array α:=Array.ofFn fun i:Fin d.size=>d[f i.val]!
theorem ixm_size (d:Array α) (f:Nat→Nat):(ixm d f).size=d.size:=by simp [ixm]
theorem ixm_get (d:Array α) (f:Nat→Nat) {i:Nat} (hi:i<d.size):(ixm d f)[i]! = d[f i]! := by
 rw [getElem!_pos (ixm d f) i (by rw [ixm_size];exact hi)];simp [ixm]
theorem arr_ext {d e:Array α} (h:d.size=e.size) (hg:∀ i,i<d.size→d[i]! = e[i]!):d=e:=by
 refine Array.ext h fun i h1 h2=>?_
 have:=hg i h1
 rwa [getElem!_pos d i h1,getElem!_pos e i h2] at this
theorem ixm_ixm (d:Array α) (f g:Nat→Nat) (hg:∀ i,i<d.size→g i<d.size):ixm (ixm d f) g=ixm d fun i=>f (g i):=by
 refine arr_ext (by simp [ixm_size]) fun i hi=>?_
 have hi:i<d.size:=by simpa [ixm_size] using hi
 rw [ixm_get _ _ (by rw [ixm_size];exact hi),ixm_get _ _ (hg i hi),ixm_get _ _ hi]
theorem ixm_congr (d:Array α) {f g:Nat→Nat} (h:∀ i,i<d.size→f i=g i):ixm d f=ixm d g:=by
 refine arr_ext (by simp [ixm_size]) fun i hi=>?_
 have hi:i<d.size:=by simpa [ixm_size] using hi
 rw [ixm_get _ _ hi,ixm_get _ _ hi,h i hi]
theorem ixm_id (d:Array α) {f:Nat→Nat} (h:∀ i,i<d.size→f i=i):ixm d f=d:=by
 refine arr_ext (ixm_size _ _) fun i hi=>?_
 have hi:i<d.size:=by simpa [ixm_size] using hi
 rw [ixm_get _ _ hi,h i hi]
def swpI (x y n i:Nat):Nat:=if x≤i∧i<x+n then i-x+y else if y≤i∧i<y+n then i-y+x else i
def rotI (a m b i:Nat):Nat:=if a≤i∧i<b then (if i+(m-a)<b then i+(m-a) else i-(b-m)) else i
theorem swp_get (d:Array α) (i j:Nat) (hi:i<d.size) (hj:j<d.size) (k:Nat) (hk:k<d.size):(swp d i j)[k]! = if k=j then d[i]! else if k=i then d[j]! else d[k]! := by
 unfold swp
 rw [getElem!_pos _ k (by simpa using hk)]
 by_cases h1:k=j
 ·subst h1;simp
 ·rw [if_neg h1,Array.getElem_setIfInBounds_ne (by simpa using hk) (Ne.symm h1)]
  by_cases h2:k=i
  ·subst h2;simp
  ·rw [if_neg h2,Array.getElem_setIfInBounds_ne hk (Ne.symm h2),getElem!_pos d k hk]
theorem swpI_zero (d:Array α) (x y:Nat):ixm d (swpI x y 0)=d:=ixm_id d fun i _=>by unfold swpI;split <;> (try split) <;> omega
theorem swpI_succ (d:Array α) (x y k:Nat) (h:x+k<y) (hy:y+k<d.size):swp (ixm d (swpI x y k)) (x+k) (y+k)=ixm d (swpI x y (k+1)):=by
 have hs:=ixm_size d (swpI x y k)
 refine arr_ext (by unfold swp;simp [ixm_size]) fun i hi=>?_
 have hi:i<d.size:=by unfold swp at hi;simpa [ixm_size] using hi
 rw [swp_get _ _ _ (by omega) (by omega) _ (by omega),ixm_get _ _ (by omega),ixm_get _ _ (by omega),ixm_get _ _ hi,ixm_get _ _ hi]
 by_cases h1:i=y+k
 ·rw [if_pos h1];congr 1;unfold swpI;(repeat' split) <;> omega
 ·rw [if_neg h1]
  by_cases h2:i=x+k
  ·rw [if_pos h2];congr 1;unfold swpI;(repeat' split) <;> omega
  ·rw [if_neg h2];congr 1;unfold swpI;(repeat' split) <;> omega
theorem rotI_lt {a m b s:Nat} (_h1:a≤m) (_h2:m≤b) (h3:b≤s) (i:Nat) (hi:i<s):rotI a m b i<s:=by unfold rotI;(repeat' split) <;> omega
theorem rot_left (d:Array α) (m i j:Nat) (h:j<i) (hi:i≤m) (hj:m+j≤d.size):ixm (ixm d (swpI (m-i) m j)) (rotI (m-(i-j)) m (m+j))=ixm d (rotI (m-i) m (m+j)):=by
 rw [ixm_ixm d _ _ (rotI_lt (by omega) (by omega) hj)]
 refine ixm_congr d fun k hk=>?_
 unfold swpI rotI
 (repeat' split) <;> omega
theorem rot_right (d:Array α) (m i j:Nat) (h:i<j) (hi:i≤m) (hj:m+j≤d.size):ixm (ixm d (swpI (m-i) (m+j-i) i)) (rotI (m-i) m (m+(j-i)))=ixm d (rotI (m-i) m (m+j)):=by
 rw [ixm_ixm d _ _ (rotI_lt (by omega) (by omega) (by omega))]
 refine ixm_congr d fun k hk=>?_
 unfold swpI rotI
 (repeat' split) <;> omega
theorem rot_last (d:Array α) (m i:Nat) (hi:i≤m) (_hj:m+i≤d.size):ixm d (swpI (m-i) m i)=ixm d (rotI (m-i) m (m+i)):=by
 refine ixm_congr d fun k hk=>?_
 unfold swpI rotI
 (repeat' split) <;> omega
theorem ixm_perm (d:Array α) (f g:Nat→Nat) (a b:Nat) (hb:b≤d.size) (hf:∀ i,a≤i→i<b→a≤f i∧f i<b∧g (f i)=i) (hg:∀ i,a≤i→i<b→a≤g i∧g i<b∧f (g i)=i) (ho:∀ i,i<a∨b≤i→f i=i):PermIn a b d (ixm d f):=by
 refine ⟨ixm_size _ _,fun i hi=>?_,?_⟩
 ·by_cases h:i<d.size
  ·rw [ixm_get _ _ h,ho i hi]
  ·rw [getElem!_neg (ixm d f) i (by rw [ixm_size];exact h),getElem!_neg d i h]
 ·have key:∀ e:Array α,e.size=d.size→(e.extract a b).toList=(List.range' a (b-a)).map fun i=>e[i]! := fun e he=>by
   refine List.ext_getElem (by simp;omega) fun i h1 h2=>?_
   simp only [List.length_map,List.length_range'] at h2
   simp only [Array.getElem_toList,Array.getElem_extract,List.getElem_map,List.getElem_range',Nat.one_mul]
   rw [getElem!_pos e _ (by omega)]
  rw [key _ (ixm_size _ _),key d rfl]
  have h1:(List.range' a (b-a)).map (fun i=>(ixm d f)[i]!)=((List.range' a (b-a)).map f).map fun i=>d[i]! := by
   rw [List.map_map]
   refine List.map_congr_left fun i hi=>?_
   rw [List.mem_range'_1] at hi
   exact ixm_get _ _ (by omega)
  rw [h1]
  refine List.Perm.map _ ?_
  refine (List.perm_ext_iff_of_nodup ?_ List.nodup_range').2 fun x=>?_
  ·refine List.nodup_iff_pairwise_ne.2 ?_
   rw [List.pairwise_map]
   refine List.Pairwise.imp_of_mem ?_ (List.nodup_iff_pairwise_ne.1 (List.nodup_range' (s:=a) (n:=b-a)))
   intro x y hx hy hne e
   rw [List.mem_range'_1] at hx hy
   have h3:=(hf x hx.1 (by omega)).2.2
   have h4:=(hf y hy.1 (by omega)).2.2
   rw [e] at h3
   exact hne (h3.symm.trans h4)
  ·rw [List.mem_map,List.mem_range'_1]
   constructor
   ·rintro ⟨i,hi,rfl⟩
    rw [List.mem_range'_1] at hi
    have:=hf i hi.1 (by omega)
    omega
   ·intro hx
    have:=hg x hx.1 (by omega)
    exact ⟨g x,by rw [List.mem_range'_1];omega,this.2.2⟩
theorem rot_perm (d:Array α) (a m b:Nat) (h1:a≤m) (h2:m≤b) (h3:b≤d.size):PermIn a b d (ixm d (rotI a m b)):=by
 refine ixm_perm d _ (rotI a (a+(b-m)) b) a b h3 ?_ ?_ ?_
 ·intro i hi1 hi2;unfold rotI;refine ⟨?_,?_,?_⟩ <;> (repeat' split) <;> omega
 ·intro i hi1 hi2;unfold rotI;refine ⟨?_,?_,?_⟩ <;> (repeat' split) <;> omega
 ·intro i hi;unfold rotI;(repeat' split) <;> omega
theorem permIn_get {d d':Array α} {a b:Nat} (hb:b≤d.size) (h:PermIn a b d d') {i:Nat} (h1:a≤i) (h2:i<b):∃ j,a≤j∧j<b∧d'[i]! = d[j]! := by
 have hm:d'[i]! ∈ (d'.extract a b).toList:=by
  rw [getElem!_pos d' i (by have:=h.1;omega)]
  refine List.mem_iff_getElem.2 ⟨i-a,by simp [h.1];omega,?_⟩
  simp only [Array.getElem_toList,Array.getElem_extract]
  congr 1;omega
 have hm:=h.2.2.mem_iff.1 hm
 obtain ⟨k,hk,e⟩:=List.mem_iff_getElem.1 hm
 have hk3:k<min (b-a) (d.size-a):=by simpa using hk
 have hk2:k<b-a:=by omega
 refine ⟨a+k,by omega,by omega,?_⟩
 rw [←e,getElem!_pos d (a+k) (by omega)]
 simp
/-! ### Elements with tags -/
section
variable (lt:α→α→Bool)
def lx (x y:α×Nat):Bool:=lt x.1 y.1||(!lt y.1 x.1&&decide (x.2<y.2))
end
set_option linter.unusedSectionVars false
variable {lt:α→α→Bool}
theorem lx_swo (h:SWO lt):SWO (lx lt) where
 irrefl x:=by simp [lx,h.irrefl]
 trans x y z h1 h2:=by
  simp only [lx,Bool.or_eq_true,Bool.and_eq_true,Bool.not_eq_true',decide_eq_true_eq] at *
  rcases h1 with h1 | ⟨h1,h1'⟩
  ·rcases h2 with h2 | ⟨h2,h2'⟩
   ·exact .inl (h.trans _ _ _ h1 h2)
   ·left
    cases hz:lt x.1 z.1 with
    | true=>rfl
    | false=>have:=h.ntrans _ _ _ hz h2;rw [h1] at this;cases this
  ·rcases h2 with h2 | ⟨h2,h2'⟩
   ·left
    cases hz:lt x.1 z.1 with
    | true=>rfl
    | false=>have:=h.ntrans _ _ _ h1 hz;rw [h2] at this;cases this
   ·exact .inr ⟨h.ntrans _ _ _ h2 h1,by omega⟩
 ntrans x y z h1 h2:=by
  simp only [lx,Bool.or_eq_false_iff,Bool.and_eq_false_iff,Bool.not_eq_false',decide_eq_false_iff_not] at *
  refine ⟨h.ntrans _ _ _ h1.1 h2.1,?_⟩
  rcases h1.2 with e1 | e1
  ·left
   cases hz:lt z.1 x.1 with
   | true=>rfl
   | false=>have:=h.ntrans _ _ _ h2.1 hz;rw [e1] at this;cases this
  ·rcases h2.2 with e2 | e2
   ·left
    cases hz:lt z.1 x.1 with
    | true=>rfl
    | false=>have:=h.ntrans _ _ _ hz h1.1;rw [e2] at this;cases this
   ·exact .inr (by omega)
theorem lx_of_lt {x y:α×Nat} (h:x.2<y.2):lx lt y x=lt y.1 x.1:=by
 unfold lx
 rw [decide_eq_false (by omega),Bool.and_false,Bool.or_false]
theorem lx_lt (h:SWO lt) {x y:α×Nat} (e:lt x.1 y.1=true):lx lt y x=false:=by
 unfold lx
 have:lt y.1 x.1=false:=by
  cases hz:lt y.1 x.1 with
  | false=>rfl
  | true=>have:=h.trans _ _ _ e hz;rw [h.irrefl] at this;cases this
 rw [this,e];rfl
def Tg (a m b:Nat) (d:Array (α×Nat)):Prop:=∀ i j,a≤i→i<m→m≤j→j<b→d[i]!.2<d[j]!.2
theorem merge_rot (h:SWO lt) {d:Array (α×Nat)} {a m b s e:Nat} (hb:b≤d.size) (h1:a≤s) (h2:s≤m) (h3:m≤e) (h4:e≤b) (o1:SortedIn (lx lt) a m d) (o2:SortedIn (lx lt) m b d) (ht:Tg a m b d)
  (c1:s=m∨e=m∨lt d[e-1]!.1 d[s]!.1=true) (c2:s=a∨e=b∨lt d[e]!.1 d[s-1]!.1=false) :
  (SortedIn (lx lt) a s (ixm d (rotI s m e))∧SortedIn (lx lt) s (s+(e-m)) (ixm d (rotI s m e))∧Tg a s (s+(e-m)) (ixm d (rotI s m e)))
  ∧ (SortedIn (lx lt) (s+(e-m)) e (ixm d (rotI s m e))∧SortedIn (lx lt) e b (ixm d (rotI s m e))∧Tg (s+(e-m)) e b (ixm d (rotI s m e)))
  ∧ ∀ i j,a≤i→i<s+(e-m)→s+(e-m)≤j→j<b→lx lt (ixm d (rotI s m e))[j]! (ixm d (rotI s m e))[i]! = false:=by
 have g1:∀ i,i<s∨e≤i→i<b→(ixm d (rotI s m e))[i]! = d[i]! := fun i hi hb'=>by
  rw [ixm_get _ _ (by omega)];congr 1;unfold rotI;(repeat' split) <;> omega
 have g2:∀ i,s≤i→i<s+(e-m)→(ixm d (rotI s m e))[i]! = d[i+(m-s)]! := fun i hi hi2=>by
  rw [ixm_get _ _ (by omega)];congr 1;unfold rotI;(repeat' split) <;> omega
 have g3:∀ i,s+(e-m)≤i→i<e→(ixm d (rotI s m e))[i]! = d[i-(e-m)]! := fun i hi hi2=>by
  rw [ixm_get _ _ (by omega)];congr 1;unfold rotI;(repeat' split) <;> omega
 have S:=lx_swo h
 -- the second part's head, the first part's tail
 have r1l2:∀ i j,m≤i→i<e→s≤j→j<m→lx lt d[j]! d[i]! = false:=fun i j hi1 hi2 hj1 hj2=>by
  have hc:lt d[e-1]!.1 d[s]!.1=true:=by
   rcases c1 with c | c | c
   ·omega
   ·omega
   ·exact c
  have k1:lx lt d[e-1]! d[i]! = false:=by
   by_cases e1:i=e-1
   ·rw [←e1];exact S.irrefl _
   ·exact o2 i (e-1) hi1 (by omega) (by omega)
  have k2:lx lt d[j]! d[s]! = false:=by
   by_cases e1:j=s
   ·rw [e1];exact S.irrefl _
   ·exact o1 s j (by omega) (by omega) hj2
  exact S.ntrans _ _ _ (S.ntrans _ _ _ k2 (lx_lt h hc)) k1
 have l1r2:∀ i j,a≤i→i<s→e≤j→j<b→lx lt d[j]! d[i]! = false:=fun i j hi1 hi2 hj1 hj2=>by
  have hc:lt d[e]!.1 d[s-1]!.1=false:=by
   rcases c2 with c | c | c
   ·omega
   ·omega
   ·exact c
  have k1:lx lt d[s-1]! d[i]! = false:=by
   by_cases e1:i=s-1
   ·rw [←e1];exact S.irrefl _
   ·exact o1 i (s-1) hi1 (by omega) (by omega)
  have k2:lx lt d[j]! d[e]! = false:=by
   by_cases e1:j=e
   ·rw [e1];exact S.irrefl _
   ·exact o2 e j (by omega) (by omega) hj2
  have k3:lx lt d[e]! d[s-1]! = false:=by rw [lx_of_lt (ht (s-1) e (by omega) (by omega) (by omega) (by omega))];exact hc
  exact S.ntrans _ _ _ (S.ntrans _ _ _ k2 k3) k1
 refine ⟨⟨?_,?_,?_⟩,⟨?_,?_,?_⟩,?_⟩
 ·intro i j hi hij hj
  rw [g1 i (.inl (by omega)) (by omega),g1 j (.inl hj) (by omega)]
  exact o1 i j hi hij (by omega)
 ·intro i j hi hij hj
  rw [g2 i hi (by omega),g2 j (by omega) hj]
  exact o2 _ _ (by omega) (by omega) (by omega)
 ·intro i j hi1 hi2 hj1 hj2
  rw [g1 i (.inl hi2) (by omega),g2 j hj1 hj2]
  exact ht _ _ hi1 (by omega) (by omega) (by omega)
 ·intro i j hi hij hj
  rw [g3 i hi (by omega),g3 j (by omega) hj]
  exact o1 _ _ (by omega) (by omega) (by omega)
 ·intro i j hi hij hj
  rw [g1 i (.inr hi) (by omega),g1 j (.inr (by omega)) hj]
  exact o2 _ _ (by omega) (by omega) (by omega)
 ·intro i j hi1 hi2 hj1 hj2
  rw [g3 i hi1 hi2,g1 j (.inr hj1) hj2]
  exact ht _ _ (by omega) (by omega) (by omega) (by omega)
 ·intro i j hi1 hi2 hj1 hj2
  by_cases hi:i<s
  ·rw [g1 i (.inl hi) (by omega)]
   by_cases hj:j<e
   ·rw [g3 j hj1 hj];exact o1 _ _ hi1 (by omega) (by omega)
   ·rw [g1 j (.inr (by omega)) hj2];exact l1r2 i j hi1 hi (by omega) hj2
  ·rw [g2 i (by omega) hi2]
   by_cases hj:j<e
   ·rw [g3 j hj1 hj];exact r1l2 _ _ (by omega) (by omega) (by omega) (by omega)
   ·rw [g1 j (.inr (by omega)) hj2];exact o2 _ _ (by omega) (by omega) (by omega)
theorem sorted_join {d:Array (α×Nat)} {a m b:Nat} (o1:SortedIn (lx lt) a m d) (o2:SortedIn (lx lt) m b d) (hx:∀ i j,a≤i→i<m→m≤j→j<b→lx lt d[j]! d[i]! = false):SortedIn (lx lt) a b d:=by
 intro i j hi hij hj
 by_cases h1:j<m
 ·exact o1 i j hi hij h1
 ·by_cases h2:i<m
  ·exact hx i j hi h2 (by omega) hj
  ·exact o2 i j (by omega) hij hj
theorem cross_perm {d d':Array (α×Nat)} {a m b:Nat} (hb:b≤d.size) (_ham:a≤m) (hmb:m≤b) {R:α×Nat→α×Nat→Prop} (hx:∀ i j,a≤i→i<m→m≤j→j<b→R d[i]! d[j]!) (p1:PermIn a m d d') :
  ∀ i j,a≤i→i<m→m≤j→j<b→R d'[i]! d'[j]! := by
 intro i j h1 h2 h3 h4
 obtain ⟨k,k1,k2,k3⟩:=permIn_get (by omega) p1 h1 h2
 rw [k3,p1.2.1 j (.inr h3)]
 exact hx k j k1 k2 h3 h4
theorem cross_perm2 {d d':Array (α×Nat)} {a m b:Nat} (hb:b≤d.size) (_ham:a≤m) (_hmb:m≤b) {R:α×Nat→α×Nat→Prop} (hx:∀ i j,a≤i→i<m→m≤j→j<b→R d[i]! d[j]!) (p1:PermIn m b d d') :
  ∀ i j,a≤i→i<m→m≤j→j<b→R d'[i]! d'[j]! := by
 intro i j h1 h2 h3 h4
 obtain ⟨k,k1,k2,k3⟩:=permIn_get (by omega) p1 h3 h4
 rw [k3,p1.2.1 i (.inl h2)]
 exact hx i k h1 h2 k1 k2
theorem sorted_same {d d':Array α} {r:α→α→Bool} {a b:Nat} (o:SortedIn r a b d) (h:∀ i,a≤i→i<b→d'[i]! = d[i]!):SortedIn r a b d':=fun i j hi hij hj=>by
 rw [h i hi (by omega),h j (by omega) hj];exact o i j hi hij hj
theorem sorted_one {d:Array α} {r:α→α→Bool} {a b:Nat} (h:b≤a+1):SortedIn r a b d:=fun i j hi hij hj=>by omega
/-! ### The insertion sort keeps the order of what is as great -/
theorem insInner_perm (r:α→α→Bool) (a b:Nat):∀ (j:Nat) (d:Array α),j<b→b≤d.size→PermIn a b d (insInner r a j d)
 | 0,d,_,_=>permIn_refl _ _ _
 | j+1,d,hj,hb=>by
  rw [insInner]
  split
  ·rename_i hc
   have hc:a<j+1:=by
    rw [Bool.and_eq_true] at hc
    exact of_decide_eq_true hc.1
   have hp:=swp_permIn d a b (j+1) j (by omega) hj (by omega) (by omega) hb
   exact permIn_trans _ _ _ _ _ hp (insInner_perm r a b j _ (by omega) (by rw [hp.1];exact hb))
  ·exact permIn_refl _ _ _
def ltg (lt:α→α→Bool) (x y:α×Nat):Bool:=lt x.1 y.1
theorem insInner_tag (lt:α→α→Bool) (a:Nat):∀ (j:Nat) (d:Array (α×Nat)),j<d.size→(∀ k,a≤k→k<j→d[k]!.2<d[j]!.2)→insInner (ltg lt) a j d=insInner (lx lt) a j d
 | 0,d,_,_=>rfl
 | j+1,d,hj,ht=>by
  rw [insInner,insInner]
  by_cases hc:a<j+1
  ·have e:lx lt d[j+1]! d[j]! = ltg lt d[j+1]! d[j]! := lx_of_lt (ht j (by omega) (by omega))
   rw [e]
   split
   ·refine insInner_tag lt a j _ (by unfold swp;simp;omega) fun k hk1 hk2=>?_
    rw [swp_get _ _ _ hj (by omega) _ (by omega),if_neg (by omega),if_neg (by omega),swp_get _ _ _ hj (by omega) _ (by omega),if_pos rfl]
    exact ht k hk1 (by omega)
   ·rfl
  ·have:decide (j+1 > a)=false:=decide_eq_false (by omega)
   rw [this,Bool.false_and,Bool.false_and];rfl
theorem insOuter_tag (lt:α→α→Bool) (a b:Nat):∀ (n i:Nat) (d:Array (α×Nat)),b-i=n→a<i→b≤d.size→(∀ k l,a≤k→k<l→i≤l→l<b→d[k]!.2<d[l]!.2)→insOuter (ltg lt) a b i d=insOuter (lx lt) a b i d:=by
 intro n
 induction n with
 | zero =>
  intro i d hn ha hb ht
  rw [insOuter,if_neg (by omega)]
  conv=>rhs;rw [insOuter,if_neg (by omega)]
 | succ n ih =>
  intro i d hn ha hb ht
  rw [insOuter,if_pos (by omega)]
  conv=>rhs;rw [insOuter,if_pos (by omega)]
  rw [insInner_tag lt a i d (by omega) fun k h1 h2=>ht k i h1 h2 (Nat.le_refl _) (by omega)]
  have hp:=insInner_perm (lx lt) a (i+1) i d (by omega) (by omega)
  refine ih (i+1) _ (by omega) (by omega) (by rw [hp.1];exact hb) fun k l h1 h2 h3 h4=>?_
  rw [hp.2.1 l (.inr h3)]
  by_cases hk:k<i+1
  ·obtain ⟨k',q1,q2,q3⟩:=permIn_get (by omega) hp h1 hk
   rw [q3];exact ht k' l q1 (by omega) (by omega) h4
  ·rw [hp.2.1 k (.inr (by omega))];exact ht k l h1 h2 (by omega) h4
theorem ins_stable (h:SWO lt) (d:Array (α×Nat)) (a b:Nat) (hab:a≤b) (hb:b≤d.size) (ht:∀ k l,a≤k→k<l→l<b→d[k]!.2<d[l]!.2) :
  PermIn a b d (insertionSort (ltg lt) d a b)∧SortedIn (lx lt) a b (insertionSort (ltg lt) d a b):=by
 have e:insertionSort (ltg lt) d a b=insertionSort (lx lt) d a b:=insOuter_tag lt a b _ (a+1) d rfl (by omega) hb fun k l h1 h2 _ h4=>ht k l h1 h2 h4
 rw [e]
 exact insertionSort_holds (lx_swo h) d a b hab hb
/-! ### One element is put among many -/
theorem rot_up (d:Array α) (A k:Nat) (h1:A≤k) (h2:k+1<d.size):swp (ixm d (rotI A (A+1) (k+1))) k (k+1)=ixm d (rotI A (A+1) (k+2)):=by
 have hs:=ixm_size d (rotI A (A+1) (k+1))
 refine arr_ext (by unfold swp;simp [ixm_size]) fun i hi=>?_
 have hi:i<d.size:=by unfold swp at hi;simpa [ixm_size] using hi
 rw [swp_get _ _ _ (by omega) (by omega) _ (by omega),ixm_get _ _ (by omega),ixm_get _ _ (by omega),ixm_get _ _ hi,ixm_get _ _ hi]
 by_cases e1:i=k+1
 ·rw [if_pos e1];congr 1;unfold rotI;(repeat' split) <;> omega
 ·rw [if_neg e1]
  by_cases e2:i=k
  ·rw [if_pos e2];congr 1;unfold rotI;(repeat' split) <;> omega
  ·rw [if_neg e2];congr 1;unfold rotI;(repeat' split) <;> omega
theorem rot_up0 (d:Array α) (A:Nat):ixm d (rotI A (A+1) (A+1))=d:=ixm_id d fun i _=>by unfold rotI;(repeat' split) <;> omega
theorem rot_down (d:Array α) (M k:Nat) (h1:k≤M) (h2:0<k) (h3:M<d.size):swp (ixm d (rotI k M (M+1))) k (k-1)=ixm d (rotI (k-1) M (M+1)):=by
 have hs:=ixm_size d (rotI k M (M+1))
 refine arr_ext (by unfold swp;simp [ixm_size]) fun i hi=>?_
 have hi:i<d.size:=by unfold swp at hi;simpa [ixm_size] using hi
 rw [swp_get _ _ _ (by omega) (by omega) _ (by omega),ixm_get _ _ (by omega),ixm_get _ _ (by omega),ixm_get _ _ hi,ixm_get _ _ hi]
 by_cases e1:i=k-1
 ·rw [if_pos e1];congr 1;unfold rotI;(repeat' split) <;> omega
 ·rw [if_neg e1]
  by_cases e2:i=k
  ·rw [if_pos e2];congr 1;unfold rotI;(repeat' split) <;> omega
  ·rw [if_neg e2];congr 1;unfold rotI;(repeat' split) <;> omega
theorem rot_down0 (d:Array α) (M:Nat):ixm d (rotI M M (M+1))=d:=ixm_id d fun i _=>by unfold rotI;(repeat' split) <;> omega
theorem merge_one (h:SWO lt) {d:Array (α×Nat)} {A B i:Nat} (hb:B≤d.size) (o2:SortedIn (lx lt) (A+1) B d) (ht:Tg A (A+1) B d) (h1:A+1≤i) (h2:i≤B)
  (c1:i=A+1∨lt d[i-1]!.1 d[A]!.1=true) (c2:i=B∨lt d[i]!.1 d[A]!.1=false):SortedIn (lx lt) A B (ixm d (rotI A (A+1) i)):=by
 have S:=lx_swo h
 have m:=merge_rot h (e:=i) (s:=A) hb (Nat.le_refl _) (by omega) h1 h2 (sorted_one (by omega)) o2 ht (c1.elim (fun c=>.inr (.inl c)) fun c=>.inr (.inr c)) (.inl rfl)
 refine sorted_join m.1.2.1 (sorted_join m.2.1.1 m.2.1.2.1 ?_) m.2.2
 intro x y hx1 hx2 hy1 hy2
 rw [lx_of_lt (m.2.1.2.2 x y hx1 hx2 hy1 hy2)]
 rw [ixm_get _ _ (by omega),ixm_get _ _ (by omega)]
 have e1:rotI A (A+1) i x=A:=by unfold rotI;(repeat' split) <;> omega
 have e2:rotI A (A+1) i y=y:=by unfold rotI;(repeat' split) <;> omega
 rw [e1,e2]
 have hc:lt d[i]!.1 d[A]!.1=false:=by
  rcases c2 with c | c
  ·omega
  ·exact c
 have k1:lx lt d[i]! d[A]! = false:=by rw [lx_of_lt (ht A i (Nat.le_refl _) (by omega) h1 (by omega))];exact hc
 have k2:lx lt d[y]! d[i]! = false:=by
  by_cases e:y=i
  ·rw [e];exact S.irrefl _
  ·exact o2 i y (by omega) (by omega) hy2
 have k3:=S.ntrans _ _ _ k2 k1
 rwa [lx_of_lt (ht A y (Nat.le_refl _) (by omega) (by omega) hy2)] at k3
theorem merge_last (h:SWO lt) {d:Array (α×Nat)} {A M i:Nat} (hb:M+1≤d.size) (o1:SortedIn (lx lt) A M d) (ht:Tg A M (M+1) d) (h1:A≤i) (h2:i≤M)
  (c1:i=M∨lt d[M]!.1 d[i]!.1=true) (c2:i=A∨lt d[M]!.1 d[i-1]!.1=false):SortedIn (lx lt) A (M+1) (ixm d (rotI i M (M+1))):=by
 have S:=lx_swo h
 have m:=merge_rot h (b:=M+1) (e:=M+1) (s:=i) hb h1 h2 (by omega) (Nat.le_refl _) o1 (sorted_one (by omega)) ht (c1.elim .inl fun c=>.inr (.inr c)) (.inr (.inl rfl))
 refine sorted_join (sorted_join m.1.1 m.1.2.1 ?_) m.2.1.1 m.2.2
 intro x y hx1 hx2 hy1 hy2
 rw [lx_of_lt (m.1.2.2 x y hx1 hx2 hy1 hy2)]
 rw [ixm_get _ _ (by omega),ixm_get _ _ (by omega)]
 have e1:rotI i M (M+1) x=x:=by unfold rotI;(repeat' split) <;> omega
 have e2:rotI i M (M+1) y=M:=by unfold rotI;(repeat' split) <;> omega
 rw [e1,e2]
 have hc:lt d[M]!.1 d[i-1]!.1=false:=by
  rcases c2 with c | c
  ·omega
  ·exact c
 have k1:lx lt d[M]! d[i-1]! = false:=by rw [lx_of_lt (ht (i-1) M (by omega) (by omega) (Nat.le_refl _) (by omega))];exact hc
 have k2:lx lt d[i-1]! d[x]! = false:=by
  by_cases e:x=i-1
  ·rw [←e];exact S.irrefl _
  ·exact o1 x (i-1) (by omega) (by omega) (by omega)
 have k3:=S.ntrans _ _ _ k1 k2
 rwa [lx_of_lt (ht x M (by omega) (by omega) (Nat.le_refl _) (by omega))] at k3
/-! ### The blocks -/
def Bd (sz x:Nat):Prop:=∃ k,x=k*sz
theorem Bd.zero (sz:Nat):Bd sz 0:=⟨0,by simp⟩
theorem Bd.next {sz x:Nat} (h:Bd sz x):Bd sz (x+sz):=by obtain ⟨k,rfl⟩:=h;exact ⟨k+1,by rw [Nat.succ_mul]⟩
theorem Bd.two {sz x:Nat} (h:Bd (2*sz) x):Bd sz x:=by obtain ⟨k,rfl⟩:=h;exact ⟨k*2,by rw [Nat.mul_assoc]⟩
theorem Bd.gap {sz x y:Nat} (h:Bd sz x) (k:Bd sz y):y≤x∨x+sz≤y:=by
 obtain ⟨i,rfl⟩:=h
 obtain ⟨j,rfl⟩:=k
 by_cases hij:j≤i
 ·exact .inl (Nat.mul_le_mul_right _ hij)
 ·right
  rw [←Nat.succ_mul]
  exact Nat.mul_le_mul_right _ (by omega)
theorem Tg.sub {a m b a' b':Nat} {d:Array (α×Nat)} (h:Tg a m b d) (h1:a≤a') (h2:b'≤b):Tg a' m b' d:=fun i j hi1 hi2 hj1 hj2=>h i j (by omega) hi2 hj1 (by omega)
theorem Tg.perm {x n a e:Nat} {d d':Array (α×Nat)} (h:Tg 0 x n d) (hn:n≤d.size) (hp:PermIn a e d d') (_hae:a≤e) (he:e≤n) (hx:x≤a∨e≤x):Tg 0 x n d':=by
 intro i j hi1 hi2 hj1 hj2
 have gi:∃ i',i'<x∧d'[i]! = d[i']! := by
  by_cases hi:a≤i∧i<e
  ·obtain ⟨k,k1,k2,k3⟩:=permIn_get (by omega) hp hi.1 hi.2
   exact ⟨k,by omega,k3⟩
  ·exact ⟨i,hi2,hp.2.1 i (by omega)⟩
 have gj:∃ j',x≤j'∧j'<n∧d'[j]! = d[j']! := by
  by_cases hj:a≤j∧j<e
  ·obtain ⟨k,k1,k2,k3⟩:=permIn_get (by omega) hp hj.1 hj.2
   exact ⟨k,by omega,by omega,k3⟩
  ·exact ⟨j,hj1,hj2,hp.2.1 j (by omega)⟩
 obtain ⟨i',h1,h2⟩:=gi
 obtain ⟨j',h3,h4,h5⟩:=gj
 rw [h2,h5]
 exact h i' j' (Nat.zero_le _) h1 h3 h4
theorem sorted_perm {r:α→α→Bool} {x y a e:Nat} {d d':Array α} (h:SortedIn r x y d) (hp:PermIn a e d d') (hx:y≤a∨e≤x):SortedIn r x y d':=sorted_same h fun i h1 h2=>hp.2.1 i (by omega)
structure Ph (lt:α→α→Bool) (sz n:Nat) (d:Array (α×Nat)):Prop where
 srt:∀ x,Bd sz x→SortedIn (lx lt) x (min (x+sz) n) d
 tg:∀ x,Bd sz x→Tg 0 x n d
structure Ins (lt:α→α→Bool) (sz n a:Nat) (d:Array (α×Nat)):Prop where
 bd:Bd sz a
 srt:∀ x,Bd sz x→x<a→SortedIn (lx lt) x (x+sz) d
 tg:∀ x,Bd sz x→Tg 0 x n d
 rest:∀ i j,a≤i→i<j→j<n→d[i]!.2<d[j]!.2
theorem Ins.step {sz n a e:Nat} {d d':Array (α×Nat)} (h:Ins lt sz n a d) (hn:n≤d.size) (he:e=a+sz) (hen:e≤n) (hp:PermIn a e d d') (ho:SortedIn (lx lt) a e d'):Ins lt sz n e d':=by
 subst he
 refine ⟨h.bd.next,fun x hx hlt=>?_,fun x hx=>(h.tg x hx).perm hn hp (by omega) hen (h.bd.gap hx),fun i j h1 h2 h3=>?_⟩
 ·rcases hx.gap h.bd with h1 | h1
  ·rcases h.bd.gap hx with h2 | h2
   ·have:x=a:=by omega
    subst this;exact ho
   ·omega
  ·by_cases hs:sz=0
   ·subst hs;exact sorted_one (by omega)
   ·exact sorted_perm (h.srt x hx (by omega)) hp (.inl (by omega))
 ·rw [hp.2.1 i (.inr h1),hp.2.1 j (.inr (by omega))]
  exact h.rest i j (by omega) h2 h3
theorem Ins.last {sz n a:Nat} {d d':Array (α×Nat)} (h:Ins lt sz n a d) (hs:0<sz) (hn:n≤d.size) (ha:a≤n) (hlt:n<a+sz) (hp:PermIn a n d d') (ho:SortedIn (lx lt) a n d'):Ph lt sz n d':=by
 refine ⟨fun x hx=>?_,fun x hx=>(h.tg x hx).perm hn hp ha (Nat.le_refl _) ?_⟩
 ·rcases hx.gap h.bd with h1 | h1
  ·rcases h.bd.gap hx with h2 | h2
   ·have:x=a:=by omega
    subst this
    rw [show min (x+sz) n=n by omega];exact ho
   ·exact sorted_one (by omega)
  ·have:=sorted_perm (h.srt x hx (by omega)) hp (.inl (by omega))
   rwa [show min (x+sz) n=x+sz by omega]
 ·rcases h.bd.gap hx with h2 | h2
  ·exact .inl h2
  ·exact .inr (by omega)
structure Mrg (lt:α→α→Bool) (sz n a:Nat) (d:Array (α×Nat)):Prop where
 bd:Bd (2*sz) a
 big:∀ x,Bd (2*sz) x→x<a→SortedIn (lx lt) x (x+2*sz) d
 srt:∀ x,Bd sz x→a≤x→SortedIn (lx lt) x (min (x+sz) n) d
 tgb:∀ x,Bd (2*sz) x→Tg 0 x n d
 tg:∀ x,Bd sz x→a≤x→Tg 0 x n d
theorem Ph.mrg {sz n:Nat} {d:Array (α×Nat)} (h:Ph lt sz n d):Mrg lt sz n 0 d:=⟨Bd.zero _,fun x _ h=>by omega,fun x hx _=>h.srt x hx,fun x hx=>h.tg x hx.two,fun x hx _=>h.tg x hx⟩
theorem Mrg.step {sz n a e:Nat} {d d':Array (α×Nat)} (h:Mrg lt sz n a d) (hs:0<sz) (hn:n≤d.size) (he:e=a+2*sz) (hen:e≤n) (hp:PermIn a e d d') (ho:SortedIn (lx lt) a e d'):Mrg lt sz n e d':=by
 subst he
 refine ⟨h.bd.next,fun x hx hlt=>?_,fun x hx hle=>?_,fun x hx=>(h.tgb x hx).perm hn hp (by omega) hen (h.bd.gap hx),fun x hx hle=>(h.tg x hx (by omega)).perm hn hp (by omega) hen (.inr hle)⟩
 ·rcases hx.gap h.bd with h1 | h1
  ·rcases h.bd.gap hx with h2 | h2
   ·have:x=a:=by omega
    subst this;exact ho
   ·omega
  ·exact sorted_perm (h.big x hx (by omega)) hp (.inl (by omega))
 ·exact sorted_perm (h.srt x hx (by omega)) hp (.inr hle)
theorem Mrg.last {sz n a:Nat} {d d':Array (α×Nat)} (h:Mrg lt sz n a d) (hs:0<sz) (hn:n≤d.size) (ha:a≤n) (hlt:n<a+2*sz) (hp:PermIn a n d d') (ho:SortedIn (lx lt) a n d'):Ph lt (2*sz) n d':=by
 refine ⟨fun x hx=>?_,fun x hx=>(h.tgb x hx).perm hn hp ha (Nat.le_refl _) ?_⟩
 ·rcases hx.gap h.bd with h1 | h1
  ·rcases h.bd.gap hx with h2 | h2
   ·have:x=a:=by omega
    subst this
    rw [show min (x+2*sz) n=n by omega];exact ho
   ·exact sorted_one (by omega)
  ·have:=sorted_perm (h.big x hx (by omega)) hp (.inl (by omega))
   rwa [show min (x+2*sz) n=x+2*sz by omega]
 ·rcases h.bd.gap hx with h2 | h2
  ·exact .inl h2
  ·exact .inr (by omega)
section
variable {P:Program} {ρ:Env} {w:World} {ty t t':TypeId} {x y:Operand}
theorem R.half {a:Nat} (hx:tm ρ x=.int .u64 (a:Int)) (hy:tm ρ y=.int .u64 1):run1 P ρ (.binOp .shr t x y t') ty w=.ok (.value (.int .u64 ((a / 2:Nat):Int))) w:=by
 rw [R.shr hx hy (by decide)]
 have:((a:Nat):Int).fdiv (2 ^ Min.min (1:Int).toNat IntKind.u64.bits)=((a / 2:Nat):Int):=by
  have e:Min.min (1:Int).toNat IntKind.u64.bits=1:=rfl
  rw [e]
  show ((a:Nat):Int).fdiv 2=_
  rw [Int.fdiv_eq_ediv_of_nonneg _ (by decide)]
  omega
 rw [this]
end
end Go.Vc
