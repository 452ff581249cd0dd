/- Own library: proofs about all repairs. Plain. -/
import Derived.Test.YtdkhcipjenfcnaaGreatDoorXVcRepP
namespace Go.Vc
set_option maxRecDepth 100000
set_option maxHeartbeats 16000000
structure St4 where
 k:Int
 a:Int
 i:Int
 o:Int
instance:Inhabited St4:=⟨⟨0,0,0,0⟩⟩
structure PrfC where
 n:Int
 E:List (List Int)
 W:List Wy
 h:Bool
 S:List St4
def stA (s:List Int) (v:Int):Int:=s.getD v.toNat default
def areA (s l:List Int) (x:Int):Bool:=l.all fun v=>decide (stA s v=x)
def somA (s l:List Int) (x:Int):Bool:=l.any fun v=>decide (stA s v=x)
def frA (E:List (List Int)) (s:List Int) (v:Int):Bool:=E.all fun e=>!decide (v∈e)||e.any fun u=>decide (u≠v)&&decide (stA s u=2)
def leafA (c:PrfC) (s:List Int) (x:St4):Bool :=
 if x.k=2 then decide (0≤x.a∧x.a<(c.E.length:Int))&&areA s (c.E.getD x.a.toNat default) 1
 else if x.k=3 then decide (0≤x.a∧x.a<c.n∧stA s x.a=2)&&frA c.E s x.a
 else if x.k=4 then !c.h&&(decide (0≤x.a∧x.a<(c.W.length:Int))&&(areA s (c.W.getD x.a.toNat default).pos 1&&areA s (c.W.getD x.a.toNat default).neg 2))
 else if x.k=5 then c.h&&(decide (x.a=0)&&c.W.all fun w=>somA s w.pos 2||somA s w.neg 1)
 else false
theorem areA_iff {s l:List Int} {x:Int}:areA s l x=true↔∀ v∈l,stA s v=x:=by simp [areA]
theorem somA_iff {s l:List Int} {x:Int}:somA s l x=true↔∃ v∈l,stA s v=x:=by simp [somA]
theorem frA_iff {E:List (List Int)} {s:List Int} {v:Int}:frA E s v=true↔∀ e∈E,v∈e→∃ u∈e,u≠v∧stA s u=2:=by
 unfold frA
 rw [List.all_eq_true]
 constructor
 ·intro h e he hv
  have:=h e he
  rw [decide_eq_true hv,Bool.not_true,Bool.false_or,List.any_eq_true] at this
  obtain ⟨u,hu,h2⟩:=this
  rw [Bool.and_eq_true,decide_eq_true_eq,decide_eq_true_eq] at h2
  exact ⟨u,hu,h2⟩
 ·intro h e he
  by_cases hv:v∈e
  ·obtain ⟨u,hu,h2,h3⟩:=h e he hv
   rw [Bool.or_eq_true]
   exact .inr (List.any_eq_true.2 ⟨u,hu,by rw [decide_eq_true h2,decide_eq_true h3];rfl⟩)
  ·rw [decide_eq_false hv];rfl
def ConsA (n:Int) (s R:List Int):Prop:=∀ v,0≤v→v<n→(stA s v=1→v∈R)∧(stA s v=2→v∉R)
theorem stA_set {s:List Int} {n v:Int} (hs:(s.length:Int)=n) (h0:0≤v) (h1:v<n) (x u:Int) (hu:0≤u):stA (s.set v.toNat x) u=if u=v then x else stA s u:=by
 unfold stA
 by_cases e:u=v
 ·subst e
  rw [if_pos rfl,List.getD,List.getElem?_set_self (by omega)];rfl
 ·rw [if_neg e,List.getD,List.getElem?_set_ne (by omega)];rfl
theorem ConsA.set {n:Int} {s R:List Int} (h:ConsA n s R) (hs:(s.length:Int)=n) {v x:Int} (h0:0≤v) (h1:v<n) (hx:(x=1→v∈R)∧(x=2→v∉R)):ConsA n (s.set v.toNat x) R:=fun u hu0 hu1=>by
 rw [stA_set hs h0 h1 x u hu0]
 by_cases e:u=v
 ·subst e;rw [if_pos rfl];exact hx
 ·rw [if_neg e];exact h u hu0 hu1
structure PrfOk (g:Gr) (c:PrfC):Prop where
 v:validG g=true
 n:c.n=g.n
 E:c.E=g.edges
 W:∀ w∈c.W,wyB g.n w=true
theorem holdW_iff {R:List Int} {w:Wy}:holdW R w=true↔(∀ v∈w.pos,v∈R)∧∀ v∈w.neg,v∉R:=by
 unfold holdW
 rw [Bool.and_eq_true,List.all_eq_true,List.all_eq_true]
 refine and_congr ⟨fun h v hv=>of_decide_eq_true (h v hv),fun h v hv=>decide_eq_true (h v hv)⟩ ⟨fun h v hv=>by simpa using h v hv,fun h v hv=>by simpa using h v hv⟩
theorem wy_rng {n:Int} {w:Wy} (h:wyB n w=true):(∀ v∈w.pos,0≤v∧v<n)∧∀ v∈w.neg,0≤v∧v<n:=by
 unfold wyB at h
 rw [Bool.and_eq_true] at h
 exact ⟨(setB_iff.1 h.1).2,(setB_iff.1 h.2).2⟩
theorem leaf_sound {g:Gr} {c:PrfC} (hc:PrfOk g c) {s R:List Int} {x:St4} (h:leafA c s x=true) (hR:IsRep g R) (hs:ConsA g.n s R):someW c.W R=!c.h:=by
 have hE:=(validG_iff.1 hc.v).2.2.1
 unfold leafA at h
 split at h
 ·rw [Bool.and_eq_true,decide_eq_true_eq] at h
  obtain ⟨⟨h1,h2⟩,h3⟩:=h
  have he:c.E.getD x.a.toNat default∈g.edges:=by
   rw [←hc.E,show c.E.getD x.a.toNat default=c.E[x.a.toNat]'(by omega) by simp [List.getD,show x.a.toNat<c.E.length by omega]];exact List.getElem_mem _
  have:=hR.free _ he
  rw [subB_iff.2 fun v hv=>(hs v ((hE _ he).2.2 v hv).1 ((hE _ he).2.2 v hv).2).1 (areA_iff.1 h3 v hv)] at this
  cases this
 split at h
 ·rw [Bool.and_eq_true,decide_eq_true_eq] at h
  obtain ⟨⟨h1,h2,h3⟩,h4⟩:=h
  rw [hc.n] at h2
  obtain ⟨e,he,hve,hall⟩:=hR.max _ h1 h2 ((hs _ h1 h2).2 h3)
  rw [hc.E] at h4
  obtain ⟨u,hu,hne,h5⟩:=frA_iff.1 h4 e he hve
  have hr:=(hE e he).2.2 u hu
  exact absurd (hall u hu hne) ((hs u hr.1 hr.2).2 h5)
 split at h
 ·rw [Bool.and_eq_true,Bool.and_eq_true,Bool.and_eq_true,decide_eq_true_eq] at h
  obtain ⟨h1,⟨h2,h3⟩,h4,h5⟩:=h
  rw [h1]
  have hw:c.W.getD x.a.toNat default∈c.W:=by
   rw [show c.W.getD x.a.toNat default=c.W[x.a.toNat]'(by omega) by simp [List.getD,show x.a.toNat<c.W.length by omega]];exact List.getElem_mem _
  have hr:=wy_rng (hc.W _ hw)
  exact List.any_eq_true.2 ⟨_,hw,holdW_iff.2 ⟨fun v hv=>(hs v (hr.1 v hv).1 (hr.1 v hv).2).1 (areA_iff.1 h4 v hv),fun v hv=>(hs v (hr.2 v hv).1 (hr.2 v hv).2).2 (areA_iff.1 h5 v hv)⟩⟩
 split at h
 ·rw [Bool.and_eq_true,Bool.and_eq_true,List.all_eq_true] at h
  obtain ⟨h1,_,h3⟩:=h
  rw [h1]
  refine List.any_eq_false.2 fun w hw hh=>?_
  have hr:=wy_rng (hc.W w hw)
  obtain ⟨h4,h5⟩:=holdW_iff.1 hh
  have:=h3 w hw
  rw [Bool.or_eq_true] at this
  rcases this with h6 | h6
  ·obtain ⟨v,hv,h7⟩:=somA_iff.1 h6
   exact (hs v (hr.1 v hv).1 (hr.1 v hv).2).2 h7 (h4 v hv)
  ·obtain ⟨v,hv,h7⟩:=somA_iff.1 h6
   exact h5 v hv ((hs v (hr.2 v hv).1 (hr.2 v hv).2).1 h7)
 ·cases h
def seenI (sn:List Bool) (a b:Nat):List Bool:=sn.mapIdx fun i x=>x||decide (a≤i∧i<b)
theorem seenI_len (sn:List Bool) (a b:Nat):(seenI sn a b).length=sn.length:=List.length_mapIdx
theorem seenI_get {sn:List Bool} {a b i:Nat} (h:i<sn.length):(seenI sn a b).getD i default=(sn.getD i default||decide (a≤i∧i<b)):=by
 unfold seenI
 rw [List.getD,List.getD,List.getElem?_mapIdx,List.getElem?_eq_getElem h]
 rfl
theorem bool_ext {l m:List Bool} (h:l.length=m.length) (k:∀ i,i<l.length→l.getD i default=m.getD i default):l=m:=by
 refine List.ext_getElem h fun i h1 h2=>?_
 have:=k i h1
 rwa [List.getD,List.getD,List.getElem?_eq_getElem h1,List.getElem?_eq_getElem h2] at this
theorem seenI_set {sn:List Bool} {a:Nat} (h:a<sn.length):sn.set a true=seenI sn a (a+1):=by
 refine bool_ext (by rw [List.length_set,seenI_len]) fun i hi=>?_
 rw [List.length_set] at hi
 rw [seenI_get hi]
 by_cases e:i=a
 ·subst e
  rw [List.getD,List.getElem?_set_self h,decide_eq_true (by omega),Bool.or_true];rfl
 ·rw [List.getD,List.getElem?_set_ne (by omega),decide_eq_false (by omega),Bool.or_false];rfl
theorem seenI_app {sn:List Bool} {a b d:Nat} (h1:a≤b) (h2:b≤d):seenI (seenI sn a b) b d=seenI sn a d:=by
 refine bool_ext (by rw [seenI_len,seenI_len,seenI_len]) fun i hi=>?_
 rw [seenI_len,seenI_len] at hi
 rw [seenI_get (by rw [seenI_len];exact hi),seenI_get hi,seenI_get hi,Bool.or_assoc]
 congr 1
 rw [Bool.eq_iff_iff,Bool.or_eq_true,decide_eq_true_eq,decide_eq_true_eq,decide_eq_true_eq]
 omega
def insA (s:List Int) (N:Nat):List Int:=((List.range N).filter fun v=>decide (s.getD v default=1)).map fun v:Nat=>(v:Int)
theorem insA_mem {s:List Int} {N:Nat} {v:Int}:v∈insA s N↔0≤v∧v<(N:Int)∧stA s v=1:=by
 unfold insA stA
 rw [List.mem_map]
 constructor
 ·rintro ⟨u,hu,rfl⟩
  rw [List.mem_filter,List.mem_range,decide_eq_true_eq] at hu
  exact ⟨by omega,by omega,by rw [Int.toNat_natCast];exact hu.2⟩
 ·rintro ⟨h0,h1,h2⟩
  exact ⟨v.toNat,by rw [List.mem_filter,List.mem_range,decide_eq_true_eq];exact ⟨by omega,h2⟩,by omega⟩
def clashS (c:PrfC) (s:List Int) (l:Int):Option St4:=if l<0∨stA s l≠1 then none else ((adjK c.E c.E.length l).find? fun i=>areA s (c.E.getD i.toNat default) 1).map fun i=>⟨2,i,0,0⟩
def nearS (E:List (List Int)) (l:Int):List Int:=l :: (adjK E E.length l).flatMap fun i=>E.getD i.toNat default
def freeS (c:PrfC) (s:List Int) (l:Int):Option St4:=if l<0∨stA s l≠2 then none else ((nearS c.E l).find? fun v=>decide (stA s v=2)&&frA c.E s v).map fun v=>⟨3,v,0,0⟩
def wayS (c:PrfC) (s:List Int):Option St4:=if c.h=true then none else ((List.range c.W.length).find? fun i:Nat=>leafA c s ⟨4,(i:Int),0,0⟩).map fun i:Nat=>⟨4,(i:Int),0,0⟩
def noneS (c:PrfC) (s:List Int):Option St4:=if leafA c s ⟨5,0,0,0⟩=true then some ⟨5,0,0,0⟩ else none
def closeS (c:PrfC) (s:List Int) (l:Int):Option St4:=(clashS c s l).or ((freeS c s l).or ((wayS c s).or (noneS c s)))
inductive Srch where
 | proof (S:List St4)
 | found (s:List Int)
 | full
theorem clashS_some {c:PrfC} {s:List Int} {l:Int} {x:St4} (hE:∀ i∈adjK c.E c.E.length l,0≤i∧i<(c.E.length:Int)) (h:clashS c s l=some x):leafA c s x=true∧x.k≠1∧x.i=0∧x.o=0:=by
 unfold clashS at h
 split at h
 ·cases h
 ·obtain ⟨i,hi,rfl⟩:=Option.map_eq_some_iff.1 h
  have h1:=List.find?_some hi
  have h2:=hE i (List.mem_of_find?_eq_some hi)
  refine ⟨?_,(show (2:Int)≠1 by decide),rfl,rfl⟩
  unfold leafA
  rw [if_pos rfl,Bool.and_eq_true,decide_eq_true_eq]
  exact ⟨h2,h1⟩
theorem freeS_some {c:PrfC} {s:List Int} {l:Int} {x:St4} (hN:∀ v∈nearS c.E l,0≤l→0≤v∧v<c.n) (h:freeS c s l=some x):leafA c s x=true∧x.k≠1∧x.i=0∧x.o=0:=by
 unfold freeS at h
 split at h
 ·cases h
 ·rename_i hl
  obtain ⟨v,hv,rfl⟩:=Option.map_eq_some_iff.1 h
  have h1:=List.find?_some hv
  rw [Bool.and_eq_true,decide_eq_true_eq] at h1
  have h2:=hN v (List.mem_of_find?_eq_some hv) (by omega)
  refine ⟨?_,(show (3:Int)≠1 by decide),rfl,rfl⟩
  unfold leafA
  rw [if_neg (show ¬(3:Int)=2 by decide),if_pos rfl,Bool.and_eq_true,decide_eq_true_eq]
  exact ⟨⟨h2.1,h2.2,h1.1⟩,h1.2⟩
theorem wayS_some {c:PrfC} {s:List Int} {x:St4} (h:wayS c s=some x):leafA c s x=true∧x.k≠1∧x.i=0∧x.o=0:=by
 unfold wayS at h
 split at h
 ·cases h
 ·obtain ⟨i,hi,rfl⟩:=Option.map_eq_some_iff.1 h
  have h1:=List.find?_some (p:=fun i:Nat=>leafA c s ⟨4,(i:Int),0,0⟩) hi
  exact ⟨h1,(show (4:Int)≠1 by decide),rfl,rfl⟩
theorem noneS_some {c:PrfC} {s:List Int} {x:St4} (h:noneS c s=some x):leafA c s x=true∧x.k≠1∧x.i=0∧x.o=0:=by
 unfold noneS at h
 split at h
 ·rename_i h1
  injection h with h
  subst h
  exact ⟨h1,by decide,rfl,rfl⟩
 ·cases h
theorem closeS_some {c:PrfC} {s:List Int} {l:Int} {x:St4} (hE:∀ i∈adjK c.E c.E.length l,0≤i∧i<(c.E.length:Int)) (hN:∀ v∈nearS c.E l,0≤l→0≤v∧v<c.n) (h:closeS c s l=some x):leafA c s x=true∧x.k≠1∧x.i=0∧x.o=0:=by
 unfold closeS at h
 cases h1:clashS c s l with
 | some y=>rw [h1] at h;injection h with h;subst h;exact clashS_some hE h1
 | none =>
  rw [h1,Option.none_or] at h
  cases h2:freeS c s l with
  | some y=>rw [h2] at h;injection h with h;subst h;exact freeS_some hN h2
  | none =>
   rw [h2,Option.none_or] at h
   cases h3:wayS c s with
   | some y=>rw [h3] at h;injection h with h;subst h;exact wayS_some h3
   | none =>
    rw [h3,Option.none_or] at h
    exact noneS_some h
structure NoLf (c:PrfC) (s:List Int):Prop where
 clash:∀ e∈c.E,areA s e 1=false
 free:∀ v,0≤v→v<c.n→stA s v=2→frA c.E s v=false
 way:c.h=false→∀ w∈c.W,(areA s w.pos 1&&areA s w.neg 2)=false
 none:c.h=true→∃ w∈c.W,(somA s w.pos 2||somA s w.neg 1)=false
theorem closeS_none {c:PrfC} {s:List Int} {l:Int} (h:closeS c s l=none):clashS c s l=none∧freeS c s l=none∧wayS c s=none∧noneS c s=none:=by
 unfold closeS at h
 rw [Option.or_eq_none_iff,Option.or_eq_none_iff,Option.or_eq_none_iff] at h
 exact h
theorem getDE {l:List (List Int)} {i:Nat} (h:i<l.length):l.getD i default=l[i]:=by simp [List.getD,h]
theorem clashS_none {c:PrfC} {s:List Int} {l:Int} (h:clashS c s l=none) (h0:0≤l) (h1:stA s l=1) {e:List Int} (he:e∈c.E) (hl:l∈e):areA s e 1=false:=by
 unfold clashS at h
 rw [if_neg (by
   rintro (h2 | h2);· omega
   ·exact h2 h1),Option.map_eq_none_iff,List.find?_eq_none] at h
 obtain ⟨i,hi,rfl⟩:=List.getElem_of_mem he
 have:=h (i:Int) (adjK_mem.2 ⟨i,hi,by rw [getDE hi];exact hl,rfl⟩)
 rw [Int.toNat_natCast,getDE hi] at this
 simpa using this
theorem nearS_mem {E:List (List Int)} {l u:Int}:u∈nearS E l↔u=l∨∃ e∈E,l∈e∧u∈e:=by
 unfold nearS
 rw [List.mem_cons,List.mem_flatMap]
 refine or_congr Iff.rfl ⟨?_,?_⟩
 ·rintro ⟨i,hi,hu⟩
  obtain ⟨k,hk,hl,rfl⟩:=adjK_mem.1 hi
  rw [Int.toNat_natCast,getDE hk] at hu
  rw [getDE hk] at hl
  exact ⟨_,List.getElem_mem hk,hl,hu⟩
 ·rintro ⟨e,he,hl,hu⟩
  obtain ⟨i,hi,rfl⟩:=List.getElem_of_mem he
  exact ⟨(i:Int),adjK_mem.2 ⟨i,hi,by rw [getDE hi];exact hl,rfl⟩,by rw [Int.toNat_natCast,getDE hi];exact hu⟩
theorem freeS_none {c:PrfC} {s:List Int} {l:Int} (h:freeS c s l=none) (h0:0≤l) (h1:stA s l=2) {u:Int} (hu:u=l∨∃ e∈c.E,l∈e∧u∈e) (h2:stA s u=2):frA c.E s u=false:=by
 unfold freeS at h
 rw [if_neg (by
   rintro (h2 | h2);· omega
   ·exact h2 h1),Option.map_eq_none_iff,List.find?_eq_none] at h
 have:=h u (nearS_mem.2 hu)
 rw [decide_eq_true h2,Bool.true_and] at this
 simpa using this
theorem wayS_none {c:PrfC} {s:List Int} (h:wayS c s=none) (hh:c.h=false) {w:Wy} (hw:w∈c.W):(areA s w.pos 1&&areA s w.neg 2)=false:=by
 unfold wayS at h
 rw [if_neg (by rw [hh];decide),Option.map_eq_none_iff,List.find?_eq_none] at h
 obtain ⟨i,hi,rfl⟩:=List.getElem_of_mem hw
 have:=h i (List.mem_range.2 hi)
 have hg:c.W.getD i default=c.W[i]:=by rw [List.getD,List.getElem?_eq_getElem hi];rfl
 unfold leafA at this
 rw [if_neg (show ¬(4:Int)=2 by decide),if_neg (show ¬(4:Int)=3 by decide),if_pos rfl,hh,Bool.not_false,Bool.true_and] at this
 dsimp only at this
 rw [decide_eq_true (show 0≤(i:Int)∧(i:Int)<(c.W.length:Int) by omega),Bool.true_and,Int.toNat_natCast,hg] at this
 simpa using this
theorem noneS_none {c:PrfC} {s:List Int} (h:noneS c s=none) (hh:c.h=true):∃ w∈c.W,(somA s w.pos 2||somA s w.neg 1)=false:=by
 unfold noneS at h
 split at h
 ·cases h
 ·rename_i h1
  unfold leafA at h1
  rw [if_neg (show ¬(5:Int)=2 by decide),if_neg (show ¬(5:Int)=3 by decide),if_neg (show ¬(5:Int)=4 by decide),if_pos rfl,hh,Bool.true_and,show decide ((⟨5,0,0,0⟩:St4).a=0)=true from rfl,Bool.true_and,Bool.not_eq_true,List.all_eq_false] at h1
  obtain ⟨w,hw,h2⟩:=h1
  exact ⟨w,hw,by simpa using h2⟩
theorem noLf_start {g:Gr} {c:PrfC} (hc:PrfOk g c) {s:List Int} (h0:∀ v,stA s v=0) {l:Int} (h:closeS c s l=none):NoLf c s:=by
 obtain ⟨_,_,h3,h4⟩:=closeS_none h
 refine ⟨fun e he=>?_,fun v _ _ hv=>?_,fun hh w hw=>wayS_none h3 hh hw,fun hh=>noneS_none h4 hh⟩
 ·rw [hc.E] at he
  have hne:=((validG_iff.1 hc.v).2.2.1 e he).1
  obtain ⟨a,e,rfl⟩:=List.exists_cons_of_ne_nil hne
  refine Bool.eq_false_iff.2 fun h5=>?_
  have:=areA_iff.1 h5 a (by simp)
  rw [h0] at this;cases this
 ·rw [h0] at hv;cases hv
theorem noLf_step {g:Gr} {c:PrfC} (hc:PrfOk g c) {s:List Int} (hs:(s.length:Int)=g.n) (hN:NoLf c s) {v:Nat} {x:Int} (hv:(v:Int)<g.n) (hx:x=1∨x=2) (_ho:stA s (v:Int)=0) (h:closeS c (s.set v x) (v:Int)=none):NoLf c (s.set v x):=by
 obtain ⟨h1,h2,h3,h4⟩:=closeS_none h
 have hE:=(validG_iff.1 hc.v).2.2.1
 have hst:∀ u,0≤u→stA (s.set v x) u=if u=(v:Int) then x else stA s u:=fun u hu=>by
  have:=stA_set hs (v:=(v:Int)) (by omega) hv x u hu
  rwa [Int.toNat_natCast] at this
 have hvv:stA (s.set v x) (v:Int)=x:=by rw [hst _ (by omega),if_pos rfl]
 refine ⟨fun e he=>?_,fun u h0 hu1 hu=>?_,fun hh w hw=>wayS_none h3 hh hw,fun hh=>noneS_none h4 hh⟩
 ·have heg:=he
  rw [hc.E] at heg
  refine Bool.eq_false_iff.2 fun h5=>?_
  rw [areA_iff] at h5
  by_cases hve:(v:Int)∈e
  ·have h6:=h5 _ hve
   have:=clashS_none h1 (by omega) h6 he hve
   rw [areA_iff.2 h5] at this;cases this
  ·have:=hN.clash e he
   rw [areA_iff.2 fun u hu=>by
    have:=h5 u hu
    rwa [hst u ((hE e heg).2.2 u hu).1,if_neg (show ¬u=(v:Int) from fun e2=>hve (e2▸hu))] at this] at this
   cases this
 ·refine Bool.eq_false_iff.2 fun h5=>?_
  rw [frA_iff] at h5
  have hfr:=frA_iff.2 h5
  rcases hx with rfl | rfl
  ·have huv:u≠(v:Int):=fun e=>by rw [e,hvv] at hu;cases hu
   rw [hst u h0,if_neg huv] at hu
   have:=hN.free u h0 hu1 hu
   rw [frA_iff.2 fun e he hue=>by
    obtain ⟨w,hw,hwu,hw2⟩:=h5 e he hue
    have hr:=(hE e (hc.E▸he)).2.2 w hw
    have hwv:w≠(v:Int):=fun e=>by rw [e,hvv] at hw2;cases hw2
    rw [hst w hr.1,if_neg hwv] at hw2
    exact ⟨w,hw,hwu,hw2⟩] at this
   cases this
  ·by_cases huv:u=(v:Int)
   ·have:=freeS_none h2 (by omega) hvv (.inl huv) hu
    rw [hfr] at this;cases this
   ·have hu2:=hu
    rw [hst u h0,if_neg huv] at hu2
    have hno:=hN.free u h0 hu1 hu2
    refine Bool.eq_false_iff.1 hno (frA_iff.2 fun e he hue=>?_)
    refine Classical.byContradiction fun hne=>?_
    obtain ⟨w,hw,hwu,hw2⟩:=h5 e he hue
    have hr:=(hE e (hc.E▸he)).2.2 w hw
    by_cases hwv:w=(v:Int)
    ·have:=freeS_none h2 (by omega) hvv (.inr ⟨e,he,hwv▸hw,hue⟩) hu
     rw [hfr] at this;cases this
    ·rw [hst w hr.1,if_neg hwv] at hw2
     exact hne ⟨w,hw,hwu,hw2⟩
theorem closeS_leaf {g:Gr} {c:PrfC} (hc:PrfOk g c) {s:List Int} {l:Int} {x:St4} (h:closeS c s l=some x) (hl:l<g.n):leafA c s x=true∧x.k≠1∧x.i=0∧x.o=0:=by
 refine closeS_some (fun i hi=>?_) (fun v hv h0=>?_) h
 ·obtain ⟨k,hk,_,rfl⟩:=adjK_mem.1 hi
  omega
 ·rcases nearS_mem.1 hv with rfl | ⟨e,he,_,hu⟩
  ·rw [hc.n];exact ⟨h0,hl⟩
  ·rw [hc.n];exact ((validG_iff.1 hc.v).2.2.1 e (hc.E▸he)).2.2 v hu
def zerS (g:Gr):List Int:=List.replicate g.n.toNat 0
theorem zerS_at (g:Gr) (v:Int):stA (zerS g) v=0:=by
 unfold stA zerS
 rw [List.getD,List.getElem?_replicate]
 split <;> rfl
def bndS (m k:Nat):Nat:=2*m+(2 ^ (k+1)-1)
theorem sing_close {g:Gr} {c:PrfC} (hc:PrfOk g c) {v:Nat} (hv:(v:Int)<g.n) (h1:∀ e∈g.edges,(v:Int)∈e→e=[(v:Int)]) {s:List Int} (hs:(s.length:Int)=g.n):(closeS c (s.set v 1) (v:Int)).isSome=true∨(closeS c (s.set v 2) (v:Int)).isSome=true:=by
 have hst:∀ x,stA (s.set v x) (v:Int)=x:=fun x=>by
  have:=stA_set hs (v:=(v:Int)) (by omega) hv x (v:Int) (by omega)
  rwa [Int.toNat_natCast,if_pos rfl] at this
 by_cases hE:∃ e∈g.edges,(v:Int)∈e
 ·obtain ⟨e,he,hve⟩:=hE
  left
  cases hcl:closeS c (s.set v 1) (v:Int) with
  | some x=>rfl
  | none =>
   have:=clashS_none (closeS_none hcl).1 (by omega) (hst 1) (hc.E▸he) hve
   rw [h1 e he hve,areA_iff.2 fun u hu=>by rw [List.mem_singleton.1 hu];exact hst 1] at this
   cases this
 ·right
  cases hcl:closeS c (s.set v 2) (v:Int) with
  | some x=>rfl
  | none =>
   have:=freeS_none (closeS_none hcl).2.1 (by omega) (hst 2) (.inl rfl) (hst 2)
   rw [frA_iff.2 fun e he hve=>absurd ⟨e,hc.E▸he,hve⟩ hE] at this
   cases this
theorem lexA_first {A C:List Int} {v:Nat} (hA:Inc A) (hC:Inc C) (hv:(v:Int)∈A) (hn:(v:Int)∉C) (hb:∀ x,x<(v:Int)→(x∈A↔x∈C)):lexB A C=true∨∀ x∈C,x∈A:=by
 obtain ⟨S,hS,hSv⟩:=below_split (v:=v) hA
 obtain ⟨T,hT,hTv⟩:=below_split (v:=v) hC
 have hbl:below A v=below C v:=inc_ext (hA.sublist List.filter_sublist) (hC.sublist List.filter_sublist) fun x=>by
  rw [below_mem,below_mem]
  exact ⟨fun h=>⟨(hb x h.2).1 h.1,h.2⟩,fun h=>⟨(hb x h.2).2 h.1,h.2⟩⟩
 have hvS:(v:Int)∈S:=by
  rw [hS] at hv
  rcases List.mem_append.1 hv with h | h
  ·have:=(below_mem.1 h).2;omega
  ·exact h
 cases T with
 | nil =>
  refine .inr fun x hx=>?_
  rw [hT,List.append_nil,←hbl] at hx
  exact (below_mem.1 hx).1
 | cons t T =>
  refine .inl ?_
  rw [hS,hT,hbl,lex_app]
  cases S with
  | nil=>cases hvS
  | cons s S =>
   have hs:s=(v:Int):=by
    have h1:=hSv s (by simp)
    rcases List.mem_cons.1 hvS with h | h
    ·exact h.symm
    ·rw [hS] at hA
     have h2:=(List.pairwise_append.1 hA).2.1
     have:=(List.pairwise_cons.1 h2).1 _ h
     omega
   have ht:(v:Int)<t:=by
    have h1:=hTv t (by simp)
    have h2:t≠(v:Int):=fun e=>hn (by rw [hT,e];simp)
    omega
   unfold lexB
   rw [if_pos (by omega)]
theorem frA_false {E:List (List Int)} {s:List Int} {v:Int} (h:frA E s v=false):∃ e∈E,v∈e∧∀ u∈e,u≠v→stA s u≠2:=by
 refine Classical.byContradiction fun hn=>?_
 refine Bool.eq_false_iff.1 h (frA_iff.2 fun e he hv=>Classical.byContradiction fun h2=>hn ⟨e,he,hv,fun u hu hne h3=>h2 ⟨u,hu,hne,h3⟩⟩)
def pickI (n:Nat) (p:Nat→Bool):List Int:=((List.range n).filter p).map fun i=>((i:Nat):Int)
theorem pickI_inc (n:Nat) (p:Nat→Bool):Inc (pickI n p):=by
 unfold pickI Inc
 rw [List.pairwise_map]
 refine (List.Pairwise.sublist List.filter_sublist List.pairwise_lt_range).imp fun h=>?_
 omega
theorem rep_less {g:Gr} {R X:List Int} (hR:IsRep g R) (hX:IsRep g X) {d:Nat} (h1:(d:Int)∈R) (h2:(d:Int)∉X) (h3:∀ x,x<(d:Int)→(x∈R↔x∈X)):lexB R X=true:=by
 rcases lexA_first (setB_iff.1 hR.set).1 (setB_iff.1 hX.set).1 h1 h2 h3 with h | h
 ·exact h
 ·have:=rep_anti hX hR h
  rw [this] at h2
  exact absurd h1 h2
def chS:Nat→List (List (List Int))
 | 0=>[[[]]]
 | n+1=>(chS n).flatMap fun c=>[c++[c.getLastD []++[(n:Int)]]]++if 1<c.length then [c.dropLast.map (·++[(n:Int)])] else []
def lnS:Nat→List Nat
 | 0=>[1]
 | n+1=>(lnS n).flatMap fun k=>[k+1]++if 1<k then [k-1] else []
theorem chS_len:∀ n,(chS n).map List.length=lnS n
 | 0=>rfl
 | n+1=>by
  unfold chS lnS
  rw [←chS_len n,List.map_flatMap,List.flatMap_map]
  congr 1
  funext c
  rw [List.map_append]
  congr 1
  ·simp
  ·split <;> simp
theorem chS_12:(chS 12).length=924:=by
 rw [←List.length_map (f:=List.length),chS_len]
 decide +kernel
def subL (x y:List Int):Prop:=∀ v∈x,v∈y
theorem chS_chain:∀ n,∀ c∈chS n,c≠[]∧c.Pairwise subL
 | 0=>fun c hc=>by
  unfold chS at hc
  rw [List.mem_singleton] at hc
  subst hc
  exact ⟨by simp,List.pairwise_singleton _ _⟩
 | n+1=>fun c hc=>by
  unfold chS at hc
  rw [List.mem_flatMap] at hc
  obtain ⟨d,hd,hc⟩:=hc
  obtain ⟨h1,h2⟩:=chS_chain n d hd
  rcases List.mem_append.1 hc with hc | hc
  ·rw [List.mem_singleton] at hc
   subst hc
   refine ⟨by simp,List.pairwise_append.2 ⟨h2,List.pairwise_singleton _ _,fun x hx y hy=>?_⟩⟩
   rw [List.mem_singleton] at hy
   subst hy
   intro v hv
   refine List.mem_append.2 (.inl ?_)
   have hdl:d=d.dropLast++[d.getLastD []]:=by
    rw [List.getLastD_eq_getLast?,List.getLast?_eq_some_getLast h1]
    exact (List.dropLast_concat_getLast h1).symm
   rw [hdl] at hx h2
   rcases List.mem_append.1 hx with h | h
   ·exact (List.pairwise_append.1 h2).2.2 x h _ (by simp) v hv
   ·rw [List.mem_singleton] at h
    rw [←h];exact hv
  ·split at hc
   ·rename_i hl
    rw [List.mem_singleton] at hc
    subst hc
    refine ⟨fun h=>?_,?_⟩
    ·have:=congrArg List.length h
     rw [List.length_map,List.length_dropLast] at this
     simp at this
     omega
    ·refine List.pairwise_map.2 ((h2.sublist (List.dropLast_sublist d)).imp fun {a b} hab v hv=>?_)
     rcases List.mem_append.1 hv with h | h
     ·exact List.mem_append.2 (.inl (hab v h))
     ·exact List.mem_append.2 (.inr h)
   ·cases hc
theorem chS_all:∀ n:Nat,∀ S:List Int,Inc S→(∀ v∈S,0≤v∧v<(n:Int))→∃ c∈chS n,S∈c
 | 0=>fun S _ hb=>by
  cases S with
  | nil=>exact ⟨[[]],by simp [chS],by simp⟩
  | cons a S=>have:=hb a (by simp);omega
 | n+1=>fun S hS hb=>by
  have key:∀ T:List Int,Inc T→(∀ v∈T,0≤v∧v<(n:Int))→∃ d∈chS n,T∈d:=chS_all n
  have hfm:∀ {d:List (List Int)} {c:List (List Int)},d∈chS n→c∈([d++[d.getLastD []++[(n:Int)]]]++if 1<d.length then [d.dropLast.map (·++[(n:Int)])] else [])→c∈chS (n+1):=fun hd hc=>by
   unfold chS
   exact List.mem_flatMap.2 ⟨_,hd,hc⟩
  by_cases hn:(n:Int)∈S
  ·obtain ⟨T,U,rfl⟩:=List.append_of_mem hn
   have hU:U=[]:=by
    cases U with
    | nil=>rfl
    | cons u U =>
     have h1:=(List.pairwise_cons.1 (List.pairwise_append.1 hS).2.1).1 u (by simp)
     have:=hb u (by simp)
     omega
   subst hU
   have hT:Inc T:=(List.pairwise_append.1 hS).1
   obtain ⟨d,hd,hTd⟩:=key T hT fun v hv=>by
    have h1:=(List.pairwise_append.1 hS).2.2 v hv (n:Int) (by simp)
    have:=hb v (by simp [hv])
    exact ⟨this.1,h1⟩
   obtain ⟨h1,_⟩:=chS_chain n d hd
   have hdl:d=d.dropLast++[d.getLastD []]:=by
    rw [List.getLastD_eq_getLast?,List.getLast?_eq_some_getLast h1]
    exact (List.dropLast_concat_getLast h1).symm
   by_cases hl:T=d.getLastD []
   ·exact ⟨_,hfm hd (List.mem_append.2 (.inl (List.mem_singleton.2 rfl))),by rw [hl];simp⟩
   ·have hTl:T∈d.dropLast:=by
     rw [hdl] at hTd
     rcases List.mem_append.1 hTd with h | h
     ·exact h
     ·rw [List.mem_singleton] at h;exact absurd h hl
    have hlen:1<d.length:=by
     have:=List.length_pos_of_mem hTl
     rw [List.length_dropLast] at this
     omega
    exact ⟨_,hfm hd (List.mem_append.2 (.inr (by rw [if_pos hlen];exact List.mem_singleton.2 rfl))),List.mem_map.2 ⟨T,hTl,rfl⟩⟩
  ·obtain ⟨d,hd,hTd⟩:=key S hS fun v hv=>by
    have h1:=hb v hv
    have h2:v≠(n:Int):=fun e=>hn (e▸hv)
    omega
   exact ⟨_,hfm hd (List.mem_append.2 (.inl (List.mem_singleton.2 rfl))),List.mem_append.2 (.inl hTd)⟩
theorem chain_one {c L:List (List Int)} (hc:c.Pairwise subL) (hn:L.Nodup) (ha:∀ x∈L,∀ y∈L,subL x y→x=y):(L.filter fun x=>decide (x∈c)).length≤1:=by
 match h:L.filter fun x=>decide (x∈c) with
 | []=>exact Nat.zero_le _
 | [_]=>exact Nat.le_refl _
 | x :: y :: r =>
  have hx:x∈L.filter fun x=>decide (x∈c):=by rw [h];simp
  have hy:y∈L.filter fun x=>decide (x∈c):=by rw [h];simp
  have hf:=hn.filter fun x=>decide (x∈c)
  rw [h] at hf
  have hne:x≠y:=(List.pairwise_cons.1 hf).1 y (by simp)
  obtain ⟨hx1,hx2⟩:=List.mem_filter.1 hx
  obtain ⟨hy1,hy2⟩:=List.mem_filter.1 hy
  rw [decide_eq_true_eq] at hx2 hy2
  obtain ⟨i,hi,rfl⟩:=List.getElem_of_mem hx2
  obtain ⟨j,hj,rfl⟩:=List.getElem_of_mem hy2
  rcases Nat.lt_trichotomy i j with hij | hij | hij
  ·exact absurd (ha _ hx1 _ hy1 (List.pairwise_iff_getElem.1 hc i j hi hj hij)) hne
  ·subst hij;exact absurd rfl hne
  ·exact absurd (ha _ hy1 _ hx1 (List.pairwise_iff_getElem.1 hc j i hj hi hij)).symm hne
theorem filter_two {α:Type} (p:α→Bool):∀ L:List α,L.length=(L.filter p).length+(L.filter fun x=>!p x).length
 | []=>rfl
 | x :: L=>by
  have h:=filter_two p L
  rw [List.filter_cons,List.filter_cons]
  cases p x <;> simp <;> omega
theorem chains_len:∀ (C:List (List (List Int))) (L:List (List Int)),(∀ c∈C,c.Pairwise subL)→L.Nodup→(∀ x∈L,∀ y∈L,subL x y→x=y)→(∀ x∈L,∃ c∈C,x∈c)→L.length≤C.length
 | [],L,_,_,_,h=>by
  cases L with
  | nil=>exact Nat.le_refl _
  | cons x L=>obtain ⟨c,hc,_⟩:=h x (by simp);cases hc
 | c :: C,L,hC,hn,ha,h=>by
  have h1:=chain_one (hC c (by simp)) hn ha
  have h2:=chains_len C (L.filter fun x=>!decide (x∈c)) (fun d hd=>hC d (by simp [hd])) (hn.filter _) (fun x hx y hy=>ha x (List.mem_filter.1 hx).1 y (List.mem_filter.1 hy).1) fun x hx=>by
   obtain ⟨hx1,hx2⟩:=List.mem_filter.1 hx
   obtain ⟨d,hd,hxd⟩:=h x hx1
   rcases List.mem_cons.1 hd with e | hd
   ·subst e;rw [decide_eq_true hxd] at hx2;cases hx2
   ·exact ⟨d,hd,hxd⟩
  have h3:=filter_two (fun x=>decide (x∈c)) L
  rw [List.length_cons]
  omega
theorem sper12 {L:List (List Int)} (hn:L.Nodup) (hs:∀ x∈L,Inc x∧∀ v∈x,0≤v∧v<12) (ha:∀ x∈L,∀ y∈L,(∀ v∈x,v∈y)→x=y):L.length≤924:=by
 rw [←chS_12]
 exact chains_len _ L (fun c hc=>(chS_chain 12 c hc).2) hn ha fun x hx=>chS_all 12 x (hs x hx).1 (hs x hx).2
end Go.Vc
