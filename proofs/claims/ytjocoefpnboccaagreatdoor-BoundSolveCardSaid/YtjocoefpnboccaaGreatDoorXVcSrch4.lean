/- Own library: the search for a repair, which writes down a proof. Plain. -/
import Derived.Test.YtjocoefpnboccaaGreatDoorXVcGrow
import Derived.Test.YtjocoefpnboccaaGreatDoorXVcBlk
import Derived.Test.YtjocoefpnboccaaGreatDoorXVcRepP
namespace Go.Vc
set_option maxHeartbeats 16000000
set_option maxRecDepth 100000
def clashS (c:PrfC) (s:List Int) (l:Int):Option St4:=if l<0∨stA s l≠1 then none else ((adjK c.E c.E.length l).find? fun i=>areA s (c.E.getD i.toNat default) 1).map fun i=>⟨2,i,0,0⟩
def nearS (E:List (List Int)) (l:Int):List Int:=l :: (adjK E E.length l).flatMap fun i=>E.getD i.toNat default
def freeS (c:PrfC) (s:List Int) (l:Int):Option St4:=if l<0∨stA s l≠2 then none else ((nearS c.E l).find? fun v=>decide (stA s v=2)&&frA c.E s v).map fun v=>⟨3,v,0,0⟩
def wayS (c:PrfC) (s:List Int):Option St4:=if c.h=true then none else ((List.range c.W.length).find? fun i:Nat=>leafA c s ⟨4,(i:Int),0,0⟩).map fun i:Nat=>⟨4,(i:Int),0,0⟩
def noneS (c:PrfC) (s:List Int):Option St4:=if leafA c s ⟨5,0,0,0⟩=true then some ⟨5,0,0,0⟩ else none
def closeS (c:PrfC) (s:List Int) (l:Int):Option St4:=(clashS c s l).or ((freeS c s l).or ((wayS c s).or (noneS c s)))
inductive Srch where
 | proof (S:List St4)
 | found (s:List Int)
 | full
def srchF (c:PrfC) (M:Nat):List Nat→Int→List Int→List St4→Srch
 | O,l,s,S =>
  if M≤S.length then .full
  else match closeS c s l with
  | some x=>.proof (S++[x])
  | none =>
   match O with
   | []=>.found s
   | v :: O =>
    match srchF c M O (v:Int) (s.set v 1) (S++[⟨1,(v:Int),(S.length:Int)+1,0⟩]) with
    | .proof S1=>srchF c M O (v:Int) (s.set v 2) (S1.set S.length { S1.getD S.length default with o:=(S1.length:Int) })
    | r=>r
theorem clashS_some {c:PrfC} {s:List Int} {l:Int} {x:St4} (hE:∀ i∈adjK c.E c.E.length l,0≤i∧i<(c.E.length:Int)) (h:clashS c s l=some x):leafA c s x=true∧x.k≠1∧x.i=0∧x.o=0:=by
 unfold clashS at h
 split at h
 ·cases h
 ·obtain ⟨i,hi,rfl⟩:=Option.map_eq_some_iff.1 h
  have h1:=List.find?_some hi
  have h2:=hE i (List.mem_of_find?_eq_some hi)
  refine ⟨?_,(show (2:Int)≠1 by decide),rfl,rfl⟩
  unfold leafA
  rw [if_pos rfl,Bool.and_eq_true,decide_eq_true_eq]
  exact ⟨h2,h1⟩
theorem freeS_some {c:PrfC} {s:List Int} {l:Int} {x:St4} (hN:∀ v∈nearS c.E l,0≤l→0≤v∧v<c.n) (h:freeS c s l=some x):leafA c s x=true∧x.k≠1∧x.i=0∧x.o=0:=by
 unfold freeS at h
 split at h
 ·cases h
 ·rename_i hl
  obtain ⟨v,hv,rfl⟩:=Option.map_eq_some_iff.1 h
  have h1:=List.find?_some hv
  rw [Bool.and_eq_true,decide_eq_true_eq] at h1
  have h2:=hN v (List.mem_of_find?_eq_some hv) (by omega)
  refine ⟨?_,(show (3:Int)≠1 by decide),rfl,rfl⟩
  unfold leafA
  rw [if_neg (show ¬(3:Int)=2 by decide),if_pos rfl,Bool.and_eq_true,decide_eq_true_eq]
  exact ⟨⟨h2.1,h2.2,h1.1⟩,h1.2⟩
theorem wayS_some {c:PrfC} {s:List Int} {x:St4} (h:wayS c s=some x):leafA c s x=true∧x.k≠1∧x.i=0∧x.o=0:=by
 unfold wayS at h
 split at h
 ·cases h
 ·obtain ⟨i,hi,rfl⟩:=Option.map_eq_some_iff.1 h
  have h1:=List.find?_some (p:=fun i:Nat=>leafA c s ⟨4,(i:Int),0,0⟩) hi
  exact ⟨h1,(show (4:Int)≠1 by decide),rfl,rfl⟩
theorem noneS_some {c:PrfC} {s:List Int} {x:St4} (h:noneS c s=some x):leafA c s x=true∧x.k≠1∧x.i=0∧x.o=0:=by
 unfold noneS at h
 split at h
 ·rename_i h1
  injection h with h
  subst h
  exact ⟨h1,by decide,rfl,rfl⟩
 ·cases h
theorem closeS_some {c:PrfC} {s:List Int} {l:Int} {x:St4} (hE:∀ i∈adjK c.E c.E.length l,0≤i∧i<(c.E.length:Int)) (hN:∀ v∈nearS c.E l,0≤l→0≤v∧v<c.n) (h:closeS c s l=some x):leafA c s x=true∧x.k≠1∧x.i=0∧x.o=0:=by
 unfold closeS at h
 cases h1:clashS c s l with
 | some y=>rw [h1] at h;injection h with h;subst h;exact clashS_some hE h1
 | none =>
  rw [h1,Option.none_or] at h
  cases h2:freeS c s l with
  | some y=>rw [h2] at h;injection h with h;subst h;exact freeS_some hN h2
  | none =>
   rw [h2,Option.none_or] at h
   cases h3:wayS c s with
   | some y=>rw [h3] at h;injection h with h;subst h;exact wayS_some h3
   | none =>
    rw [h3,Option.none_or] at h
    exact noneS_some h
end Go.Vc

/- Own library: what the search finds; it is the first repair; what it writes down is a proof. Plain. -/
namespace Go.Vc
structure NoLf (c:PrfC) (s:List Int):Prop where
 clash:∀ e∈c.E,areA s e 1=false
 free:∀ v,0≤v→v<c.n→stA s v=2→frA c.E s v=false
 way:c.h=false→∀ w∈c.W,(areA s w.pos 1&&areA s w.neg 2)=false
 none:c.h=true→∃ w∈c.W,(somA s w.pos 2||somA s w.neg 1)=false
theorem closeS_none {c:PrfC} {s:List Int} {l:Int} (h:closeS c s l=none):clashS c s l=none∧freeS c s l=none∧wayS c s=none∧noneS c s=none:=by
 unfold closeS at h
 rw [Option.or_eq_none_iff,Option.or_eq_none_iff,Option.or_eq_none_iff] at h
 exact h
theorem getDE {l:List (List Int)} {i:Nat} (h:i<l.length):l.getD i default=l[i]:=by simp [List.getD,h]
theorem clashS_none {c:PrfC} {s:List Int} {l:Int} (h:clashS c s l=none) (h0:0≤l) (h1:stA s l=1) {e:List Int} (he:e∈c.E) (hl:l∈e):areA s e 1=false:=by
 unfold clashS at h
 rw [if_neg (by
   rintro (h2 | h2);· omega
   ·exact h2 h1),Option.map_eq_none_iff,List.find?_eq_none] at h
 obtain ⟨i,hi,rfl⟩:=List.getElem_of_mem he
 have:=h (i:Int) (adjK_mem.2 ⟨i,hi,by rw [getDE hi];exact hl,rfl⟩)
 rw [Int.toNat_natCast,getDE hi] at this
 simpa using this
theorem nearS_mem {E:List (List Int)} {l u:Int}:u∈nearS E l↔u=l∨∃ e∈E,l∈e∧u∈e:=by
 unfold nearS
 rw [List.mem_cons,List.mem_flatMap]
 refine or_congr Iff.rfl ⟨?_,?_⟩
 ·rintro ⟨i,hi,hu⟩
  obtain ⟨k,hk,hl,rfl⟩:=adjK_mem.1 hi
  rw [Int.toNat_natCast,getDE hk] at hu
  rw [getDE hk] at hl
  exact ⟨_,List.getElem_mem hk,hl,hu⟩
 ·rintro ⟨e,he,hl,hu⟩
  obtain ⟨i,hi,rfl⟩:=List.getElem_of_mem he
  exact ⟨(i:Int),adjK_mem.2 ⟨i,hi,by rw [getDE hi];exact hl,rfl⟩,by rw [Int.toNat_natCast,getDE hi];exact hu⟩
theorem freeS_none {c:PrfC} {s:List Int} {l:Int} (h:freeS c s l=none) (h0:0≤l) (h1:stA s l=2) {u:Int} (hu:u=l∨∃ e∈c.E,l∈e∧u∈e) (h2:stA s u=2):frA c.E s u=false:=by
 unfold freeS at h
 rw [if_neg (by
   rintro (h2 | h2);· omega
   ·exact h2 h1),Option.map_eq_none_iff,List.find?_eq_none] at h
 have:=h u (nearS_mem.2 hu)
 rw [decide_eq_true h2,Bool.true_and] at this
 simpa using this
theorem wayS_none {c:PrfC} {s:List Int} (h:wayS c s=none) (hh:c.h=false) {w:Wy} (hw:w∈c.W):(areA s w.pos 1&&areA s w.neg 2)=false:=by
 unfold wayS at h
 rw [if_neg (by rw [hh];decide),Option.map_eq_none_iff,List.find?_eq_none] at h
 obtain ⟨i,hi,rfl⟩:=List.getElem_of_mem hw
 have:=h i (List.mem_range.2 hi)
 have hg:c.W.getD i default=c.W[i]:=by rw [List.getD,List.getElem?_eq_getElem hi];rfl
 unfold leafA at this
 rw [if_neg (show ¬(4:Int)=2 by decide),if_neg (show ¬(4:Int)=3 by decide),if_pos rfl,hh,Bool.not_false,Bool.true_and] at this
 dsimp only at this
 rw [decide_eq_true (show 0≤(i:Int)∧(i:Int)<(c.W.length:Int) by omega),Bool.true_and,Int.toNat_natCast,hg] at this
 simpa using this
theorem noneS_none {c:PrfC} {s:List Int} (h:noneS c s=none) (hh:c.h=true):∃ w∈c.W,(somA s w.pos 2||somA s w.neg 1)=false:=by
 unfold noneS at h
 split at h
 ·cases h
 ·rename_i h1
  unfold leafA at h1
  rw [if_neg (show ¬(5:Int)=2 by decide),if_neg (show ¬(5:Int)=3 by decide),if_neg (show ¬(5:Int)=4 by decide),if_pos rfl,hh,Bool.true_and,show decide ((⟨5,0,0,0⟩:St4).a=0)=true from rfl,Bool.true_and,Bool.not_eq_true,List.all_eq_false] at h1
  obtain ⟨w,hw,h2⟩:=h1
  exact ⟨w,hw,by simpa using h2⟩
theorem stA_nat {s:List Int} {v:Nat}:stA s (v:Int)=s.getD v default:=by unfold stA;rw [Int.toNat_natCast]
theorem noLf_start {g:Gr} {c:PrfC} (hc:PrfOk g c) {s:List Int} (h0:∀ v,stA s v=0) {l:Int} (h:closeS c s l=none):NoLf c s:=by
 obtain ⟨_,_,h3,h4⟩:=closeS_none h
 refine ⟨fun e he=>?_,fun v _ _ hv=>?_,fun hh w hw=>wayS_none h3 hh hw,fun hh=>noneS_none h4 hh⟩
 ·rw [hc.E] at he
  have hne:=((validG_iff.1 hc.v).2.2.1 e he).1
  obtain ⟨a,e,rfl⟩:=List.exists_cons_of_ne_nil hne
  refine Bool.eq_false_iff.2 fun h5=>?_
  have:=areA_iff.1 h5 a (by simp)
  rw [h0] at this;cases this
 ·rw [h0] at hv;cases hv
theorem noLf_step {g:Gr} {c:PrfC} (hc:PrfOk g c) {s:List Int} (hs:(s.length:Int)=g.n) (hN:NoLf c s) {v:Nat} {x:Int} (hv:(v:Int)<g.n) (hx:x=1∨x=2) (_ho:stA s (v:Int)=0) (h:closeS c (s.set v x) (v:Int)=none):NoLf c (s.set v x):=by
 obtain ⟨h1,h2,h3,h4⟩:=closeS_none h
 have hE:=(validG_iff.1 hc.v).2.2.1
 have hst:∀ u,0≤u→stA (s.set v x) u=if u=(v:Int) then x else stA s u:=fun u hu=>by
  have:=stA_set hs (v:=(v:Int)) (by omega) hv x u hu
  rwa [Int.toNat_natCast] at this
 have hvv:stA (s.set v x) (v:Int)=x:=by rw [hst _ (by omega),if_pos rfl]
 refine ⟨fun e he=>?_,fun u h0 hu1 hu=>?_,fun hh w hw=>wayS_none h3 hh hw,fun hh=>noneS_none h4 hh⟩
 ·have heg:=he
  rw [hc.E] at heg
  refine Bool.eq_false_iff.2 fun h5=>?_
  rw [areA_iff] at h5
  by_cases hve:(v:Int)∈e
  ·have h6:=h5 _ hve
   have:=clashS_none h1 (by omega) h6 he hve
   rw [areA_iff.2 h5] at this;cases this
  ·have:=hN.clash e he
   rw [areA_iff.2 fun u hu=>by
    have:=h5 u hu
    rwa [hst u ((hE e heg).2.2 u hu).1,if_neg (show ¬u=(v:Int) from fun e2=>hve (e2▸hu))] at this] at this
   cases this
 ·refine Bool.eq_false_iff.2 fun h5=>?_
  rw [frA_iff] at h5
  have hfr:=frA_iff.2 h5
  rcases hx with rfl | rfl
  ·have huv:u≠(v:Int):=fun e=>by rw [e,hvv] at hu;cases hu
   rw [hst u h0,if_neg huv] at hu
   have:=hN.free u h0 hu1 hu
   rw [frA_iff.2 fun e he hue=>by
    obtain ⟨w,hw,hwu,hw2⟩:=h5 e he hue
    have hr:=(hE e (hc.E▸he)).2.2 w hw
    have hwv:w≠(v:Int):=fun e=>by rw [e,hvv] at hw2;cases hw2
    rw [hst w hr.1,if_neg hwv] at hw2
    exact ⟨w,hw,hwu,hw2⟩] at this
   cases this
  ·by_cases huv:u=(v:Int)
   ·have:=freeS_none h2 (by omega) hvv (.inl huv) hu
    rw [hfr] at this;cases this
   ·have hu2:=hu
    rw [hst u h0,if_neg huv] at hu2
    have hno:=hN.free u h0 hu1 hu2
    refine Bool.eq_false_iff.1 hno (frA_iff.2 fun e he hue=>?_)
    refine Classical.byContradiction fun hne=>?_
    obtain ⟨w,hw,hwu,hw2⟩:=h5 e he hue
    have hr:=(hE e (hc.E▸he)).2.2 w hw
    by_cases hwv:w=(v:Int)
    ·have:=freeS_none h2 (by omega) hvv (.inr ⟨e,he,hwv▸hw,hue⟩) hu
     rw [hfr] at this;cases this
    ·rw [hst w hr.1,if_neg hwv] at hw2
     exact hne ⟨w,hw,hwu,hw2⟩
theorem srch_found {g:Gr} {c:PrfC} (hc:PrfOk g c) {M:Nat}:∀ (O:List Nat) (l:Int) (s:List Int) (S:List St4) (s':List Int),srchF c M O l s S=.found s'→(s.length:Int)=g.n→(∀ v∈O,(v:Int)<g.n∧stA s (v:Int)=0)→O.Nodup→(closeS c s l=none→NoLf c s) →
  NoLf c s'∧s'.length=s.length∧(∀ u:Nat,u∉O→stA s' (u:Int)=stA s (u:Int))∧∀ u∈O,stA s' (u:Int)=1∨stA s' (u:Int)=2:=by
 intro O
 induction O with
 | nil =>
  intro l s S s' h hs ho hnd hcl
  unfold srchF at h
  split at h
  ·cases h
  ·split at h
   ·cases h
   ·rename_i hn
    injection h with h
    subst h
    exact ⟨hcl hn,rfl,fun _ _=>rfl,fun _ h=>absurd h List.not_mem_nil⟩
 | cons v O ih =>
  intro l s S s' h hs ho hnd hcl
  obtain ⟨hv,hv0⟩:=ho v (List.mem_cons_self)
  obtain ⟨hnv,hnd⟩:=List.nodup_cons.1 hnd
  have hst:∀ x (u:Nat),stA (s.set v x) (u:Int)=if u=v then x else stA s (u:Int):=fun x u=>by
   have:=stA_set hs (v:=(v:Int)) (by omega) hv x (u:Int) (by omega)
   rw [Int.toNat_natCast] at this
   rw [this]
   by_cases e:u=v
   ·rw [if_pos e,if_pos (by omega)]
   ·rw [if_neg e,if_neg (by omega)]
  unfold srchF at h
  split at h
  ·cases h
  ·split at h
   ·cases h
   ·rename_i hn
    have hN:=hcl hn
    have key:∀ x,(x=1∨x=2)→∀ S,srchF c M O (v:Int) (s.set v x) S=.found s'→NoLf c s'∧s'.length=s.length∧(∀ u:Nat,u∉v :: O→stA s' (u:Int)=stA s (u:Int))∧∀ u∈v :: O,stA s' (u:Int)=1∨stA s' (u:Int)=2:=by
     intro x hx S h
     obtain ⟨k1,k2,k3,k4⟩:=ih _ _ _ _ h (by rw [List.length_set];exact hs) (fun u hu=>⟨(ho u (List.mem_cons_of_mem _ hu)).1,by
      rw [hst,if_neg (show ¬u=v from fun e=>hnv (e▸hu))];exact (ho u (List.mem_cons_of_mem _ hu)).2⟩) hnd (noLf_step hc hs hN hv hx hv0)
     refine ⟨k1,by rw [k2,List.length_set],fun u hu=>?_,fun u hu=>?_⟩
     ·rw [List.mem_cons,not_or] at hu
      rw [k3 u hu.2,hst,if_neg hu.1]
     ·by_cases e:u=v
      ·subst e
       rw [k3 u hnv,hst,if_pos rfl];exact hx
      ·exact k4 u ((List.mem_cons.1 hu).resolve_left e)
    dsimp only at h
    split at h
    ·exact key 2 (.inr rfl) _ h
    ·exact key 1 (.inl rfl) _ h
def FstD (s' R:List Int):List Nat→Prop
 | []=>True
 | v :: O=>(stA s' (v:Int)=1∧(v:Int)∉R)∨((stA s' (v:Int)=1↔(v:Int)∈R)∧FstD s' R O)
theorem closeS_leaf {g:Gr} {c:PrfC} (hc:PrfOk g c) {s:List Int} {l:Int} {x:St4} (h:closeS c s l=some x) (hl:l<g.n):leafA c s x=true∧x.k≠1∧x.i=0∧x.o=0:=by
 refine closeS_some (fun i hi=>?_) (fun v hv h0=>?_) h
 ·obtain ⟨k,hk,_,rfl⟩:=adjK_mem.1 hi
  omega
 ·rcases nearS_mem.1 hv with rfl | ⟨e,he,_,hu⟩
  ·rw [hc.n];exact ⟨h0,hl⟩
  ·rw [hc.n];exact ((validG_iff.1 hc.v).2.2.1 e (hc.E▸he)).2.2 v hu
theorem srch_none {g:Gr} {c:PrfC} (hc:PrfOk g c) {M:Nat} {R:List Int} (hR:IsRep g R):∀ (O:List Nat) (l:Int) (s:List Int) (S S':List St4),srchF c M O l s S=.proof S'→(s.length:Int)=g.n→l<g.n→(∀ v∈O,(v:Int)<g.n)→ConsA g.n s R→someW c.W R=!c.h:=by
 intro O
 induction O with
 | nil =>
  intro l s S S' h hs hl ho hC
  unfold srchF at h
  split at h
  ·cases h
  ·split at h
   ·rename_i hn;exact leaf_sound hc (closeS_leaf hc hn hl).1 hR hC
   ·cases h
 | cons v O ih =>
  intro l s S S' h hs hl ho hC
  have hv:=ho v (List.mem_cons_self)
  unfold srchF at h
  split at h
  ·cases h
  ·split at h
   ·rename_i hn;exact leaf_sound hc (closeS_leaf hc hn hl).1 hR hC
   ·dsimp only at h
    split at h
    ·rename_i S1 h1
     have hset:∀ x,((x=1→(v:Int)∈R)∧(x=2→(v:Int)∉R))→ConsA g.n (s.set v x) R:=fun x hx=>by
      have:=hC.set hs (v:=(v:Int)) (by omega) hv hx
      rwa [Int.toNat_natCast] at this
     by_cases hvR:(v:Int)∈R
     ·exact ih _ _ _ _ h1 (by rw [List.length_set];exact hs) hv (fun u hu=>ho u (List.mem_cons_of_mem _ hu)) (hset 1 ⟨fun _=>hvR,fun e=>absurd e (by decide)⟩)
     ·exact ih _ _ _ _ h (by rw [List.length_set];exact hs) hv (fun u hu=>ho u (List.mem_cons_of_mem _ hu)) (hset 2 ⟨fun e=>absurd e (by decide),fun _=>hvR⟩)
    ·rename_i r hr
     exact absurd h (hr _)
theorem srch_first {g:Gr} {c:PrfC} (hc:PrfOk g c) {M:Nat} {R:List Int} (hR:IsRep g R) (hh:someW c.W R=c.h):∀ (O:List Nat) (l:Int) (s:List Int) (S:List St4) (s':List Int),srchF c M O l s S=.found s'→(s.length:Int)=g.n→l<g.n→(∀ v∈O,(v:Int)<g.n∧stA s (v:Int)=0)→O.Nodup→(closeS c s l=none→NoLf c s)→ConsA g.n s R→FstD s' R O:=by
 intro O
 induction O with
 | nil=>intro _ _ _ _ _ _ _ _ _ _ _;trivial
 | cons v O ih =>
  intro l s S s' h hs hl ho hnd hcl hC
  obtain ⟨hv,hv0⟩:=ho v (List.mem_cons_self)
  obtain ⟨hnv,hnd⟩:=List.nodup_cons.1 hnd
  have hst:∀ x (u:Nat),stA (s.set v x) (u:Int)=if u=v then x else stA s (u:Int):=fun x u=>by
   have:=stA_set hs (v:=(v:Int)) (by omega) hv x (u:Int) (by omega)
   rw [Int.toNat_natCast] at this
   rw [this]
   by_cases e:u=v
   ·rw [if_pos e,if_pos (by omega)]
   ·rw [if_neg e,if_neg (by omega)]
  have hset:∀ x,((x=1→(v:Int)∈R)∧(x=2→(v:Int)∉R))→ConsA g.n (s.set v x) R:=fun x hx=>by
   have:=hC.set hs (v:=(v:Int)) (by omega) hv hx
   rwa [Int.toNat_natCast] at this
  unfold srchF at h
  split at h
  ·cases h
  ·split at h
   ·cases h
   ·rename_i hn
    have hN:=hcl hn
    have hop:∀ x,∀ u∈O,(u:Int)<g.n∧stA (s.set v x) (u:Int)=0:=fun x u hu=>⟨(ho u (List.mem_cons_of_mem _ hu)).1,by
      rw [hst,if_neg (show ¬u=v from fun e=>hnv (e▸hu))];exact (ho u (List.mem_cons_of_mem _ hu)).2⟩
    have hsv:∀ x,(x=1∨x=2)→∀ S,srchF c M O (v:Int) (s.set v x) S=.found s'→stA s' (v:Int)=x:=fun x hx S h=>by
     obtain ⟨_,_,k3,_⟩:=srch_found hc O _ _ _ _ h (by rw [List.length_set];exact hs) (hop x) hnd (noLf_step hc hs hN hv hx hv0)
     rw [k3 v hnv,hst,if_pos rfl]
    dsimp only at h
    split at h
    ·rename_i S1 h1
     have hvR:(v:Int)∉R:=fun hvR=>by
      have:=srch_none hc hR O _ _ _ _ h1 (by rw [List.length_set];exact hs) hv (fun u hu=>(hop 1 u hu).1) (hset 1 ⟨fun _=>hvR,fun e=>absurd e (by decide)⟩)
      rw [hh] at this
      cases hch:c.h <;> rw [hch] at this <;> cases this
     have h2:=hsv 2 (.inr rfl) _ h
     refine .inr ⟨⟨fun h3=>(by rw [h2] at h3;cases h3),fun h3=>absurd h3 hvR⟩,?_⟩
     exact ih _ _ _ _ h (by rw [List.length_set];exact hs) hv (hop 2) hnd (noLf_step hc hs hN hv (.inr rfl) hv0) (hset 2 ⟨fun e=>absurd e (by decide),fun _=>hvR⟩)
    ·have h2:=hsv 1 (.inl rfl) _ h
     by_cases hvR:(v:Int)∈R
     ·refine .inr ⟨⟨fun _=>hvR,fun _=>h2⟩,?_⟩
      exact ih _ _ _ _ h (by rw [List.length_set];exact hs) hv (hop 1) hnd (noLf_step hc hs hN hv (.inl rfl) hv0) (hset 1 ⟨fun _=>hvR,fun e=>absurd e (by decide)⟩)
     ·exact .inl ⟨h2,hvR⟩
end Go.Vc

/- Own library: the search's proof is right; how long it gets. Plain. -/
namespace Go.Vc
structure Pfy (S S2:List St4) (M:Nat):Prop where
 lt:S.length<S2.length
 le:S2.length≤M
 eq:∀ q,q<S.length→S2.getD q default=S.getD q default
theorem srch_pfx {c:PrfC} {M:Nat}:∀ (O:List Nat) (l:Int) (s:List Int) (S S2:List St4),srchF c M O l s S=.proof S2→Pfy S S2 M:=by
 intro O
 induction O with
 | nil =>
  intro l s S S2 h
  unfold srchF at h
  split at h
  ·cases h
  ·split at h
   ·injection h with h
    subst h
    exact ⟨by simp,by simp;omega,fun q hq=>by rw [List.getD,List.getD,List.getElem?_append_left hq]⟩
   ·cases h
 | cons v O ih =>
  intro l s S S2 h
  unfold srchF at h
  split at h
  ·cases h
  ·split at h
   ·injection h with h
    subst h
    exact ⟨by simp,by simp;omega,fun q hq=>by rw [List.getD,List.getD,List.getElem?_append_left hq]⟩
   ·dsimp only at h
    split at h
    ·rename_i S1 h1
     have k1:=ih _ _ _ _ h1
     have k2:=ih _ _ _ _ h
     have l1:=k1.lt;have l2:=k2.lt
     rw [List.length_append] at l1
     rw [List.length_set] at l2
     simp only [List.length_cons,List.length_nil] at l1
     refine ⟨by omega,k2.le,fun q hq=>?_⟩
     rw [k2.eq q (by rw [List.length_set];omega),List.getD,List.getElem?_set_ne (by omega),←List.getD,k1.eq q (by rw [List.length_append];omega),List.getD,List.getD,List.getElem?_append_left hq]
    ·rename_i r hr
     exact absurd h (hr _)
theorem srch_right {g:Gr} {c:PrfC} (hc:PrfOk g c) {M:Nat}:∀ (O:List Nat) (l:Int) (s:List Int) (S S2:List St4),srchF c M O l s S=.proof S2→(s.length:Int)=g.n→l<g.n→(∀ v∈O,(v:Int)<g.n∧stA s (v:Int)=0)→O.Nodup →
  ∀ (X:List St4) (sn:List Bool) (F:Nat),(∀ q,S.length≤q→q<S2.length→X.getD q default=S2.getD q default)→S2.length≤X.length→sn.length=X.length→(∀ q,S.length≤q→q<S2.length→sn.getD q default=false)→S2.length-S.length≤F →
   rightO { c with S:=X } F S.length s sn=some (seenI sn S.length S2.length):=by
 have hleaf:∀ (l:Int) (s:List Int) (S:List St4) (x:St4),l<g.n→closeS c s l=some x→∀ (X:List St4) (sn:List Bool) (F:Nat),(∀ q,S.length≤q→q<(S++[x]).length→X.getD q default=(S++[x]).getD q default)→(S++[x]).length≤X.length→sn.length=X.length→(∀ q,S.length≤q→q<(S++[x]).length→sn.getD q default=false)→(S++[x]).length-S.length≤F→rightO { c with S:=X } F S.length s sn=some (seenI sn S.length (S++[x]).length):=by
  intro l s S x hl hx X sn F hX hl hsn h0 hF
  rename_i hln
  obtain ⟨k1,k2,k3,k4⟩:=closeS_leaf hc hx hln
  simp only [List.length_append,List.length_cons,List.length_nil] at hX hl h0 hF ⊢
  obtain ⟨F,rfl⟩:∃ F',F=F'+1:=⟨F-1,by omega⟩
  have hat:X.getD S.length default=x:=by
   rw [hX _ (Nat.le_refl _) (by omega),List.getD,List.getElem?_append_right (Nat.le_refl _),Nat.sub_self];rfl
  unfold rightO
  rw [h0 _ (Nat.le_refl _) (by omega),if_neg Bool.false_ne_true]
  dsimp only
  rw [hat,if_neg k2,if_pos ⟨k3,k4,(leafA_steps rfl rfl rfl rfl s x).trans k1⟩,seenI_set (by omega)]
 intro O
 induction O with
 | nil =>
  intro l s S S2 h
  unfold srchF at h
  split at h
  ·cases h
  ·split at h
   ·rename_i x hx
    injection h with h
    subst h
    exact fun _ hl _ _=>hleaf l s S x hl hx
   ·cases h
 | cons v O ih =>
  intro l s S S2 h hs hl0 ho hnd X sn F hX hl hsn h0 hF
  obtain ⟨hv,hv0⟩:=ho v (List.mem_cons_self)
  obtain ⟨hnv,hnd⟩:=List.nodup_cons.1 hnd
  have hop:∀ x,∀ u∈O,(u:Int)<g.n∧stA (s.set v x) (u:Int)=0:=fun x u hu=>by
   refine ⟨(ho u (List.mem_cons_of_mem _ hu)).1,?_⟩
   have:=stA_set hs (v:=(v:Int)) (by omega) hv x (u:Int) (by omega)
   rw [Int.toNat_natCast] at this
   rw [this,if_neg (show ¬(u:Int)=(v:Int) from fun e=>hnv (by rw [←Int.ofNat.inj e];exact hu))]
   exact (ho u (List.mem_cons_of_mem _ hu)).2
  unfold srchF at h
  split at h
  ·cases h
  ·split at h
   ·rename_i x hx
    injection h with h
    subst h
    exact hleaf l s S x hl0 hx X sn F hX hl hsn h0 hF
   ·dsimp only at h
    split at h
    ·rename_i S1 h1
     have h2:=h
     have k1:=srch_pfx _ _ _ _ _ h1
     have k2:=srch_pfx _ _ _ _ _ h2
     have l1:=k1.lt;have l2:=k2.lt
     rw [List.length_append] at l1
     rw [List.length_set] at l2
     simp only [List.length_cons,List.length_nil] at l1
     have hx1:S1.getD S.length default=⟨1,(v:Int),(S.length:Int)+1,0⟩:=by
      rw [k1.eq _ (by simp),List.getD,List.getElem?_append_right (Nat.le_refl _),Nat.sub_self];rfl
     have hx:X.getD S.length default=⟨1,(v:Int),(S.length:Int)+1,(S1.length:Int)⟩:=by
      rw [hX _ (Nat.le_refl _) (by omega),k2.eq _ (by rw [List.length_set];omega),List.getD,List.getElem?_set_self (by omega),hx1];rfl
     obtain ⟨F,rfl⟩:∃ F',F=F'+1:=⟨F-1,by omega⟩
     have hS1:∀ q,S.length+1≤q→q<S1.length→X.getD q default=S1.getD q default:=fun q a b=>by
      rw [hX q (by omega) (by omega),k2.eq q (by rw [List.length_set];omega),List.getD,List.getElem?_set_ne (by omega)];rfl
     have r1:=ih (v:Int) (s.set v 1) _ _ h1 (by rw [List.length_set];exact hs) hv (hop 1) hnd X (sn.set S.length true) F (fun q a b=>hS1 q (by simpa using a) b) (by omega) (by rw [List.length_set];exact hsn) (fun q a b=>by
      simp only [List.length_append,List.length_cons,List.length_nil] at a
      rw [List.getD,List.getElem?_set_ne (by omega)];exact h0 q (by omega) (by omega)) (by simp only [List.length_append,List.length_cons,List.length_nil];omega)
     simp only [List.length_append,List.length_cons,List.length_nil,Nat.zero_add] at r1
     have r2:=ih (v:Int) (s.set v 2) _ _ h2 (by rw [List.length_set];exact hs) hv (hop 2) hnd X (seenI (sn.set S.length true) (S.length+1) S1.length) F (fun q a b=>hX q (by rw [List.length_set] at a;omega) b) (by omega) (by rw [seenI_len,List.length_set];exact hsn) (fun q a b=>by
      rw [List.length_set] at a
      rw [seenI_get (by rw [List.length_set];omega),decide_eq_false (by omega),Bool.or_false,List.getD,List.getElem?_set_ne (by omega)];exact h0 q (by omega) b) (by rw [List.length_set];omega)
     rw [List.length_set] at r2
     unfold rightO
     rw [h0 _ (Nat.le_refl _) (by omega),if_neg Bool.false_ne_true]
     dsimp only
     rw [hx,if_pos rfl,if_pos (by
      unfold brA
      rw [decide_eq_true_eq]
      dsimp only
      rw [hc.n]
      exact ⟨by omega,hv,hv0,by omega,by omega,by omega,by omega⟩)]
     dsimp only
     rw [Int.toNat_natCast,Int.toNat_natCast,show ((S.length:Int)+1).toNat=S.length+1 by omega,r1,Option.bind_some,r2,seenI_set (by omega),seenI_app (by omega) (by omega),seenI_app (by omega) (by omega)]
    ·rename_i r hr
     exact absurd h (hr _)
def zerS (g:Gr):List Int:=List.replicate g.n.toNat 0
theorem zerS_at (g:Gr) (v:Int):stA (zerS g) v=0:=by
 unfold stA zerS
 rw [List.getD,List.getElem?_replicate]
 split <;> rfl
theorem srch_check {g:Gr} {W:List Wy} {h:Bool} (hr:readyG g W=true) {O:List Nat} (ho:∀ v∈O,(v:Int)<g.n) (hnd:O.Nodup) {S:List St4} (hp:srchF ⟨g.n,g.edges,W,h,[]⟩ 100000 O (-1) (zerS g) []=.proof S):checkA g W h S=true:=by
 have hok:=ready_ok hr h []
 have hn0:=costB_iff.1 (validG_iff.1 hok.v).1
 have hk:=srch_pfx _ _ _ _ _ hp
 have l1:=hk.lt
 have l2:=hk.le
 rw [List.length_nil] at l1
 have:=srch_right hok O _ _ _ _ hp (by simp [zerS];omega) (by omega) (fun v hv=>⟨ho v hv,zerS_at g _⟩) hnd S (List.replicate S.length false) S.length (fun _ _ _=>rfl) (Nat.le_refl _) (by simp) (fun q _ hq=>by simp [List.getD,hq]) (by omega)
 rw [List.length_nil] at this
 unfold checkA
 rw [hr,decide_eq_true (by omega)]
 unfold zerS at this
 rw [this]
 rfl
end Go.Vc

/- Own library: what the search finds is the first repair. Plain. -/
namespace Go.Vc
structure OrdOk (g:Gr) (W:List Wy) (sg pt:List Nat):Prop where
 rng:∀ v∈sg++pt,(v:Int)<g.n
 nd:(sg++pt).Nodup
 sing:∀ v∈sg,∀ e∈g.edges,(v:Int)∈e→e=[(v:Int)]
 up:pt.Pairwise (· < ·)
 whole:∀ e∈g.edges,∀ v∈e,v.toNat∈pt→∀ u∈e,u.toNat∈pt
 named:∀ w∈W,(∀ v∈w.pos,v.toNat∈sg++pt)∧∀ v∈w.neg,v.toNat∈sg++pt
theorem lexA_first {A C:List Int} {v:Nat} (hA:Inc A) (hC:Inc C) (hv:(v:Int)∈A) (hn:(v:Int)∉C) (hb:∀ x,x<(v:Int)→(x∈A↔x∈C)):lexB A C=true∨∀ x∈C,x∈A:=by
 obtain ⟨S,hS,hSv⟩:=below_split (v:=v) hA
 obtain ⟨T,hT,hTv⟩:=below_split (v:=v) hC
 have hbl:below A v=below C v:=inc_ext (hA.sublist List.filter_sublist) (hC.sublist List.filter_sublist) fun x=>by
  rw [below_mem,below_mem]
  exact ⟨fun h=>⟨(hb x h.2).1 h.1,h.2⟩,fun h=>⟨(hb x h.2).2 h.1,h.2⟩⟩
 have hvS:(v:Int)∈S:=by
  rw [hS] at hv
  rcases List.mem_append.1 hv with h | h
  ·have:=(below_mem.1 h).2;omega
  ·exact h
 cases T with
 | nil =>
  refine .inr fun x hx=>?_
  rw [hT,List.append_nil,←hbl] at hx
  exact (below_mem.1 hx).1
 | cons t T =>
  refine .inl ?_
  rw [hS,hT,hbl,lex_app]
  cases S with
  | nil=>cases hvS
  | cons s S =>
   have hs:s=(v:Int):=by
    have h1:=hSv s (by simp)
    rcases List.mem_cons.1 hvS with h | h
    ·exact h.symm
    ·rw [hS] at hA
     have h2:=(List.pairwise_append.1 hA).2.1
     have:=(List.pairwise_cons.1 h2).1 _ h
     omega
   have ht:(v:Int)<t:=by
    have h1:=hTv t (by simp)
    have h2:t≠(v:Int):=fun e=>hn (by rw [hT,e];simp)
    omega
   unfold lexB
   rw [if_pos (by omega)]
theorem nat_least {P:Nat→Prop}:∀ n,P n→∃ m,P m∧∀ k,k<m→¬P k:=by
 intro n
 induction n using Nat.strongRecOn with
 | ind n ih =>
  intro h
  by_cases hk:∃ k,k<n∧P k
  ·obtain ⟨k,h1,h2⟩:=hk;exact ih k h1 h2
  ·exact ⟨n,h,fun k h1 h2=>hk ⟨k,h1,h2⟩⟩
theorem rep_diff {g:Gr} {R X:List Int} (hR:IsRep g R) (hX:IsRep g X) (h:∀ d:Nat,(d:Int)∈R→(d:Int)∉X→(∀ x,x<(d:Int)→(x∈R↔x∈X))→False):R=X∨lexB X R=true:=by
 have hRs:=setB_iff.1 hR.set
 have hXs:=setB_iff.1 hX.set
 by_cases hd:∃ d:Nat,¬((d:Int)∈R↔(d:Int)∈X)
 ·obtain ⟨d0,hd0⟩:=hd
  obtain ⟨d,h1,h2⟩:=nat_least (P:=fun d:Nat=>¬((d:Int)∈R↔(d:Int)∈X)) d0 hd0
  have hb:∀ x,x<(d:Int)→(x∈R↔x∈X):=fun x hx=>by
   by_cases h0:0≤x
   ·have:=h2 x.toNat (by omega)
    rw [show ((x.toNat:Nat):Int)=x by omega] at this
    exact Classical.not_not.1 this
   ·exact ⟨fun h=>absurd (hRs.2 x h).1 h0,fun h=>absurd (hXs.2 x h).1 h0⟩
  by_cases hdR:(d:Int)∈R
  ·have hdX:(d:Int)∉X:=fun h3=>h1 ⟨fun _=>h3,fun _=>hdR⟩
   exact (h d hdR hdX hb).elim
  ·have hdX:(d:Int)∈X:=Classical.byContradiction fun h3=>h1 ⟨fun h=>absurd h hdR,fun h=>absurd h h3⟩
   rcases lexA_first hXs.1 hRs.1 hdX hdR (fun x hx=>(hb x hx).symm) with h3 | h3
   ·exact .inr h3
   ·exact .inl (rep_anti hR hX h3)
 ·refine .inl (inc_ext hRs.1 hXs.1 fun x=>?_)
  by_cases h0:0≤x
  ·have:=Classical.not_not.1 fun h=>hd ⟨x.toNat,h⟩
   rwa [show ((x.toNat:Nat):Int)=x by omega] at this
  ·exact ⟨fun h=>absurd (hRs.2 x h).1 h0,fun h=>absurd (hXs.2 x h).1 h0⟩
theorem ext_greedy {g:Gr} {P:List Int} {d:Nat} (hd:(d:Int)<g.n) (h:(d:Int)∉extF g P):∃ e∈g.edges,(d:Int)∈e∧∀ u∈e,u≠(d:Int)→u∈P∨(u<(d:Int)∧u∈extF g P):=by
 have hsub:∀ k,k≤g.n.toNat→∀ u,0≤u→u<g.n→u∈extK g.edges P k→u∈extF g P:=fun k hk u h0 h1 hu=>memK_mem.2 ⟨h0,by omega,extK_mono hk hu⟩
 have h1:(d:Int)∉extK g.edges P (d+1):=fun hm=>h (hsub _ (by omega) _ (by omega) hd hm)
 rw [extK_succ] at h1
 unfold stepX at h1
 split at h1
 ·rename_i h2
  rcases h2 with h2 | h2
  ·exact absurd h2 h1
  ·obtain ⟨e,he,hde,hall⟩:=blkB_iff.1 h2
   refine ⟨e,he,hde,fun u hu hne=>?_⟩
   have h3:=hall u hu hne
   rcases extK_mem h3 with h4 | h4
   ·exact .inl h4
   ·exact .inr ⟨h4.2,hsub d (by omega) u h4.1 (by omega) h3⟩
 ·exact absurd (List.mem_append_right _ (List.mem_singleton.2 rfl)) h1
theorem fstD_at {s' R:List Int} {d:Nat} {B:List Nat}:∀ {A:List Nat},FstD s' R (A++d :: B)→(∀ v∈A,stA s' (v:Int)=1→(v:Int)∈R)→(d:Int)∈R→stA s' (d:Int)=1:=by
 intro A
 induction A with
 | nil =>
  intro h _ hd
  rcases h with h | h
  ·exact h.1
  ·exact h.1.2 hd
 | cons v A ih =>
  intro h hA hd
  rcases h with h | h
  ·exact absurd (hA v List.mem_cons_self h.1) h.2
  ·exact ih h.2 (fun u hu=>hA u (List.mem_cons_of_mem _ hu)) hd
theorem frA_false {E:List (List Int)} {s:List Int} {v:Int} (h:frA E s v=false):∃ e∈E,v∈e∧∀ u∈e,u≠v→stA s u≠2:=by
 refine Classical.byContradiction fun hn=>?_
 refine Bool.eq_false_iff.1 h (frA_iff.2 fun e he hv=>Classical.byContradiction fun h2=>hn ⟨e,he,hv,fun u hu hne h3=>h2 ⟨u,hu,hne,h3⟩⟩)
theorem srch_best {g:Gr} {W:List Wy} {h:Bool} (hr:readyG g W=true) {sg pt:List Nat} (ho:OrdOk g W sg pt) {M:Nat} {s':List Int} (hf:srchF ⟨g.n,g.edges,W,h,[]⟩ M (sg++pt) (-1) (zerS g) []=.found s') :
  s'.length=g.n.toNat∧loadB g (insA s' g.n.toNat)=true∧someW W (extF g (insA s' g.n.toNat))=h∧∀ R,IsRep g R→someW W R=h→R=extF g (insA s' g.n.toNat)∨lexB (extF g (insA s' g.n.toNat)) R=true:=by
 have hok:=ready_ok hr h []
 have hv:=hok.v
 have hn0:=costB_iff.1 (validG_iff.1 hv).1
 have hE:=(validG_iff.1 hv).2.2.1
 have hz:((zerS g).length:Int)=g.n:=by simp [zerS];omega
 have hcl:closeS ⟨g.n,g.edges,W,h,[]⟩ (zerS g) (-1)=none→NoLf ⟨g.n,g.edges,W,h,[]⟩ (zerS g):=fun h=>noLf_start hok (zerS_at g) h
 have hop:∀ v∈sg++pt,(v:Int)<g.n∧stA (zerS g) (v:Int)=0:=fun v hv=>⟨ho.rng v hv,zerS_at g _⟩
 obtain ⟨hN,hl,hoth,hdec⟩:=srch_found hok _ _ _ _ _ hf hz hop ho.nd hcl
 have hins:∀ {u:Int},u∈insA s' g.n.toNat↔0≤u∧u<g.n∧stA s' u=1:=fun {u}=>by rw [insA_mem];omega
 have hinO:∀ {u:Int},u∈insA s' g.n.toNat→u.toNat∈sg++pt:=fun {u} hu=>by
  obtain ⟨h0,h1,h2⟩:=hins.1 hu
  refine Classical.byContradiction fun hno=>?_
  have:=hoth u.toNat hno
  rw [show ((u.toNat:Nat):Int)=u by omega,h2,zerS_at] at this
  cases this
 have hload:loadB g (insA s' g.n.toNat)=true:=by
  refine loadB_iff.2 ⟨hv,setB_iff.2 ⟨range_inc _ _,fun x hx=>by have:=hins.1 hx;omega⟩,indB_iff.2 fun e he=>?_⟩
  refine Bool.eq_false_iff.2 fun hs=>?_
  have:=hN.clash e he
  rw [areA_iff.2 fun u hu=>(hins.1 (subB_iff.1 hs u hu)).2.2] at this;cases this
 obtain ⟨hX,hsub⟩:=ext_rep hload
 obtain ⟨X,hXd⟩:∃ X,X=extF g (insA s' g.n.toNat):=⟨_,rfl⟩
 have hwh:∀ e∈g.edges,∀ v∈e,v.toNat∈sg++pt→∀ u∈e,u.toNat∈sg++pt:=fun e he v hv hO u hu=>by
  have hr:=(hE e he).2.2 v hv
  rcases List.mem_append.1 hO with h1 | h1
  ·have:=ho.sing _ h1 e he (by rw [show ((v.toNat:Nat):Int)=v by omega];exact hv)
   rw [this] at hu
   rw [List.mem_singleton.1 hu,Int.toNat_natCast];exact hO
  ·exact List.mem_append_right _ (ho.whole e he v hv h1 u hu)
 have hdec':∀ {u:Int},0≤u→u.toNat∈sg++pt→stA s' u=1∨stA s' u=2:=fun {u} h0 hu=>by
  have:=hdec u.toNat hu
  rwa [show ((u.toNat:Nat):Int)=u by omega] at this
 have hag:∀ {u:Int},0≤u→u<g.n→u.toNat∈sg++pt→(stA s' u=1↔u∈extF g (insA s' g.n.toNat)):=fun {u} h0 h1 hu=>by
  refine ⟨fun h2=>hsub u (hins.2 ⟨h0,h1,h2⟩),fun hm=>?_⟩
  rcases hdec' h0 hu with h2 | h2
  ·exact h2
  ·obtain ⟨e,he,hue,hall⟩:=frA_false (hN.free u h0 h1 h2)
   have:=hX.free e he
   rw [subB_iff.2 fun w hw=>by
    by_cases hwu:w=u
    ·rw [hwu];exact hm
    ·have hr:=(hE e he).2.2 w hw
     exact hsub w (hins.2 ⟨hr.1,hr.2,(hdec' hr.1 (hwh e he u hue hu w hw)).resolve_right (hall w hw hwu)⟩)] at this
   cases this
 refine ⟨by rw [hl];simp [zerS],hload,?_,fun R hR hRh=>?_⟩
 ·have hwr:∀ w∈W,(∀ v∈w.pos,0≤v∧v<g.n)∧∀ v∈w.neg,0≤v∧v<g.n:=fun w hw=>wy_rng (hok.W w hw)
  cases h with
  | true =>
   obtain ⟨w,hw,h1⟩:=hN.none rfl
   rw [Bool.or_eq_false_iff] at h1
   refine List.any_eq_true.2 ⟨w,hw,holdW_iff.2 ⟨fun v hv=>?_,fun v hv hm=>?_⟩⟩
   ·have hr:=(hwr w hw).1 v hv
    have hO:=(ho.named w hw).1 v hv
    exact (hag hr.1 hr.2 hO).1 ((hdec' hr.1 hO).resolve_right fun h2=>Bool.eq_false_iff.1 h1.1 (somA_iff.2 ⟨v,hv,h2⟩))
   ·have hr:=(hwr w hw).2 v hv
    have hO:=(ho.named w hw).2 v hv
    exact Bool.eq_false_iff.1 h1.2 (somA_iff.2 ⟨v,hv,(hag hr.1 hr.2 hO).2 hm⟩)
  | false =>
   refine List.any_eq_false.2 fun w hw hh=>?_
   obtain ⟨h2,h3⟩:=holdW_iff.1 hh
   have:=hN.way rfl w hw
   rw [areA_iff.2 fun v hv=>by
    have hr:=(hwr w hw).1 v hv
    exact (hag hr.1 hr.2 ((ho.named w hw).1 v hv)).2 (h2 v hv),areA_iff.2 fun v hv=>by
    have hr:=(hwr w hw).2 v hv
    have hO:=(ho.named w hw).2 v hv
    exact (hdec' hr.1 hO).resolve_left fun h4=>h3 v hv ((hag hr.1 hr.2 hO).1 h4)] at this
   cases this
 ·have hC:ConsA g.n (zerS g) R:=fun v _ _=>⟨fun h=>(by rw [zerS_at] at h;cases h),fun h=>(by rw [zerS_at] at h;cases h)⟩
  have hfst:=srch_first hok hR hRh _ _ _ _ _ hf hz (by omega) hop ho.nd hcl hC
  refine rep_diff hR hX fun d hdR hdX hb=>?_
  have hdr:=(setB_iff.1 hR.set).2 _ hdR
  have hRfree:∀ e∈g.edges,(∀ u∈e,u∈R)→False:=fun e he h1=>by
   have:=hR.free e he
   rw [subB_iff.2 h1] at this;cases this
  by_cases hdO:d∈sg++pt
  ·have hd2:stA s' (d:Int)=2:=(hdec d hdO).resolve_left fun h1=>hdX ((hag (by omega) hdr.2 (by rw [Int.toNat_natCast];exact hdO)).1 h1)
   rcases List.mem_append.1 hdO with h1 | h1
   ·obtain ⟨e,he,hde,_⟩:=frA_false (hN.free d (by omega) hdr.2 hd2)
    refine hRfree e he fun u hu=>?_
    rw [ho.sing d h1 e he hde] at hu
    rw [List.mem_singleton.1 hu];exact hdR
   ·obtain ⟨A,B,hAB⟩:=List.append_of_mem h1
    have hup:=ho.up
    rw [hAB] at hup
    have hA:∀ v∈A,v<d:=fun v hv=>(List.pairwise_append.1 hup).2.2 v hv d List.mem_cons_self
    rw [hAB,←List.append_assoc] at hfst
    have:=fstD_at hfst (fun v hv h3=>?_) hdR
    ·rw [hd2] at this;cases this
    ·rcases List.mem_append.1 hv with h4 | h4
     ·have hvO:v∈sg++pt:=List.mem_append_left _ h4
      have hvr:=ho.rng v hvO
      have hvX:=(hag (u:=(v:Int)) (by omega) hvr (by rw [Int.toNat_natCast];exact hvO)).1 h3
      refine Classical.byContradiction fun hvR=>?_
      obtain ⟨e,he,hve,_⟩:=hR.max v (by omega) hvr hvR
      have:=hX.free e he
      rw [subB_iff.2 fun u hu=>by
       rw [ho.sing v h4 e he hve] at hu
       rw [List.mem_singleton.1 hu];exact hvX] at this
      cases this
     ·have hvO:v∈sg++pt:=List.mem_append_right _ (by rw [hAB];exact List.mem_append_left _ h4)
      have hlt:=hA v h4
      exact (hb v (by omega)).2 ((hag (u:=(v:Int)) (by omega) (ho.rng v hvO) (by rw [Int.toNat_natCast];exact hvO)).1 h3)
  ·obtain ⟨e,he,hde,hall⟩:=ext_greedy hdr.2 hdX
   refine hRfree e he fun u hu=>?_
   by_cases hud:u=(d:Int)
   ·rw [hud];exact hdR
   ·rcases hall u hu hud with h1 | ⟨h1,h2⟩
    ·have:=hwh e he u hu (hinO h1) _ hde
     rw [Int.toNat_natCast] at this
     exact absurd this hdO
    ·exact (hb u h1).2 h2
end Go.Vc
