/- Own library: a proof that branches on all vertices; is a list a repair; all repairs by bits; certificates. Plain. -/
import Derived.Test.YtjocoefpnboccaaGreatDoorXVcPrf
import Derived.Test.YtjocoefpnboccaaGreatDoorXVcRepP
namespace Go.Vc
set_option maxHeartbeats 16000000
set_option maxRecDepth 100000
def seenI (sn:List Bool) (a b:Nat):List Bool:=sn.mapIdx fun i x=>x||decide (a≤i∧i<b)
theorem seenI_len (sn:List Bool) (a b:Nat):(seenI sn a b).length=sn.length:=List.length_mapIdx
theorem seenI_get {sn:List Bool} {a b i:Nat} (h:i<sn.length):(seenI sn a b).getD i default=(sn.getD i default||decide (a≤i∧i<b)):=by
 unfold seenI
 rw [List.getD,List.getD,List.getElem?_mapIdx,List.getElem?_eq_getElem h]
 rfl
theorem bool_ext {l m:List Bool} (h:l.length=m.length) (k:∀ i,i<l.length→l.getD i default=m.getD i default):l=m:=by
 refine List.ext_getElem h fun i h1 h2=>?_
 have:=k i h1
 rwa [List.getD,List.getD,List.getElem?_eq_getElem h1,List.getElem?_eq_getElem h2] at this
theorem seenI_set {sn:List Bool} {a:Nat} (h:a<sn.length):sn.set a true=seenI sn a (a+1):=by
 refine bool_ext (by rw [List.length_set,seenI_len]) fun i hi=>?_
 rw [List.length_set] at hi
 rw [seenI_get hi]
 by_cases e:i=a
 ·subst e
  rw [List.getD,List.getElem?_set_self h,decide_eq_true (by omega),Bool.or_true];rfl
 ·rw [List.getD,List.getElem?_set_ne (by omega),decide_eq_false (by omega),Bool.or_false];rfl
theorem seenI_app {sn:List Bool} {a b d:Nat} (h1:a≤b) (h2:b≤d):seenI (seenI sn a b) b d=seenI sn a d:=by
 refine bool_ext (by rw [seenI_len,seenI_len,seenI_len]) fun i hi=>?_
 rw [seenI_len,seenI_len] at hi
 rw [seenI_get (by rw [seenI_len];exact hi),seenI_get hi,seenI_get hi,Bool.or_assoc]
 congr 1
 rw [Bool.eq_iff_iff,Bool.or_eq_true,decide_eq_true_eq,decide_eq_true_eq,decide_eq_true_eq]
 omega
theorem leafA_steps {c c':PrfC} (hn:c'.n=c.n) (hE:c'.E=c.E) (hW:c'.W=c.W) (hh:c'.h=c.h) (s:List Int) (x:St4):leafA c' s x=leafA c s x:=by
 unfold leafA;rw [hn,hE,hW,hh]
def insA (s:List Int) (N:Nat):List Int:=((List.range N).filter fun v=>decide (s.getD v default=1)).map fun v:Nat=>(v:Int)
theorem insA_mem {s:List Int} {N:Nat} {v:Int}:v∈insA s N↔0≤v∧v<(N:Int)∧stA s v=1:=by
 unfold insA stA
 rw [List.mem_map]
 constructor
 ·rintro ⟨u,hu,rfl⟩
  rw [List.mem_filter,List.mem_range,decide_eq_true_eq] at hu
  exact ⟨by omega,by omega,by rw [Int.toNat_natCast];exact hu.2⟩
 ·rintro ⟨h0,h1,h2⟩
  exact ⟨v.toNat,by rw [List.mem_filter,List.mem_range,decide_eq_true_eq];exact ⟨by omega,h2⟩,by omega⟩
theorem range_inc (N:Nat) (p:Nat→Bool):Inc (((List.range N).filter p).map fun v:Nat=>(v:Int)):=by
 unfold Inc
 refine List.pairwise_map.2 (List.Pairwise.imp (fun {a b} h=>?_) ((List.pairwise_lt_range (n:=N)).sublist List.filter_sublist))
 omega
end Go.Vc
