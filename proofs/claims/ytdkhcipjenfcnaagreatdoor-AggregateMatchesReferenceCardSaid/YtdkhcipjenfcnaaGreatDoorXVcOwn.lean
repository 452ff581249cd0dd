/- Own library: maps. -/
import Derived.Test.YtdkhcipjenfcnaaGreatDoorXVcRun3
import Derived.Sort.AssemblyPlain
namespace Go.Vc
set_option maxRecDepth 100000
set_option maxHeartbeats 16000000
structure KeyT (P:Program) (kt:TypeId) {κ:Type} [DecidableEq κ] (enc:κ→Value):Prop where
 td:∃ td,P.underlying kt=some td∧∀ a b,Instr.sameNow td (enc a) (enc b)=none∨Instr.sameNow td (enc a) (enc b)=some (decide (a=b))
 eq:∀ a b w,(Op.equal kt (enc a) (enc b)).run P w=.ok (decide (a=b)) w
 chk:∀ e a w,(Instr.checkKey e 10000 kt (enc a)).run P w=.ok () w
 stay:∀ a,Instr.sameBits 10000 (enc a) (enc a)=true
section
variable {κ:Type} [DecidableEq κ] {enc:κ→Value}
def lk (k:κ):List (κ×Value)→Nat→Option (Nat×Value)
 | [],_=>none
 | (k',v) :: l,i=>if k=k' then some (i,v) else lk k l (i+1)
def mget (l:List (κ×Value)) (k:κ):Option Value :=
 match l with
 | []=>none
 | (k',v) :: l=>if k=k' then some v else mget l k
def mset (l:List (κ×Value)) (k:κ) (v:Value):List (κ×Value) :=
 match l with
 | []=>[(k,v)]
 | (k',v') :: l=>if k=k' then (k,v) :: l else (k',v') :: mset l k v
theorem mget_mset (l:List (κ×Value)) (k k':κ) (v:Value):mget (mset l k v) k'=if k'=k then some v else mget l k':=by
 induction l with
 | nil=>simp [mset,mget]
 | cons p l ih =>
  obtain ⟨a,x⟩:=p
  simp only [mset]
  by_cases h:k=a
  ·subst h;simp only [if_true,mget]
   by_cases h2:k'=k <;> simp [h2]
  ·rw [if_neg h];simp only [mget,ih]
   by_cases h2:k'=a
   ·subst h2;simp;intro e;exact absurd e.symm h
   ·simp [h2]
theorem mset_keys (l:List (κ×Value)) (k:κ) (v:Value):(mset l k v).map (·.1)=if k∈l.map (·.1) then l.map (·.1) else l.map (·.1)++[k]:=by
 induction l with
 | nil=>simp [mset]
 | cons p l ih =>
  obtain ⟨a,x⟩:=p
  simp only [mset]
  by_cases h:k=a
  ·subst h;simp
  ·rw [if_neg h];simp only [List.map_cons,ih,List.mem_cons,h,false_or]
   split <;> simp
theorem mset_nodup {l:List (κ×Value)} (h:(l.map (·.1)).Nodup) (k:κ) (v:Value):((mset l k v).map (·.1)).Nodup:=by
 rw [mset_keys]
 split
 ·exact h
 ·rename_i hk
  rw [List.nodup_append]
  refine ⟨h,by simp,?_⟩
  intro a ha b hb
  simp at hb;subst hb
  rintro rfl
  exact hk ha
theorem lk_mget (k:κ) (l:List (κ×Value)) (i:Nat):(lk k l i).map (·.2)=mget l k:=by
 induction l generalizing i with
 | nil=>rfl
 | cons p l ih =>
  obtain ⟨a,x⟩:=p
  simp only [lk,mget]
  split
  ·rfl
  ·exact ih _
theorem lk_some {k:κ} {l:List (κ×Value)} {i j:Nat} {v:Value} (h:lk k l i=some (j,v)):i≤j∧l[j-i]?=some (k,v)∧∀ v',mset l k v'=l.set (j-i) (k,v'):=by
 induction l generalizing i with
 | nil=>simp [lk] at h
 | cons p l ih =>
  obtain ⟨a,x⟩:=p
  simp only [lk] at h
  by_cases hk:k=a
  ·subst hk
   simp only [if_true,Option.some.injEq,Prod.mk.injEq] at h
   obtain ⟨rfl,rfl⟩:=h
   simp [mset]
  ·rw [if_neg hk] at h
   obtain ⟨h1,h2,h3⟩:=ih h
   have e:j-i=(j-(i+1))+1:=by omega
   refine ⟨by omega,by rw [e];simpa using h2,fun v'=>?_⟩
   rw [e]
   simp only [mset,if_neg hk,List.set_cons_succ,h3]
theorem lk_none {k:κ} {l:List (κ×Value)} {i:Nat} (h:lk k l i=none):(∀ v',mset l k v'=l++[(k,v')])∧k∉l.map (·.1):=by
 induction l generalizing i with
 | nil=>simp [mset]
 | cons p l ih =>
  obtain ⟨a,x⟩:=p
  simp only [lk] at h
  by_cases hk:k=a
  ·rw [if_pos hk] at h;cases h
  ·rw [if_neg hk] at h
   obtain ⟨h1,h2⟩:=ih h
   exact ⟨fun v'=>by simp only [mset,if_neg hk,h1,List.cons_append],by simpa [hk] using h2⟩
def ekv (e:MapEntry):Value×Value:=(e.key,e.val)
structure MapAt (w:World) (r:Nat) (enc:κ→Value) (l:List (κ×Value)) (es:Array MapEntry) (clock:Nat):Prop where
 blk:Blk w r (.map es clock)
 kv:es.toList.map ekv=l.map fun p=>(enc p.1,p.2)
 born:(es.toList.map (·.born)).Pairwise (· < ·)
 clk:∀ e∈es.toList,e.born<clock
 nd:(l.map (·.1)).Nodup
def MapIs (w:World) (r:Nat) (enc:κ→Value) (l:List (κ×Value)):Prop:=∃ es clock,MapAt w r enc l es clock
omit [DecidableEq κ] in
theorem MapAt.mod {S:Nat→Prop} {w w':World} {r:Nat} {l:List (κ×Value)} {es:Array MapEntry} {c:Nat} (h:MapAt w r enc l es c) (m:Mod S w w') (hr:¬S r):MapAt w' r enc l es c :=
 ⟨h.blk.mod m hr,h.kv,h.born,h.clk,h.nd⟩
omit [DecidableEq κ] in
theorem MapIs.mod {S:Nat→Prop} {w w':World} {r:Nat} {l:List (κ×Value)} (h:MapIs w r enc l) (m:Mod S w w') (hr:¬S r):MapIs w' r enc l :=
 let ⟨es,c,h⟩:=h;⟨es,c,h.mod m hr⟩
omit [DecidableEq κ] in
theorem MapIs.ext {w w':World} {r:Nat} {l:List (κ×Value)} (h:MapIs w r enc l) (m:Ext w w'):MapIs w' r enc l:=h.mod m fun e=>e
omit [DecidableEq κ] in
theorem MapIs.lt {w:World} {r:Nat} {l:List (κ×Value)} (h:MapIs w r enc l):r<w.heap.size:=let ⟨_,_,h⟩:=h;h.blk.lt
variable {P:Program} {kt:TypeId}
theorem findAsking_run (K:KeyT P kt enc) (k:κ):∀ (es:List MapEntry) (l:List (κ×Value)) (i:Nat) (w:World),es.map ekv=l.map (fun p=>(enc p.1,p.2)) →
  (Instr.findAsking kt (enc k) es i).run P w=.ok (lk k l i) w:=by
 intro es
 induction es with
 | nil=>intro l i w h;cases l with | nil=>rfl | cons=>simp at h
 | cons e es ih =>
  intro l i w h
  cases l with
  | nil=>simp at h
  | cons p l =>
   obtain ⟨a,x⟩:=p
   simp only [List.map_cons,List.cons.injEq,ekv,Prod.mk.injEq] at h
   obtain ⟨⟨h1,h2⟩,h3⟩:=h
   simp only [Instr.findAsking,h1,Sem.run_bind,K.eq,Result.andThen_ok,lk]
   by_cases hk:k=a
   ·simp [hk,go_sem,h2]
   ·simp only [hk,decide_false,Bool.false_eq_true,if_false]
    exact ih l (i+1) w h3
theorem findKey_run (K:KeyT P kt enc) (k:κ) (es:List MapEntry) (l:List (κ×Value)) (w:World) (h:es.map ekv=l.map (fun p=>(enc p.1,p.2))) :
  (Instr.findKey kt (enc k) es).run P w=.ok (lk k l 0) w:=by
 obtain ⟨td,htd,hnow⟩:=K.td
 have hu:(underlying kt).run P w=.ok td w:=run_underlying htd w
 have key:∀ (es:List MapEntry) (l:List (κ×Value)) (i:Nat),es.map ekv=l.map (fun p=>(enc p.1,p.2))→Instr.findNow td (enc k) es i=none∨Instr.findNow td (enc k) es i=some (lk k l i):=by
  intro es
  induction es with
  | nil=>intro l i h;cases l with | nil=>exact .inr rfl | cons=>simp at h
  | cons e es ih =>
   intro l i h
   cases l with
   | nil=>simp at h
   | cons p l =>
    obtain ⟨a,x⟩:=p
    simp only [List.map_cons,List.cons.injEq,ekv,Prod.mk.injEq] at h
    obtain ⟨⟨h1,h2⟩,h3⟩:=h
    simp only [Instr.findNow,h1,lk]
    rcases hnow k a with hn | hn
    ·rw [hn];exact .inl rfl
    ·rw [hn]
     by_cases hk:k=a
     ·simp [hk,h2]
     ·simp only [hk,decide_false,if_false]
      exact ih l (i+1) h3
 unfold Instr.findKey
 simp only [Sem.run_bind,hu,Result.andThen_ok]
 rcases key es l 0 h with hn | hn
 ·rw [hn];exact findAsking_run K k es l 0 w h
 ·rw [hn];rfl
theorem setObj_run {w:World} {r:Nat} {es:Array MapEntry} {c:Nat} (h:Blk w r (.map es c)) (o:Obj) :
  (setObj r o).run P w=.ok () { w with heap:=w.heap.setIfInBounds r o }:=by
 unfold Blk at h
 simp [setObj,Sem.run,h]
theorem setObj_mod (w:World) (r:Nat) (o:Obj):Mod (one r) w { w with heap:=w.heap.setIfInBounds r o } :=
 ⟨rfl,rfl,rfl,by simp,fun b _ hn=>by
  have:¬r=b:=fun e=>hn e.symm
  simp [Array.getElem?_setIfInBounds_ne this]⟩
theorem setObj_blk {w:World} {r:Nat} {o':Obj} (h:Blk w r o') (o:Obj):Blk { w with heap:=w.heap.setIfInBounds r o } r o:=by
 have:=h.lt
 unfold Blk;simp [this]
theorem getObj_run {w:World} {r:Nat} {es:Array MapEntry} {c:Nat} (h:Blk w r (.map es c)):(getObj r).run P w=.ok (.map es c) w:=by
 unfold Blk at h
 simp [getObj,Sem.run,h]
theorem pairwise_snoc {l:List Nat} {c:Nat} (h:l.Pairwise (· < ·)) (hc:∀ x∈l,x<c):(l++[c]).Pairwise (· < ·):=by
 rw [List.pairwise_append]
 exact ⟨h,by simp,fun a ha b hb=>by simp at hb;subst hb;exact hc a ha⟩
theorem mapUpdate_run (K:KeyT P kt enc) {mt e:TypeId} (hu:∀ w,(underlying mt).run P w=.ok (.map kt e) w) {w:World} {r:Nat} {l:List (κ×Value)} (h:MapIs w r enc l) (k:κ) (v:Value) :
  ∃ w',(Instr.mapUpdate mt (.map (some r)) (enc k) v).run P w=.ok () w'∧MapIs w' r enc (mset l k v)∧Mod (one r) w w':=by
 obtain ⟨es,c,hm⟩:=h
 have hf:=findKey_run K k es.toList l w hm.kv
 unfold Instr.mapUpdate
 simp only [Sem.run_bind,hu,Result.andThen_ok,getObj_run hm.blk,K.chk,hf]
 have hlen:es.toList.length=l.length:=by simpa using congrArg List.length hm.kv
 cases hlk:lk k l 0 with
 | none =>
  obtain ⟨h1,h2⟩:=lk_none hlk
  simp only [setObj_run hm.blk]
  refine ⟨_,rfl,⟨_,_,setObj_blk hm.blk _,?_,?_,?_,mset_nodup hm.nd k v⟩,setObj_mod w r _⟩
  ·rw [h1 v];simp [hm.kv,ekv]
  ·simp only [Array.toList_push,List.map_append,List.map_cons,List.map_nil]
   refine pairwise_snoc hm.born fun x hx=>?_
   obtain ⟨e,he,rfl⟩:=List.mem_map.1 hx
   exact hm.clk e he
  ·intro e he
   simp at he
   rcases he with he | rfl
   ·have:=hm.clk e (by simpa using he);omega
   ·exact Nat.lt_succ_self _
 | some iv =>
  obtain ⟨i,u⟩:=iv
  obtain ⟨_,h2,h3⟩:=lk_some hlk
  simp only [Nat.sub_zero] at h2 h3
  have hi:i<es.size:=by have:=(List.getElem?_eq_some_iff.1 h2).1;simp at hlen;omega
  have hei:es[i]?=some es[i]:=Array.getElem?_eq_getElem hi
  have hkey:es[i].key=enc k:=by
   have h4:=congrArg (fun l=>l[i]?) hm.kv
   simp only [List.getElem?_map,h2,Option.map_some] at h4
   rw [show es.toList[i]?=some es[i] from by simp [hi]] at h4
   simp only [Option.map_some,Option.some.injEq,ekv,Prod.mk.injEq] at h4
   exact h4.1
  have hstay:(Instr.keyThatStays (enc k) (enc k)).run P w=.ok (enc k) w:=by
   unfold Instr.keyThatStays;rw [if_pos (K.stay k)];rfl
  simp only [hei,Option.map_some,Option.getD_some,hkey,Sem.run_bind,hstay,Result.andThen_ok,setObj_run hm.blk]
  have hmod:(es.modify i fun e=>{ e with key:=enc k,val:=v }).toList=es.toList.set i { es[i] with key:=enc k,val:=v }:=by
   rw [Array.toList_modify]
   apply List.ext_getElem?
   intro j
   rw [List.getElem?_modify,List.getElem?_set]
   by_cases hij:i=j
   ·subst hij;simp [hi]
   ·simp [hij]
  refine ⟨_,rfl,⟨_,_,setObj_blk hm.blk _,?_,?_,?_,mset_nodup hm.nd k v⟩,setObj_mod w r _⟩
  ·rw [hmod,h3 v,List.map_set,List.map_set,hm.kv];rfl
  ·rw [hmod,List.map_set]
   have:(es.toList.map (·.born)).set i es[i].born=es.toList.map (·.born):=by
    apply List.ext_getElem?
    intro j
    rw [List.getElem?_set]
    by_cases hij:i=j
    ·subst hij;simp [hi]
    ·simp [hij]
   show ((es.toList.map (·.born)).set i es[i].born).Pairwise _
   rw [this];exact hm.born
  ·intro e he
   rw [hmod] at he
   rcases List.mem_or_eq_of_mem_set he with he | rfl
   ·exact hm.clk e he
   ·exact hm.clk es[i] (by simp)
theorem lookup_run (K:KeyT P kt enc) {mt e:TypeId} {z:Value} (hu:∀ w,(underlying mt).run P w=.ok (.map kt e) w) (hz:∀ w,(zeroValue e).run P w=.ok z w) {w:World} {r:Nat} {l:List (κ×Value)} (h:MapIs w r enc l) (k:κ) (ok:Bool) :
  (Instr.lookup mt (.map (some r)) (enc k) ok).run P w=.ok (bif ok then .tuple #[(mget l k).getD z,.bool (mget l k).isSome] else (mget l k).getD z) w:=by
 obtain ⟨es,c,hm⟩:=h
 have hf:=findKey_run K k es.toList l w hm.kv
 unfold Instr.lookup
 simp only [Sem.run_bind,hu,Result.andThen_ok,getObj_run hm.blk,Sem.run_pure,K.chk,hf]
 have h2:=lk_mget k l 0
 cases hlk:lk k l 0 with
 | none =>
  rw [hlk] at h2
  simp only [Option.map_none] at h2
  rw [←h2]
  simp only [Sem.run_bind,hz,Result.andThen_ok,Sem.run_pure]
  cases ok <;> rfl
 | some iv =>
  rw [hlk] at h2
  simp only [Option.map_some] at h2
  rw [←h2]
  simp only 
  cases ok <;> rfl
end
theorem ba_beq (a b:ByteArray):(a == b)=decide (a=b):=by
 cases a with | mk a=>cases b with | mk b =>
 show (a == b)=_
 rw [Bool.eq_iff_iff]
 simp
theorem chkI {P:Program} {T n:Nat} {e:Bool} {k j:IntKind} {x:Int} (hu:∀ w,(underlying T).run P w=.ok (.int j) w) (w:World):(Instr.checkKey e (n+1) T (.int k x)).run P w=.ok () w:=by
 simp [Instr.checkKey,go_sem,hu]
theorem chkG {P:Program} {T n:Nat} {e:Bool} {x:ByteArray} (hu:∀ w,(underlying T).run P w=.ok .string w) (w:World):(Instr.checkKey e (n+1) T (.string x)).run P w=.ok () w:=by
 simp [Instr.checkKey,go_sem,hu]
section
variable {P:Program} {N:Nat} {L:List Oper} {Q:Exit→Env→World→Prop} {rest:List Oper} {ρ:Env} {w:World}
 {d:Nat} {ty t:TypeId} {p:String} {af:Array Edge} {x y z':Operand} {κ:Type} [DecidableEq κ] {enc:κ→Value} {kt e:TypeId}
theorem VL.makeMap (h:∀ r w',r=w.heap.size→Ext w w'→Blk w' r (.map #[] 0)→VL P N L Q rest (upd ρ d (.map (some r))) w') :
  VL P N L Q ({ dst:=some d,op:=.makeMap t none,type:=ty,pos:=p,after:=af,guard:=none } :: rest) ρ w:=by
 refine Vo (v:=.map (some w.heap.size)) (w':=w.alloc (.map #[] 0)) ?_ (h _ _ rfl (Ext.alloc _ _) (Blk.alloc _ _))
 simp [run1,go_sem,Instr.makeMap]
omit [DecidableEq κ] in
theorem MapIs.empty {w:World} {r:Nat} (h:Blk w r (.map #[] 0)):MapIs w r enc []:=⟨#[],0,h,rfl,by simp,by simp,by simp⟩
theorem VL.mapUpdate {r:Nat} {l:List (κ×Value)} {k:κ} {v:Value} (K:KeyT P kt enc) (hu:∀ w,(underlying t).run P w=.ok (.map kt e) w) (hx:tm ρ x=.map (some r)) (hy:tm ρ y=enc k) (hz:tm ρ z'=v)
  (hm:MapIs w r enc l) (h:∀ w',MapIs w' r enc (mset l k v)→Mod (one r) w w'→VL P N L Q rest ρ w') :
  VL P N L Q ({ dst:=none,op:=.mapUpdate t x y z',type:=ty,pos:=p,after:=af,guard:=none } :: rest) ρ w:=by
 obtain ⟨w',h1,h2,h3⟩:=mapUpdate_run K hu hm k v
 refine VL.op0 ?_ (h w' h2 h3)
 simp only [run1,execOp,hx,hy,hz,Sem.run_bind,h1,Result.andThen_ok,Sem.run_pure]
theorem R.lookup {r:Nat} {l:List (κ×Value)} {k:κ} {z:Value} (K:KeyT P kt enc) (hu:∀ w,(underlying t).run P w=.ok (.map kt e) w) (hz:∀ w,(zeroValue e).run P w=.ok z w)
  (hm:MapIs w r enc l) (hx:tm ρ x=.map (some r)) (hy:tm ρ y=enc k) :
  run1 P ρ (.lookup t x y false) ty w=.ok (.value ((mget l k).getD z)) w:=by
 have:=lookup_run K hu hz hm k false
 simp only [run1,execOp,hx,hy,Sem.run_bind,this,Result.andThen_ok,Sem.run_pure,cond_false]
theorem R.lookupOk {r:Nat} {l:List (κ×Value)} {k:κ} {z:Value} (K:KeyT P kt enc) (hu:∀ w,(underlying t).run P w=.ok (.map kt e) w) (hz:∀ w,(zeroValue e).run P w=.ok z w)
  (hm:MapIs w r enc l) (hx:tm ρ x=.map (some r)) (hy:tm ρ y=enc k) :
  run1 P ρ (.lookup t x y true) ty w=.ok (.value (.tuple #[(mget l k).getD z,.bool (mget l k).isSome])) w:=by
 have:=lookup_run K hu hz hm k true
 simp only [run1,execOp,hx,hy,Sem.run_bind,this,Result.andThen_ok,Sem.run_pure,cond_true]
end
section
variable {P:Program} {N:Nat} {L:List Oper} {Q:Exit→Env→World→Prop} {rest:List Oper} {ρ:Env} {w:World}
 {d:Nat} {ty t:TypeId} {p:String} {af:Array Edge} {x y z':Operand} {κ:Type} [DecidableEq κ] {enc:κ→Value} {kt e:TypeId}
theorem R.lookupV {r:Nat} {l:List (κ×Value)} {k:κ} {z v:Value} (K:KeyT P kt enc) (hu:∀ w,(underlying t).run P w=.ok (.map kt e) w) (hz:∀ w,(zeroValue e).run P w=.ok z w)
  (hm:MapIs w r enc l) (hv:(mget l k).getD z=v) (hx:tm ρ x=.map (some r)) (hy:tm ρ y=enc k) :
  run1 P ρ (.lookup t x y false) ty w=.ok (.value v) w:=by subst hv;exact R.lookup K hu hz hm hx hy
theorem R.buildSl {n e s:Nat} {z:Value} {parts:List (Nat×Operand)} (hu:∀ w,(underlying t).run P w=.ok (.slice e) w) (hs:∀ w,(sizeOf e).run P w=.ok s w)
  (hz:∀ w,(zeroValue e).run P w=.ok z w) (hzs:(Nat.beq z.cells.size s&&Nat.blt 0 s)=true) (hn:Nat.ble (n*s) 16777216=true) (hn0:Nat.blt 0 n=true)
  (hf:bldOk (fun i=>some (i*s,s)) (n*s) (parts.map fun p=>(p.1,tm ρ p.2))=true) :
  run1 P ρ (.buildSlice t n parts.toArray) ty w=.ok (.value (.slice (some ⟨w.heap.size,0,none⟩) n n)) (w.alloc (.cells (bld (fun i=>some (i*s,s)) (zrep z.cells.toList n) (parts.map fun p=>(p.1,tm ρ p.2))).toArray e (0,0))):=by
 simp only [Bool.and_eq_true] at hzs
 have hz1:=Nat.eq_of_beq_eq_true hzs.1
 have hz2:=nblt.1 hzs.2
 have hn1:=nblt.1 hn0
 have hn':¬(n*s > 2 ^ 24):=by have:=Nat.le_of_ble_eq_true hn;omega
 have hnew:∀ c:Array Value,(newRow e c).run P w=.ok ⟨w.heap.size,0,none⟩ (w.alloc (.cells c e)):=fun c=>by simp [newRow,go_sem]
 have hcells:(Array.range (n*s)).map (z.cells[· % z.cells.size]!)=(zrep z.cells.toList n).toArray:=by
  rw [←hz1];exact zero_cells _ (by omega) n
 have hl:(zrep z.cells.toList n).toArray.size=n*s:=by
  have:=zrep_len z.cells.toList n
  simp only [Array.length_toList,hz1] at this
  simpa using this
 have hfill:=fill_bld (fun i=>some (i*s,s)) (parts.map fun p=>(p.1,tm ρ p.2)) (zrep z.cells.toList n).toArray (by rw [hl];exact hf)
 have hfill':Instr.fill (fun i=>some (i*s,s)) (zrep z.cells.toList n).toArray (parts.map fun (i,x)=>(i,tm ρ x))=some (bld (fun i=>some (i*s,s)) (zrep z.cells.toList n) (parts.map fun p=>(p.1,tm ρ p.2))).toArray:=hfill
 have h0:¬n*s=0:=by
  intro h
  rcases Nat.mul_eq_zero.1 h with h | h <;> omega
 simp only [run1,execOp,Instr.buildSlice,Sem.run_bind,hu,hs,Result.andThen_ok,List.map_toArray,hn',if_false,Sem.run_pure,h0,hz,hcells,hfill',hnew]
end
section
variable {P:Program} {N:Nat} {L:List Oper} {Q:Exit→Env→World→Prop} {rest l:List Oper} {ρ:Env} {w w0:World}
 {d m i j:Nat} {ty t:TypeId} {p:String} {af:Array Edge} {x y:Operand} {K:Env→Prop}
end
open Go.Sort
theorem putCells_get (c:Array Value) (o:Nat) (vs:List Value) (h:o+vs.length≤c.size) (x:Nat) :
  (putCells c o vs)[x]?=if x<o then c[x]? else if x<o+vs.length then vs[x-o]? else c[x]?:=by
 unfold putCells
 have ho:(c.toList.take o).length=o:=by simp;omega
 by_cases h1:x<o
 ·rw [if_pos h1]
  simp only [List.getElem?_toArray]
  rw [List.append_assoc,List.getElem?_append_left (by omega),List.getElem?_take,if_pos h1];simp
 ·rw [if_neg h1]
  by_cases h2:x<o+vs.length
  ·rw [if_pos h2]
   simp only [List.getElem?_toArray]
   rw [List.append_assoc,List.getElem?_append_right (by omega),ho,List.getElem?_append_left (by omega)]
  ·rw [if_neg h2]
   simp only [List.getElem?_toArray]
   rw [List.append_assoc,List.getElem?_append_right (by omega),ho,List.getElem?_append_right (by omega),List.getElem?_drop]
   rw [show o+vs.length+(x-o-vs.length)=x from by omega];simp
theorem putCells_size (c:Array Value) (o:Nat) (vs:List Value) (h:o+vs.length≤c.size):(putCells c o vs).size=c.size:=by
 unfold putCells;simp;omega
structure Elt {α:Type} (enc:α→List Value) (K:Nat):Prop where
 len:∀ x,(enc x).length=K
 one:∀ x,allOne (enc x)=true
 pos:0<K
structure Srt {α:Type} [Inhabited α] (enc:α→List Value) (K:Nat) (w0:World) (a:Option Addr) (d:Array α) (w:World):Prop where
 m:Mod (aBlk a) w0 w
 c:∃ blk off c T,a=some ⟨blk,off,none⟩∧Blk w blk (.cells c T (0,0))∧∀ q,q<d.size→∀ r,r<K→(c[off+q*K+r]?=(enc d[q]!)[r]?∧off+q*K+r<c.size)
section
variable {α:Type} [Inhabited α] {enc:α→List Value} {K:Nat} {w0 w w':World} {a:Option Addr} {d:Array α}
theorem Srt.ext (h:Srt enc K w0 a d w) (e:Ext w w'):Srt enc K w0 a d w':=by
 obtain ⟨blk,off,c,T,ha,hB,hc⟩:=h.c
 exact ⟨h.m.then e fun _ _ h=>h.elim,blk,off,c,T,ha,hB.ext e,hc⟩
theorem Srt.to {d':Array α} (h:Srt enc K w0 a d w) (e:d=d'):Srt enc K w0 a d' w:=e▸h
theorem Srt.rb (h:Srt enc K w0 a d w):Srt enc K w a d w:=⟨Mod.refl _ _,h.c⟩
theorem Srt.back {d':Array α} (h:Srt enc K w0 a d w) (k:Srt enc K w a d' w'):Srt enc K w0 a d' w':=⟨h.m.then k.m fun _ _ h=>h,k.c⟩
theorem Srt.ad (h:Srt enc K w0 a d w):∃ b off,a=some ⟨b,off,none⟩:=by
 obtain ⟨blk,off,c,T,ha,hB,hc⟩:=h.c
 exact ⟨blk,off,ha⟩
theorem Srt.row (E:Elt enc K) (h:Srt enc K w0 a d w) {j i:Nat} (he:j=i) (hi:i<d.size):RowAt w (eAddr a K j).block (eAddr a K j).off (enc d[i]!):=by
 subst he
 obtain ⟨blk,off,c,T,rfl,hB,hc⟩:=h.c
 refine ⟨c,T,_,hB,fun r hr=>?_⟩
 rw [E.len] at hr
 exact (hc j hi r hr).1
theorem getD_bang (d:Array α) (i:Nat):d.toList.getD i default=d[i]! := by
 rw [getElem!_def]
 simp [List.getD]
 cases d[i]? <;> rfl
theorem Srt.sl (E:Elt enc K) (h:Srt enc K w0 a d w):TSl enc K w a d.toList:=by
 obtain ⟨blk,off,c,T,rfl,hB,hc⟩:=h.c
 refine ⟨?_,.inr ⟨blk,off,rfl,c,T,_,hB,?_⟩⟩
 ·intro r hr
  obtain ⟨x,_,rfl⟩:=List.mem_map.1 hr
  exact E.len x
 ·have hl:∀ r∈d.toList.map enc,r.length=K:=by
   intro r hr
   obtain ⟨x,_,rfl⟩:=List.mem_map.1 hr
   exact E.len x
  intro i hi
  rw [flatten_len _ K hl] at hi
  simp only [List.length_map,Array.length_toList] at hi
  have hp:=E.pos
  have hq:i / K<d.size:=by rw [Nat.div_lt_iff_lt_mul hp];exact hi
  have hr:i % K<K:=Nat.mod_lt _ hp
  have hi':i / K*K+i % K=i:=by rw [Nat.mul_comm];exact Nat.div_add_mod i K
  have h1:=flatten_get _ K hl (i / K) (enc d[i / K]!) (by rw [←getD_bang];simp [hq]) (i % K) hr
  rw [hi'] at h1
  rw [h1]
  have h2:=(hc _ hq _ hr).1
  rwa [Nat.add_assoc,hi'] at h2
theorem Srt.of_own {B e cap:Nat} (_E:Elt enc K) (h:OwnT enc K e B w a cap d.toList) (hs:0<d.size):Srt enc K w a d w:=by
 have hl:∀ r∈d.toList.map enc,r.length=K:=h.len
 rcases h.own.2 with ⟨_,h0⟩ | ⟨g,cap',cur,hv,hB,hg,hn,hcs,hc,ht⟩
 ·rw [List.length_map,Array.length_toList] at h0;omega
 ·injection hv with ha _ _
  subst ha
  refine ⟨Mod.refl _ _,g,0,cur,e,rfl,hg,fun q hq r hr=>?_⟩
  have hr2:q*K+r<d.size*K:=by
   calc q*K+r<q*K+K:=by omega
    _=(q+1)*K:=by rw [Nat.succ_mul]
    _≤d.size*K:=Nat.mul_le_mul_right _ (by omega)
  have h1:=flatten_get _ K hl q (enc d[q]!) (by rw [←getD_bang];simp [hq]) r hr
  rw [Nat.zero_add,←h1,←ht,List.getElem?_take]
  have hlen:(d.toList.map enc).flatten.length=d.size*K:=by rw [flatten_len _ K hl];simp
  have hsz:(d.toList.map enc).flatten.length≤cur.size:=by rw [←ht];simp;omega
  refine ⟨?_,by omega⟩
  rw [if_pos (by simp;omega)];simp
theorem Srt.set (E:Elt enc K) {P:Program} {t:TypeId} (hsz:∀ w,(sizeOf t).run P w=.ok K w) (h:Srt enc K w0 a d w) {i:Nat} (hi:i<d.size) {v:Value} {u:α} (hv:v.cells.toList=enc u) :
  ∃ w',(storeVar t (eAddr a K i) v).run P w=.ok () w'∧Srt enc K w0 a (d.setIfInBounds i u) w':=by
 obtain ⟨blk,off,c,T,rfl,hB,hc⟩:=h.c
 have hvs:v.cells.size=K:=by rw [←E.len u,←hv];simp
 have hp:=E.pos
 have hfit:off+i*K+K≤c.size:=by have:=(hc i hi (K-1) (by omega)).2;omega
 refine ⟨_,storeVar_run (by simpa [hvs] using hsz) hB (by rw [hvs];exact hfit) ((allOne_iff _).1 (by rw [hv];exact E.one u)),?_⟩
 refine ⟨h.m.then (setRow_mod _ _ _) fun x _ hx=>⟨_,rfl,hx.symm⟩,blk,off,_,T,rfl,setRow_heap w blk c _ T _ hB,fun q hq r hr=>?_⟩
 have hfit':off+i*K+v.cells.toList.length≤c.size:=by simpa [hvs] using hfit
 have hle:aoff (some ⟨blk,off,none⟩)+i*K=off+i*K:=rfl
 rw [hle,putCells_get c _ _ hfit',putCells_size c _ _ hfit']
 have hq':q<d.size:=by simpa using hq
 have hl:v.cells.toList.length=K:=by simpa using hvs
 rw [hl]
 refine ⟨?_,(hc q hq' r hr).2⟩
 by_cases hqi:q=i
 ·subst hqi
  have e1:(d.setIfInBounds q u)[q]! = u:=by rw [getElem!_pos (d.setIfInBounds q u) q hq];simp
  rw [e1,if_neg (by omega),if_pos (by omega),hv]
  congr 1;omega
 ·have e1:(d.setIfInBounds i u)[q]! = d[q]! := by
   rw [getElem!_pos (d.setIfInBounds i u) q hq,getElem!_pos d q hq',Array.getElem_setIfInBounds_ne hq' (Ne.symm hqi)]
  rw [e1]
  have:(if off+q*K+r<off+i*K then c[off+q*K+r]? else if off+q*K+r<off+i*K+K then v.cells.toList[off+q*K+r-(off+i*K)]? else c[off+q*K+r]?)=c[off+q*K+r]?:=by
   by_cases h1:q<i
   ·have h2:(q+1)*K≤i*K:=Nat.mul_le_mul_right _ h1
    rw [Nat.succ_mul] at h2
    rw [if_pos (by omega)]
   ·have h2:(i+1)*K≤q*K:=Nat.mul_le_mul_right _ (by omega)
    rw [Nat.succ_mul] at h2
    rw [if_neg (by omega),if_neg (by omega)]
  rw [this]
  exact (hc q hq' r hr).1
end
section
variable {α:Type} [Inhabited α] {enc:α→List Value} {K:Nat} {w0 w w':World} {a:Option Addr} {d:Array α}
theorem Srt.conv {β:Type} [Inhabited β] {enc':β→List Value} {d':Array β} (h:Srt enc K w0 a d w) (hs:d'.size=d.size) (he:∀ q,q<d.size→enc' d'[q]! = enc d[q]!):Srt enc' K w0 a d' w:=by
 obtain ⟨blk,off,c,T,ha,hB,hc⟩:=h.c
 exact ⟨h.m,blk,off,c,T,ha,hB,fun q hq r hr=>by rw [he q (by omega)];exact hc q (by omega) r hr⟩
end
section
variable {P:Program} {N:Nat} {L:List Oper} {Q:Exit→Env→World→Prop} {ρ:Env} {w:World} {rest:List Oper}
variable {d:Nat} {q:Op} {ty:TypeId} {p:String} {af:Array Edge} {x y:Operand} {t:TypeId}
variable {α:Type} [Inhabited α] {enc:α→List Value} {K:Nat} {w0:World} {a:Option Addr} {da:Array α}
theorem R.storeSt (E:Elt enc K) (hsz:∀ w,(sizeOf t).run P w=.ok K w) (h:Srt enc K w0 a da w) {j i:Nat} (hx:tm ρ x=.pointer (some (eAddr a K j))) (he:j=i) (hi:i<da.size) {u:α} (hy:(tm ρ y).cells.toList=enc u) :
  ∃ w',run1 P ρ (.store t x y) ty w=.ok .skip w'∧Srt enc K w0 a (da.setIfInBounds i u) w':=by
 subst he
 obtain ⟨w',h1,h2⟩:=h.set E hsz hi hy
 refine ⟨w',?_,h2⟩
 have h1:(storeVar t ⟨abk a,aoff a+j*K,none⟩ (tm ρ y)).run P w=.ok () w':=h1
 simp only [run1,execOp,hx,Instr.storeAt,Instr.sureAddr,Sem.run_bind,Sem.run_pure,Result.andThen_ok,eAddr,h1]
theorem VL.storeSt (E:Elt enc K) (hsz:∀ w,(sizeOf t).run P w=.ok K w) (hs:Srt enc K w0 a da w) {j i:Nat} (hx:tm ρ x=.pointer (some (eAddr a K j))) (he:j=i) (hi:i<da.size) {u:α} (hy:(tm ρ y).cells.toList=enc u)
  (h:∀ w',Srt enc K w0 a (da.setIfInBounds i u) w'→VL P N L Q rest ρ w') :
  VL P N L Q ({ dst:=none,op:=.store t x y,type:=ty,pos:=p,after:=af,guard:=none } :: rest) ρ w:=by
 obtain ⟨w',h1,h2⟩:=R.storeSt (P:=P) (ρ:=ρ) (ty:=ty) E hsz hs hx he hi hy
 exact VL.op0 h1 (h w' h2)
def RetsK (P:Program) (f:FuncId) (args:Array Value) (w:World) (v:Value) (K:World→Prop):Prop:=Rets P f args w fun u w'=>u=v∧K w'
theorem VL.callK {f:FuncId} {l:List Operand} {vs:List Value} {ts:Array TypeId} {v:Value} {K:World→Prop} (hc:IsFn P f) (ha:l.map (tm ρ)=vs) (hf:RetsK P f vs.toArray w v K)
  (h:∀ w',K w'→VL P N L Q rest (upd ρ d v) w') :
  VL P N L Q ({ dst:=some d,op:=.call { callee:=.value (.func f),args:=l.toArray,argTypes:=ts },type:=ty,pos:=p,after:=af,guard:=none } :: rest) ρ w :=
 VL.call hc ha (hf.mono fun _ w' ⟨hv,hK⟩=>by rw [hv];exact h w' hK)
end
section
variable {P:Program} {N:Nat} {L:List Oper} {Q:Exit→Env→World→Prop} {ρ:Env} {l:List Oper} {C0 C1:World→Prop} {m i j:Nat} {K:Env→Prop} {q:Op} {ty:TypeId} {p:String} {af:Array Edge}
theorem VW.wr0 (hr:∀ w,C0 w→∃ w',run1 P ρ q ty w=.ok .skip w'∧C1 w') (h:VW P L C0 C1 m j (i+1) l ρ K) (hi:Nat.beq i m=true:=by rfl) :
  VW P L C0 C1 m (j+1) i ({ dst:=none,op:=q,type:=ty,pos:=p,after:=af,guard:=none } :: l) ρ K:=by
 refine ⟨⟨fun _=>⟨undef,?_,h.go⟩,fun hw=>by simp [wantedE,Region.wanted] at hw⟩⟩
 rw [hi,cond_true]
 intro w hw
 obtain ⟨w',h1,h2⟩:=hr w hw
 unfold yieldsTo;rw [run1_eq,h1];exact ⟨rfl,h2⟩
end
section
variable {P:Program} {N:Nat} {L:List Oper} {Q:Exit→Env→World→Prop} {ρ:Env} {w:World} {rest:List Oper}
variable {d:Nat} {ty t t':TypeId} {p:String} {af:Array Edge} {x:Operand}
theorem R.addE {y:Operand} {a b z:Int} (hx:tm ρ x=.int .i64 a) (hy:tm ρ y=.int .i64 b) (h:a+b=z) (h1:-9223372036854775808≤z) (h2:z≤9223372036854775807) :
  run1 P ρ (.binOp .add t x y t') ty w=.ok (.value (.int .i64 z)) w:=by subst h;exact R.add hx hy h1 h2
theorem R.subE {y:Operand} {a b z:Int} (hx:tm ρ x=.int .i64 a) (hy:tm ρ y=.int .i64 b) (h:a-b=z) (h1:-9223372036854775808≤z) (h2:z≤9223372036854775807) :
  run1 P ρ (.binOp .sub t x y t') ty w=.ok (.value (.int .i64 z)) w:=by subst h;exact R.sub hx hy h1 h2
theorem R.nilCheck {ad:Addr} (hx:tm ρ x=.pointer (some ad)):run1 P ρ (.nilCheck x) ty w=.ok (.value (.pointer (some ad))) w:=by
 simp [run1,go_sem,hx]
theorem wrap_u64 {n:Int} (h0:0≤n) (h1:n<18446744073709551616):IntKind.u64.wrap n=n:=by
 simp [IntKind.wrap,IntKind.bits,IntKind.signed];omega
theorem R.conv {src dst:TypeId} {D:TypeDesc} {k k0:IntKind} {n:Int} (hs:∀ w,(underlying src).run P w=.ok D w) (hd:∀ w,(underlying dst).run P w=.ok (.int k) w) (hx:tm ρ x=.int k0 n) (hw:k.wrap n=n) :
  run1 P ρ (.convert src dst x) ty w=.ok (.value (.int k n)) w:=by
 simp [run1,execOp,convert,Conv.intToInt,go_sem,hs,hd,hx,hw]
theorem R.subU {y:Operand} {a b:Int} (hx:tm ρ x=.int .u64 a) (hy:tm ρ y=.int .u64 b) (h1:0≤a-b) (h2:a-b<18446744073709551616) :
  run1 P ρ (.binOp .sub t x y t') ty w=.ok (.value (.int .u64 (a-b))) w:=by rw [R.subw hx hy,wrap_u64 h1 h2]
theorem R.shl {y:Operand} {k ky:IntKind} {a b:Int} (hx:tm ρ x=.int k a) (hy:tm ρ y=.int ky b) (h:0≤b) :
  run1 P ρ (.binOp .shl t x y t') ty w=.ok (.value (.int k (k.wrap (a*2 ^ Min.min b.toNat k.bits)))) w:=by
 have:¬b<0:=by omega
 simp [run1,execOp,binOp,Op.shift,go_sem,hx,hy,this]
theorem R.shr {y:Operand} {k ky:IntKind} {a b:Int} (hx:tm ρ x=.int k a) (hy:tm ρ y=.int ky b) (h:0≤b) :
  run1 P ρ (.binOp .shr t x y t') ty w=.ok (.value (.int k (a.fdiv (2 ^ Min.min b.toNat k.bits)))) w:=by
 have:¬b<0:=by omega
 simp [run1,execOp,binOp,Op.shift,go_sem,hx,hy,this]
theorem R.xor {y:Operand} {k:IntKind} {a b:Int} (hx:tm ρ x=.int k a) (hy:tm ρ y=.int k b) :
  run1 P ρ (.binOp .xor t x y t') ty w=.ok (.value (.int k (k.wrap (BitVec.ofInt k.bits a ^^^ BitVec.ofInt k.bits b).toNat))) w:=by
 simp [run1,execOp,binOp,Op.intBits,go_sem,hx,hy]
theorem R.andU {y:Operand} {a b:Int} (hx:tm ρ x=.int .u64 a) (hy:tm ρ y=.int .u64 b) :
  run1 P ρ (.binOp .and t x y t') ty w=.ok (.value (.int .u64 (IntKind.u64.wrap (BitVec.ofInt 64 a &&& BitVec.ofInt 64 b).toNat))) w:=by
 simp [run1,execOp,binOp,Op.intBits,go_sem,hx,hy];rfl
theorem and_le (a b:Int) (h0:0≤b) (h1:b<18446744073709551616):0≤IntKind.u64.wrap (BitVec.ofInt 64 a &&& BitVec.ofInt 64 b).toNat∧IntKind.u64.wrap (BitVec.ofInt 64 a &&& BitVec.ofInt 64 b).toNat≤b:=by
 have h2:(BitVec.ofInt 64 a &&& BitVec.ofInt 64 b).toNat≤(BitVec.ofInt 64 b).toNat:=by
  rw [BitVec.toNat_and];exact Nat.and_le_right
 have h3:((BitVec.ofInt 64 b).toNat:Int)=b:=by
  rw [BitVec.toNat_ofInt];omega
 rw [wrap_u64 (by omega) (by omega)]
 omega
def RetsY {ι:Type} (P:Program) (f:FuncId) (args:Array Value) (w:World) (val:ι→Value) (K:ι→World→Prop):Prop:=Rets P f args w fun u w'=>∃ i,u=val i∧K i w'
theorem VL.callY {ι:Type} {f:FuncId} {l:List Operand} {vs:List Value} {ts:Array TypeId} {val:ι→Value} {K:ι→World→Prop} (hc:IsFn P f) (ha:l.map (tm ρ)=vs) (hf:RetsY P f vs.toArray w val K)
  (h:∀ i w',K i w'→VL P N L Q rest (upd ρ d (val i)) w') :
  VL P N L Q ({ dst:=some d,op:=.call { callee:=.value (.func f),args:=l.toArray,argTypes:=ts },type:=ty,pos:=p,after:=af,guard:=none } :: rest) ρ w :=
 VL.call hc ha (hf.mono fun _ w' ⟨i,hv,hK⟩=>by rw [hv];exact h i w' hK)
end
structure Swp {α:Type} [Inhabited α] (enc:α→List Value) (K:Nat) (w0:World) (a:Option Addr) (d:Array α) (T:TypeId) (s:Nat) (v:Int) (w:World):Prop where
 srt:Srt enc K w0 a d w
 lo:w0.heap.size≤s
 ab:abk a<w0.heap.size
 cell:Blk w s (.cells #[.int .i64 v] T (0,0))
section
variable {α:Type} [Inhabited α] {enc:α→List Value} {K:Nat} {w0 w w':World} {a:Option Addr} {d:Array α} {T:TypeId} {s:Nat} {v:Int}
theorem Srt.own (h:Srt enc K w0 a d w) (hs:w0.heap.size≤s) (ha:abk a<w0.heap.size) (m:Mod (one s) w w'):Srt enc K w0 a d w':=by
 obtain ⟨blk,off,c,T,rfl,hB,hc⟩:=h.c
 refine ⟨Mod.ownA h.m m fun x hx=>by rw [hx];exact hs,blk,off,c,T,rfl,hB.mod m fun e=>?_,hc⟩
 have e:blk=s:=e
 have ha:blk<w0.heap.size:=ha
 omega
theorem Swp.ext (h:Swp enc K w0 a d T s v w) (e:Ext w w'):Swp enc K w0 a d T s v w':=⟨h.srt.ext e,h.lo,h.ab,h.cell.ext e⟩
theorem Swp.set {v':Int} (h:Swp enc K w0 a d T s v w) (m:Mod (one s) w w') (hB:Blk w' s (.cells #[.int .i64 v'] T (0,0))):Swp enc K w0 a d T s v' w' :=
 ⟨h.srt.own h.lo h.ab m,h.lo,h.ab,hB⟩
end
def enI {α:Type} (pr:α→Int) (x:α):List Value:=[.int .i64 (pr x)]
def enS {α:Type} (pr:α→Option Addr×Nat×Nat) (x:α):List Value:=[.slice (pr x).1 (pr x).2.1 (pr x).2.2]
theorem eltOfI {α:Type} (pr:α→Int):Elt (enI pr) 1:=⟨fun _=>rfl,fun _=>rfl,by decide⟩
theorem eltOfS {α:Type} (pr:α→Option Addr×Nat×Nat):Elt (enS pr) 1:=⟨fun _=>rfl,fun _=>rfl,by decide⟩
section
variable {α:Type} [Inhabited α] {enc:α→List Value} {K e B cap:Nat} {w w':World} {a:Option Addr} {l:List α}
theorem map_set_flat {enc:α→List Value} (hl:∀ x,(enc x).length=K) (hp:0<K) (l:List α) {i j:Nat} (hi:i<l.length) {vs:List Value} (hj:j+vs.length≤K) {u:α}
  (hu:enc u=(enc (l.getD i default)).take j++vs++(enc (l.getD i default)).drop (j+vs.length)) (x:Nat) :
  ((l.set i u).map enc).flatten[x]?=if x<i*K+j then (l.map enc).flatten[x]? else if x<i*K+j+vs.length then vs[x-(i*K+j)]? else (l.map enc).flatten[x]?:=by
 have h1:∀ r∈l.map enc,r.length=K:=fun r hr=>by obtain ⟨y,_,rfl⟩:=List.mem_map.1 hr;exact hl y
 have h2:∀ r∈(l.set i u).map enc,r.length=K:=fun r hr=>by obtain ⟨y,_,rfl⟩:=List.mem_map.1 hr;exact hl y
 have hx:x / K*K+x % K=x:=by rw [Nat.mul_comm];exact Nat.div_add_mod x K
 have hr:x % K<K:=Nat.mod_lt _ hp
 by_cases hq:x / K<l.length
 ·have e1:=flatten_get _ K h1 (x / K) (enc (l.getD (x / K) default)) (by simp [hq]) (x % K) hr
  have hq2:x / K<(l.set i u).length:=by simpa using hq
  have e2:=flatten_get _ K h2 (x / K) (enc ((l.set i u).getD (x / K) default)) (by rw [List.getElem?_map,List.getElem?_eq_getElem hq2,List.getD,List.getElem?_eq_getElem hq2];rfl) (x % K) hr
  rw [hx] at e1 e2
  rw [e1,e2]
  have hg:l.getD i default=l[i]:=by simp [List.getD,hi]
  by_cases hqi:x / K=i
  ·have e3:(l.set i u).getD (x / K) default=u:=by rw [hqi];simp [List.getD,hi]
   rw [e3,hu,hqi]
   rw [hqi] at hx
   have hlen:=hl (l.getD i default)
   generalize enc (l.getD i default)=r0 at hlen
   by_cases c1:x<i*K+j
   ·rw [if_pos c1,List.append_assoc,List.getElem?_append_left (by simp [hlen];omega),List.getElem?_take,if_pos (by omega)]
   ·rw [if_neg c1]
    by_cases c2:x<i*K+j+vs.length
    ·rw [if_pos c2,List.append_assoc,List.getElem?_append_right (by simp [hlen];omega),List.getElem?_append_left (by simp [hlen];omega)]
     congr 1;simp [hlen];omega
    ·rw [if_neg c2,List.getElem?_append_right (by simp [hlen];omega),List.getElem?_drop]
     congr 1;simp [hlen];omega
  ·have e3:(l.set i u).getD (x / K) default=l.getD (x / K) default:=by simp [List.getD,Ne.symm hqi]
   rw [e3]
   have c:(if x<i*K+j then (enc (l.getD (x / K) default))[x % K]? else if x<i*K+j+vs.length then vs[x-(i*K+j)]? else (enc (l.getD (x / K) default))[x % K]?)=(enc (l.getD (x / K) default))[x % K]?:=by
    rcases Nat.lt_or_gt_of_ne hqi with h | h
    ·have h2:(x / K+1)*K≤i*K:=Nat.mul_le_mul_right _ h
     rw [Nat.succ_mul] at h2
     rw [if_pos (by omega)]
    ·have h2:(i+1)*K≤x / K*K:=Nat.mul_le_mul_right _ h
     rw [Nat.succ_mul] at h2
     rw [if_neg (by omega),if_neg (by omega)]
   rw [c]
 ·have hge:l.length*K≤x:=by
   have h2:l.length*K≤x / K*K:=Nat.mul_le_mul_right _ (by omega)
   omega
  have h3:(i+1)*K≤l.length*K:=Nat.mul_le_mul_right _ hi
  rw [Nat.succ_mul] at h3
  rw [if_neg (by omega),if_neg (by omega),List.getElem?_eq_none (by rw [flatten_len _ K h2];simp;exact hge),List.getElem?_eq_none (by rw [flatten_len _ K h1];simp;exact hge)]
theorem OwnT.put (E:Elt enc K) (h:OwnT enc K e B w a cap l) {i j:Nat} (hi:i<l.length) {P:Program} {t:TypeId} {v:Value} (hsz:∀ w,(sizeOf t).run P w=.ok v.cells.size w) (hj:j+v.cells.size≤K) (h1:allOne v.cells.toList=true) {u:α}
  (hu:enc u=(enc (l.getD i default)).take j++v.cells.toList++(enc (l.getD i default)).drop (j+v.cells.size)) :
  ∃ w',(storeVar t ⟨abk a,aoff a+i*K+j,none⟩ v).run P w=.ok () w'∧OwnT enc K e B w' a cap (l.set i u)∧Mod (aBlk a) w w'∧w'.heap.size=w.heap.size:=by
 have hl:∀ r∈l.map enc,r.length=K:=h.len
 have hl2:∀ r∈(l.set i u).map enc,r.length=K:=fun r hr=>by obtain ⟨y,_,rfl⟩:=List.mem_map.1 hr;exact E.len y
 have hf:(l.map enc).flatten.length=l.length*K:=by rw [flatten_len _ K hl,List.length_map]
 have h3:(i+1)*K≤l.length*K:=Nat.mul_le_mul_right _ hi
 rw [Nat.succ_mul] at h3
 rcases h.own.2 with ⟨_,h0⟩ | ⟨g,cap',cur,hv,hB,hg,hn,hcs,hc,ht⟩
 ·rw [List.length_map] at h0;omega
 ·injection hv with ha hn' hcap
  subst ha
  simp only [List.length_map] at hn ht hcap
  have h4:l.length*K≤cap' * K:=Nat.mul_le_mul_right _ hn
  have hfit:i*K+j+v.cells.size≤cur.size:=by omega
  have hoff:aoff (some ⟨g,0,none⟩)+i*K+j=i*K+j:=by show 0+i*K+j=_;omega
  refine ⟨_,storeVar_run (b:=g) (off:=aoff (some ⟨g,0,none⟩)+i*K+j) hsz hg (by rw [hoff];exact hfit) ((allOne_iff _).1 h1),?_,(setRow_mod _ _ _).weaken fun x _ hx=>⟨_,rfl,hx.symm⟩,by simp [World.setRow]⟩
  rw [hoff]
  refine ⟨hl2,?_,.inr ⟨g,cap',_,by rw [hcap],hB,setRow_heap w g cur _ e _ hg,by simpa using hn,hcs,?_,?_⟩⟩
  ·rw [flatten_len _ K hl2]
  ·rw [putCells_size _ _ _ (by simpa using hfit)];exact hc
  ·refine List.ext_getElem? fun x=>?_
   have e:=map_set_flat E.len E.pos l hi (vs:=v.cells.toList) (by simpa using hj) (by simpa using hu) x
   rw [e,List.getElem?_take]
   have ep:=putCells_get cur (i*K+j) v.cells.toList (by simpa using hfit) x
   have ep':(putCells cur (i*K+j) v.cells.toList).toList[x]?=(putCells cur (i*K+j) v.cells.toList)[x]?:=by simp
   simp only [List.length_map,List.length_set]
   by_cases hx:x<l.length*K
   ·rw [if_pos hx,ep',ep,←ht,List.getElem?_take,if_pos hx]
    simp
   ·rw [if_neg hx,if_neg (by omega),if_neg (by simp;omega),List.getElem?_eq_none (by omega)]
def Sep (a b:Option Addr):Prop:=∀ k,aBlk a k→¬aBlk b k
theorem Sep.symm {a b:Option Addr} (h:Sep a b):Sep b a:=fun k h1 h2=>h k h2 h1
theorem Sep.nil (b:Option Addr):Sep none b:=fun _ h=>by obtain ⟨_,h,_⟩:=h;cases h
theorem Sep.nil' (b:Option Addr):Sep b none:=(Sep.nil b).symm
theorem Sep.grown {a a' b:Option Addr} {n:Nat} (h:Sep a b) (hf:∀ k,aBlk a' k→aBlk a k∨n≤k) (hb:∀ k,aBlk b k→k<n):Sep a' b:=by
 intro k h1 h2
 rcases hf k h1 with h3 | h3
 ·exact h k h3 h2
 ·have:=hb k h2;omega
theorem OwnT.lt {α:Type} {enc:α→List Value} {s e B:Nat} {w:World} {a:Option Addr} {cap:Nat} {l:List α} (h:OwnT enc s e B w a cap l):∀ k,aBlk a k→k<w.heap.size:=fun k hk=>(OwnSl.blk h k hk).2
theorem OwnT.ge {α:Type} {enc:α→List Value} {s e B:Nat} {w:World} {a:Option Addr} {cap:Nat} {l:List α} (h:OwnT enc s e B w a cap l):∀ k,aBlk a k→B≤k:=fun k hk=>(OwnSl.blk h k hk).1
theorem OwnT.weaken {α:Type} {enc:α→List Value} {s e B B':Nat} {w:World} {a:Option Addr} {cap:Nat} {l:List α} (h:OwnT enc s e B w a cap l) (hB:B'≤B):OwnT enc s e B' w a cap l:=OwnSl.weaken h hB
theorem OwnT.of0 {α:Type} (enc:α→List Value) (s:Nat) {e B b:Nat} {w:World} (h:Blk w b (.cells #[] e (0,0))) (hB:B≤b):OwnT enc s e B w (some ⟨b,0,none⟩) 0 [] :=
 OwnT.of_blk (l:=([]:List α)) h hB rfl (by simp) (Nat.zero_le _)
theorem OwnT.of1 {α:Type} (enc:α→List Value) (s:Nat) {e B b:Nat} {w:World} (u:α) {cs:Array Value} (h:Blk w b (.cells cs e (0,0))) (hB:B≤b) (hu:enc u=cs.toList) (hs:(enc u).length=s):OwnT enc s e B w (some ⟨b,0,none⟩) 1 [u] :=
 OwnT.of_blk (l:=[u]) h hB (by simpa using hu) (by simpa using hs) (show 1≤maxLen by decide)
theorem OwnT.hax {α:Type} {enc:α→List Value} {s e B:Nat} {w:World} {a:Option Addr} {cap:Nat} {l:List α} (h:OwnT enc s e B w a cap l) (ha:a=none):cap=0:=by
 rcases h.own.2 with ⟨hv,_⟩ | ⟨g,cap',cur,hv,_⟩
 ·injection hv
 ·injection hv with h1;rw [ha] at h1;cases h1
theorem aBlk_some {b off:Nat} {k:Nat} (h:aBlk (some ⟨b,off,none⟩) k):k=b:=by obtain ⟨_,h,rfl⟩:=h;injection h with h;subst h;rfl
end
section
variable {P:Program} {N:Nat} {L:List Oper} {Q:Exit→Env→World→Prop} {ρ:Env} {w:World} {rest:List Oper}
variable {d:Nat} {ty:TypeId} {p:String} {af:Array Edge} {x y:Operand} {t:TypeId}
variable {α:Type} [Inhabited α] {enc:α→List Value} {K e B cap:Nat} {a:Option Addr} {l:List α}
theorem R.ownSt (E:Elt enc K) {v:Value} {s:Nat} (hsz:∀ w,(sizeOf t).run P w=.ok s w) (h:OwnT enc K e B w a cap l) {ad:Addr} (i j:Nat) (u:α) (hx:tm ρ x=.pointer (some ad)) (had:ad=⟨abk a,aoff a+i*K+j,none⟩) (hi:i<l.length)
  (hy:tm ρ y=v) (hs:v.cells.size=s) (hj:Nat.ble (j+s) K=true) (h1:allOne v.cells.toList=true) (hu:enc u=(enc (l.getD i default)).take j++v.cells.toList++(enc (l.getD i default)).drop (j+s)) :
  ∃ w',run1 P ρ (.store t x y) ty w=.ok .skip w'∧OwnT enc K e B w' a cap (l.set i u)∧Mod (aBlk a) w w'∧w'.heap.size=w.heap.size:=by
 subst had;subst hs
 obtain ⟨w',e1,e2,e3,e4⟩:=h.put E (P:=P) (t:=t) hi hsz (Nat.le_of_ble_eq_true hj) h1 hu
 refine ⟨w',?_,e2,e3,e4⟩
 simp only [run1,execOp,hx,hy,Instr.storeAt,Instr.sureAddr,Sem.run_bind,Sem.run_pure,Result.andThen_ok,e1]
theorem VL.ownSt (E:Elt enc K) {v:Value} {s:Nat} (hsz:∀ w,(sizeOf t).run P w=.ok s w) (h:OwnT enc K e B w a cap l) {ad:Addr} (i j:Nat) (u:α) (hx:tm ρ x=.pointer (some ad)) (had:ad=⟨abk a,aoff a+i*K+j,none⟩) (hi:i<l.length)
  (hy:tm ρ y=v) (hs:v.cells.size=s) (hj:Nat.ble (j+s) K=true) (h1:allOne v.cells.toList=true) (hu:enc u=(enc (l.getD i default)).take j++v.cells.toList++(enc (l.getD i default)).drop (j+s))
  (k:∀ w',OwnT enc K e B w' a cap (l.set i u)→Mod (aBlk a) w w'→w'.heap.size=w.heap.size→VL P N L Q rest ρ w') :
  VL P N L Q ({ dst:=none,op:=.store t x y,type:=ty,pos:=p,after:=af,guard:=none } :: rest) ρ w:=by
 obtain ⟨w',e1,e2,e3,e4⟩:=R.ownSt (P:=P) (ρ:=ρ) (ty:=ty) E hsz h i j u hx had hi hy hs hj h1 hu
 exact VL.op0 e1 (k w' e2 e3 e4)
end
section
variable {P:Program} {N:Nat} {L:List Oper} {Q:Exit→Env→World→Prop} {ρ:Env} {w:World} {rest:List Oper}
variable {d:Nat} {ty:TypeId} {p:String} {af:Array Edge} {x y:Operand} {t:TypeId}
variable {α:Type} {enc:α→List Value} {e B cap:Nat} {a:Option Addr} {l:List α}
theorem VL.appendT {s bytes:Nat} {z:Value} (E:ElT P t e s bytes z) {n:Nat} {ax:Option Addr} {m c:Nat} {news:List α}
  (hone:∀ u,allOne (enc u)=true) (hx:tm ρ x=.slice a n cap) (hn:n=l.length) (hown:OwnT enc s e B w a cap l) (hy:tm ρ y=.slice ax m c) (hm:m=news.length) (hs:TSl enc s w ax news) (hax:ax=none→c=0)
  (hbytes:(l.length+news.length)*bytes≤140737488355328) (h63:l.length+news.length≤maxLen) (hB:B≤w.heap.size) {nm:Nat} (hN:n+m=nm)
  (h:∀ a' cap' w',OwnT enc s e B w' a' cap' (l++news)→Mod (aBlk a) w w'→(∀ k,aBlk a' k→aBlk a k∨w.heap.size≤k)→VL P N L Q rest (upd ρ d (.slice a' nm cap')) w') :
  VL P N L Q ({ dst:=some d,op:=.call { callee:=.builtin .append,args:=#[x,y],argTypes:=#[t,t] },type:=ty,pos:=p,after:=af,guard:=none } :: rest) ρ w:=by
 subst hN
 refine VL.append E hx (by rw [hn];simp) hown hy (by rw [hm];simp) hs hax ?_ (by simpa using hbytes) (by simpa using h63) hB fun a' cap' w' ho hm' hf=>h a' cap' w' ?_ hm' hf
 ·intro r hr u hu
  obtain ⟨y,_,rfl⟩:=List.mem_map.1 hr
  exact (allOne_iff _).1 (hone y) u hu
 ·unfold OwnT;rw [List.map_append];exact ho
end
end Go.Vc
