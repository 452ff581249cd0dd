/- Ranges over maps that the loop does not turn: in whatever order, each entry once. -/
import Derived.Test.YtdkhcipjenfcnaaGreatDoorXVcOwn
import Derived.Laws.IdiomRangeMap
import Derived.Laws.OwnMore
namespace Go.Vc
set_option maxRecDepth 100000
set_option maxHeartbeats 16000000
variable {κ:Type} [DecidableEq κ] {enc:κ→Value}
section
variable {P:Program} {N:Nat} {L:List Oper} {Q:Exit→Env→World→Prop} {rest:List Oper} {ρ:Env} {w:World}
 {d:Nat} {ty t kt e:TypeId} {p:String} {af:Array Edge} {x:Operand}
end
def cmpI (a b:Int):Int:=if a<b then -1 else if b<a then 1 else 0
section
variable {κ α:Type} [DecidableEq κ]
def tset (l:List (κ×α)) (k:κ) (v:α):List (κ×α) :=
 match l with
 | []=>[(k,v)]
 | (k',v') :: l=>if k=k' then (k,v) :: l else (k',v') :: tset l k v
def tget (l:List (κ×α)) (k:κ):Option α :=
 match l with
 | []=>none
 | (k',v) :: l=>if k=k' then some v else tget l k
def tenc (f:α→Value) (l:List (κ×α)):List (κ×Value):=l.map fun p=>(p.1,f p.2)
theorem tset_enc (f:α→Value) (l:List (κ×α)) (k:κ) (v:α):tenc f (tset l k v)=mset (tenc f l) k (f v):=by
 induction l with
 | nil=>rfl
 | cons p l ih =>
  obtain ⟨a,x⟩:=p
  unfold tenc at ih ⊢
  simp only [tset,List.map_cons,mset]
  split
  ·rfl
  ·rw [List.map_cons,ih]
theorem tget_enc (f:α→Value) (l:List (κ×α)) (k:κ):mget (tenc f l) k=(tget l k).map f:=by
 induction l with
 | nil=>rfl
 | cons p l ih =>
  obtain ⟨a,x⟩:=p
  unfold tenc at ih ⊢
  simp only [tget,List.map_cons,mget]
  split
  ·rfl
  ·exact ih
theorem tget_tset (l:List (κ×α)) (k k':κ) (v:α):tget (tset l k v) k'=if k'=k then some v else tget l k':=by
 induction l with
 | nil=>simp [tset,tget]
 | cons p l ih =>
  obtain ⟨a,x⟩:=p
  simp only [tset]
  by_cases h:k=a
  ·subst h;simp only [if_true,tget]
   by_cases h2:k'=k <;> simp [h2]
  ·rw [if_neg h];simp only [tget,ih]
   by_cases h2:k'=a
   ·subst h2;simp;intro e;exact absurd e.symm h
   ·simp [h2]
end
section
variable {P:Program} {N:Nat} {L:List Oper} {Q:Exit→Env→World→Prop} {rest:List Oper} {ρ:Env} {w:World}
 {d:Nat} {ty:TypeId} {p:String} {af:Array Edge} {x:Operand}
end
theorem cutA_none {a:Option Addr} {s l c:Nat} (h:cutA a s l c=none):a=none:=by
 unfold cutA at h
 split at h
 ·exact h
 ·cases a with
  | none=>rfl
  | some a=>cases h
theorem zrep_eq (z:List Value):∀ n,zrep z n=((List.replicate n z)).flatten
 | 0=>rfl
 | n+1=>by rw [zrep,zrep_eq z n,List.replicate_succ,List.flatten_cons]
section
variable {P:Program} {N:Nat} {L:List Oper} {Q:Exit→Env→World→Prop} {ρ:Env} {w:World} {rest:List Oper}
variable {d:Nat} {ty t:TypeId} {p:String} {af:Array Edge} {x y:Operand}
variable {α:Type} {enc:α→List Value} {e s bytes:Nat} {z:Value}
theorem VL.makeSl (E:ElT P t e s bytes z) (u0:α) (hz:z.cells.toList=enc u0) {n:Nat} {B:Nat} (hx:tm ρ x=.int .i64 n) (hy:tm ρ y=.int .i64 n) (hbytes:bytes*n≤281474976710656) (h63:n≤maxLen) (hB:B≤w.heap.size)
  (h:∀ b w',b=w.heap.size→Ext w w'→OwnT enc s e B w' (some ⟨b,0,none⟩) n (List.replicate n u0)→VL P N L Q rest (upd ρ d (.slice (some ⟨b,0,none⟩) n n)) w') :
  VL P N L Q ({ dst:=some d,op:=.makeSlice t x y,type:=ty,pos:=p,after:=af,guard:=none } :: rest) ρ w:=by
 obtain ⟨i,hi,hzz,hsz,hby⟩:=E.hi
 subst hsz;subst hby
 have hr:=run_make (P:=P) w t e i z E.ht hi hzz .i64 .i64 (n:Int) (n:Int) (by omega) (by omega) (by
  have h1:((i.bytes*n:Nat):Int)≤281474976710656:=by omega
  rwa [Int.natCast_mul] at h1) (by simp [maxLen] at h63;omega)
 simp only [Int.toNat_natCast] at hr
 refine Vo (v:=.slice (some ⟨w.heap.size,0,none⟩) n n) (w':=w.alloc (.cells (madeCells z.cells (n*i.size)) e)) ?_ (h _ _ rfl (Ext.alloc _ _) ?_)
 ·simp only [run1,execOp,hx,hy,Sem.run_bind,hr,Result.andThen_ok,Sem.run_pure]
 ·have hm:madeCells z.cells (n*i.size)=(zrep z.cells.toList n).toArray:=by
   have h2:=zero_cells z.cells (by rw [E.hz];exact E.hs) n
   rw [←h2,E.hz]
   unfold madeCells
   simp [E.hz]
  have:=OwnT.of_blk (enc:=enc) (s:=i.size) (B:=B) (l:=List.replicate n u0) (Blk.alloc w (.cells (madeCells z.cells (n*i.size)) e)) hB (by rw [hm,zrep_eq];simp [hz]) (fun r hr=>by
   obtain ⟨v,hv,rfl⟩:=List.mem_map.1 hr
   rw [List.eq_of_mem_replicate hv,←hz]
   simpa using E.hz) (by simpa using h63)
  simpa using this
end
section
variable {P:Program} {N:Nat} {L:List Oper} {Q:Exit→Env→World→Prop} {ρ:Env} {w:World} {rest:List Oper}
variable {ty t:TypeId} {p:String} {af:Array Edge} {x:Operand}
variable {α:Type} [Inhabited α] {enc:α→List Value} {K e:Nat} {z:Value} {w0:World} {a:Option Addr} {d:Array α}
theorem VL.clearS (E:Elt enc K) (hu:∀ w,(underlying t).run P w=.ok (.slice e) w) (hz:∀ w,(zeroValue e).run P w=.ok z w) (hzs:z.cells.size=K) (hz1:allOne z.cells.toList=true) (hs:Srt enc K w0 a d w) {k m c cap:Nat} (hx:tm ρ x=.slice (cutA a K k c) m cap) (hm:k+m=d.size) (hkc:k<c∨m=0)
  (h:∀ w' d',d'.size=k→(∀ q,q<k→d'[q]! = d[q]!)→Srt enc K w0 a d' w'→VL P N L Q rest ρ w') :
  VL P N L Q ({ dst:=none,op:=.call { callee:=.builtin .clear,args:=#[x],argTypes:=#[t] },type:=ty,pos:=p,after:=af,guard:=none } :: rest) ρ w:=by
 obtain ⟨blk,off,cs,T,ha,hB,hc⟩:=hs.c
 have hfin:∀ w',Srt enc K w0 a d w'→Srt enc K w0 a (d.extract 0 k) w':=fun w' h=>by
  obtain ⟨blk,off,cs,T,ha,hB,hc⟩:=h.c
  refine ⟨h.m,blk,off,cs,T,ha,hB,fun q hq r hr=>?_⟩
  have hq':q<k∧q<d.size:=by simp at hq;omega
  have e1:(d.extract 0 k)[q]! = d[q]! := by rw [getElem!_pos _ q hq,getElem!_pos d q hq'.2];simp
  rw [e1];exact hc q hq'.2 r hr
 have hext:∀ q,q<k→(d.extract 0 k)[q]! = d[q]! := fun q hq=>by
  have h1:q<(d.extract 0 k).size:=by simp;omega
  rw [getElem!_pos _ q h1,getElem!_pos d q (by omega)];simp
 have hsz:(d.extract 0 k).size=k:=by simp;omega
 by_cases h0:m=0
 ·refine VL.opv (v:=.tuple #[]) (w':=w) ?_ (h w (d.extract 0 k) hsz hext (hfin w hs))
  subst h0
  simp only [run1,execOp,resolve,invoke,builtin,Sem.run_bind,Sem.run_pure,Result.andThen_ok,List.map_toArray,List.map_cons,List.map_nil,hx,Builtin.clear_]
  simp [hu,Sem.run_bind,Result.andThen_ok]
  cases cutA a K k c <;> rfl
 ·have hcut:cutA a K k c=some ⟨blk,off+k*K,none⟩:=by
   rw [ha]
   unfold cutA
   rw [if_neg (by omega),Option.map_some]
   unfold Addr.add
   split
   ·rename_i h0;rw [h0];rfl
   ·rfl
  have hp:=E.pos
  have hvl:(Builtin.zeroCells z.cells m).toList.length=m*K:=by simp [Builtin.zeroCells,hzs]
  have hfit:off+k*K+m*K≤cs.size:=by
   have h1:=(hc (d.size-1) (by omega) (K-1) (by omega)).2
   have h2:(d.size-1)*K+K=d.size*K:=by
    rw [←Nat.succ_mul];congr 1;omega
   have h3:k*K+m*K=d.size*K:=by rw [←Nat.add_mul,hm]
   omega
  have hall:∀ v∈(Builtin.zeroCells z.cells m).toList,v.oneCell'=true:=by
   intro v hv
   rw [show Builtin.zeroCells z.cells m=(zrep z.cells.toList m).toArray from zero_cells z.cells (by omega) m] at hv
   rw [List.toList_toArray,zrep_eq] at hv
   obtain ⟨r,hr,hv⟩:=List.mem_flatten.1 hv
   rw [List.eq_of_mem_replicate hr] at hv
   exact (allOne_iff _).1 hz1 v hv
  have hst:=run_storeCells_at P blk (off+k*K) T (Builtin.zeroCells z.cells m).toList 0 cs w hB (by simp only [Nat.add_zero];rw [hvl];exact hfit) hall
  simp only [Nat.add_zero] at hst
  obtain ⟨w',hw'⟩:∃ w',w'=w.setRow blk (putCells cs (off+k*K) (Builtin.zeroCells z.cells m).toList):=⟨_,rfl⟩
  have hst:(storeCells ⟨blk,off+k*K,none⟩ (Builtin.zeroCells z.cells m).toList).run P w=.ok () w':=by rw [hw'];exact hst
  have hsrt:Srt enc K w0 a (d.extract 0 k) w':=by
   subst hw'
   refine ⟨hs.m.then (setRow_mod _ _ _) fun x _ hx=>⟨_,ha,hx.symm⟩,blk,off,_,T,ha,setRow_heap w blk cs _ T _ hB,fun q hq r hr=>?_⟩
   have hq':q<k∧q<d.size:=by simp at hq;omega
   rw [putCells_get cs _ _ (by rw [hvl];exact hfit),putCells_size cs _ _ (by rw [hvl];exact hfit),hext q hq'.1]
   have h2:(q+1)*K≤k*K:=Nat.mul_le_mul_right _ hq'.1
   rw [Nat.succ_mul] at h2
   rw [if_pos (by omega)]
   exact hc q hq'.2 r hr
  refine VL.opv (v:=.tuple #[]) (w':=w') ?_ (h w' (d.extract 0 k) hsz hext hsrt)
  obtain ⟨m',rfl⟩:∃ m',m=m'+1:=⟨m-1,by omega⟩
  simp only [run1,execOp,resolve,invoke,builtin,Sem.run_bind,Sem.run_pure,Result.andThen_ok,List.map_toArray,List.map_cons,List.map_nil,hx,hcut,Builtin.clear_]
  simp [hu,hz,Sem.run_bind,Result.andThen_ok,hst]
end
section
variable {P:Program} {N:Nat} {L:List Oper} {Q:Exit→Env→World→Prop} {ρ:Env} {w:World} {rest:List Oper}
variable {d:Nat} {ty:TypeId} {p:String} {af:Array Edge} {x:Operand}
theorem VL.callCY {ι:Type} {f:FuncId} {l:List Operand} {Fv Cv vs:List Value} {ts:Array TypeId} {val:ι→Value} {K:ι→World→Prop} (hx:tm ρ x=.func (.func f) Fv.toArray Cv.toArray) (hc:IsFn P f) (ha:l.map (tm ρ)=vs) (hf:RetsY P f (Fv++vs++Cv).toArray w val K)
  (h:∀ i w',K i w'→VL P N L Q rest (upd ρ d (val i)) w') :
  VL P N L Q ({ dst:=some d,op:=.call { callee:=.value x,args:=l.toArray,argTypes:=ts },type:=ty,pos:=p,after:=af,guard:=none } :: rest) ρ w :=
 VL.callC hx hc ha (hf.mono fun _ w' ⟨i,hv,hK⟩=>by rw [hv];exact h i w' hK)
end
section
variable {P:Program} {ρ:Env} {w:World} {ty t kt e:TypeId} {x y:Operand} {κ:Type} [DecidableEq κ] {enc:κ→Value}
theorem R.lookupOkI {r:Nat} {l:List (κ×Value)} {k:κ} (K:KeyT P kt enc) (hu:∀ w,(underlying t).run P w=.ok (.map kt e) w) (hz:∀ w,(zeroValue e).run P w=.ok (.int .i64 0) w)
  (hm:MapIs w r enc l) (o:Option Int) (hv:mget l k=o.map fun i=>.int .i64 i) (hx:tm ρ x=.map (some r)) (hy:tm ρ y=enc k) :
  run1 P ρ (.lookup t x y true) ty w=.ok (.value (.tuple #[.int .i64 (o.getD 0),.bool o.isSome])) w:=by
 have h:=R.lookupOk (ty:=ty) K hu hz hm hx hy
 rw [hv] at h
 rw [h]
 cases o <;> rfl
end
end Go.Vc
