/- Slices that come in as data. -/
import Derived.Test.YtdkhcipjenfcnaaGreatDoorXVcOwn
import Derived.Deep.Slices
namespace Go.Vc
set_option maxRecDepth 100000
set_option maxHeartbeats 16000000
open Go.Deep
variable {H:Type} {enc:TypeId×Value→H} {P:Program} {w:World} {spare:Nat→Bool} {held:Bool}
theorem trod_field {t fuel:Nat} {fs:Array Field} {cs:List Value} {x:DataW H×List MemPlace} (ht:P.underlying t=some (.struct fs)) (h:DataW.trod enc P w 0 spare held fuel t cs=some x) {i:Nat} {f:Field} (hf:fs[i]?=some f) :
  ∃ m y,DataW.trod enc P w 0 spare held m f.type ((cs.drop f.offset).take (P.cellsOf f.type))=some y:=by
 obtain ⟨xs,m,_,_,_,hxl,hh⟩:=DataW.trod_struct ht h
 have hi:i<fs.size:=(Array.getElem?_eq_some_iff.1 hf).1
 refine ⟨m,xs[i]'(by omega),?_⟩
 rw [hh i f hf]
 exact List.getElem?_eq_getElem _
theorem trod_len {t fuel:Nat} {fs:Array Field} {cs:List Value} {x:DataW H×List MemPlace} (ht:P.underlying t=some (.struct fs)) (h:DataW.trod enc P w 0 spare held fuel t cs=some x):cs.length=P.cellsOf t:=by
 obtain ⟨xs,m,_,_,hl,_⟩:=DataW.trod_struct ht h
 exact hl
theorem add_none (b off n:Nat):(⟨b,off,none⟩:Addr).add n=⟨b,off+n,none⟩:=by
 unfold Addr.add
 split
 ·rename_i h;subst h;rfl
 ·rfl
theorem open_cap {t e fuel len cap:Nat} {a:Option Addr} {x:DataW H×List MemPlace} (ht:P.underlying t=some (.slice e)) (h:DataW.trod enc P w 0 spare held fuel t [.slice a len cap]=some x) (ha:a=none):cap=0:=by
 rcases open_slice ht h with ⟨h0,_⟩ | ⟨ad,len',cap',m,n,D,Pl,h0,_⟩
 ·simp at h0;exact h0.2.2
 ·simp at h0;rw [ha] at h0;cases h0.1
theorem wf_i64 {n:Int} (h:(Lit.int .i64 n).wf=true):-9223372036854775808≤n∧n≤9223372036854775807:=by
 simp only [Lit.wf,Bool.and_eq_true,decide_eq_true_eq] at h
 have h1:IntKind.min .i64=-9223372036854775808:=by decide
 have h2:IntKind.max .i64=9223372036854775807:=by decide
 omega
open Go.Deep
variable {H:Type} {enc:TypeId×Value→H} {P:Program} {w:World} {spare:Nat→Bool} {held:Bool}
theorem open_TSlP {α:Type} [Inhabited α] {enc':α→List Value} {Pr:α→Prop} {K t e fuel len cap:Nat} {a:Option Addr} {x:DataW H×List MemPlace} (ht:P.underlying t=some (.slice e)) (hK:P.cellsOf e=K) (hp:0<K)
  (hlen:∀ c,(enc' c).length=K) (hdec:∀ n cs x,DataW.trod enc P w 0 spare held n e cs=some x→∃ c,cs=enc' c∧Pr c) (h:DataW.trod enc P w 0 spare held fuel t [.slice a len cap]=some x) :
  ∃ l:List α,l.length=len∧len≤maxLen∧TSl enc' K w a l∧(∀ c∈l,Pr c)∧(a=none→cap=0)∧len≤cap:=by
 have hcap0:a=none→cap=0:=open_cap ht h
 rcases open_slice ht h with ⟨h0,_⟩ | ⟨ad,len',cap',m,n,D,Pl,h0,_,hl,hc,hm,_,hx⟩
 ·simp at h0
  obtain ⟨rfl,rfl,rfl⟩:=h0
  exact ⟨[],rfl,by unfold maxLen;omega,TSl.nil _ _ _ _,(fun c hc=>by cases hc),hcap0,Nat.le_refl _⟩
 ·simp at h0
  obtain ⟨rfl,rfl,rfl⟩:=h0
  rw [hK] at hx
  have hml:len≤m:=by rw [hm];split <;> omega
  have hx':∀ i,i<len→∃ c,w.cells? 0 (ad.add (i*K)) K=some (enc' c)∧Pr c:=fun i hi=>by
   obtain ⟨cs,h1,h2⟩:=hx i (by omega)
   obtain ⟨c,rfl,h3⟩:=hdec _ _ _ h2
   exact ⟨c,h1,h3⟩
  obtain ⟨f,hf⟩:∃ f:Nat→α,∀ i,i<len→w.cells? 0 (ad.add (i*K)) K=some (enc' (f i))∧Pr (f i):=by
   refine ⟨fun i=>if h:i<len then Classical.choose (hx' i h) else default,fun i hi=>?_⟩
   simp only [dif_pos hi]
   exact Classical.choose_spec (hx' i hi)
  have hPr:∀ c∈(List.range len).map f,Pr c:=by
   intro c hc
   obtain ⟨i,hi,rfl⟩:=List.mem_map.1 hc
   exact (hf i (List.mem_range.1 hi)).2
  refine ⟨(List.range len).map f,by simp,by omega,?_,hPr,hcap0,by omega⟩
  have hf:∀ i,i<len→w.cells? 0 (ad.add (i*K)) K=some (enc' (f i)):=fun i hi=>(hf i hi).1
  by_cases h0:len=0
  ·subst h0;exact TSl.nil _ _ _ _
  have hcell:∀ q r,q<len→r<K→w.cell? ((ad.add (q*K)).add r)=(enc' (f q))[r]?:=fun q r hq hr=>(World.cells?_some (hf q hq)).2.2 r hr
  have hl:∀ r∈((List.range len).map f).map enc',r.length=K:=by
   intro r hr
   obtain ⟨c,_,rfl⟩:=List.mem_map.1 hr
   exact hlen c
  have hfirst:∃ v,w.cell? ad=some v:=by
   have h1:=hcell 0 0 (by omega) hp
   have h2:(enc' (f 0))[0]?=some ((enc' (f 0))[0]'(by rw [hlen];exact hp)):=List.getElem?_eq_getElem _
   rw [h2] at h1
   simp [Addr.add] at h1
   exact ⟨_,h1⟩
  obtain ⟨v,hv⟩:=hfirst
  obtain ⟨b,off,spot⟩:=ad
  unfold World.cell? at hv
  split at hv
  ·rename_i c T fr hB
   split at hv
   ·cases hv
   ·rename_i hs
    have hs:spot=none:=by simpa using hs
    subst hs
    refine ⟨hl,.inr ⟨b,off,rfl,c,T,fr,hB,fun i hi=>?_⟩⟩
    rw [flatten_len _ K hl] at hi
    simp only [List.length_map,List.length_range] at hi
    have hq:i / K<len:=by rw [Nat.div_lt_iff_lt_mul hp];exact hi
    have hr:i % K<K:=Nat.mod_lt _ hp
    have hi':i / K*K+i % K=i:=by rw [Nat.mul_comm];exact Nat.div_add_mod i K
    have h1:=flatten_get _ K hl (i / K) (enc' (f (i / K))) (by simp [hq]) (i % K) hr
    rw [hi'] at h1
    rw [h1,←hcell _ _ hq hr]
    rw [add_none,add_none,Nat.add_assoc,hi']
    unfold World.cell?
    simp only at hB
    simp only [hB,Option.isSome_none,Bool.false_eq_true,if_false]
  ·cases hv
end Go.Vc
