/- Repair: a set with a further vertex, in the reference. -/
import Derived.Test.YtdbcfpcicjgghaaGreatDoorXHG
import Derived.Test.YtdbcfpcicjgghaaGreatDoorXR6
import Derived.Test.YtdbcfpcicjgghaaGreatDoorXH22a
import Derived.Test.YtdbcfpcicjgghaaGreatDoorXVcRepP
import Derived.Test.YtdbcfpcicjgghaaGreatDoorXVcInR
import Derived.Test.YtdbcfpcicjgghaaGreatDoorXVcBlk
import Derived.Test.YtdbcfpcicjgghaaGreatDoorXH8
import Derived.Test.YtdbcfpcicjgghaaGreatDoorXJ
import Derived.Test.YtdbcfpcicjgghaaGreatDoorXQ6
import Derived.Test.YtdbcfpcicjgghaaGreatDoorXQ1
namespace Go.Proofs.YtdbcfpcicjgghaaGreatDoor
set_option maxHeartbeats 16000000
open Go.Vc
set_option maxRecDepth 100000
set_option maxHeartbeats 16000000
theorem eqW4:∀ a b w,(Op.equal 4 (.bool a) (.bool b)).run Tryz.prog w=.ok (decide (a=b)) w:=by
 intro a b w
 show (Op.equalIn (9999+1) 4 _ _).run Tryz.prog w=_
 unfold Op.equalIn
 simp [go_sem]
 cases a <;> cases b <;> rfl
theorem rsetN_spec (a:Option Addr) (c n:Nat) (l:List Int) (w:World) (hn:n=l.length) (hm:l.length≤1000000) (hS:IntSl w a l) :
  RetsX Tryz.prog 113 #[.slice a n c] w (fun x:Option Addr×Nat=>.slice x.1 (setF l).length x.2) (fun x w'=>OwnT Vc.encI 1 3 w.heap.size w' x.1 x.2 (setF l)):=by
 subst hn
 exact rset_spec a c l w hm hS
theorem put28_spec (a:Option Addr) (c:Nat) (S:List Int) (v:Int) (w:World) (hm:S.length≤100000) (hax:a=none→c=0) (hS:IntSl w a S) :
  RetsX Tryz.prog 87 #[.slice a S.length c,.int .i64 v] w (fun x:Option Addr×Nat=>.slice x.1 (setF (S++[v])).length x.2) (fun x w'=>OwnT Vc.encI 1 3 w.heap.size w' x.1 x.2 (setF (S++[v]))):=by
 refine enter (args:=[_,_]) Tryz.func87 rfl Tryz.ntmps87 (by kernel_rfl) rfl ?_
 refine V.seq (V.region (VL.op (R.asS rfl) (VL.nil (V.seq (V.region (VL.buildSl Tryz.runUnderlying22 Tryz.sizeOf3 Tryz.zeroValue3 rfl rfl rfl fun b1 w1 hb1 e1 hB1=>VL.op (R.mvS rfl) (VL.appendT el22 (fun _=>rfl) rfl (rfl) ((OwnT.of0 Vc.encI 1 hB1 (Nat.le_of_eq hb1.symm))) rfl (rfl) ((hS.ext e1)) (hax) (by simp;omega) (by simp [maxLen];omega) e1.size (show 0+S.length=([]++S:List Int).length by simp) fun a2 c2 w2 ho2 m2 hf2=>VL.op (R.mvI rfl) (VL.append1 el22 Tryz.runUnderlying22 Tryz.sizeOf3 Tryz.zeroValue3 rfl (v) rfl rfl rfl ho2 rfl rfl rfl (by simp;omega) (by simp [maxLen];omega) (Nat.le_trans e1.size m2.size) fun a3 c3 w3 vt3 ho3 m3 hf3=>VL.callX Tryz.call113 rfl (rsetN_spec a3 c3 (([]++S:List Int).length+1) (([]++S)++[v]) w3 (by simp) (by simp;omega) (OwnT.sl ho3)) fun s4 w4 hS4 e4=>VL.op (R.asS rfl) (VL.nil (V.ret (fret1 (v:=.slice _ _ _) rfl rfl rfl (?_))))))))))))
 have E1:Ext w w3:=((e1.ownA m2 fun q hq=>by have:=aBlk_some hq;omega).ownA m3 fun q hq=>ho2.ge q hq)
 rw [List.nil_append] at hS4 ⊢
 exact ⟨s4,rfl,hS4.weaken E1.size,E1.trans e4⟩
end Go.Proofs.YtdbcfpcicjgghaaGreatDoor

/- Repair: how many repairs a part has. -/
namespace Go.Proofs.YtdbcfpcicjgghaaGreatDoor
set_option maxHeartbeats 16000000
set_option maxRecDepth 100000
open Go.Vc
end Go.Proofs.YtdbcfpcicjgghaaGreatDoor

/- Repair: Count. -/
namespace Go.Proofs.YtdbcfpcicjgghaaGreatDoor
open Go.Vc
end Go.Proofs.YtdbcfpcicjgghaaGreatDoor

/- Repair: Count, joined. -/
namespace Go.Proofs.YtdbcfpcicjgghaaGreatDoor
open Go.Vc
end Go.Proofs.YtdbcfpcicjgghaaGreatDoor

/- Repair: the cheapest repair of a part. -/
namespace Go.Proofs.YtdbcfpcicjgghaaGreatDoor
open Go.Vc
def costR (cost r:List Int):Int:=sm (r.map fun v=>cost.getD v.toNat default)
def stepC (cost vs:List Int) (b:List Int×Int) (r:List Int):List Int×Int:=if b.2<0∨costR cost r<b.2 then (r.map fun v=>vs.getD v.toNat default,costR cost r) else b
def chF (cost vs:List Int) (L:List (List Int)):List Int×Int:=L.foldl (stepC cost vs) ([],-1)
end Go.Proofs.YtdbcfpcicjgghaaGreatDoor

/- Repair: the parts' cheapest repairs. -/
namespace Go.Proofs.YtdbcfpcicjgghaaGreatDoor
open Go.Vc
structure ChI where
 s:SlI
 k:Int
instance:Inhabited ChI:=⟨⟨⟨none,0,[]⟩,0⟩⟩
end Go.Proofs.YtdbcfpcicjgghaaGreatDoor

/- Repair: Cheapest. -/
namespace Go.Proofs.YtdbcfpcicjgghaaGreatDoor
open Go.Vc
end Go.Proofs.YtdbcfpcicjgghaaGreatDoor

/- Repair: what the laws' head asks. -/
namespace Go.Proofs.YtdbcfpcicjgghaaGreatDoor
set_option maxHeartbeats 16000000
open Go.Vc
end Go.Proofs.YtdbcfpcicjgghaaGreatDoor

/- Repair: the plain values at the head's examples. -/
namespace Go.Proofs.YtdbcfpcicjgghaaGreatDoor
open Go.Vc
set_option maxRecDepth 100000
set_option maxHeartbeats 4000000
end Go.Proofs.YtdbcfpcicjgghaaGreatDoor

/- Repair: the fixed examples (printed by mkR15.py). -/
namespace Go.Proofs.YtdbcfpcicjgghaaGreatDoor
open Go.Vc
end Go.Proofs.YtdbcfpcicjgghaaGreatDoor

/- Repair: small graphs. -/
namespace Go.Proofs.YtdbcfpcicjgghaaGreatDoor
set_option maxHeartbeats 16000000
set_option maxRecDepth 100000
open Go.Vc
end Go.Proofs.YtdbcfpcicjgghaaGreatDoor

/- Repair: the walk of law RepairExtends. -/
namespace Go.Proofs.YtdbcfpcicjgghaaGreatDoor
open Go.Vc
end Go.Proofs.YtdbcfpcicjgghaaGreatDoor

/- Repair: the vertices that a list of truth values selects. -/
namespace Go.Proofs.YtdbcfpcicjgghaaGreatDoor
set_option maxHeartbeats 16000000
open Go.Vc
end Go.Proofs.YtdbcfpcicjgghaaGreatDoor

/- Repair: the walk of law RepairAll. -/
namespace Go.Proofs.YtdbcfpcicjgghaaGreatDoor
open Go.Vc
set_option maxRecDepth 100000
set_option maxHeartbeats 16000000
theorem less28_spec (a b:Option Addr) (ca cb:Nat) (l m:List Int) (w:World) (hl:l.length≤9223372036854775807) (hm:m.length≤9223372036854775807) (hS:IntSl w a l) (hT:IntSl w b m) :
  RetsP Tryz.prog 104 #[.slice a l.length ca,.slice b m.length cb] w (.bool (lexB l m)):=by
 refine enter (args:=[_,_]) Tryz.func104 rfl Tryz.ntmps104 (by kernel_rfl) rfl ?_
 refine V.seq (V.region (VL.op (R.asB rfl) (VL.nil (V.seq (V.region (VL.op (R.mvS rfl) (VL.op (R.mvS rfl) (VL.callP Tryz.call23 rfl (less_spec a b ca cb l m _ hl hm hS hT) fun w1_2 e1_2=>VL.op (R.asB rfl) (VL.nil (V.ret (fret1 (v:=.bool _) rfl rfl rfl (⟨rfl,e1_2⟩))))))))))))
theorem up_at {L:List SlI} (h:Up lexB (vals L)) {i j:Nat} (hij:i<j) (hj:j<L.length):lexB (L.getD i default).l (L.getD j default).l=true:=by
 have hl:(vals L).length=L.length:=List.length_map _
 have:=List.pairwise_iff_getElem.1 h i j (by omega) (by omega) hij
 rw [←gget (l:=vals L) (by omega),←gget (l:=vals L) (by omega)] at this
 rwa [show (vals L).getD i default=(L.getD i default).l from gmap SlI.l L default (by omega),show (vals L).getD j default=(L.getD j default).l from gmap SlI.l L default hj] at this
theorem rep_len {g:Gr} {R:List Int} (hR:IsRep g R) (h0:0≤g.n):(R.length:Int)≤g.n:=by
 have h5:=setB_iff.1 hR.set
 exact set_len h5.1 h5.2 h0
end Go.Proofs.YtdbcfpcicjgghaaGreatDoor

/- Repair: graphs whose components are small; the count of a component. -/
namespace Go.Proofs.YtdbcfpcicjgghaaGreatDoor
set_option maxHeartbeats 16000000
set_option maxRecDepth 100000
open Go.Vc
end Go.Proofs.YtdbcfpcicjgghaaGreatDoor

/- Repair: the cheapest repair. Plain. -/
namespace Go.Proofs.YtdbcfpcicjgghaaGreatDoor
open Go.Vc
theorem lex_first {A C:List Int} {v:Nat} (hA:Inc A) (hC:Inc C) (hv:(v:Int)∈A) (hn:(v:Int)∉C) (hb:∀ x,x<(v:Int)→(x∈A↔x∈C)):lexB A C=true∨∀ x∈C,x∈A:=by
 obtain ⟨S,hS,hSv⟩:=below_split (v:=v) hA
 obtain ⟨T,hT,hTv⟩:=below_split (v:=v) hC
 have hbl:below A v=below C v:=inc_ext (hA.sublist List.filter_sublist) (hC.sublist List.filter_sublist) fun x=>by
  rw [below_mem,below_mem]
  exact ⟨fun h=>⟨(hb x h.2).1 h.1,h.2⟩,fun h=>⟨(hb x h.2).2 h.1,h.2⟩⟩
 have hvS:(v:Int)∈S:=by
  rw [hS] at hv
  rcases List.mem_append.1 hv with h | h
  ·have:=(below_mem.1 h).2;omega
  ·exact h
 cases T with
 | nil =>
  refine .inr fun x hx=>?_
  rw [hT,List.append_nil,←hbl] at hx
  exact (below_mem.1 hx).1
 | cons t T =>
  refine .inl ?_
  rw [hS,hT,hbl,lex_app]
  cases S with
  | nil=>cases hvS
  | cons s S =>
   have hs:s=(v:Int):=by
    have h1:=hSv s (by simp)
    rcases List.mem_cons.1 hvS with h | h
    ·exact h.symm
    ·have hi:Inc (s :: S):=by
      rw [hS] at hA;exact (List.pairwise_append.1 hA).2.1
     have:=(List.pairwise_cons.1 hi).1 _ h
     omega
   have ht:=hTv t (by simp)
   have htn:t≠(v:Int):=fun e=>hn (by rw [hT];exact List.mem_append_right _ (by simp [e]))
   show (if s<t then true else _)=true
   rw [if_pos (by omega)]
end Go.Proofs.YtdbcfpcicjgghaaGreatDoor

/- Own library: sets of which none contains another one are few (Sperner): the sets of few vertices, cut into chains. Plain. -/
namespace Go.Vc
set_option maxHeartbeats 16000000
def chS:Nat→List (List (List Int))
 | 0=>[[[]]]
 | n+1=>(chS n).flatMap fun c=>[c++[c.getLastD []++[(n:Int)]]]++if 1<c.length then [c.dropLast.map (·++[(n:Int)])] else []
def lnS:Nat→List Nat
 | 0=>[1]
 | n+1=>(lnS n).flatMap fun k=>[k+1]++if 1<k then [k-1] else []
theorem chS_len:∀ n,(chS n).map List.length=lnS n
 | 0=>rfl
 | n+1=>by
  unfold chS lnS
  rw [←chS_len n,List.map_flatMap,List.flatMap_map]
  congr 1
  funext c
  rw [List.map_append]
  congr 1
  ·simp
  ·split <;> simp
theorem chS_12:(chS 12).length=924:=by
 rw [←List.length_map (f:=List.length),chS_len]
 decide +kernel
def subL (x y:List Int):Prop:=∀ v∈x,v∈y
theorem chS_chain:∀ n,∀ c∈chS n,c≠[]∧c.Pairwise subL
 | 0=>fun c hc=>by
  unfold chS at hc
  rw [List.mem_singleton] at hc
  subst hc
  exact ⟨by simp,List.pairwise_singleton _ _⟩
 | n+1=>fun c hc=>by
  unfold chS at hc
  rw [List.mem_flatMap] at hc
  obtain ⟨d,hd,hc⟩:=hc
  obtain ⟨h1,h2⟩:=chS_chain n d hd
  rcases List.mem_append.1 hc with hc | hc
  ·rw [List.mem_singleton] at hc
   subst hc
   refine ⟨by simp,List.pairwise_append.2 ⟨h2,List.pairwise_singleton _ _,fun x hx y hy=>?_⟩⟩
   rw [List.mem_singleton] at hy
   subst hy
   intro v hv
   refine List.mem_append.2 (.inl ?_)
   have hdl:d=d.dropLast++[d.getLastD []]:=by
    rw [List.getLastD_eq_getLast?,List.getLast?_eq_some_getLast h1]
    exact (List.dropLast_concat_getLast h1).symm
   rw [hdl] at hx h2
   rcases List.mem_append.1 hx with h | h
   ·exact (List.pairwise_append.1 h2).2.2 x h _ (by simp) v hv
   ·rw [List.mem_singleton] at h
    rw [←h];exact hv
  ·split at hc
   ·rename_i hl
    rw [List.mem_singleton] at hc
    subst hc
    refine ⟨fun h=>?_,?_⟩
    ·have:=congrArg List.length h
     rw [List.length_map,List.length_dropLast] at this
     simp at this
     omega
    ·refine List.pairwise_map.2 ((h2.sublist (List.dropLast_sublist d)).imp fun {a b} hab v hv=>?_)
     rcases List.mem_append.1 hv with h | h
     ·exact List.mem_append.2 (.inl (hab v h))
     ·exact List.mem_append.2 (.inr h)
   ·cases hc
theorem chS_all:∀ n:Nat,∀ S:List Int,Inc S→(∀ v∈S,0≤v∧v<(n:Int))→∃ c∈chS n,S∈c
 | 0=>fun S _ hb=>by
  cases S with
  | nil=>exact ⟨[[]],by simp [chS],by simp⟩
  | cons a S=>have:=hb a (by simp);omega
 | n+1=>fun S hS hb=>by
  have key:∀ T:List Int,Inc T→(∀ v∈T,0≤v∧v<(n:Int))→∃ d∈chS n,T∈d:=chS_all n
  have hfm:∀ {d:List (List Int)} {c:List (List Int)},d∈chS n→c∈([d++[d.getLastD []++[(n:Int)]]]++if 1<d.length then [d.dropLast.map (·++[(n:Int)])] else [])→c∈chS (n+1):=fun hd hc=>by
   unfold chS
   exact List.mem_flatMap.2 ⟨_,hd,hc⟩
  by_cases hn:(n:Int)∈S
  ·obtain ⟨T,U,rfl⟩:=List.append_of_mem hn
   have hU:U=[]:=by
    cases U with
    | nil=>rfl
    | cons u U =>
     have h1:=(List.pairwise_cons.1 (List.pairwise_append.1 hS).2.1).1 u (by simp)
     have:=hb u (by simp)
     omega
   subst hU
   have hT:Inc T:=(List.pairwise_append.1 hS).1
   obtain ⟨d,hd,hTd⟩:=key T hT fun v hv=>by
    have h1:=(List.pairwise_append.1 hS).2.2 v hv (n:Int) (by simp)
    have:=hb v (by simp [hv])
    exact ⟨this.1,h1⟩
   obtain ⟨h1,_⟩:=chS_chain n d hd
   have hdl:d=d.dropLast++[d.getLastD []]:=by
    rw [List.getLastD_eq_getLast?,List.getLast?_eq_some_getLast h1]
    exact (List.dropLast_concat_getLast h1).symm
   by_cases hl:T=d.getLastD []
   ·exact ⟨_,hfm hd (List.mem_append.2 (.inl (List.mem_singleton.2 rfl))),by rw [hl];simp⟩
   ·have hTl:T∈d.dropLast:=by
     rw [hdl] at hTd
     rcases List.mem_append.1 hTd with h | h
     ·exact h
     ·rw [List.mem_singleton] at h;exact absurd h hl
    have hlen:1<d.length:=by
     have:=List.length_pos_of_mem hTl
     rw [List.length_dropLast] at this
     omega
    exact ⟨_,hfm hd (List.mem_append.2 (.inr (by rw [if_pos hlen];exact List.mem_singleton.2 rfl))),List.mem_map.2 ⟨T,hTl,rfl⟩⟩
  ·obtain ⟨d,hd,hTd⟩:=key S hS fun v hv=>by
    have h1:=hb v hv
    have h2:v≠(n:Int):=fun e=>hn (e▸hv)
    omega
   exact ⟨_,hfm hd (List.mem_append.2 (.inl (List.mem_singleton.2 rfl))),List.mem_append.2 (.inl hTd)⟩
theorem chain_one {c L:List (List Int)} (hc:c.Pairwise subL) (hn:L.Nodup) (ha:∀ x∈L,∀ y∈L,subL x y→x=y):(L.filter fun x=>decide (x∈c)).length≤1:=by
 match h:L.filter fun x=>decide (x∈c) with
 | []=>exact Nat.zero_le _
 | [_]=>exact Nat.le_refl _
 | x :: y :: r =>
  have hx:x∈L.filter fun x=>decide (x∈c):=by rw [h];simp
  have hy:y∈L.filter fun x=>decide (x∈c):=by rw [h];simp
  have hf:=hn.filter fun x=>decide (x∈c)
  rw [h] at hf
  have hne:x≠y:=(List.pairwise_cons.1 hf).1 y (by simp)
  obtain ⟨hx1,hx2⟩:=List.mem_filter.1 hx
  obtain ⟨hy1,hy2⟩:=List.mem_filter.1 hy
  rw [decide_eq_true_eq] at hx2 hy2
  obtain ⟨i,hi,rfl⟩:=List.getElem_of_mem hx2
  obtain ⟨j,hj,rfl⟩:=List.getElem_of_mem hy2
  rcases Nat.lt_trichotomy i j with hij | hij | hij
  ·exact absurd (ha _ hx1 _ hy1 (List.pairwise_iff_getElem.1 hc i j hi hj hij)) hne
  ·subst hij;exact absurd rfl hne
  ·exact absurd (ha _ hy1 _ hx1 (List.pairwise_iff_getElem.1 hc j i hj hi hij)).symm hne
theorem filter_two {α:Type} (p:α→Bool):∀ L:List α,L.length=(L.filter p).length+(L.filter fun x=>!p x).length
 | []=>rfl
 | x :: L=>by
  have h:=filter_two p L
  rw [List.filter_cons,List.filter_cons]
  cases p x <;> simp <;> omega
theorem chains_len:∀ (C:List (List (List Int))) (L:List (List Int)),(∀ c∈C,c.Pairwise subL)→L.Nodup→(∀ x∈L,∀ y∈L,subL x y→x=y)→(∀ x∈L,∃ c∈C,x∈c)→L.length≤C.length
 | [],L,_,_,_,h=>by
  cases L with
  | nil=>exact Nat.le_refl _
  | cons x L=>obtain ⟨c,hc,_⟩:=h x (by simp);cases hc
 | c :: C,L,hC,hn,ha,h=>by
  have h1:=chain_one (hC c (by simp)) hn ha
  have h2:=chains_len C (L.filter fun x=>!decide (x∈c)) (fun d hd=>hC d (by simp [hd])) (hn.filter _) (fun x hx y hy=>ha x (List.mem_filter.1 hx).1 y (List.mem_filter.1 hy).1) fun x hx=>by
   obtain ⟨hx1,hx2⟩:=List.mem_filter.1 hx
   obtain ⟨d,hd,hxd⟩:=h x hx1
   rcases List.mem_cons.1 hd with e | hd
   ·subst e;rw [decide_eq_true hxd] at hx2;cases hx2
   ·exact ⟨d,hd,hxd⟩
  have h3:=filter_two (fun x=>decide (x∈c)) L
  rw [List.length_cons]
  omega
theorem sper12 {L:List (List Int)} (hn:L.Nodup) (hs:∀ x∈L,Inc x∧∀ v∈x,0≤v∧v<12) (ha:∀ x∈L,∀ y∈L,(∀ v∈x,v∈y)→x=y):L.length≤924:=by
 rw [←chS_12]
 exact chains_len _ L (fun c hc=>(chS_chain 12 c hc).2) hn ha fun x hx=>chS_all 12 x (hs x hx).1 (hs x hx).2
end Go.Vc

/- Repair: the reference: blocked, Independent, Is. -/
namespace Go.Proofs.YtdbcfpcicjgghaaGreatDoor
open Go.Vc
set_option maxRecDepth 100000
set_option maxHeartbeats 16000000
theorem blkR_eq {g:Gr} (hg:validG g=true) {S:List Int} (_hi:Inc S) (hf:indB g.edges S=true) (v:Int):(!freeF g.edges (setF (S++[v])))=blkB g.edges S v:=by
 have hE:=(validG_iff.1 hg).2.2.1
 have hf:=indB_iff.1 hf
 have key:freeF g.edges (setF (S++[v]))=true↔blkB g.edges S v=false:=by
  rw [freeF_sets (fun e he=>⟨(hE e he).2.1,(hE e he).1⟩) (setF_inc _)]
  constructor
  ·intro h
   rw [←Bool.not_eq_true]
   intro hb
   obtain ⟨e,he,hve,hall⟩:=blkB_iff.1 hb
   have:=h e he
   rw [subB_iff.2 fun x hx=>(setF_mem _ _).2 (List.mem_append.2 (by
    by_cases hxv:x=v
    ·exact .inr (by simp [hxv])
    ·exact .inl (hall x hx hxv)))] at this
   cases this
  ·intro hb e he
   rw [←Bool.not_eq_true]
   intro hs
   have hs:=subB_iff.1 hs
   have hin:∀ x∈e,x≠v→x∈S:=fun x hx hne=>by
    rcases List.mem_append.1 ((setF_mem _ _).1 (hs x hx)) with h | h
    ·exact h
    ·exact absurd (List.mem_singleton.1 h) hne
   by_cases hve:v∈e
   ·rw [blkB_iff.2 ⟨e,he,hve,hin⟩] at hb;cases hb
   ·have:=hf e he
    rw [subB_iff.2 fun x hx=>hin x hx fun e=>hve (e▸hx)] at this
    cases this
 cases h:freeF g.edges (setF (S++[v])) with
 | true=>rw [key.1 h];rfl
 | false =>
  cases hb:blkB g.edges S v with
  | true=>rfl
  | false=>rw [key.2 hb] at h;cases h
theorem free_ind {g:Gr} (hg:validG g=true) {S:List Int} (hi:Inc S):freeF g.edges S=indB g.edges S:=by
 have hE:=(validG_iff.1 hg).2.2.1
 rw [Bool.eq_iff_iff,freeF_sets (fun e he=>⟨(hE e he).2.1,(hE e he).1⟩) hi,indB_iff]
theorem blocked28_spec (g:GrW) (a:Option Addr) (c:Nat) (S:List Int) (v:Int) (w:World) (hG:GOk w g) (hl:GLen g) (hm:S.length≤100000) (hax:a=none→c=0) (hS:IntSl w a S) :
  RetsP Tryz.prog 53 #[.agg (encGr g).toArray,.slice a S.length c,.int .i64 v] w (.bool (!freeF (vals g.edges) (setF (S++[v])))):=by
 have hpl:=setF_len (S++[v])
 have hpl2:(S++[v]).length=S.length+1:=by simp
 refine enter (args:=[_,_,_]) Tryz.func53 rfl Tryz.ntmps53 (by kernel_rfl) rfl ?_
 refine V.seq (V.region (VL.box (v:=.agg _) rfl fun b0_0 w0_0 hb0_0 e0_0 hB0_0=>VL.op (R.asB rfl) (VL.nil (V.seq (?_)))))
 refine V.regionD (T:=Ext) mixed 5 (by kernel_rfl) rfl (fun us=>VD.op (fun wq eq=>R.fld' (o:=2) Tryz.runUnderlying25 rfl rfl Tryz.sizeOf23 rfl rfl) (VD.op (fun wq eq=>R.ld1 Tryz.isAgg23 rfl ((show wq.cell? ⟨b0_0,2,none⟩=some (Value.slice g.ea g.edges.length g.ec) from (hB0_0.ext eq).cell 2))) (VD.op (fun wq eq=>R.mvS rfl) (VD.op (fun wq eq=>R.mvI rfl) (VD.callX (fun _=>fun u w'=>∃ x:Option Addr×Nat,u=.slice x.1 (setF (S++[v])).length x.2∧IntSl w' x.1 (setF (S++[v]))) (DepS.const _) (fun u a b _ ⟨x,h1,h2⟩ eb=>⟨x,h1,h2.ext eb⟩) Tryz.call87 rfl (fun wq eq hq=>by
   refine Rets.mono (put28_spec a c S v wq hm hax (hS.ext (e0_0.trans eq))) ?_
   rintro u w' ⟨x,hu,h1,he⟩
   exact ⟨⟨x,hu,OwnT.sl h1⟩,he⟩) (VD.nil (fun w1 e1 h1=>?_))))))) rfl
 obtain ⟨x,hx,hxs⟩:=h1 4
 rw [hx]
 refine VL.callP Tryz.call86 rfl (free_spec g.edges g.ea x.1 g.ec x.2 (setF (S++[v])) w1 (by have:=hl.e;omega) (fun y hy=>by have:=(hl.each y hy).1;omega) (by omega) (hG.e.ext (e0_0.trans e1)) hxs) fun w1_5 e1_5=>VL.op (R.not rfl) (VL.op (R.asB rfl) (VL.nil (V.ret (fret1 (v:=.bool _) rfl rfl rfl (⟨rfl,e0_0.trans (e1.trans e1_5)⟩)))))
theorem ind28_spec (g:GrW) (a:Option Addr) (c:Nat) (S:List Int) (w:World) (hG:GOk w g) (hl:GLen g) (hm:S.length≤100000) (hS:IntSl w a S) :
  RetsP Tryz.prog 52 #[.agg (encGr g).toArray,.slice a S.length c] w (.bool (loadB (grV g) S)):=by
 have hle:=hl.e
 refine enter (args:=[_,_]) Tryz.func52 rfl Tryz.ntmps52 (by kernel_rfl) rfl ?_
 refine V.seq (V.region (VL.box (v:=.agg _) rfl fun b0_0 w0_0 hb0_0 e0_0 hB0_0=>VL.op (R.asB rfl) (VL.nil (V.seq (V.region (VL.op (R.ldA Tryz.isAgg25 Tryz.sizeOf25 rfl rfl ((show RowAt _ _ _ (encGr g) from (hB0_0.rowAt 0 3))) rfl) (VL.callP Tryz.call65 rfl (rvalid_spec g _ (hG.ext e0_0) hl) fun w1_1 e1_1=>VL.op (R.mvB rfl) (VL.and rfl rfl (fun g1_2=>VL.op (R.mvS rfl) (VL.gT rfl rfl (VL.op (R.fld' (o:=0) Tryz.runUnderlying25 rfl rfl Tryz.sizeOf3 rfl rfl) (VL.gT rfl rfl (VL.op (R.ld1 Tryz.isAgg3 rfl (((hB0_0.ext e1_1).cell 0))) (VL.gT rfl rfl (VL.callP Tryz.call84 rfl (verts_spec a c S g.n _ (by omega) (hS.ext (e0_0.trans e1_1))) fun w1_6 e1_6=>VL.op (R.pickTB rfl rfl) (VL.op (R.mvB rfl) (VL.and rfl rfl (fun g1_8=>VL.op (R.mvS rfl) (VL.gT rfl rfl (VL.callP Tryz.call85 rfl (incr_spec a c S _ (by omega) (hS.ext ((e0_0.trans e1_1).trans e1_6))) fun w1_10 e1_10=>VL.op (R.pickTB rfl rfl) (VL.op (R.mvB rfl) (VL.and rfl rfl (fun g1_12=>VL.op (R.fld' (o:=2) Tryz.runUnderlying25 rfl rfl Tryz.sizeOf23 rfl rfl) (VL.gT rfl rfl (VL.op (R.ld1 Tryz.isAgg23 rfl (((hB0_0.ext (e1_1.trans (e1_6.trans e1_10))).cell 2))) (VL.gT rfl rfl (VL.op (R.mvS rfl) (VL.gT rfl rfl (VL.callP Tryz.call86 rfl (free_spec g.edges g.ea a g.ec c S _ (by omega) (fun y hy=>by have:=(hl.each y hy).1;omega) (by omega) (hG.e.ext (((e0_0.trans e1_1).trans e1_6).trans e1_10)) (hS.ext (((e0_0.trans e1_1).trans e1_6).trans e1_10))) fun w1_16 e1_16=>VL.op (R.pickTB rfl rfl) (VL.op (R.asB rfl) (VL.nil (V.ret (fret1 (v:=.bool _) rfl rfl rfl (⟨?_,((((e0_0.trans e1_1).trans e1_6).trans e1_10).trans e1_16)⟩)))))))))))) (fun g1_12=>VL.gF rfl rfl (VL.gF rfl rfl (VL.gF rfl rfl (VL.op (R.pickFB rfl rfl) (VL.op (R.asB rfl) (VL.nil (V.ret (fret1 (v:=.bool _) rfl rfl rfl (⟨?_,(((e0_0.trans e1_1).trans e1_6).trans e1_10)⟩)))))))))))))) (fun g1_8=>VL.gF rfl rfl (VL.op (R.pickFB rfl rfl) (VL.op (R.mvB rfl) (VL.gF rfl rfl (VL.gF rfl rfl (VL.gF rfl rfl (VL.gF rfl rfl (VL.op (R.pickFB rfl rfl) (VL.op (R.asB rfl) (VL.nil (V.ret (fret1 (v:=.bool _) rfl rfl rfl (⟨?_,((e0_0.trans e1_1).trans e1_6)⟩)))))))))))))))))))))) (fun g1_2=>VL.gF rfl rfl (VL.gF rfl rfl (VL.gF rfl rfl (VL.op (R.pickFB rfl rfl) (VL.op (R.mvB rfl) (VL.gF rfl rfl (VL.gF rfl rfl (VL.op (R.pickFB rfl rfl) (VL.op (R.mvB rfl) (VL.gF rfl rfl (VL.gF rfl rfl (VL.gF rfl rfl (VL.gF rfl rfl (VL.op (R.pickFB rfl rfl) (VL.op (R.asB rfl) (VL.nil (V.ret (fret1 (v:=.bool _) rfl rfl rfl (⟨?_,(e0_0.trans e1_1)⟩)))))))))))))))))))))))))))
 ·rw [show freeF (vals g.edges) S=indB (grV g).edges S from free_ind (g:=grV g) g1_2 (setB_iff.1 g1_8).1]
  unfold loadB
  rw [g1_2,show setB S (grV g).n=true from g1_8]
  rfl
 ·exact absurd (setB_iff.1 g1_8).1 (of_decide_eq_false g1_12)
 ·unfold loadB
  rw [show setB S (grV g).n=false from g1_8,Bool.and_false,Bool.false_and]
 ·unfold loadB
  rw [g1_2,Bool.false_and,Bool.false_and]
theorem ris28_spec (g:GrW) (a:Option Addr) (c:Nat) (S:List Int) (w:World) (hG:GOk w g) (hl:GLen g) (hm:S.length≤100000) (hax:a=none→c=0) (hS:IntSl w a S) :
  RetsP Tryz.prog 34 #[.agg (encGr g).toArray,.slice a S.length c] w (.bool (isB (grV g) S)):=by
 refine enter (args:=[_,_]) Tryz.func34 rfl Tryz.ntmps34 (by kernel_rfl) rfl ?_
 refine V.seq (V.region (VL.box (v:=.agg _) rfl fun b0_0 w0_0 hb0_0 e0_0 hB0_0=>VL.op (R.asB rfl) (VL.nil (V.seq (V.seq (V.region (VL.op (R.ldA Tryz.isAgg25 Tryz.sizeOf25 rfl rfl ((show RowAt _ _ _ (encGr g) from (hB0_0.rowAt 0 3))) rfl) (VL.op (R.mvS rfl) (VL.callP Tryz.call52 rfl (ind28_spec g a c S _ (hG.ext e0_0) hl hm (hS.ext e0_0)) fun w1_2 e1_2=>VL.op (R.not rfl) (VL.nil (V.cond rfl (fun c9=>V.seq (V.region (VL.op (R.asB rfl) (VL.nil (V.ret (fret1 (v:=.bool _) rfl rfl rfl (⟨?_,(e0_0.trans e1_2)⟩))))))) (fun c9=>V.skip (V.seq (V.seq (?_)))))))))))))))
 ·have hb:loadB (grV g) S=false:=by simpa using c9
  unfold isB;rw [hb,Bool.false_and]
 have hb:loadB (grV g) S=true:=by simpa using c9
 obtain ⟨hv,hset,hind⟩:=loadB_iff.1 hb
 have hcb:=costB_iff.1 (validG_iff.1 hv).1
 have hgn:(grV g).n=g.n:=rfl
 obtain ⟨N,hN⟩:∃ N:Nat,g.n=(N:Int):=⟨g.n.toNat,by have:=hcb.1;omega⟩
 have hN4:N≤4000:=by have:=hcb.2.1;omega
 have E1:=e0_0.trans e1_2
 have hX1:Blk w1_2 b0_0 (.cells (Value.agg (encGr g).toArray).cells 25 (0,0)):=hB0_0.ext e1_2
 refine V.region (VL.op (R.asI rfl) (VL.nil (V.block (?_))))
 refine V.loop [1,2,5] (fun v:Nat=>[.slice a S.length c,.pointer (some ⟨b0_0,0,none⟩),.int .i64 (v:Nat)]) (fun v w'=>v≤N∧(∀ u:Nat,u<v→(u:Int)∈S∨blkB (vals g.edges) S (u:Int)=true)∧Ext w1_2 w') (fun v=>N-v) 0 rfl ⟨Nat.zero_le _,fun u h=>absurd h (Nat.not_lt_zero u),Vc.Mod.refl _ _⟩ ?_
 rintro ρ v w2 ⟨hvN,hu,e2⟩
 have hX2:=hX1.ext e2
 have hS2:=hS.ext (E1.trans e2)
 have hbl:(!freeF (vals g.edges) (setF (S++[(v:Int)])))=blkB (vals g.edges) S (v:Int):=blkR_eq hv (setB_iff.1 hset).1 hind (v:Int)
 refine V.seq (V.seq (V.region (VL.op (R.mvI rfl) (VL.op (R.fld' (o:=0) Tryz.runUnderlying25 rfl rfl Tryz.sizeOf3 rfl rfl) (VL.op (R.ld1 Tryz.isAgg3 rfl ((show w2.cell? ⟨b0_0,0,none⟩=some (Value.int .i64 ((N:Nat):Int)) from by rw [←hN];exact hX2.cell 0))) (VL.op (R.lss rfl rfl) (VL.nil (V.condP rfl (fun c13=>V.skip (V.seq (V.block (V.seq (?_))))) (fun c13=>V.exit (V.seq (V.region (VL.op (R.asB rfl) (VL.nil (V.ret (fret1 (v:=.bool _) rfl rfl rfl (⟨?_,E1.trans e2⟩))))))))))))))))
 ·have hvl:v<N:=by omega
  refine V.region (VL.op (R.mvS rfl) (VL.op (R.mvI rfl) (VL.callP Tryz.call28 rfl (in_spec a c S (v:Int) w2 (by omega) hS2) fun w6_2 e6_2=>VL.op (R.not rfl) (VL.op (R.mvB rfl) (VL.and rfl rfl (fun g6_4=>VL.op (R.ldA Tryz.isAgg25 Tryz.sizeOf25 rfl rfl ((show RowAt _ _ _ (encGr g) from (hX2.ext e6_2).rowAt 0 3)) rfl) (VL.gT rfl rfl (VL.op (R.mvS rfl) (VL.gT rfl rfl (VL.op (R.mvI rfl) (VL.gT rfl rfl (VL.callP Tryz.call53 rfl (blocked28_spec g a c S (v:Int) _ (hG.ext (E1.trans (e2.trans e6_2))) hl hm hax (hS2.ext e6_2)) fun w6_8 e6_8=>VL.gT rfl rfl (VL.op (R.not rfl) (VL.op (R.pickTB rfl rfl) (VL.nil (V.cond rfl (fun c26=>V.seq (V.region (VL.op (R.asB rfl) (VL.nil (V.ret (fret1 (v:=.bool _) rfl rfl rfl (⟨?_,E1.trans (e2.trans (e6_2.trans e6_8))⟩))))))) (fun c26=>V.skip (V.region (VL.op (R.mvI rfl) (VL.op (R.add rfl rfl (by omega) (by omega)) (VL.op (R.asI rfl) (VL.nil (⟨v+1,rfl,⟨by omega,fun u h=>?_,e2.trans (e6_2.trans e6_8)⟩,by omega⟩)))))))))))))))))) (fun g6_4=>VL.gF rfl rfl (VL.gF rfl rfl (VL.gF rfl rfl (VL.gF rfl rfl (VL.op (R.pickFB rfl rfl) (VL.nil (V.condF rfl (V.skip (V.region (VL.op (R.mvI rfl) (VL.op (R.add rfl rfl (by omega) (by omega)) (VL.op (R.asI rfl) (VL.nil (⟨v+1,rfl,⟨by omega,fun u h=>?_,e2.trans e6_2⟩,by omega⟩)))))))))))))))))))
  ·have h1:(v:Int)∉S:=by simpa using g6_4
   have h2:blkB (vals g.edges) S (v:Int)=false:=by rw [←hbl];simpa using c26
   have:isB (grV g) S=false:=Bool.eq_false_iff.2 fun hh=>by
    unfold isB at hh
    rw [hb,Bool.true_and,List.all_eq_true] at hh
    have:=hh v (List.mem_range.2 (by omega))
    rw [decide_eq_false h1,Bool.false_or] at this
    rw [show (grV g).edges=vals g.edges from rfl,h2] at this
    cases this
   rw [this]
  ·by_cases e:u=v
   ·subst e
    refine .inr ?_
    rw [←hbl];simpa using c26
   ·exact hu u (by omega)
  ·by_cases e:u=v
   ·subst e
    exact .inl (by simpa using g6_4)
   ·exact hu u (by omega)
 ·have:isB (grV g) S=true:=by
   unfold isB
   rw [hb,Bool.true_and,List.all_eq_true]
   intro v' hv'
   have hv':=List.mem_range.1 hv'
   rcases hu v' (by omega) with h | h
   ·rw [decide_eq_true h,Bool.true_or]
   ·rw [show (grV g).edges=vals g.edges from rfl,h,Bool.or_true]
  rw [this]
end Go.Proofs.YtdbcfpcicjgghaaGreatDoor

/- Repair: the reference: Extend, needed. -/
namespace Go.Proofs.YtdbcfpcicjgghaaGreatDoor
open Go.Vc
set_option maxRecDepth 100000
set_option maxHeartbeats 16000000
theorem vals_ex {E:List SlI} {e:List Int}:e∈vals E↔∃ i,i<E.length∧(E.getD i default).l=e:=by
 constructor
 ·intro h
  obtain ⟨y,hy,rfl⟩:=List.mem_map.1 h
  obtain ⟨i,hi,rfl⟩:=List.getElem_of_mem hy
  exact ⟨i,hi,by rw [gget hi]⟩
 ·rintro ⟨i,hi,rfl⟩
  exact List.mem_map_of_mem (gmem hi)
def needB (E:List (List Int)) (P:List Int) (v:Int):Bool:=E.any fun e=>decide (v∈e)&&e.all fun x=>decide (v≤x)||decide (x∈P)
theorem needB_iff {E:List (List Int)} {P:List Int} {v:Int}:needB E P v=true↔∃ e∈E,v∈e∧∀ x∈e,v≤x∨x∈P:=by
 unfold needB
 simp only [List.any_eq_true,Bool.and_eq_true,decide_eq_true_eq,List.all_eq_true,Bool.or_eq_true]
def ndK (e P:List Int) (v:Int) (k:Nat):Bool:=decide (v∈e)&&(e.take k).all fun x=>decide (v≤x)||decide (x∈P)
theorem ndK_succ {e P:List Int} {v:Int} {k:Nat} (h:k<e.length):ndK e P v (k+1)=(ndK e P v k&&(decide (v≤e.getD k default)||decide (e.getD k default∈P))):=by
 unfold ndK
 rw [List.take_succ_eq_append_getElem h,List.all_append,gget h,Bool.and_assoc]
 simp
theorem needed28_spec (g:GrW) (a:Option Addr) (c:Nat) (P:List Int) (v:Int) (w:World) (hG:GOk w g) (hl:GLen g) (hm:P.length≤100000) (hS:IntSl w a P) :
  RetsP Tryz.prog 103 #[.agg (encGr g).toArray,.slice a P.length c,.int .i64 v] w (.bool (needB (vals g.edges) P v)):=by
 have hle:=hl.e
 refine enter (args:=[_,_,_]) Tryz.func103 rfl Tryz.ntmps103 (by kernel_rfl) rfl ?_
 refine V.seq (V.region (VL.box (v:=.agg _) rfl fun b0_0 w0_0 hb0_0 e0_0 hB0_0=>VL.op (R.asB rfl) (VL.nil (V.seq (V.seq (V.region (VL.op (R.asI rfl) (VL.nil (V.block (?_))))))))))
 refine V.loop [1,2,3,7] (fun i:Nat=>[.slice a P.length c,.int .i64 v,.pointer (some ⟨b0_0,0,none⟩),.int .i64 (i:Nat)]) (fun i w'=>i≤g.edges.length∧(∀ j,j<i→ndK (g.edges.getD j default).l P v (g.edges.getD j default).l.length=false)∧Ext w0_0 w') (fun i=>g.edges.length-i) 0 rfl ⟨Nat.zero_le _,fun j h=>absurd h (Nat.not_lt_zero j),Vc.Mod.refl _ _⟩ ?_
 rintro ρ i w1 ⟨hi,hj,e1⟩
 have hX1:=hB0_0.ext e1
 have hE1:=(hG.ext (e0_0.trans e1)).e
 have hP1:=hS.ext (e0_0.trans e1)
 have hex:needB (vals g.edges) P v=true↔∃ j,j<g.edges.length∧ndK (g.edges.getD j default).l P v (g.edges.getD j default).l.length=true:=by
  have hnd:∀ e:List Int,ndK e P v e.length=true↔v∈e∧∀ x∈e,v≤x∨x∈P:=fun e=>by
   unfold ndK
   rw [List.take_length]
   simp only [Bool.and_eq_true,decide_eq_true_eq,List.all_eq_true,Bool.or_eq_true]
  rw [needB_iff]
  constructor
  ·rintro ⟨e,he,h⟩
   obtain ⟨j,hjl,rfl⟩:=vals_ex.1 he
   exact ⟨j,hjl,(hnd _).2 h⟩
  ·rintro ⟨j,hjl,h⟩
   exact ⟨_,vals_ex.2 ⟨j,hjl,rfl⟩,(hnd _).1 h⟩
 refine V.seq (V.seq (V.region (VL.op (R.mvI rfl) (VL.op (R.fld' (o:=2) Tryz.runUnderlying25 rfl rfl Tryz.sizeOf23 rfl rfl) (VL.op (R.ld1 Tryz.isAgg23 rfl ((show w1.cell? ⟨b0_0,2,none⟩=some (Value.slice g.ea g.edges.length g.ec) from hX1.cell 2))) (VL.op (R.lenS Tryz.runUnderlying23 rfl) (VL.op (R.lss rfl rfl) (VL.nil (V.condP rfl (fun c15=>V.skip (V.seq (V.block (V.seq (?_))))) (fun c15=>V.exit (V.seq (V.region (VL.op (R.asB rfl) (VL.nil (V.ret (fret1 (v:=.bool _) rfl rfl rfl (?_)))))))))))))))))
 ·have hil:i<g.edges.length:=by omega
  have hx1:=hE1.at hil
  have hxl:(g.edges.getD i default).l.length≤1000000:=(hl.each _ (gmem hil)).1
  refine V.region (VL.op (R.fld' (o:=2) Tryz.runUnderlying25 rfl rfl Tryz.sizeOf23 rfl rfl) (VL.op (R.ld1 Tryz.isAgg23 rfl ((show w1.cell? ⟨b0_0,2,none⟩=some (Value.slice g.ea g.edges.length g.ec) from hX1.cell 2))) (VL.op (R.mvI rfl) (VL.op (R.ixS Tryz.runUnderlying23 Tryz.sizeOf22 rfl rfl (by omega) (by omega) (hE1.sl.some (i:=i) hil)) (VL.op (R.ld1 Tryz.isAgg22 rfl (((hE1.sl.row (i:=i) hil).cell (i:=0) rfl))) (VL.op (R.mvI rfl) (VL.callP Tryz.call28 rfl (in_spec (g.edges.getD i default).a (g.edges.getD i default).c (g.edges.getD i default).l v _ (by omega) hx1) fun w4_6 e4_6=>VL.op (R.asB rfl) (VL.nil (V.seq (V.seq (?_)))))))))))
  refine V.region (VL.op (R.asI rfl) (VL.nil (V.block (?_))))
  refine V.loop [1,2,3,7,8,9] (fun k:Nat=>[.slice a P.length c,.int .i64 v,.pointer (some ⟨b0_0,0,none⟩),.int .i64 (i:Nat),.bool (ndK (g.edges.getD i default).l P v k),.int .i64 (k:Nat)]) (fun k w'=>k≤(g.edges.getD i default).l.length∧Ext w1 w') (fun k=>(g.edges.getD i default).l.length-k) 0 (by unfold ndK;rw [List.take_zero,List.all_nil,Bool.and_true];rfl) ⟨Nat.zero_le _,e4_6⟩ ?_
  rintro ρ2 k w2 ⟨hk,e2⟩
  have hX2:=hX1.ext e2
  have hE2:=hE1.ext e2
  have hx2:=hE2.at hil
  have hP2:=hP1.ext e2
  refine V.seq (V.seq (V.region (VL.op (R.mvI rfl) (VL.op (R.fld' (o:=2) Tryz.runUnderlying25 rfl rfl Tryz.sizeOf23 rfl rfl) (VL.op (R.ld1 Tryz.isAgg23 rfl ((show w2.cell? ⟨b0_0,2,none⟩=some (Value.slice g.ea g.edges.length g.ec) from hX2.cell 2))) (VL.op (R.mvI rfl) (VL.op (R.ixS Tryz.runUnderlying23 Tryz.sizeOf22 rfl rfl (by omega) (by omega) (hE2.sl.some (i:=i) hil)) (VL.op (R.ld1 Tryz.isAgg22 rfl (((hE2.sl.row (i:=i) hil).cell (i:=0) rfl))) (VL.op (R.lenS Tryz.runUnderlying22 rfl) (VL.op (R.lss rfl rfl) (VL.nil (V.condP rfl (fun c32=>V.skip (V.seq (V.block (V.seq (?_))))) (fun c32=>V.exit (V.seq (?_)))))))))))))))
  ·have hkl:k<(g.edges.getD i default).l.length:=by omega
   have hsu:=ndK_succ (P:=P) (v:=v) hkl
   obtain ⟨nd,hnd⟩:∃ nd,nd=ndK (g.edges.getD i default).l P v k:=⟨_,rfl⟩
   rw [←hnd] at hsu ⊢
   cases nd with
   | false =>
    refine V.region (VL.op (R.fld' (o:=2) Tryz.runUnderlying25 rfl rfl Tryz.sizeOf23 rfl rfl) (VL.op (R.ld1 Tryz.isAgg23 rfl ((show w2.cell? ⟨b0_0,2,none⟩=some (Value.slice g.ea g.edges.length g.ec) from hX2.cell 2))) (VL.op (R.mvI rfl) (VL.op (R.ixS Tryz.runUnderlying23 Tryz.sizeOf22 rfl rfl (by omega) (by omega) (hE2.sl.some (i:=i) hil)) (VL.op (R.ld1 Tryz.isAgg22 rfl (((hE2.sl.row (i:=i) hil).cell (i:=0) rfl))) (VL.op (R.mvI rfl) (VL.op (R.ixS Tryz.runUnderlying22 Tryz.sizeOf3 rfl rfl (by omega) (by omega) (hx2.some (i:=k) hkl)) (VL.op (R.ld1 Tryz.isAgg3 rfl (((hx2.row (i:=k) hkl).cell (i:=0) rfl))) (VL.op (R.asI rfl) (VL.nil (V.region (VL.op (R.mvB rfl) (VL.op (R.mvB rfl) (VL.gF rfl rfl (VL.gF rfl rfl (VL.gF rfl rfl (VL.gF rfl rfl (VL.gU rfl rfl (VL.gU rfl rfl (VL.gU rfl rfl (VL.gF rfl rfl (VL.op (R.pickFB rfl rfl) (VL.op (R.asB rfl) (VL.nil (V.region (VL.op (R.mvI rfl) (VL.op (R.add rfl rfl (by omega) (by omega)) (VL.op (R.asI rfl) (VL.nil (⟨k+1,by rw [hsu];rfl,⟨by omega,e2.trans (Mod.refl _ _)⟩,by omega⟩))))))))))))))))))))))))))))))
   | true =>
    refine V.region (VL.op (R.fld' (o:=2) Tryz.runUnderlying25 rfl rfl Tryz.sizeOf23 rfl rfl) (VL.op (R.ld1 Tryz.isAgg23 rfl ((show w2.cell? ⟨b0_0,2,none⟩=some (Value.slice g.ea g.edges.length g.ec) from hX2.cell 2))) (VL.op (R.mvI rfl) (VL.op (R.ixS Tryz.runUnderlying23 Tryz.sizeOf22 rfl rfl (by omega) (by omega) (hE2.sl.some (i:=i) hil)) (VL.op (R.ld1 Tryz.isAgg22 rfl (((hE2.sl.row (i:=i) hil).cell (i:=0) rfl))) (VL.op (R.mvI rfl) (VL.op (R.ixS Tryz.runUnderlying22 Tryz.sizeOf3 rfl rfl (by omega) (by omega) (hx2.some (i:=k) hkl)) (VL.op (R.ld1 Tryz.isAgg3 rfl (((hx2.row (i:=k) hkl).cell (i:=0) rfl))) (VL.op (R.asI rfl) (VL.nil (V.region (VL.op (R.mvB rfl) (VL.op (R.mvB rfl) (VL.gT rfl rfl (VL.op (R.mvI rfl) (VL.gT rfl rfl (VL.op (R.mvI rfl) (VL.gT rfl rfl (VL.op (R.geq rfl rfl) (VL.gT rfl rfl (VL.op (R.mvB rfl) (VL.orP rfl rfl (fun g9_5=>VL.op (R.mvS rfl) (VL.gT rfl rfl (VL.op (R.mvI rfl) (VL.gT rfl rfl (VL.callP Tryz.call28 rfl (in_spec a c P ((g.edges.getD i default).l.getD k default) _ (by omega) hP2) fun w9_8 e9_8=>VL.gT rfl rfl (VL.op (R.pickFB rfl rfl) (VL.op (R.pickTB rfl rfl) (VL.op (R.asB rfl) (VL.nil (V.region (VL.op (R.mvI rfl) (VL.op (R.add rfl rfl (by omega) (by omega)) (VL.op (R.asI rfl) (VL.nil (⟨k+1,?_,⟨by omega,e2.trans e9_8⟩,by omega⟩))))))))))))))) (fun g9_5=>VL.gF rfl rfl (VL.gF rfl rfl (VL.gT rfl rfl (VL.op (R.pickTB rfl rfl) (VL.op (R.pickTB rfl rfl) (VL.op (R.asB rfl) (VL.nil (V.region (VL.op (R.mvI rfl) (VL.op (R.add rfl rfl (by omega) (by omega)) (VL.op (R.asI rfl) (VL.nil (⟨k+1,?_,⟨by omega,e2.trans (Mod.refl _ _)⟩,by omega⟩)))))))))))))))))))))))))))))))))))
    ·rw [hsu,Bool.true_and,decide_eq_false g9_5,Bool.false_or];rfl
    ·rw [hsu,Bool.true_and,decide_eq_true g9_5,Bool.true_or];rfl
  ·have hke:k=(g.edges.getD i default).l.length:=by omega
   subst hke
   refine V.region (VL.op (R.mvB rfl) (VL.nil (V.cond rfl (fun c54=>V.seq (V.region (VL.op (R.asB rfl) (VL.nil (V.ret (fret1 (v:=.bool _) rfl rfl rfl (⟨?_,(e0_0.trans e1).trans e2⟩))))))) (fun c54=>V.skip (V.region (VL.op (R.mvI rfl) (VL.op (R.add rfl rfl (by omega) (by omega)) (VL.op (R.asI rfl) (VL.nil (⟨i+1,rfl,⟨by omega,fun j h=>?_,e1.trans e2⟩,by omega⟩))))))))))
   ·rw [hex.2 ⟨i,hil,by assumption⟩]
   ·by_cases e:j=i
    ·subst e;assumption
    ·exact hj j (by omega)
 ·have hie:i=g.edges.length:=by omega
  subst hie
  refine ⟨?_,e0_0.trans e1⟩
  have:needB (vals g.edges) P v=false:=Bool.eq_false_iff.2 fun hh=>by
   obtain ⟨j,h1,h2⟩:=hex.1 hh
   rw [hj j h1] at h2;cases h2
  rw [this]
end Go.Proofs.YtdbcfpcicjgghaaGreatDoor

/- Repair: the reference: all. -/
namespace Go.Proofs.YtdbcfpcicjgghaaGreatDoor
open Go.Vc
def allR (g:Gr) (N:Nat):Nat→List Int→List (List Int)
 | 0,P=>if isB g P=true then [P] else []
 | f+1,P=>(if blkB g.edges P ((N-(f+1):Nat):Int)=true then [] else allR g N f (P++[((N-(f+1):Nat):Int)]))++if needB g.edges P ((N-(f+1):Nat):Int)=true then allR g N f P else []
theorem allR_mem {g:Gr} (hg:validG g=true) {N:Nat} (hN:g.n=(N:Int)):∀ (f:Nat),f≤N→∀ P,setB P ((N-f:Nat):Int)=true→∀ R,R∈allR g N f P↔IsRep g R∧below R (N-f)=P:=by
 intro f
 induction f with
 | zero =>
  intro _ P hP R
  have hall:∀ {Q:List Int},IsRep g Q→below Q (N-0)=Q:=fun h=>below_all fun x hx=>by have:=(setB_iff.1 h.set).2 x hx;omega
  unfold allR
  by_cases h:isB g P=true
  ·rw [if_pos h,List.mem_singleton]
   have hr:=(isB_iff hg).1 h
   constructor
   ·rintro rfl;exact ⟨hr,hall hr⟩
   ·rintro ⟨h1,h2⟩;rw [←h2,hall h1]
  ·rw [if_neg h]
   constructor
   ·intro h;cases h
   ·rintro ⟨h1,h2⟩
    rw [hall h1] at h2
    rw [←h2] at h
    exact absurd ((isB_iff hg).2 h1) h
 | succ f ih =>
  intro hf P hP R
  obtain ⟨v,hv⟩:∃ v,v=N-(f+1):=⟨_,rfl⟩
  have hv1:N-f=v+1:=by omega
  have hPs:=setB_iff.1 hP
  rw [←hv] at hPs ⊢
  have hP1:setB P ((v+1:Nat):Int)=true:=setB_iff.2 ⟨hPs.1,fun x hx=>by have:=hPs.2 x hx;omega⟩
  have hP2:setB (P++[(v:Int)]) ((v+1:Nat):Int)=true:=setB_iff.2 ⟨List.pairwise_append.2 ⟨hPs.1,List.pairwise_singleton _ _,fun x hx y hy=>by rw [List.mem_singleton.1 hy];exact (hPs.2 x hx).2⟩,fun x hx=>by
   rcases List.mem_append.1 hx with h | h
   ·have:=hPs.2 x h;omega
   ·rw [List.mem_singleton.1 h];omega⟩
  have i1:=ih (by omega) P (by rw [hv1];exact hP1) R
  have i2:=ih (by omega) (P++[(v:Int)]) (by rw [hv1];exact hP2) R
  rw [hv1] at i1 i2
  unfold allR
  rw [←hv,List.mem_append]
  have hvP:(v:Int)∉P:=fun h=>by have:=(hPs.2 _ h).2;omega
  constructor
  ·rintro (h | h)
   ·split at h
    ·cases h
    ·obtain ⟨h1,h2⟩:=i2.1 h
     refine ⟨h1,?_⟩
     have hvR:(v:Int)∈R:=by
      have:(v:Int)∈below R (v+1):=by rw [h2];simp
      exact (below_mem.1 this).1
     rw [below_in (setB_iff.1 h1.set).1 hvR] at h2
     exact (List.append_inj_left' h2 rfl)
   ·split at h
    ·obtain ⟨h1,h2⟩:=i1.1 h
     refine ⟨h1,?_⟩
     have hvR:(v:Int)∉R:=fun hh=>hvP (by rw [←h2];exact below_mem.2 ⟨hh,by omega⟩)
     rw [←h2]
     exact (below_out hvR).symm
    ·cases h
  ·rintro ⟨h1,h2⟩
   by_cases hvR:(v:Int)∈R
   ·refine .inl ?_
    have hb:blkB g.edges P (v:Int)=false:=by
     rw [←Bool.not_eq_true]
     intro hb
     have:=ind_blk (S:=R) (fun x hx=>by rw [←h2] at hx;exact (below_mem.1 hx).1) hvR hb
     rw [indB_iff.2 h1.free] at this
     cases this
    rw [hb,if_neg (by decide)]
    exact i2.2 ⟨h1,by rw [below_in (setB_iff.1 h1.set).1 hvR,h2]⟩
   ·refine .inr ?_
    have hn:needB g.edges P (v:Int)=true:=by
     obtain ⟨e,he,hve,hall⟩:=h1.max v (by omega) (by omega) hvR
     refine needB_iff.2 ⟨e,he,hve,fun x hx=>?_⟩
     by_cases hxv:(v:Int)≤x
     ·exact .inl hxv
     ·exact .inr (by rw [←h2];exact below_mem.2 ⟨hall x hx (by omega),by omega⟩)
    rw [hn,if_pos rfl]
    exact i1.2 ⟨h1,by rw [below_out hvR,h2]⟩
theorem allR_up {g:Gr} (hg:validG g=true) {N:Nat} (hN:g.n=(N:Int)):∀ (f:Nat),f≤N→∀ P,setB P ((N-f:Nat):Int)=true→Up lexB (allR g N f P):=by
 intro f
 induction f with
 | zero =>
  intro _ P _
  unfold allR
  split
  ·exact List.pairwise_singleton _ _
  ·exact List.Pairwise.nil
 | succ f ih =>
  intro hf P hP
  obtain ⟨v,hv⟩:∃ v,v=N-(f+1):=⟨_,rfl⟩
  have hv1:N-f=v+1:=by omega
  have hPs:=setB_iff.1 hP
  rw [←hv] at hPs
  have hP1:setB P ((N-f:Nat):Int)=true:=setB_iff.2 ⟨hPs.1,fun x hx=>by have:=hPs.2 x hx;omega⟩
  have hP2:setB (P++[(v:Int)]) ((N-f:Nat):Int)=true:=setB_iff.2 ⟨List.pairwise_append.2 ⟨hPs.1,List.pairwise_singleton _ _,fun x hx y hy=>by rw [List.mem_singleton.1 hy];exact (hPs.2 x hx).2⟩,fun x hx=>by
   rcases List.mem_append.1 hx with h | h
   ·have:=hPs.2 x h;omega
   ·rw [List.mem_singleton.1 h];omega⟩
  have hvP:(v:Int)∉P:=fun h=>by have:=(hPs.2 _ h).2;omega
  unfold allR
  rw [←hv]
  refine List.pairwise_append.2 ⟨?_,?_,fun x hx y hy=>?_⟩
  ·split
   ·exact List.Pairwise.nil
   ·exact ih (by omega) _ hP2
  ·split
   ·exact ih (by omega) _ hP1
   ·exact List.Pairwise.nil
  ·split at hx
   ·cases hx
   ·split at hy
    ·obtain ⟨h1,h2⟩:=(allR_mem hg hN f (by omega) _ hP2 x).1 hx
     obtain ⟨h3,h4⟩:=(allR_mem hg hN f (by omega) _ hP1 y).1 hy
     rw [hv1] at h2 h4
     have hvx:(v:Int)∈x:=(below_mem.1 (show (v:Int)∈below x (v+1) by rw [h2];simp)).1
     have hvy:(v:Int)∉y:=fun hh=>hvP (by rw [←h4];exact below_mem.2 ⟨hh,by omega⟩)
     rcases lex_first (setB_iff.1 h1.set).1 (setB_iff.1 h3.set).1 hvx hvy (fun z hz=>by
      have a1:z∈x↔z∈below x (v+1):=by rw [below_mem];exact ⟨fun h=>⟨h,by omega⟩,fun h=>h.1⟩
      have a2:z∈y↔z∈below y (v+1):=by rw [below_mem];exact ⟨fun h=>⟨h,by omega⟩,fun h=>h.1⟩
      rw [a1,a2,h2,h4,List.mem_append,List.mem_singleton]
      exact ⟨fun h=>h.resolve_right (by omega),.inl⟩) with h | h
     ·exact h
     ·have:=rep_anti h3 h1 h
      rw [this] at hvy
      exact absurd hvx hvy
    ·cases hy
theorem allR_reps {g:Gr} (hg:validG g=true) {N:Nat} (hN:g.n=(N:Int)):allR g N N []=repsG g:=by
 have hs:setB [] ((N-N:Nat):Int)=true:=setB_iff.2 ⟨List.Pairwise.nil,fun x hx=>nomatch hx⟩
 refine Up.ext lexB_sto (allR_up hg hN N (Nat.le_refl _) [] hs) (reps_up hg) fun R=>?_
 rw [allR_mem hg hN N (Nat.le_refl _) [] hs,reps_mem hg,Nat.sub_self]
 refine and_iff_left_of_imp fun h=>List.filter_eq_nil_iff.2 fun x hx=>?_
 have:=(setB_iff.1 h.set).2 x hx
 simp
 omega
end Go.Proofs.YtdbcfpcicjgghaaGreatDoor

/- Repair: the walk of the reference's all. -/
namespace Go.Proofs.YtdbcfpcicjgghaaGreatDoor
open Go.Vc
set_option maxRecDepth 100000
set_option maxHeartbeats 16000000
structure AlE (w:World) (x:SlI):Prop where
 s:IntSl w x.a x.l
 t:TyA w x.a 3
 h:x.a=none→x.c=0
theorem AlE.ext {w w':World} {x:SlI} (h:AlE w x) (e:Ext w w'):AlE w' x:=⟨h.s.ext e,h.t.ext e,h.h⟩
theorem AlE.mod {w w':World} {x:SlI} {a:Option Addr} (h:AlE w x) (ht:TyA w a 22) (m:Vc.Mod (aBlk a) w w'):AlE w' x:=by
 have key:∀ k,aBlk x.a k→¬aBlk a k:=fun k hk hk2=>by
  obtain ⟨ad,ha,hb⟩:=hk2
  obtain ⟨c,z,hB⟩:=ht ad ha
  exact h.t.apart (hb▸hB) (by decide) hk
 exact ⟨h.s.mod m fun ad e=>key _ ⟨ad,e,rfl⟩,h.t.mod m key,h.h⟩
structure AlR (B:Nat) (w:World) (y:List SlI×Option Addr×Nat) (L:List (List Int)):Prop where
 o:OwnT encSl 1 22 B w y.2.1 y.2.2 y.1
 e:∀ x∈y.1,AlE w x
 v:vals y.1=L
theorem AlR.ext {B:Nat} {w w':World} {y:List SlI×Option Addr×Nat} {L:List (List Int)} (h:AlR B w y L) (e:Ext w w'):AlR B w' y L:=⟨h.o.ext e,fun x hx=>(h.e x hx).ext e,h.v⟩
theorem AlR.weaken {B B':Nat} {w:World} {y:List SlI×Option Addr×Nat} {L:List (List Int)} (h:AlR B w y L) (hB:B'≤B):AlR B' w y L:=⟨h.o.weaken hB,h.e,h.v⟩
theorem AlR.nil (B:Nat) (w:World):AlR B w ([],none,0) []:=⟨OwnT.nil _ _ _ _ _,fun _ h=>(nomatch h),rfl⟩
theorem AlR.len {B:Nat} {w:World} {y:List SlI×Option Addr×Nat} {L:List (List Int)} (h:AlR B w y L):y.1.length=L.length:=by rw [←h.v];exact (List.length_map _).symm
theorem reps_sper {g:Gr} {N:Nat} (hN:g.n=(N:Int)) (h12:N≤12) {L:List (List Int)} (hu:Up lexB L) (hL:∀ R∈L,IsRep g R):L.length≤924:=by
 refine sper12 (List.Pairwise.imp (fun {a b} h e=>?_) hu) (fun x hx=>?_) fun x hx y hy=>rep_anti (hL x hx) (hL y hy)
 ·subst e;rw [lexB_sto.irr] at h;cases h
 ·have:=setB_iff.1 (hL x hx).set
  exact ⟨this.1,fun v hv=>by have:=this.2 v hv;omega⟩
theorem allR_sper {g:Gr} (hg:validG g=true) {N:Nat} (hN:g.n=(N:Int)) (h12:N≤12) (f:Nat) (hf:f≤N) (P:List Int) (hP:setB P ((N-f:Nat):Int)=true):(allR g N f P).length≤924 :=
 reps_sper hN h12 (allR_up hg hN f hf P hP) fun R hR=>((allR_mem hg hN f hf P hP R).1 hR).1
theorem all28_spec (g:GrW) (N:Nat) (hl:GLen g) (hv:validG (grV g)=true) (hN:g.n=(N:Int)) (hN12:N≤12):∀ (f v:Nat),v+f=N→∀ (a:Option Addr) (c:Nat) (P:List Int) (w:World),GOk w g→IntSl w a P→TyA w a 3→(a=none→c=0)→setB P (v:Int)=true→indB (vals g.edges) P=true →
  RetsX Tryz.prog 66 #[.agg (encGr g).toArray,.slice a P.length c,.int .i64 (v:Nat)] w (fun y:List SlI×Option Addr×Nat=>.slice y.2.1 y.1.length y.2.2) (fun y w'=>AlR w.heap.size w' y (allR (grV g) N f P)):=by
 have hgn:(grV g).n=g.n:=rfl
 intro f
 induction f with
 | zero =>
  intro v hvf a c P w hG hS hTy hax hP hind
  have hPs:=setB_iff.1 hP
  have hpl:=set_len hPs.1 hPs.2 (by omega)
  refine enter (args:=[_,_,_]) Tryz.func66 rfl Tryz.ntmps66 (by kernel_rfl) rfl ?_
  refine V.seq (V.region (VL.box (v:=.agg _) rfl fun b0_0 w0_0 hb0_0 e0_0 hB0_0=>VL.op (R.asS rfl) (VL.nil (V.seq (V.seq (V.region (VL.op (R.mvI rfl) (VL.op (R.fld' (o:=0) Tryz.runUnderlying25 rfl rfl Tryz.sizeOf3 rfl rfl) (VL.op (R.ld1 Tryz.isAgg3 rfl ((show w0_0.cell? ⟨b0_0,0,none⟩=some (Value.int .i64 ((N:Nat):Int)) from by rw [←hN];exact hB0_0.cell 0))) (VL.op (R.lit (R.eql rfl rfl) ((decide_eq_true (by omega)))) (VL.nil (V.condT rfl (V.seq (V.seq (V.region (VL.op (R.ldA Tryz.isAgg25 Tryz.sizeOf25 rfl rfl ((show RowAt _ _ _ (encGr g) from (hB0_0.rowAt 0 3))) rfl) (VL.op (R.mvS rfl) (VL.callP Tryz.call34 rfl (ris28_spec g a c P _ (hG.ext e0_0) hl (by omega) hax (hS.ext e0_0)) fun w2_2 e2_2=>VL.nil (V.cond rfl (fun c14=>V.seq (V.region (VL.op (R.mvS rfl) (VL.buildSl Tryz.runUnderlying23 Tryz.sizeOf22 Tryz.zeroValue22 rfl rfl rfl fun b3_1 w3_1 hb3_1 e3_1 hB3_1=>VL.op (R.asS rfl) (VL.nil (V.ret (fret1 (v:=.slice _ _ _) rfl rfl rfl (?_)))))))) (fun c14=>V.skip (V.seq (V.region (VL.op (R.asS rfl) (VL.nil (V.ret (fret1 (v:=.slice _ _ _) rfl rfl rfl (?_)))))))))))))))))))))))))))
  ·have E3:Ext w w3_1:=e0_0.trans (e2_2.trans e3_1)
   refine ⟨([⟨a,c,P⟩],some ⟨b3_1,0,none⟩,1),rfl,⟨?_,fun x hx=>by rw [List.mem_singleton.1 hx];exact ⟨hS.ext E3,hTy.ext E3,hax⟩,?_⟩,E3⟩
   ·exact OwnT.of_blk (l:=[(⟨a,c,P⟩:SlI)]) hB3_1 (by rw [hb3_1];exact (e0_0.trans e2_2).size) rfl (fun r hr=>by obtain ⟨x,_,rfl⟩:=List.mem_map.1 hr;rfl) (by show 1≤maxLen;decide)
   ·unfold allR
    rw [if_pos (by assumption)]
    rfl
  ·refine ⟨([],none,0),rfl,⟨OwnT.nil _ _ _ _ _,fun _ h=>(nomatch h),?_⟩,e0_0.trans e2_2⟩
   unfold allR
   rw [if_neg (by simp_all)]
   rfl
 | succ f ih =>
  intro v hvf a c P w hG hS hTy hax hP hind
  have hPs:=setB_iff.1 hP
  have hpl:=set_len hPs.1 hPs.2 (by omega)
  have hvN:N-(f+1)=v:=by omega
  have hbl:(!freeF (vals g.edges) (setF (P++[(v:Int)])))=blkB (vals g.edges) P (v:Int):=blkR_eq hv hPs.1 hind (v:Int)
  have hset:setF (P++[(v:Int)])=P++[(v:Int)]:=setF_id (List.pairwise_append.2 ⟨hPs.1,List.pairwise_singleton _ _,fun x hx y hy=>by rw [List.mem_singleton.1 hy];exact (hPs.2 x hx).2⟩)
  have hP1:setB P ((v+1:Nat):Int)=true:=setB_iff.2 ⟨hPs.1,fun x hx=>by have:=hPs.2 x hx;omega⟩
  have hP2:setB (P++[(v:Int)]) ((v+1:Nat):Int)=true:=setB_iff.2 ⟨by rw [←hset];exact setF_inc _,fun x hx=>by
   rcases List.mem_append.1 hx with h | h
   ·have:=hPs.2 x h;omega
   ·rw [List.mem_singleton.1 h];omega⟩
  have hlen1:=allR_sper hv hN hN12 f (by omega) (P++[(v:Int)]) (by rw [show N-f=v+1 by omega];exact hP2)
  have hlen2:=allR_sper hv hN hN12 f (by omega) P (by rw [show N-f=v+1 by omega];exact hP1)
  refine enter (args:=[_,_,_]) Tryz.func66 rfl Tryz.ntmps66 (by kernel_rfl) rfl ?_
  refine V.seq (V.region (VL.box (v:=.agg _) rfl fun b0_0 w0_0 hb0_0 e0_0 hB0_0=>VL.op (R.asS rfl) (VL.nil (V.seq (V.seq (V.region (VL.op (R.mvI rfl) (VL.op (R.fld' (o:=0) Tryz.runUnderlying25 rfl rfl Tryz.sizeOf3 rfl rfl) (VL.op (R.ld1 Tryz.isAgg3 rfl ((show w0_0.cell? ⟨b0_0,0,none⟩=some (Value.int .i64 ((N:Nat):Int)) from by rw [←hN];exact hB0_0.cell 0))) (VL.op (R.lit (R.eql rfl rfl) ((decide_eq_false (by omega)))) (VL.nil (V.condF rfl (V.skip (V.seq (V.region (VL.op (R.asS rfl) (VL.nil (V.cut [1,2,3,7] (fun y:List SlI×Option Addr×Nat=>[.slice a P.length c,.int .i64 (v:Nat),.pointer (some ⟨b0_0,0,none⟩),.slice y.2.1 y.1.length y.2.2]) (fun y w'=>AlR w.heap.size w' y (if blkB (vals g.edges) P (v:Int)=true then [] else allR (grV g) N f (P++[(v:Int)]))∧Ext w0_0 w') (V.seq (V.region (VL.op (R.ldA Tryz.isAgg25 Tryz.sizeOf25 rfl rfl ((show RowAt _ _ _ (encGr g) from (hB0_0.rowAt 0 3))) rfl) (VL.op (R.mvS rfl) (VL.op (R.mvI rfl) (VL.callP Tryz.call53 rfl (blocked28_spec g a c P (v:Int) _ (hG.ext e0_0) hl (by omega) hax (hS.ext e0_0)) fun w6_3 e6_3=>VL.op (R.not rfl) (VL.nil (V.cond rfl (fun c21=>?_) (fun c21=>V.skip (?_)))))))))) (fun rgC21 xC21 wBC21 hBC21=>V.seq (V.seq (?_)))))))))))))))))))))
  ·have hb:blkB (vals g.edges) P (v:Int)=false:=by rw [←hbl];simpa using c21
   have hX6:Blk w6_3 b0_0 (.cells (Value.agg (encGr g).toArray).cells 25 (0,0)):=hB0_0.ext e6_3
   have E6:=e0_0.trans e6_3
   refine V.regionD (T:=Ext) mixed 6 (by kernel_rfl) rfl (fun us=>VD.op (fun wq eq=>R.ldA Tryz.isAgg25 Tryz.sizeOf25 rfl rfl ((show RowAt _ _ _ (encGr g) from (hX6.ext eq).rowAt 0 3)) rfl) (VD.op (fun wq eq=>R.mvS rfl) (VD.op (fun wq eq=>R.mvI rfl) (VD.callX (fun _=>fun u w'=>∃ x:Option Addr×Nat,u=.slice x.1 (setF (P++[(v:Int)])).length x.2∧AlE w' ⟨x.1,x.2,setF (P++[(v:Int)])⟩) (DepS.const _) (fun u a b _ ⟨x,h1,h2⟩ eb=>⟨x,h1,h2.ext eb⟩) Tryz.call87 rfl (fun wq eq hq=>by
     refine Rets.mono (put28_spec a c P (v:Int) wq (by omega) hax (hS.ext (E6.trans eq))) ?_
     rintro u w' ⟨x,hu,h1,he⟩
     exact ⟨⟨x,hu,OwnT.sl h1,OwnT.tyA h1,OwnT.hax h1⟩,he⟩) (VD.op (fun wq eq=>R.mvI rfl) (VD.op (fun wq eq=>R.add rfl rfl (by omega) (by omega)) (VD.nil (fun w7 e7 h7=>?_)))))))) rfl
   obtain ⟨x,hx,hxe⟩:=h7 3
   rw [hx]
   refine VL.callX Tryz.call66 rfl (ih (v+1) (by omega) x.1 x.2 (setF (P++[(v:Int)])) w7 (hG.ext (E6.trans e7)) hxe.s hxe.t hxe.h (by rw [hset];exact hP2) (by rw [hset];exact ind_snoc hind hb)) fun z8 w8 h8 e8=>VL.op (R.asS rfl) (VL.nil (?_))
   rw [hset] at h8
   refine ⟨z8,rfl,?_,e6_3.trans (e7.trans e8)⟩
   rw [hb,if_neg (by decide)]
   exact h8.weaken (E6.trans e7).size
  ·have hb:blkB (vals g.edges) P (v:Int)=true:=by rw [←hbl];simpa using c21
   refine ⟨([],none,0),rfl,?_,e6_3⟩
   rw [hb,if_pos rfl]
   exact AlR.nil _ _
  ·obtain ⟨h7,e7⟩:=hBC21
   obtain ⟨y7,hy7⟩:∃ y,y=xC21:=⟨_,rfl⟩
   obtain ⟨w7,hw7⟩:∃ w,w=wBC21:=⟨_,rfl⟩
   rw [←hy7] at h7 ⊢
   rw [←hw7] at h7 e7 ⊢
   have hX7:Blk w7 b0_0 (.cells (Value.agg (encGr g).toArray).cells 25 (0,0)):=hB0_0.ext e7
   have E7:=e0_0.trans e7
   have hl7:=h7.len
   have hle7:y7.1.length≤924:=by
    rw [hl7]
    split
    ·exact Nat.zero_le _
    ·omega
   refine V.region (VL.op (R.mvS rfl) (VL.op (R.lenS Tryz.runUnderlying23 rfl) (VL.op (R.lit (R.leq rfl rfl) ((decide_eq_true (by omega)))) (VL.op (R.mvB rfl) (VL.gT rfl rfl (VL.op (R.ldA Tryz.isAgg25 Tryz.sizeOf25 rfl rfl ((show RowAt _ _ _ (encGr g) from hX7.rowAt 0 3)) rfl) (VL.gT rfl rfl (VL.op (R.mvS rfl) (VL.gT rfl rfl (VL.op (R.mvI rfl) (VL.gT rfl rfl (VL.callP Tryz.call103 rfl (needed28_spec g a c P (v:Int) _ (hG.ext E7) hl (by omega) (hS.ext E7)) fun w8_7 e8_7=>VL.op (R.pickTB rfl rfl) (VL.nil (V.cond rfl (fun c37=>?_) (fun c37=>V.skip (V.seq (V.region (VL.op (R.mvS rfl) (VL.op (R.asS rfl) (VL.nil (V.ret (fret1 (v:=.slice _ _ _) rfl rfl rfl (?_)))))))))))))))))))))))
   ·have hX8:=hX7.ext e8_7
    have E8:=E7.trans e8_7
    have h8:=h7.ext e8_7
    refine V.region (VL.op (R.mvS rfl) (VL.op (R.ldA Tryz.isAgg25 Tryz.sizeOf25 rfl rfl ((show RowAt _ _ _ (encGr g) from hX8.rowAt 0 3)) rfl) (VL.op (R.mvS rfl) (VL.op (R.mvI rfl) (VL.op (R.add rfl rfl (by omega) (by omega)) (VL.callX Tryz.call66 rfl (ih (v+1) (by omega) a c P w8_7 (hG.ext E8) (hS.ext E8) (hTy.ext E8) hax hP1 hind) fun z9 w9 h9 e9=>VL.appendT el23 (fun _=>rfl) rfl (rfl) ((h8.o.ext e9)) rfl (rfl) ((OwnT.sl h9.o)) ((OwnT.hax h9.o)) (by have:=h9.len;omega) (by have:=h9.len;simp [maxLen];omega) (E8.trans e9).size (show y7.1.length+z9.1.length=(y7.1++z9.1).length by simp) fun a10 c10 w10 ho10 m10 hf10=>VL.op (R.asS rfl) (VL.nil (V.seq (?_)))))))))
    refine V.region (VL.op (R.mvS rfl) (VL.op (R.asS rfl) (VL.nil (V.ret (fret1 (v:=.slice _ _ _) rfl rfl rfl (?_))))))
    refine ⟨(y7.1++z9.1,a10,c10),rfl,⟨ho10,fun x hx=>?_,?_⟩,(E8.trans e9).ownA m10 fun q hq=>h8.o.ge q hq⟩
    ·have ht:TyA w9 y7.2.1 22:=(OwnT.tyA h8.o).ext e9
     rcases List.mem_append.1 hx with h | h
     ·exact ((h8.e x h).ext e9).mod ht m10
     ·exact (h9.e x h).mod ht m10
    ·unfold allR
     rw [hvN,show (grV g).edges=vals g.edges from rfl,c37,if_pos rfl,←h8.v,←h9.v]
     exact List.map_append
   ·refine ⟨y7,rfl,⟨(h7.ext e8_7).o,(h7.ext e8_7).e,?_⟩,E7.trans e8_7⟩
    unfold allR
    rw [hvN,show (grV g).edges=vals g.edges from rfl,c37]
    simp only [Bool.false_eq_true,if_false,List.append_nil]
    exact h7.v
end Go.Proofs.YtdbcfpcicjgghaaGreatDoor

/- Repair: the reference: Sorted (of a list in order), List. -/
namespace Go.Proofs.YtdbcfpcicjgghaaGreatDoor
open Go.Vc
set_option maxRecDepth 100000
set_option maxHeartbeats 16000000
theorem sorted28_spec (a:Option Addr) (c:Nat) (L:List SlI) (w:World) (hax:a=none→c=0) (hL:LL w a L) (hm:L.length≤100000) (hx:∀ x∈L,x.l.length≤1000000) (hup:Up lexB (vals L)) :
  RetsX Tryz.prog 67 #[.slice a L.length c] w (fun x:Option Addr×Nat=>.slice x.1 L.length x.2) (fun x w'=>OwnT encSl 1 22 w.heap.size w' x.1 x.2 L):=by
 refine enter (args:=[_]) Tryz.func67 rfl Tryz.ntmps67 (by kernel_rfl) rfl ?_
 refine V.seq (V.region (VL.op (R.asS rfl) (VL.nil (V.seq (V.region (VL.buildSl Tryz.runUnderlying23 Tryz.sizeOf22 Tryz.zeroValue22 rfl rfl rfl fun b1 w1 hb1 e1 hB1=>VL.op (R.mvS rfl) (VL.appendT el23 (fun _=>rfl) rfl (rfl) ((OwnT.of0 encSl 1 hB1 (Nat.le_of_eq hb1.symm))) rfl (rfl) ((hL.sl.ext e1)) (hax) (by simp;omega) (by simp [maxLen];omega) e1.size (show 0+L.length=([]++L:List SlI).length by simp) fun a2 c2 w2 ho2 m2 hf2=>VL.op (R.asS rfl) (VL.nil (V.seq (V.seq (?_)))))))))))
 rw [List.nil_append] at ho2 ⊢
 have E2:Ext w w2:=e1.ownA m2 fun q hq=>by have:=aBlk_some hq;omega
 have hL2:LL w2 a2 L:=⟨OwnT.sl ho2,fun x hx=>(hL.each x hx).ext E2⟩
 refine V.region (VL.op (R.asI rfl) (VL.nil (V.block (?_))))
 refine V.loop [3,4] (fun i:Nat=>[.slice a2 L.length c2,.int .i64 (i:Nat)]) (fun i w'=>1≤i∧i≤L.length+1∧Ext w2 w') (fun i=>L.length+1-i) 1 rfl ⟨Nat.le_refl _,by omega,Vc.Mod.refl _ _⟩ ?_
 rintro ρ i w3 ⟨hi1,hi,e3⟩
 have hL3:=hL2.ext e3
 refine V.seq (V.seq (V.region (VL.op (R.mvI rfl) (VL.op (R.mvS rfl) (VL.op (R.lenS Tryz.runUnderlying23 rfl) (VL.op (R.lss rfl rfl) (VL.nil (V.condP rfl (fun c13=>V.skip (V.seq (V.block (V.seq (?_))))) (fun c13=>V.exit (V.seq (V.region (VL.op (R.mvS rfl) (VL.op (R.asS rfl) (VL.nil (V.ret (fret1 (v:=.slice _ _ _) rfl rfl rfl (⟨(a2,c2),rfl,ho2.ext e3,E2.trans e3⟩)))))))))))))))))
 have hil:i<L.length:=by omega
 refine V.region (VL.op (R.mvI rfl) (VL.op (R.asI rfl) (VL.nil (V.block (?_)))))
 refine V.loop [3,4,5] (fun _:Unit=>[.slice a2 L.length c2,.int .i64 (i:Nat),.int .i64 (i:Nat)]) (fun _ w'=>Ext w3 w') (fun _=>0) () rfl (Vc.Mod.refl _ _) ?_
 rintro ρ2 _ w4 e4
 have hL4:=hL3.ext e4
 refine V.seq (V.seq (V.regionQCut mixed 14 (by kernel_rfl) rfl (fun w'=>Ext _ w') (Ext.drawn _) [17,18,19,20,21,22,23,24,25,26,27,28,29,30] 30 (.bool (false)) rfl (VQ.op (fun wq eq=>R.mvI rfl) (VQ.op (fun wq eq=>R.gtr rfl rfl) (VQ.op (fun wq eq=>R.mvB rfl) (VQ.andP rfl rfl (fun g6_2=>VQ.op (fun wq eq=>R.mvS rfl) (VQ.gT rfl rfl (VQ.op (fun wq eq=>R.mvI rfl) (VQ.gT rfl rfl (VQ.op (fun wq eq=>R.ixS Tryz.runUnderlying23 Tryz.sizeOf22 rfl rfl (by omega) (by omega) ((hL4.sl).some (i:=i) (by omega))) (VQ.gT rfl rfl (VQ.op (fun wq eq=>R.ld1 Tryz.isAgg22 rfl (((((hL4.sl).ext eq).row (i:=i) (by omega)).cell (i:=0) rfl))) (VQ.gT rfl rfl (VQ.op (fun wq eq=>R.mvS rfl) (VQ.gT rfl rfl (VQ.op (fun wq eq=>R.mvI rfl) (VQ.gT rfl rfl (VQ.op (fun wq eq=>R.sub rfl rfl (by omega) (by omega)) (VQ.gT rfl rfl (VQ.op (fun wq eq=>R.ixS Tryz.runUnderlying23 Tryz.sizeOf22 rfl rfl (by omega) (by omega) ((hL4.sl).some (i:=((i:Int)-1).toNat) (by omega))) (VQ.gT rfl rfl (VQ.op (fun wq eq=>R.ld1 Tryz.isAgg22 rfl (((((hL4.sl).ext eq).row (i:=((i:Int)-1).toNat) (by omega)).cell (i:=0) rfl))) (VQ.gT rfl rfl (VQ.callP (fun _ _ h k=>Mod.trans h k) Tryz.call104 rfl (fun wq eq=>(by
   have h1:((i:Int)-1).toNat<i:=by omega
   have:=less28_spec (L.getD i default).a (L.getD ((i:Int)-1).toNat default).a (L.getD i default).c (L.getD ((i:Int)-1).toNat default).c (L.getD i default).l (L.getD ((i:Int)-1).toNat default).l wq (by have:=hx _ (gmem hil);omega) (by have:=hx _ (gmem (show ((i:Int)-1).toNat<L.length by omega));omega) ((hL4.at hil).ext eq) ((hL4.at (by omega)).ext eq)
   rwa [lexB_sto.asym (up_at hup h1 hil)] at this)) (VQ.op (fun wq eq=>R.pickTB rfl rfl) (VQ.nil (cutB rfl ?_)))))))))))))))))))))) (fun g6_2=>VQ.gF rfl rfl (VQ.gF rfl rfl (VQ.gF rfl rfl (VQ.gF rfl rfl (VQ.gF rfl rfl (VQ.gF rfl rfl (VQ.gF rfl rfl (VQ.gF rfl rfl (VQ.gF rfl rfl (VQ.op (fun wq eq=>R.pickFB rfl rfl) (VQ.nil (cutB rfl ?_)))))))))))))))) (fun rg6 w6c e6c=>V.cond rfl (fun c30=>V.skip (V.seq (V.block (V.seq (?_))))) (fun c30=>V.exit (V.region (VL.op (R.mvI rfl) (VL.op (R.add rfl rfl (by omega) (by omega)) (VL.op (R.asI rfl) (VL.nil (?_))))))))))
 ·rfl
 ·rfl
 ·nomatch c30
 ·exact ⟨i+1,rfl,⟨by omega,by omega,e3.trans (e4.trans e6c)⟩,by omega⟩
end Go.Proofs.YtdbcfpcicjgghaaGreatDoor
