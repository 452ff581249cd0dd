/- Own library: the repairs that have the best vertex of each block. Plain. -/
import Derived.Test.YtjocoefpnboccaaGreatDoorXVcBlk
namespace Go.Vc
set_option maxHeartbeats 16000000
set_option maxRecDepth 100000
theorem comp_disj {g:Gr} (hg:validG g=true) {c c':List Int} (hc:c∈compsG g) (hc':c'∈compsG g) {v:Int} (hv:v∈c) (hv':v∈c'):c=c':=by
 obtain ⟨h,_,_,rfl⟩:=(comps_mem hg).1 hc
 obtain ⟨h',_,_,rfl⟩:=(comps_mem hg).1 hc'
 obtain ⟨i,_,hi,rfl⟩:=memsK_mem.1 hv
 obtain ⟨j,_,hj,e⟩:=memsK_mem.1 hv'
 have:i=j:=by omega
 subst this
 rw [←hi,←hj]
end Go.Vc
/- Own library: the graph of some components; ranges of its parts; opposite weights. Plain. -/
namespace Go.Vc
theorem root_mem {g:Gr} (hg:validG g=true) {i:Nat} (hi:i<g.n.toNat):memsK (compE g.edges) g.n.toNat (compE g.edges i)∈compsG g∧(i:Int)∈memsK (compE g.edges) g.n.toNat (compE g.edges i)∧((compE g.edges i:Nat):Int)∈memsK (compE g.edges) g.n.toNat (compE g.edges i):=by
 have hc:=validG_comp hg
 have h1:=hc.le i hi
 exact ⟨(comps_mem hg).2 ⟨_,by omega,hc.idem i hi,rfl⟩,memsK_mem.2 ⟨i,hi,rfl,rfl⟩,memsK_mem.2 ⟨_,by omega,hc.idem i hi,rfl⟩⟩
end Go.Vc
/- Own library: all repairs of a graph, in order, by a search that leaves out what cannot be one. Plain. -/
namespace Go.Vc
def outN (e P:List Int) (k:Nat):Nat:=(e.filter fun x=>decide (x<(k:Int))&&!decide (x∈P)).length
def prB (E:List (List Int)) (P:List Int) (k:Nat):Bool:=(List.range k).all fun w=>decide (((w:Nat):Int)∈P)||E.any fun e=>decide (((w:Nat):Int)∈e)&&decide (outN e P k=1)
def repK (E:List (List Int)) (N:Nat):Nat→List Int→List (List Int)
 | 0,P=>[P]
 | f+1,P=>(if blkB E P ((N-(f+1):Nat):Int)=true then [] else repK E N f (P++[((N-(f+1):Nat):Int)]))++if prB E P (N-(f+1)+1)=true then repK E N f P else []
theorem prB_iff {E:List (List Int)} {P:List Int} {k:Nat}:prB E P k=true↔∀ w:Nat,w<k→(w:Int)∈P∨∃ e∈E,(w:Int)∈e∧outN e P k=1:=by
 unfold prB
 rw [List.all_eq_true]
 constructor
 ·intro h w hw
  have:=h w (List.mem_range.2 hw)
  simpa using this
 ·intro h w hw
  have:=h w (List.mem_range.1 hw)
  simpa using this
theorem outN_in {e P:List Int} {v:Nat}:outN e (P++[(v:Int)]) (v+1)=outN e P v:=by
 unfold outN
 congr 1
 refine List.filter_congr fun x _=>?_
 rw [Bool.eq_iff_iff]
 simp only [Bool.and_eq_true,decide_eq_true_eq,Bool.not_eq_true',decide_eq_false_iff_not,List.mem_append,List.mem_singleton]
 constructor
 ·rintro ⟨h1,h2⟩
  have h3:x≠(v:Int):=fun e=>h2 (.inr e)
  exact ⟨by omega,fun h=>h2 (.inl h)⟩
 ·rintro ⟨h1,h2⟩
  exact ⟨by omega,fun h=>h.elim h2 (fun e=>by omega)⟩
theorem prB_in {E:List (List Int)} {P:List Int} {v:Nat} (h:prB E P v=true):prB E (P++[(v:Int)]) (v+1)=true:=by
 rw [prB_iff] at h ⊢
 intro w hw
 by_cases e:w=v
 ·subst e;left;simp
 ·rcases h w (by omega) with h1 | ⟨f,hf,h1,h2⟩
  ·left;simp [h1]
  ·right;exact ⟨f,hf,h1,by rw [outN_in];exact h2⟩
structure Pre (E:List (List Int)) (v:Nat) (P:List Int):Prop where
 inc:Inc P
 rng:∀ x∈P,0≤x∧x<(v:Int)
 ind:indB E P=true
 pr:prB E P v=true
theorem Pre.start {E:List (List Int)} (h:∀ e∈E,e≠[]):Pre E 0 [] :=
 ⟨List.Pairwise.nil,fun x hx=>(by cases hx),indB_iff.2 fun e he=>by
  cases e with
  | nil=>exact absurd rfl (h _ he)
  | cons a l=>exact Bool.eq_false_iff.2 fun hs=>(by have:=subB_iff.1 hs a (by simp);cases this),prB_iff.2 fun w hw=>absurd hw (Nat.not_lt_zero w)⟩
theorem Pre.in_ {E:List (List Int)} {v:Nat} {P:List Int} (h:Pre E v P) (hb:blkB E P (v:Int)=false):Pre E (v+1) (P++[(v:Int)]):=by
 refine ⟨?_,fun x hx=>?_,ind_snoc h.ind hb,prB_in h.pr⟩
 ·refine List.pairwise_append.2 ⟨h.inc,List.pairwise_singleton _ _,fun a ha b hb=>?_⟩
  rw [List.mem_singleton] at hb
  have:=h.rng a ha
  omega
 ·rcases List.mem_append.1 hx with h1 | h1
  ·have:=h.rng x h1;omega
  ·rw [List.mem_singleton] at h1;omega
theorem Pre.out {E:List (List Int)} {v:Nat} {P:List Int} (h:Pre E v P) (hp:prB E P (v+1)=true):Pre E (v+1) P :=
 ⟨h.inc,fun x hx=>by have:=h.rng x hx;omega,h.ind,hp⟩
def below (R:List Int) (v:Nat):List Int:=R.filter fun x=>decide (x<(v:Int))
theorem below_mem {R:List Int} {v:Nat} {x:Int}:x∈below R v↔x∈R∧x<(v:Int):=by unfold below;rw [List.mem_filter,decide_eq_true_eq]
theorem below_in {R:List Int} {v:Nat} (hi:Inc R) (hv:(v:Int)∈R):below R (v+1)=below R v++[(v:Int)]:=by
 refine inc_ext (hi.sublist List.filter_sublist) ?_ fun x=>?_
 ·refine List.pairwise_append.2 ⟨hi.sublist List.filter_sublist,List.pairwise_singleton _ _,fun a ha b hb=>?_⟩
  rw [List.mem_singleton] at hb
  have:=(below_mem.1 ha).2
  omega
 ·rw [below_mem,List.mem_append,below_mem,List.mem_singleton]
  constructor
  ·rintro ⟨h1,h2⟩
   by_cases e:x=(v:Int)
   ·exact .inr e
   ·exact .inl ⟨h1,by omega⟩
  ·rintro (⟨h1,h2⟩ | h1)
   ·exact ⟨h1,by omega⟩
   ·rw [h1];exact ⟨hv,by omega⟩
theorem below_out {R:List Int} {v:Nat} (hv:(v:Int)∉R):below R (v+1)=below R v:=by
 unfold below
 refine List.filter_congr fun x hx=>?_
 have:x≠(v:Int):=fun e=>hv (e▸hx)
 rw [decide_eq_decide]
 omega
theorem below_all {R:List Int} {N:Nat} (h:∀ x∈R,x<(N:Int)):below R N=R:=List.filter_eq_self.2 fun x hx=>decide_eq_true (h x hx)
theorem out_one {e P:List Int} {N w:Nat} (hn:e.Nodup) (hr:∀ x∈e,x<(N:Int)) (hw:(w:Int)∈e) (hP:(w:Int)∉P):outN e P N=1↔∀ x∈e,x≠(w:Int)→x∈P:=by
 have e1:(e.filter fun x=>decide (x<(N:Int))&&!decide (x∈P))=e.filter fun x=>!decide (x∈P):=List.filter_congr fun x hx=>by rw [decide_eq_true (hr x hx),Bool.true_and]
 unfold outN
 rw [e1]
 have hm:(w:Int)∈e.filter fun x=>!decide (x∈P):=List.mem_filter.2 ⟨hw,by simpa using hP⟩
 constructor
 ·intro h x hx hne
  refine Classical.byContradiction fun hxP=>?_
  have hx2:x∈e.filter fun x=>!decide (x∈P):=List.mem_filter.2 ⟨hx,by simpa using hxP⟩
  match he:(e.filter fun x=>!decide (x∈P)),h with
  | [a],_ =>
   rw [he,List.mem_singleton] at hm hx2
   exact hne (hx2.trans hm.symm)
 ·intro h
  have:(e.filter fun x=>!decide (x∈P))=[(w:Int)]:=by
   have hnd:=hn.sublist (List.filter_sublist (p:=fun x=>!decide (x∈P)) (l:=e))
   have hall:∀ x∈e.filter (fun x=>!decide (x∈P)),x=(w:Int):=fun x hx=>by
    obtain ⟨h1,h2⟩:=List.mem_filter.1 hx
    refine Classical.byContradiction fun hne=>?_
    have:=h x h1 hne
    simp [this] at h2
   match he:(e.filter fun x=>!decide (x∈P)),hm with
   | a :: l,_ =>
    rw [he] at hall hnd
    have ha:=hall a (by simp)
    match l with
    | []=>rw [ha]
    | b :: l =>
     have hb:=hall b (by simp)
     exact absurd (ha.trans hb.symm) (by have:=(List.nodup_cons.1 hnd).1;intro e;exact this (by simp [e]))
  rw [this];rfl
theorem prB_rep {g:Gr} (hg:validG g=true) {R:List Int} (hR:IsRep g R) {k:Nat} (hk:k≤g.n.toNat):prB g.edges (below R k) k=true:=by
 refine prB_iff.2 fun w hw=>?_
 by_cases h:(w:Int)∈R
 ·left;exact below_mem.2 ⟨h,by omega⟩
 ·right
  have hn:0≤g.n:=(costB_iff.1 (validG_iff.1 hg).1).1
  obtain ⟨e,he,hwe,hall⟩:=hR.max (w:Int) (by omega) (by omega) h
  have hinc:=((validG_iff.1 hg).2.2.1 e he).2.1
  refine ⟨e,he,hwe,?_⟩
  have:(e.filter fun x=>decide (x<(k:Int))&&!decide (x∈below R k))=[(w:Int)]:=by
   refine inc_ext (hinc.sublist List.filter_sublist) (List.pairwise_singleton _ _) fun x=>?_
   rw [List.mem_filter,List.mem_singleton]
   simp only [Bool.and_eq_true,decide_eq_true_eq,Bool.not_eq_true',decide_eq_false_iff_not,below_mem]
   constructor
   ·rintro ⟨h1,h2,h3⟩
    refine Classical.byContradiction fun hne=>h3 ⟨hall x h1 hne,h2⟩
   ·rintro rfl
    exact ⟨hwe,by omega,fun hh=>h hh.1⟩
  unfold outN
  rw [this];rfl
theorem repK_mem {g:Gr} (hg:validG g=true) {N:Nat} (hN:g.n=(N:Int)):∀ (f:Nat),f≤N→∀ P,Pre g.edges (N-f) P→∀ R,R∈repK g.edges N f P↔IsRep g R∧below R (N-f)=P:=by
 have hlt:=fun e he=>(validG_iff.1 hg).2.2.1 e he
 intro f
 induction f with
 | zero =>
  intro _ P hP R
  show R∈[P]↔_
  rw [List.mem_singleton,Nat.sub_zero]
  have hrP:∀ x∈P,0≤x∧x<(N:Int):=by have:=hP.rng;rwa [Nat.sub_zero] at this
  constructor
  ·rintro rfl
   refine ⟨⟨setB_iff.2 ⟨hP.inc,fun x hx=>by rw [hN];exact hrP x hx⟩,indB_iff.1 hP.ind,fun v h0 h1 hv=>?_⟩,below_all fun x hx=>(hrP x hx).2⟩
   have hpr:=prB_iff.1 hP.pr v.toNat (by omega)
   rw [show ((v.toNat:Nat):Int)=v by omega,Nat.sub_zero] at hpr
   rcases hpr with h | ⟨e,he,hve,ho⟩
   ·exact absurd h hv
   ·have hinc:=(hlt e he).2.1
    refine ⟨e,he,hve,?_⟩
    have:=(out_one (N:=N) (w:=v.toNat) (inc_nodup hinc) (fun x hx=>by have:=(hlt e he).2.2 x hx;omega) (by rw [show ((v.toNat:Nat):Int)=v by omega];exact hve) (by rw [show ((v.toNat:Nat):Int)=v by omega];exact hv)).1 ho
    rw [show ((v.toNat:Nat):Int)=v by omega] at this
    exact this
  ·rintro ⟨h1,h2⟩
   rw [below_all fun x hx=>by have:=(setB_iff.1 h1.set).2 x hx;omega] at h2
   exact h2
 | succ f ih =>
  intro hf P hP R
  obtain ⟨v,hv⟩:∃ v,v=N-(f+1):=⟨_,rfl⟩
  have hv1:N-f=v+1:=by omega
  rw [←hv] at hP ⊢
  have ih:=ih (by omega)
  rw [hv1] at ih
  unfold repK
  rw [←hv,List.mem_append]
  constructor
  ·rintro (h | h)
   ·split at h
    ·cases h
    ·rename_i hb
     have hb:blkB g.edges P (v:Int)=false:=by simpa using hb
     obtain ⟨h1,h2⟩:=(ih _ (hP.in_ hb) R).1 h
     refine ⟨h1,?_⟩
     have hinc:=(setB_iff.1 h1.set).1
     have hvR:(v:Int)∈R:=(below_mem.1 (show (v:Int)∈below R (v+1) by rw [h2];simp)).1
     rw [below_in hinc hvR] at h2
     exact (List.append_inj' h2 rfl).1
   ·split at h
    ·rename_i hp
     obtain ⟨h1,h2⟩:=(ih _ (hP.out hp) R).1 h
     refine ⟨h1,?_⟩
     have hvR:(v:Int)∉R:=fun hh=>by
      have:(v:Int)∈below R (v+1):=below_mem.2 ⟨hh,by omega⟩
      rw [h2] at this
      have:=(hP.rng _ this).2
      omega
     rw [←below_out hvR];exact h2
    ·cases h
  ·rintro ⟨h1,h2⟩
   have hinc:=(setB_iff.1 h1.set).1
   by_cases hvR:(v:Int)∈R
   ·left
    have hb:blkB g.edges P (v:Int)=false:=by
     cases hb:blkB g.edges P (v:Int) with
     | false=>rfl
     | true =>
      have:=ind_blk (E:=g.edges) (P:=P) (S:=R) (fun x hx=>by rw [←h2] at hx;exact (below_mem.1 hx).1) hvR hb
      rw [indB_iff.2 h1.free] at this;cases this
    rw [if_neg (by rw [hb];decide)]
    exact (ih _ (hP.in_ hb) R).2 ⟨h1,by rw [below_in hinc hvR,h2]⟩
   ·right
    have hp:prB g.edges P (v+1)=true:=by
     have:=prB_rep hg h1 (k:=v+1) (by omega)
     rwa [below_out hvR,h2] at this
    rw [if_pos hp]
    exact (ih _ (hP.out hp) R).2 ⟨h1,by rw [below_out hvR,h2]⟩
def repsG (g:Gr):List (List Int):=repK g.edges g.n.toNat g.n.toNat []
theorem reps_mem {g:Gr} (hg:validG g=true) {R:List Int}:R∈repsG g↔IsRep g R:=by
 have hn:0≤g.n:=(costB_iff.1 (validG_iff.1 hg).1).1
 have:=repK_mem hg (N:=g.n.toNat) (by omega) g.n.toNat (Nat.le_refl _) [] (by rw [Nat.sub_self];exact Pre.start fun e he=>((validG_iff.1 hg).2.2.1 e he).1) R
 unfold repsG
 rw [this,Nat.sub_self]
 refine and_iff_left_of_imp fun h=>?_
 refine List.filter_eq_nil_iff.2 fun x hx=>?_
 have:=(setB_iff.1 h.set).2 x hx
 simp
 omega
theorem rep_anti {g:Gr} {R R':List Int} (hR:IsRep g R) (hR':IsRep g R') (h:∀ x∈R,x∈R'):R=R':=by
 refine inc_ext (setB_iff.1 hR.set).1 (setB_iff.1 hR'.set).1 fun x=>⟨h x,fun hx=>Classical.byContradiction fun hn=>?_⟩
 have hr:=(setB_iff.1 hR'.set).2 x hx
 obtain ⟨e,he,hxe,hall⟩:=hR.max x hr.1 hr.2 hn
 have:=hR'.free e he
 rw [subB_iff.2 fun y hy=>by
  by_cases e:y=x
  ·rw [e];exact hx
  ·exact h y (hall y hy e)] at this
 cases this
theorem lex_app (P:List Int) {a b:List Int}:lexB (P++a) (P++b)=lexB a b:=by
 induction P with
 | nil=>rfl
 | cons x P ih =>
  show (if x<x then true else if x<x then false else lexB (P++a) (P++b))=_
  rw [if_neg (Int.lt_irrefl x),if_neg (Int.lt_irrefl x)]
  exact ih
theorem below_split {R:List Int} {v:Nat} (hi:Inc R):∃ T,R=below R v++T∧∀ x∈T,(v:Int)≤x:=by
 refine ⟨R.filter fun x=>!decide (x<(v:Int)),?_,fun x hx=>?_⟩
 ·refine inc_ext hi ?_ fun x=>?_
  ·refine List.pairwise_append.2 ⟨hi.sublist List.filter_sublist,hi.sublist List.filter_sublist,fun a ha b hb=>?_⟩
   have:=(below_mem.1 ha).2
   have hb:=(List.mem_filter.1 hb).2
   simp at hb
   omega
  ·rw [List.mem_append,below_mem,List.mem_filter]
   by_cases h:x<(v:Int)
   ·simp [h]
   ·simp [h]
 ·have:=(List.mem_filter.1 hx).2
  simp at this
  omega
theorem load_nil {g:Gr} (hg:validG g=true):loadB g []=true :=
 loadB_iff.2 ⟨hg,setB_iff.2 ⟨List.Pairwise.nil,fun x hx=>(by cases hx)⟩,(Pre.start fun e he=>((validG_iff.1 hg).2.2.1 e he).1).ind⟩
theorem reps_ne {g:Gr} (hg:validG g=true):repsG g≠[]:=fun h=>by
 have:=(reps_mem hg).2 (ext_rep (load_nil hg)).1
 rw [h] at this;cases this
end Go.Vc
/- Own library: the repairs of the parts of a graph. Plain. -/
namespace Go.Vc
theorem comps_nodup {g:Gr} (hg:validG g=true):(compsG g).Nodup:=by
 have hc:=validG_comp hg
 unfold compsG
 rw [if_pos hg]
 unfold grpsK
 refine List.pairwise_map.2 ((hdsK_nodup _ _).imp_of_mem fun {x y} hx _ hne e=>hne ?_)
 obtain ⟨hx1,hx2⟩:=hdsK_mem.1 hx
 have:((x:Nat):Int)∈memsK (compE g.edges) g.n.toNat y:=by rw [←e];exact memsK_mem.2 ⟨x,hx1,hx2,rfl⟩
 obtain ⟨i,_,hi,h2⟩:=memsK_mem.1 this
 have:x=i:=by omega
 rw [←hx2,this,hi]
end Go.Vc
