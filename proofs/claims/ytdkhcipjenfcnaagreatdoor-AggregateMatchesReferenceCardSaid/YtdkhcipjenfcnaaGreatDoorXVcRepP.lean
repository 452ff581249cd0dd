/- Own library: the repairs that have the best vertex of each block. Plain. -/
import Derived.Test.YtdkhcipjenfcnaaGreatDoorXVcBlk
namespace Go.Vc
set_option maxRecDepth 100000
set_option maxHeartbeats 16000000
theorem get_mem {c:List Int} {k:Nat} (hk:k<c.length):c.getD k default∈c:=by rw [getI hk];exact List.getElem_mem _
theorem comp_disj {g:Gr} (hg:validG g=true) {c c':List Int} (hc:c∈compsG g) (hc':c'∈compsG g) {v:Int} (hv:v∈c) (hv':v∈c'):c=c':=by
 obtain ⟨h,_,_,rfl⟩:=(comps_mem hg).1 hc
 obtain ⟨h',_,_,rfl⟩:=(comps_mem hg).1 hc'
 obtain ⟨i,_,hi,rfl⟩:=memsK_mem.1 hv
 obtain ⟨j,_,hj,e⟩:=memsK_mem.1 hv'
 have:i=j:=by omega
 subst this
 rw [←hi,←hj]
theorem root_mem {g:Gr} (hg:validG g=true) {i:Nat} (hi:i<g.n.toNat):memsK (compE g.edges) g.n.toNat (compE g.edges i)∈compsG g∧(i:Int)∈memsK (compE g.edges) g.n.toNat (compE g.edges i)∧((compE g.edges i:Nat):Int)∈memsK (compE g.edges) g.n.toNat (compE g.edges i):=by
 have hc:=validG_comp hg
 have h1:=hc.le i hi
 exact ⟨(comps_mem hg).2 ⟨_,by omega,hc.idem i hi,rfl⟩,memsK_mem.2 ⟨i,hi,rfl,rfl⟩,memsK_mem.2 ⟨_,by omega,hc.idem i hi,rfl⟩⟩
def outN (e P:List Int) (k:Nat):Nat:=(e.filter fun x=>decide (x<(k:Int))&&!decide (x∈P)).length
def prB (E:List (List Int)) (P:List Int) (k:Nat):Bool:=(List.range k).all fun w=>decide (((w:Nat):Int)∈P)||E.any fun e=>decide (((w:Nat):Int)∈e)&&decide (outN e P k=1)
def repK (E:List (List Int)) (N:Nat):Nat→List Int→List (List Int)
 | 0,P=>[P]
 | f+1,P=>(if blkB E P ((N-(f+1):Nat):Int)=true then [] else repK E N f (P++[((N-(f+1):Nat):Int)]))++if prB E P (N-(f+1)+1)=true then repK E N f P else []
theorem prB_iff {E:List (List Int)} {P:List Int} {k:Nat}:prB E P k=true↔∀ w:Nat,w<k→(w:Int)∈P∨∃ e∈E,(w:Int)∈e∧outN e P k=1:=by
 unfold prB
 rw [List.all_eq_true]
 constructor
 ·intro h w hw
  have:=h w (List.mem_range.2 hw)
  simpa using this
 ·intro h w hw
  have:=h w (List.mem_range.1 hw)
  simpa using this
theorem outN_in {e P:List Int} {v:Nat}:outN e (P++[(v:Int)]) (v+1)=outN e P v:=by
 unfold outN
 congr 1
 refine List.filter_congr fun x _=>?_
 rw [Bool.eq_iff_iff]
 simp only [Bool.and_eq_true,decide_eq_true_eq,Bool.not_eq_true',decide_eq_false_iff_not,List.mem_append,List.mem_singleton]
 constructor
 ·rintro ⟨h1,h2⟩
  have h3:x≠(v:Int):=fun e=>h2 (.inr e)
  exact ⟨by omega,fun h=>h2 (.inl h)⟩
 ·rintro ⟨h1,h2⟩
  exact ⟨by omega,fun h=>h.elim h2 (fun e=>by omega)⟩
theorem prB_in {E:List (List Int)} {P:List Int} {v:Nat} (h:prB E P v=true):prB E (P++[(v:Int)]) (v+1)=true:=by
 rw [prB_iff] at h ⊢
 intro w hw
 by_cases e:w=v
 ·subst e;left;simp
 ·rcases h w (by omega) with h1 | ⟨f,hf,h1,h2⟩
  ·left;simp [h1]
  ·right;exact ⟨f,hf,h1,by rw [outN_in];exact h2⟩
structure Pre (E:List (List Int)) (v:Nat) (P:List Int):Prop where
 inc:Inc P
 rng:∀ x∈P,0≤x∧x<(v:Int)
 ind:indB E P=true
 pr:prB E P v=true
theorem Pre.start {E:List (List Int)} (h:∀ e∈E,e≠[]):Pre E 0 [] :=
 ⟨List.Pairwise.nil,fun x hx=>(by cases hx),indB_iff.2 fun e he=>by
  cases e with
  | nil=>exact absurd rfl (h _ he)
  | cons a l=>exact Bool.eq_false_iff.2 fun hs=>(by have:=subB_iff.1 hs a (by simp);cases this),prB_iff.2 fun w hw=>absurd hw (Nat.not_lt_zero w)⟩
theorem Pre.in_ {E:List (List Int)} {v:Nat} {P:List Int} (h:Pre E v P) (hb:blkB E P (v:Int)=false):Pre E (v+1) (P++[(v:Int)]):=by
 refine ⟨?_,fun x hx=>?_,ind_snoc h.ind hb,prB_in h.pr⟩
 ·refine List.pairwise_append.2 ⟨h.inc,List.pairwise_singleton _ _,fun a ha b hb=>?_⟩
  rw [List.mem_singleton] at hb
  have:=h.rng a ha
  omega
 ·rcases List.mem_append.1 hx with h1 | h1
  ·have:=h.rng x h1;omega
  ·rw [List.mem_singleton] at h1;omega
theorem Pre.out {E:List (List Int)} {v:Nat} {P:List Int} (h:Pre E v P) (hp:prB E P (v+1)=true):Pre E (v+1) P :=
 ⟨h.inc,fun x hx=>by have:=h.rng x hx;omega,h.ind,hp⟩
def below (R:List Int) (v:Nat):List Int:=R.filter fun x=>decide (x<(v:Int))
theorem below_mem {R:List Int} {v:Nat} {x:Int}:x∈below R v↔x∈R∧x<(v:Int):=by unfold below;rw [List.mem_filter,decide_eq_true_eq]
theorem below_in {R:List Int} {v:Nat} (hi:Inc R) (hv:(v:Int)∈R):below R (v+1)=below R v++[(v:Int)]:=by
 refine inc_ext (hi.sublist List.filter_sublist) ?_ fun x=>?_
 ·refine List.pairwise_append.2 ⟨hi.sublist List.filter_sublist,List.pairwise_singleton _ _,fun a ha b hb=>?_⟩
  rw [List.mem_singleton] at hb
  have:=(below_mem.1 ha).2
  omega
 ·rw [below_mem,List.mem_append,below_mem,List.mem_singleton]
  constructor
  ·rintro ⟨h1,h2⟩
   by_cases e:x=(v:Int)
   ·exact .inr e
   ·exact .inl ⟨h1,by omega⟩
  ·rintro (⟨h1,h2⟩ | h1)
   ·exact ⟨h1,by omega⟩
   ·rw [h1];exact ⟨hv,by omega⟩
theorem below_out {R:List Int} {v:Nat} (hv:(v:Int)∉R):below R (v+1)=below R v:=by
 unfold below
 refine List.filter_congr fun x hx=>?_
 have:x≠(v:Int):=fun e=>hv (e▸hx)
 rw [decide_eq_decide]
 omega
theorem below_all {R:List Int} {N:Nat} (h:∀ x∈R,x<(N:Int)):below R N=R:=List.filter_eq_self.2 fun x hx=>decide_eq_true (h x hx)
theorem out_one {e P:List Int} {N w:Nat} (hn:e.Nodup) (hr:∀ x∈e,x<(N:Int)) (hw:(w:Int)∈e) (hP:(w:Int)∉P):outN e P N=1↔∀ x∈e,x≠(w:Int)→x∈P:=by
 have e1:(e.filter fun x=>decide (x<(N:Int))&&!decide (x∈P))=e.filter fun x=>!decide (x∈P):=List.filter_congr fun x hx=>by rw [decide_eq_true (hr x hx),Bool.true_and]
 unfold outN
 rw [e1]
 have hm:(w:Int)∈e.filter fun x=>!decide (x∈P):=List.mem_filter.2 ⟨hw,by simpa using hP⟩
 constructor
 ·intro h x hx hne
  refine Classical.byContradiction fun hxP=>?_
  have hx2:x∈e.filter fun x=>!decide (x∈P):=List.mem_filter.2 ⟨hx,by simpa using hxP⟩
  match he:(e.filter fun x=>!decide (x∈P)),h with
  | [a],_ =>
   rw [he,List.mem_singleton] at hm hx2
   exact hne (hx2.trans hm.symm)
 ·intro h
  have:(e.filter fun x=>!decide (x∈P))=[(w:Int)]:=by
   have hnd:=hn.sublist (List.filter_sublist (p:=fun x=>!decide (x∈P)) (l:=e))
   have hall:∀ x∈e.filter (fun x=>!decide (x∈P)),x=(w:Int):=fun x hx=>by
    obtain ⟨h1,h2⟩:=List.mem_filter.1 hx
    refine Classical.byContradiction fun hne=>?_
    have:=h x h1 hne
    simp [this] at h2
   match he:(e.filter fun x=>!decide (x∈P)),hm with
   | a :: l,_ =>
    rw [he] at hall hnd
    have ha:=hall a (by simp)
    match l with
    | []=>rw [ha]
    | b :: l =>
     have hb:=hall b (by simp)
     exact absurd (ha.trans hb.symm) (by have:=(List.nodup_cons.1 hnd).1;intro e;exact this (by simp [e]))
  rw [this];rfl
theorem prB_rep {g:Gr} (hg:validG g=true) {R:List Int} (hR:IsRep g R) {k:Nat} (hk:k≤g.n.toNat):prB g.edges (below R k) k=true:=by
 refine prB_iff.2 fun w hw=>?_
 by_cases h:(w:Int)∈R
 ·left;exact below_mem.2 ⟨h,by omega⟩
 ·right
  have hn:0≤g.n:=(costB_iff.1 (validG_iff.1 hg).1).1
  obtain ⟨e,he,hwe,hall⟩:=hR.max (w:Int) (by omega) (by omega) h
  have hinc:=((validG_iff.1 hg).2.2.1 e he).2.1
  refine ⟨e,he,hwe,?_⟩
  have:(e.filter fun x=>decide (x<(k:Int))&&!decide (x∈below R k))=[(w:Int)]:=by
   refine inc_ext (hinc.sublist List.filter_sublist) (List.pairwise_singleton _ _) fun x=>?_
   rw [List.mem_filter,List.mem_singleton]
   simp only [Bool.and_eq_true,decide_eq_true_eq,Bool.not_eq_true',decide_eq_false_iff_not,below_mem]
   constructor
   ·rintro ⟨h1,h2,h3⟩
    refine Classical.byContradiction fun hne=>h3 ⟨hall x h1 hne,h2⟩
   ·rintro rfl
    exact ⟨hwe,by omega,fun hh=>h hh.1⟩
  unfold outN
  rw [this];rfl
theorem repK_mem {g:Gr} (hg:validG g=true) {N:Nat} (hN:g.n=(N:Int)):∀ (f:Nat),f≤N→∀ P,Pre g.edges (N-f) P→∀ R,R∈repK g.edges N f P↔IsRep g R∧below R (N-f)=P:=by
 have hlt:=fun e he=>(validG_iff.1 hg).2.2.1 e he
 intro f
 induction f with
 | zero =>
  intro _ P hP R
  show R∈[P]↔_
  rw [List.mem_singleton,Nat.sub_zero]
  have hrP:∀ x∈P,0≤x∧x<(N:Int):=by have:=hP.rng;rwa [Nat.sub_zero] at this
  constructor
  ·rintro rfl
   refine ⟨⟨setB_iff.2 ⟨hP.inc,fun x hx=>by rw [hN];exact hrP x hx⟩,indB_iff.1 hP.ind,fun v h0 h1 hv=>?_⟩,below_all fun x hx=>(hrP x hx).2⟩
   have hpr:=prB_iff.1 hP.pr v.toNat (by omega)
   rw [show ((v.toNat:Nat):Int)=v by omega,Nat.sub_zero] at hpr
   rcases hpr with h | ⟨e,he,hve,ho⟩
   ·exact absurd h hv
   ·have hinc:=(hlt e he).2.1
    refine ⟨e,he,hve,?_⟩
    have:=(out_one (N:=N) (w:=v.toNat) (inc_nodup hinc) (fun x hx=>by have:=(hlt e he).2.2 x hx;omega) (by rw [show ((v.toNat:Nat):Int)=v by omega];exact hve) (by rw [show ((v.toNat:Nat):Int)=v by omega];exact hv)).1 ho
    rw [show ((v.toNat:Nat):Int)=v by omega] at this
    exact this
  ·rintro ⟨h1,h2⟩
   rw [below_all fun x hx=>by have:=(setB_iff.1 h1.set).2 x hx;omega] at h2
   exact h2
 | succ f ih =>
  intro hf P hP R
  obtain ⟨v,hv⟩:∃ v,v=N-(f+1):=⟨_,rfl⟩
  have hv1:N-f=v+1:=by omega
  rw [←hv] at hP ⊢
  have ih:=ih (by omega)
  rw [hv1] at ih
  unfold repK
  rw [←hv,List.mem_append]
  constructor
  ·rintro (h | h)
   ·split at h
    ·cases h
    ·rename_i hb
     have hb:blkB g.edges P (v:Int)=false:=by simpa using hb
     obtain ⟨h1,h2⟩:=(ih _ (hP.in_ hb) R).1 h
     refine ⟨h1,?_⟩
     have hinc:=(setB_iff.1 h1.set).1
     have hvR:(v:Int)∈R:=(below_mem.1 (show (v:Int)∈below R (v+1) by rw [h2];simp)).1
     rw [below_in hinc hvR] at h2
     exact (List.append_inj' h2 rfl).1
   ·split at h
    ·rename_i hp
     obtain ⟨h1,h2⟩:=(ih _ (hP.out hp) R).1 h
     refine ⟨h1,?_⟩
     have hvR:(v:Int)∉R:=fun hh=>by
      have:(v:Int)∈below R (v+1):=below_mem.2 ⟨hh,by omega⟩
      rw [h2] at this
      have:=(hP.rng _ this).2
      omega
     rw [←below_out hvR];exact h2
    ·cases h
  ·rintro ⟨h1,h2⟩
   have hinc:=(setB_iff.1 h1.set).1
   by_cases hvR:(v:Int)∈R
   ·left
    have hb:blkB g.edges P (v:Int)=false:=by
     cases hb:blkB g.edges P (v:Int) with
     | false=>rfl
     | true =>
      have:=ind_blk (E:=g.edges) (P:=P) (S:=R) (fun x hx=>by rw [←h2] at hx;exact (below_mem.1 hx).1) hvR hb
      rw [indB_iff.2 h1.free] at this;cases this
    rw [if_neg (by rw [hb];decide)]
    exact (ih _ (hP.in_ hb) R).2 ⟨h1,by rw [below_in hinc hvR,h2]⟩
   ·right
    have hp:prB g.edges P (v+1)=true:=by
     have:=prB_rep hg h1 (k:=v+1) (by omega)
     rwa [below_out hvR,h2] at this
    rw [if_pos hp]
    exact (ih _ (hP.out hp) R).2 ⟨h1,by rw [below_out hvR,h2]⟩
def repsG (g:Gr):List (List Int):=repK g.edges g.n.toNat g.n.toNat []
theorem reps_mem {g:Gr} (hg:validG g=true) {R:List Int}:R∈repsG g↔IsRep g R:=by
 have hn:0≤g.n:=(costB_iff.1 (validG_iff.1 hg).1).1
 have:=repK_mem hg (N:=g.n.toNat) (by omega) g.n.toNat (Nat.le_refl _) [] (by rw [Nat.sub_self];exact Pre.start fun e he=>((validG_iff.1 hg).2.2.1 e he).1) R
 unfold repsG
 rw [this,Nat.sub_self]
 refine and_iff_left_of_imp fun h=>?_
 refine List.filter_eq_nil_iff.2 fun x hx=>?_
 have:=(setB_iff.1 h.set).2 x hx
 simp
 omega
theorem rep_anti {g:Gr} {R R':List Int} (hR:IsRep g R) (hR':IsRep g R') (h:∀ x∈R,x∈R'):R=R':=by
 refine inc_ext (setB_iff.1 hR.set).1 (setB_iff.1 hR'.set).1 fun x=>⟨h x,fun hx=>Classical.byContradiction fun hn=>?_⟩
 have hr:=(setB_iff.1 hR'.set).2 x hx
 obtain ⟨e,he,hxe,hall⟩:=hR.max x hr.1 hr.2 hn
 have:=hR'.free e he
 rw [subB_iff.2 fun y hy=>by
  by_cases e:y=x
  ·rw [e];exact hx
  ·exact h y (hall y hy e)] at this
 cases this
theorem lex_app (P:List Int) {a b:List Int}:lexB (P++a) (P++b)=lexB a b:=by
 induction P with
 | nil=>rfl
 | cons x P ih =>
  show (if x<x then true else if x<x then false else lexB (P++a) (P++b))=_
  rw [if_neg (Int.lt_irrefl x),if_neg (Int.lt_irrefl x)]
  exact ih
theorem below_split {R:List Int} {v:Nat} (hi:Inc R):∃ T,R=below R v++T∧∀ x∈T,(v:Int)≤x:=by
 refine ⟨R.filter fun x=>!decide (x<(v:Int)),?_,fun x hx=>?_⟩
 ·refine inc_ext hi ?_ fun x=>?_
  ·refine List.pairwise_append.2 ⟨hi.sublist List.filter_sublist,hi.sublist List.filter_sublist,fun a ha b hb=>?_⟩
   have:=(below_mem.1 ha).2
   have hb:=(List.mem_filter.1 hb).2
   simp at hb
   omega
  ·rw [List.mem_append,below_mem,List.mem_filter]
   by_cases h:x<(v:Int)
   ·simp [h]
   ·simp [h]
 ·have:=(List.mem_filter.1 hx).2
  simp at this
  omega
theorem repK_up {g:Gr} (hg:validG g=true) {N:Nat} (hN:g.n=(N:Int)):∀ (f:Nat),f≤N→∀ P,Pre g.edges (N-f) P→Up lexB (repK g.edges N f P):=by
 intro f
 induction f with
 | zero=>intro _ P _;exact List.pairwise_singleton _ _
 | succ f ih =>
  intro hf P hP
  obtain ⟨v,hv⟩:∃ v,v=N-(f+1):=⟨_,rfl⟩
  have hv1:N-f=v+1:=by omega
  have hP':=hP
  rw [←hv] at hP'
  have ih:=ih (by omega)
  rw [hv1] at ih
  have mem:=repK_mem hg hN f (by omega)
  rw [hv1] at mem
  unfold repK
  rw [←hv]
  refine List.pairwise_append.2 ⟨?_,?_,fun a ha b hb=>?_⟩
  ·split
   ·exact List.Pairwise.nil
   ·rename_i hb
    exact ih _ (hP'.in_ (by simpa using hb))
  ·split
   ·rename_i hp;exact ih _ (hP'.out hp)
   ·exact List.Pairwise.nil
  ·split at ha
   ·cases ha
   ·rename_i hbk
    split at hb
    ·rename_i hp
     obtain ⟨ra,pa⟩:=(mem _ (hP'.in_ (by simpa using hbk)) a).1 ha
     obtain ⟨rb,pb⟩:=(mem _ (hP'.out hp) b).1 hb
     obtain ⟨Ta,ea,_⟩:=below_split (R:=a) (v:=v+1) (setB_iff.1 ra.set).1
     obtain ⟨Tb,eb,hTb⟩:=below_split (R:=b) (v:=v+1) (setB_iff.1 rb.set).1
     rw [pa] at ea
     rw [pb] at eb
     have hTn:Tb≠[]:=fun e=>by
      rw [e,List.append_nil] at eb
      have hab:=rep_anti rb ra fun x hx=>by rw [ea];rw [eb] at hx;simp [hx]
      have:(v:Int)∈b:=by rw [hab,ea];simp
      rw [eb] at this
      have:=(hP'.rng _ this).2
      omega
     rw [ea,eb,List.append_assoc,lex_app]
     match Tb,hTn,hTb with
     | y :: Tb,_,hTb =>
      have:=hTb y (by simp)
      show (if (v:Int)<y then true else if y<(v:Int) then false else lexB Ta Tb)=true
      rw [if_pos (by omega)]
    ·cases hb
theorem reps_up {g:Gr} (hg:validG g=true):Up lexB (repsG g):=by
 have hn:0≤g.n:=(costB_iff.1 (validG_iff.1 hg).1).1
 exact repK_up hg (N:=g.n.toNat) (by omega) g.n.toNat (Nat.le_refl _) [] (by rw [Nat.sub_self];exact Pre.start fun e he=>((validG_iff.1 hg).2.2.1 e he).1)
theorem load_nil {g:Gr} (hg:validG g=true):loadB g []=true :=
 loadB_iff.2 ⟨hg,setB_iff.2 ⟨List.Pairwise.nil,fun x hx=>(by cases hx)⟩,(Pre.start fun e he=>((validG_iff.1 hg).2.2.1 e he).1).ind⟩
theorem reps_ne {g:Gr} (hg:validG g=true):repsG g≠[]:=fun h=>by
 have:=(reps_mem hg).2 (ext_rep (load_nil hg)).1
 rw [h] at this;cases this
theorem inK_ix {c S:List Int} {x:Int} (hx:x∈c):ixI c x∈inK c S c.length↔x∈S:=by
 obtain ⟨h1,h2,h3⟩:=ix_at hx
 rw [inK_mem]
 constructor
 ·rintro ⟨i,hi,hS,e⟩
  rw [e,show ((i:Nat):Int).toNat=i by omega] at h3
  rw [←h3];exact hS
 ·intro h
  exact ⟨(ixI c x).toNat,by omega,by rw [h3];exact h,by omega⟩
theorem inK_set {c S:List Int}:setB (inK c S c.length) (c.length:Int)=true :=
 setB_iff.2 ⟨inK_inc _ _ _,fun x hx=>by obtain ⟨i,hi,_,rfl⟩:=inK_mem.1 hx;omega⟩
theorem parts_rep {g:Gr} (hg:validG g=true) {S:List Int} (hS:setB S g.n=true):IsRep g S↔∀ c∈compsG g,IsRep (partG g c) (inK c S c.length):=by
 constructor
 ·intro h c hc
  refine ⟨inK_set,fun e' he'=>?_,fun v h0 h1 hv=>?_⟩
  ·obtain ⟨e,he,hs,rfl⟩:=part_edges.1 he'
   rw [←Bool.not_eq_true]
   intro hh
   have hh:=subB_iff.1 hh
   have:=h.free e he
   rw [subB_iff.2 fun x hx=>(inK_ix (subB_iff.1 hs x hx)).1 (hh _ (List.mem_map_of_mem hx))] at this
   cases this
  ·have h1:v<(c.length:Int):=h1
   have hm:=get_mem (c:=c) (k:=v.toNat) (by omega)
   have hix:ixI c (c.getD v.toNat default)=v:=by rw [ix_get (comp_inc hg hc) (by omega)];omega
   have hvS:c.getD v.toNat default∉S:=fun hh=>hv (by rw [←hix];exact (inK_ix hm).2 hh)
   have hr:=(setB_iff.1 (comps_set hg hc)).2 _ hm
   obtain ⟨e,he,hve,hall⟩:=h.max _ hr.1 hr.2 hvS
   have hin:=comp_edge hg hc he hve hm
   refine ⟨e.map (ixI c),part_edges.2 ⟨e,he,subB_iff.2 hin,rfl⟩,by rw [←hix];exact List.mem_map_of_mem hve,fun x hx hne=>?_⟩
   obtain ⟨y,hy,rfl⟩:=List.mem_map.1 hx
   refine (inK_ix (hin y hy)).2 (hall y hy fun e=>hne ?_)
   rw [e,hix]
 ·intro h
  refine ⟨hS,fun e he=>?_,fun v h0 h1 hv=>?_⟩
  ·rw [←Bool.not_eq_true]
   intro hh
   have hh:=subB_iff.1 hh
   obtain ⟨c,hc,hs⟩:=edge_in hg he
   have:=(h c hc).free _ (part_edges.2 ⟨e,he,hs,rfl⟩)
   rw [subB_iff.2 fun x hx=>by
    obtain ⟨y,hy,rfl⟩:=List.mem_map.1 hx
    exact (inK_ix (subB_iff.1 hs y hy)).2 (hh y hy)] at this
   cases this
  ·obtain ⟨hc,hvc,_⟩:=root_mem hg (i:=v.toNat) (by omega)
   rw [show ((v.toNat:Nat):Int)=v by omega] at hvc
   obtain ⟨c,hcd⟩:∃ c,c=memsK (compE g.edges) g.n.toNat (compE g.edges v.toNat):=⟨_,rfl⟩
   rw [←hcd] at hc hvc
   have hi:=ix_at hvc
   obtain ⟨e',he',hve,hall⟩:=(h c hc).max (ixI c v) hi.1 hi.2.1 fun hh=>hv ((inK_ix hvc).1 hh)
   obtain ⟨e,he,hs,rfl⟩:=part_edges.1 he'
   have hs:=subB_iff.1 hs
   obtain ⟨y,hy,hyv⟩:=List.mem_map.1 hve
   have hyv:=ix_inj (hs y hy) hvc hyv
   subst hyv
   refine ⟨e,he,hy,fun x hx hne=>?_⟩
   exact (inK_ix (hs x hx)).1 (hall _ (List.mem_map_of_mem hx) fun e=>hne (ix_inj (hs x hx) hvc e))
def rngI (n:Nat):List Int:=(List.range n).map fun i=>((i:Nat):Int)
theorem rngI_len (n:Nat):(rngI n).length=n:=by unfold rngI;rw [List.length_map,List.length_range]
theorem comps_nodup {g:Gr} (hg:validG g=true):(compsG g).Nodup:=by
 have hc:=validG_comp hg
 unfold compsG
 rw [if_pos hg]
 unfold grpsK
 refine List.pairwise_map.2 ((hdsK_nodup _ _).imp_of_mem fun {x y} hx _ hne e=>hne ?_)
 obtain ⟨hx1,hx2⟩:=hdsK_mem.1 hx
 have:((x:Nat):Int)∈memsK (compE g.edges) g.n.toNat y:=by rw [←e];exact memsK_mem.2 ⟨x,hx1,hx2,rfl⟩
 obtain ⟨i,_,hi,h2⟩:=memsK_mem.1 this
 have:x=i:=by omega
 rw [←hx2,this,hi]
end Go.Vc
