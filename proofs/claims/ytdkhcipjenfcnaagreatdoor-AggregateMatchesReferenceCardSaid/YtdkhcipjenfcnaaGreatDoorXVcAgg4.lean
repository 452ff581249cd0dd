/- Own library: proofs of bounds of sums over all repairs. Plain. -/
import Derived.Test.YtdkhcipjenfcnaaGreatDoorXVcSper
namespace Go.Vc
set_option maxRecDepth 100000
set_option maxHeartbeats 16000000
structure AggC where
 n:Int
 E:List (List Int)
 ws:List Int
 up:Bool
 lim:Int
 S:List St4
def bestW (up:Bool) (x:Int):Int:=if up=true then max x 0 else min x 0
def putW (up:Bool) (ws s:List Int) (v:Int):Int:=if stA s v=1 then wtF ws v else if stA s v=2 then 0 else bestW up (wtF ws v)
def sumA (up:Bool) (ws s:List Int) (n:Nat):Int:=sm ((List.range n).map fun v=>putW up ws s ((v:Nat):Int))
def goodA (up:Bool) (lim x:Int):Bool:=if up=true then decide (x≤lim) else decide (lim≤x)
def totW (ws R:List Int):Int:=sm (R.map (wtF ws))
def leafG (c:AggC) (s:List Int) (x:St4):Bool :=
 if x.k=2 then decide (0≤x.a∧x.a<(c.E.length:Int))&&areA s (c.E.getD x.a.toNat default) 1
 else if x.k=3 then decide (0≤x.a∧x.a<c.n∧stA s x.a=2)&&frA c.E s x.a
 else if x.k=6 then decide (x.a=0)&&goodA c.up c.lim (sumA c.up c.ws s c.n.toNat)
 else false
def brG (c:AggC) (s:List Int) (q:Nat) (x:St4):Bool:=decide (0≤x.a∧x.a<c.n∧stA s x.a=0∧(q:Int)<x.i∧(q:Int)<x.o∧x.i<(c.S.length:Int)∧x.o<(c.S.length:Int))
def rightG (c:AggC):Nat→Nat→List Int→List Bool→Option (List Bool)
 | 0,_,_,_=>none
 | f+1,q,s,sn =>
  if sn.getD q default=true then none
  else if (c.S.getD q default).k=1 then
   if brG c s q (c.S.getD q default)=true then
    (rightG c f (c.S.getD q default).i.toNat (s.set (c.S.getD q default).a.toNat 1) (sn.set q true)).bind fun sn2=>rightG c f (c.S.getD q default).o.toNat (s.set (c.S.getD q default).a.toNat 2) sn2
   else none
  else if (c.S.getD q default).i=0∧(c.S.getD q default).o=0∧leafG c s (c.S.getD q default)=true then some (sn.set q true) else none
structure AggOk (g:Gr) (c:AggC):Prop where
 v:validG g=true
 n:c.n=g.n
 E:c.E=g.edges
theorem tot_range {g:Gr} {R ws:List Int} (hR:setB R g.n=true):totW ws R=sm ((List.range g.n.toNat).map fun i=>if ((i:Nat):Int)∈R then wtF ws ((i:Nat):Int) else 0):=by
 have hs:=setB_iff.1 hR
 rw [←sm_memK R (wtF ws)]
 unfold totW
 congr 2
 refine inc_ext hs.1 (memK_inc _ _) fun x=>?_
 rw [memK_mem]
 exact ⟨fun h=>⟨(hs.2 x h).1,by have:=hs.2 x h;omega,h⟩,fun h=>h.2.2⟩
def wtsB (g:Gr) (ws:List Int) (least:Int):Bool:=decide ((ws.length:Int)=g.n)&&ws.all fun x=>decide (least≤x∧x≤1000000000)
def provG (g:Gr) (ws:List Int) (up:Bool) (lim:Int) (S:List St4):Bool:=decide (0<S.length∧S.length≤100000)&&(rightG ⟨g.n,g.edges,ws,up,lim,S⟩ S.length 0 (List.replicate g.n.toNat 0) (List.replicate S.length false)).isSome
def cLv (g:Gr):PrfC:=⟨g.n,g.edges,[],false,[]⟩
theorem cLv_ok {g:Gr} (hg:validG g=true):PrfOk g (cLv g):=⟨hg,rfl,rfl,fun _ h=>nomatch h⟩
def leavS (c:PrfC) (n:Nat):List Nat→List Int→List (List Int)
 | [],s=>[insA s n]
 | v :: O,s=>(if (closeS c (s.set v 1) (v:Int)).isNone=true then leavS c n O (s.set v 1) else [])++if (closeS c (s.set v 2) (v:Int)).isNone=true then leavS c n O (s.set v 2) else []
theorem set_nat {g:Gr} {s:List Int} (hs:(s.length:Int)=g.n) {v:Nat} (hv:(v:Int)<g.n) (x u:Int) (hu:0≤u):stA (s.set v x) u=if u=(v:Int) then x else stA s u:=by
 have:=stA_set hs (v:=(v:Int)) (by omega) hv x u hu
 rwa [Int.toNat_natCast] at this
theorem insA_inc (s:List Int) (n:Nat):Inc (insA s n):=pickI_inc n fun v=>decide (s.getD v default=1)
theorem full_rep {g:Gr} {n:Nat} (hn:g.n=(n:Int)) {s:List Int} (hN:NoLf (cLv g) s) (hd:∀ u,0≤u→u<g.n→stA s u=1∨stA s u=2) (hE:∀ e∈g.edges,∀ v∈e,0≤v∧v<g.n):IsRep g (insA s n):=by
 have hset:setB (insA s n) g.n=true:=setB_iff.2 ⟨insA_inc _ _,fun x hx=>by
  have:=insA_mem.1 hx
  omega⟩
 refine ⟨hset,fun e he=>?_,fun v h0 h1 hv=>?_⟩
 ·rw [←Bool.not_eq_true]
  intro hh
  have hh:=subB_iff.1 hh
  have:=hN.clash e he
  rw [areA_iff.2 fun u hu=>(insA_mem.1 (hh u hu)).2.2] at this
  cases this
 ·have h2:stA s v=2:=by
   rcases hd v h0 h1 with h | h
   ·exact absurd (insA_mem.2 ⟨h0,by omega,h⟩) hv
   ·exact h
  obtain ⟨e,he,hve,hall⟩:=frA_false (hN.free v h0 h1 h2)
  refine ⟨e,he,hve,fun x hx hne=>?_⟩
  have hr:=hE e he x hx
  rcases hd x hr.1 hr.2 with h | h
  ·exact insA_mem.2 ⟨hr.1,by omega,h⟩
  ·exact absurd h (hall x hx hne)
theorem leav_sound {g:Gr} (hg:validG g=true) {n:Nat} (hn:g.n=(n:Int)):∀ (k v:Nat) (s:List Int),v+k=n→(s.length:Int)=g.n→NoLf (cLv g) s→(∀ u:Nat,u<v→stA s (u:Int)=1∨stA s (u:Int)=2)→(∀ u:Nat,v≤u→u<n→stA s (u:Int)=0) →
  ∀ R∈leavS (cLv g) n (List.range' v k) s,IsRep g R∧ConsA g.n s R:=by
 have hE:=(validG_iff.1 hg).2.2.1
 intro k
 induction k with
 | zero =>
  intro v s hk hs hN hd _ R hR
  obtain rfl:R=insA s n:=by
   unfold leavS at hR
   exact List.mem_singleton.1 hR
  have hd2:∀ u,0≤u→u<g.n→stA s u=1∨stA s u=2:=fun u h0 h1=>by
   have:=hd u.toNat (by omega)
   rwa [show ((u.toNat:Nat):Int)=u by omega] at this
  refine ⟨full_rep hn hN hd2 fun e he v hv=>(hE e he).2.2 v hv,fun v h0 h1=>⟨fun h=>insA_mem.2 ⟨h0,by omega,h⟩,fun h hm=>?_⟩⟩
  have:=(insA_mem.1 hm).2.2
  omega
 | succ k ih =>
  intro v s hk hs hN hd hu0 R hR
  have hvn:(v:Int)<g.n:=by omega
  have key:∀ x,(x=1∨x=2)→(closeS (cLv g) (s.set v x) (v:Int)).isNone=true→R∈leavS (cLv g) n (List.range' (v+1) k) (s.set v x)→IsRep g R∧ConsA g.n s R:=fun x hx hc hR=>by
   have hst:=fun u (h:0≤u)=>set_nat (g:=g) hs hvn x u h
   obtain ⟨h1,h2⟩:=ih (v+1) (s.set v x) (by omega) (by rw [List.length_set];exact hs) (noLf_step (cLv_ok hg) hs hN hvn hx (hu0 v (Nat.le_refl _) (by omega)) (Option.isNone_iff_eq_none.1 hc)) (fun u hu=>by
    rw [hst _ (by omega)]
    by_cases e:(u:Int)=(v:Int)
    ·rw [if_pos e];exact hx
    ·rw [if_neg e];exact hd u (by omega)) (fun u h1 h2=>by
    rw [hst _ (by omega),if_neg (by omega)];exact hu0 u (by omega) h2) R hR
   refine ⟨h1,fun u h0 h1=>?_⟩
   have h3:=h2 u h0 h1
   rw [hst u h0] at h3
   by_cases e:u=(v:Int)
   ·rw [e,hu0 v (Nat.le_refl _) (by omega)]
    exact ⟨fun h=>absurd h (by decide),fun h=>absurd h (by decide)⟩
   ·rwa [if_neg e] at h3
  rw [List.range'_succ] at hR
  unfold leavS at hR
  rcases List.mem_append.1 hR with h | h
  ·split at h
   ·exact key 1 (.inl rfl) (by assumption) h
   ·cases h
  ·split at h
   ·exact key 2 (.inr rfl) (by assumption) h
   ·cases h
theorem leav_all {g:Gr} (hg:validG g=true) {n:Nat} (hn:g.n=(n:Int)) {R:List Int} (hR:IsRep g R):∀ (k v:Nat) (s:List Int),v+k=n→(s.length:Int)=g.n→(∀ u:Nat,u<v→stA s (u:Int)=1∨stA s (u:Int)=2)→ConsA g.n s R→R∈leavS (cLv g) n (List.range' v k) s:=by
 have hRs:=setB_iff.1 hR.set
 intro k
 induction k with
 | zero =>
  intro v s hk hs hd hc
  have:R=insA s n:=inc_ext hRs.1 (insA_inc _ _) fun x=>by
   rw [insA_mem]
   constructor
   ·intro h
    have hr:=hRs.2 x h
    refine ⟨hr.1,by omega,?_⟩
    have h1:=hd x.toNat (by omega)
    rw [show ((x.toNat:Nat):Int)=x by omega] at h1
    exact h1.resolve_right fun h2=>(hc x hr.1 hr.2).2 h2 h
   ·intro h
    exact (hc x h.1 (by omega)).1 h.2.2
  rw [this]
  unfold leavS
  exact List.mem_singleton.2 rfl
 | succ k ih =>
  intro v s hk hs hd hc
  have hvn:(v:Int)<g.n:=by omega
  have key:∀ x,(x=1∨x=2)→((x=1→(v:Int)∈R)∧(x=2→(v:Int)∉R))→(closeS (cLv g) (s.set v x) (v:Int)).isNone=true∧R∈leavS (cLv g) n (List.range' (v+1) k) (s.set v x):=fun x hx hxR=>by
   have hst:=fun u (h:0≤u)=>set_nat (g:=g) hs hvn x u h
   have hc2:ConsA g.n (s.set v x) R:=by
    have:=hc.set hs (v:=(v:Int)) (x:=x) (by omega) hvn hxR
    rwa [Int.toNat_natCast] at this
   refine ⟨Option.isNone_iff_eq_none.2 ?_,ih (v+1) (s.set v x) (by omega) (by rw [List.length_set];exact hs) (fun u hu=>by
    rw [hst _ (by omega)]
    by_cases e:(u:Int)=(v:Int)
    ·rw [if_pos e];exact hx
    ·rw [if_neg e];exact hd u (by omega)) hc2⟩
   cases hcl:closeS (cLv g) (s.set v x) (v:Int) with
   | none=>rfl
   | some y =>
    have h1:=(closeS_leaf (cLv_ok hg) hcl hvn).1
    have h2:=leaf_sound (cLv_ok hg) h1 hR hc2
    cases h2
  rw [List.range'_succ]
  unfold leavS
  by_cases hv:(v:Int)∈R
  ·obtain ⟨h1,h2⟩:=key 1 (.inl rfl) ⟨fun _=>hv,fun h=>absurd h (by decide)⟩
   rw [if_pos h1]
   exact List.mem_append.2 (.inl h2)
  ·obtain ⟨h1,h2⟩:=key 2 (.inr rfl) ⟨fun h=>absurd h (by decide),fun _=>hv⟩
   rw [if_pos h1]
   exact List.mem_append.2 (.inr h2)
theorem leav_up {g:Gr} (hg:validG g=true) {n:Nat} (hn:g.n=(n:Int)):∀ (k v:Nat) (s:List Int),v+k=n→(s.length:Int)=g.n→NoLf (cLv g) s→(∀ u:Nat,u<v→stA s (u:Int)=1∨stA s (u:Int)=2)→(∀ u:Nat,v≤u→u<n→stA s (u:Int)=0)→Up lexB (leavS (cLv g) n (List.range' v k) s):=by
 intro k
 induction k with
 | zero =>
  intro v s _ _ _ _ _
  exact List.pairwise_singleton _ _
 | succ k ih =>
  intro v s hk hs hN hd hu0
  have hvn:(v:Int)<g.n:=by omega
  have key:∀ x,(x=1∨x=2)→(closeS (cLv g) (s.set v x) (v:Int)).isNone=true→Up lexB (leavS (cLv g) n (List.range' (v+1) k) (s.set v x))∧∀ R∈leavS (cLv g) n (List.range' (v+1) k) (s.set v x),IsRep g R∧ConsA g.n (s.set v x) R:=fun x hx hc=>by
   have hst:=fun u (h:0≤u)=>set_nat (g:=g) hs hvn x u h
   have a1:((s.set v x).length:Int)=g.n:=by rw [List.length_set];exact hs
   have a2:=noLf_step (cLv_ok hg) hs hN hvn hx (hu0 v (Nat.le_refl _) (by omega)) (Option.isNone_iff_eq_none.1 hc)
   have a3:∀ u:Nat,u<v+1→stA (s.set v x) (u:Int)=1∨stA (s.set v x) (u:Int)=2:=fun u hu=>by
    rw [hst _ (by omega)]
    by_cases e:(u:Int)=(v:Int)
    ·rw [if_pos e];exact hx
    ·rw [if_neg e];exact hd u (by omega)
   have a4:∀ u:Nat,v+1≤u→u<n→stA (s.set v x) (u:Int)=0:=fun u h1 h2=>by
    rw [hst _ (by omega),if_neg (by omega)];exact hu0 u (by omega) h2
   exact ⟨ih (v+1) _ (by omega) a1 a2 a3 a4,leav_sound hg hn k (v+1) _ (by omega) a1 a2 a3 a4⟩
  rw [List.range'_succ]
  unfold leavS
  refine List.pairwise_append.2 ⟨?_,?_,fun R1 h1 R2 h2=>?_⟩
  ·split
   ·exact (key 1 (.inl rfl) (by assumption)).1
   ·exact List.Pairwise.nil
  ·split
   ·exact (key 2 (.inr rfl) (by assumption)).1
   ·exact List.Pairwise.nil
  ·split at h1
   ·split at h2
    ·obtain ⟨p1,p2⟩:=(key 1 (.inl rfl) (by assumption)).2 R1 h1
     obtain ⟨q1,q2⟩:=(key 2 (.inr rfl) (by assumption)).2 R2 h2
     have e1:=p2 (v:Int) (by omega) hvn
     have e2:=q2 (v:Int) (by omega) hvn
     rw [set_nat (g:=g) hs hvn _ _ (by omega),if_pos rfl] at e1 e2
     refine rep_less p1 q1 (e1.1 rfl) (e2.2 rfl) fun x hx=>?_
     by_cases h0:0≤x
     ·have f1:=p2 x h0 (by omega)
      have f2:=q2 x h0 (by omega)
      rw [set_nat (g:=g) hs hvn _ _ h0,if_neg (by omega)] at f1 f2
      have hx2:=hd x.toNat (by omega)
      rw [show ((x.toNat:Nat):Int)=x by omega] at hx2
      rcases hx2 with h | h
      ·exact ⟨fun _=>f2.1 h,fun _=>f1.1 h⟩
      ·exact ⟨fun hm=>absurd hm (f1.2 h),fun hm=>absurd hm (f2.2 h)⟩
     ·exact ⟨fun hm=>absurd ((setB_iff.1 p1.set).2 x hm).1 h0,fun hm=>absurd ((setB_iff.1 q1.set).2 x hm).1 h0⟩
    ·cases h2
   ·cases h1
theorem leav_reps {g:Gr} (hg:validG g=true) {n:Nat} (hn:g.n=(n:Int)):leavS (cLv g) n (List.range' 0 n) (zerS g)=repsG g:=by
 have hz:((zerS g).length:Int)=g.n:=by simp [zerS];omega
 have h0:∀ v,stA (zerS g) v=0:=zerS_at g
 have hcl:closeS (cLv g) (zerS g) (-1)=none:=by
  cases h:closeS (cLv g) (zerS g) (-1) with
  | none=>rfl
  | some x =>
   obtain ⟨X,hX⟩:=List.exists_mem_of_ne_nil _ (reps_ne hg)
   have hX:=(reps_mem hg).1 hX
   have h1:=(closeS_leaf (cLv_ok hg) h (by omega)).1
   have h2:=leaf_sound (cLv_ok hg) h1 hX fun v _ _=>⟨fun e=>(by rw [h0] at e;cases e),fun e=>(by rw [h0] at e;cases e)⟩
   cases h2
 have hN:=noLf_start (cLv_ok hg) h0 hcl
 have a1:=leav_up hg hn n 0 (zerS g) (by omega) hz hN (fun u hu=>absurd hu (Nat.not_lt_zero u)) (fun u _ _=>h0 _)
 refine Up.ext lexB_sto a1 (reps_up hg) fun R=>?_
 rw [reps_mem hg]
 constructor
 ·exact fun h=>(leav_sound hg hn n 0 (zerS g) (by omega) hz hN (fun u hu=>absurd hu (Nat.not_lt_zero u)) (fun u _ _=>h0 _) R h).1
 ·exact fun h=>leav_all hg hn h n 0 (zerS g) (by omega) hz (fun u hu=>absurd hu (Nat.not_lt_zero u)) fun v _ _=>⟨fun e=>(by rw [h0] at e;cases e),fun e=>(by rw [h0] at e;cases e)⟩
def cfS (c:AggC) (s:List Int) (l:Int):Option St4:=(clashS ⟨c.n,c.E,[],false,[]⟩ s l).or (freeS ⟨c.n,c.E,[],false,[]⟩ s l)
def aggS (c:AggC) (M:Nat):List Nat→Int→List Int→List St4→Srch
 | O,l,s,S =>
  match cfS c s l with
  | some x=>.proof (S++[x])
  | none =>
   if M<S.length then .full
   else if goodA c.up c.lim (sumA c.up c.ws s c.n.toNat)=true then .proof (S++[⟨6,0,0,0⟩])
   else match O with
   | []=>.found s
   | v :: O =>
    match aggS c M O (v:Int) (s.set v 1) (S++[⟨1,(v:Int),(S.length:Int)+1,0⟩]) with
    | .proof S1=>aggS c M O (v:Int) (s.set v 2) (S1.set S.length { S1.getD S.length default with o:=(S1.length:Int) })
    | r=>r
theorem cfS_none {g:Gr} {c:AggC} (hn:c.n=g.n) (hE:c.E=g.edges) {s:List Int} {l:Int}:cfS c s l=none↔closeS (cLv g) s l=none:=by
 have h1:wayS (cLv g) s=none:=by
  unfold wayS
  rw [if_neg (show ¬(cLv g).h=true from Bool.false_ne_true)]
  rfl
 have h2:noneS (cLv g) s=none:=by
  unfold noneS
  rw [if_neg]
  unfold leafA
  simp [cLv]
 unfold cfS closeS
 rw [h1,h2,hn,hE]
 show _↔((clashS ⟨g.n,g.edges,[],false,[]⟩ s l).or ((freeS ⟨g.n,g.edges,[],false,[]⟩ s l).or (none.or none)))=none
 rw [Option.or_none,Option.or_none]
theorem cfS_leaf {g:Gr} {c:AggC} (hc:AggOk g c) {s:List Int} {l:Int} {x:St4} (h:cfS c s l=some x) (hl:l<g.n):leafG c s x=true∧x.k≠1∧x.i=0∧x.o=0:=by
 have hok:PrfOk g ⟨c.n,c.E,[],false,[]⟩:=⟨hc.v,hc.n,hc.E,fun _ h=>nomatch h⟩
 have h2:closeS ⟨c.n,c.E,[],false,[]⟩ s l=some x:=by
  unfold cfS at h
  unfold closeS
  rw [←Option.or_assoc,h]
  rfl
 obtain ⟨k1,k2,k3,k4⟩:=closeS_leaf hok h2 hl
 refine ⟨?_,k2,k3,k4⟩
 unfold leafA at k1
 unfold leafG
 dsimp only at k1
 split at k1
 ·rename_i e;rw [if_pos e];exact k1
 split at k1
 ·rename_i e1 e;rw [if_neg e1,if_pos e];exact k1
 split at k1
 ·simp at k1
  omega
 split at k1
 ·simp at k1
 ·cases k1
theorem leafG_steps {c c':AggC} (hn:c'.n=c.n) (hE:c'.E=c.E) (hw:c'.ws=c.ws) (hu:c'.up=c.up) (hl:c'.lim=c.lim) (s:List Int) (x:St4):leafG c' s x=leafG c s x:=by
 unfold leafG
 rw [hn,hE,hw,hu,hl]
theorem bound_leaf {c:AggC} {s:List Int} (h:goodA c.up c.lim (sumA c.up c.ws s c.n.toNat)=true):leafG c s ⟨6,0,0,0⟩=true:=by
 unfold leafG
 rw [if_neg (show ¬((6:Int)=2) by decide),if_neg (show ¬((6:Int)=3) by decide),if_pos rfl,h]
 rfl
structure Pfx2 (S S2:List St4):Prop where
 lt:S.length<S2.length
 eq:∀ q,q<S.length→S2.getD q default=S.getD q default
theorem pfx_one (S:List St4) (x:St4):Pfx2 S (S++[x]):=⟨by simp,fun q hq=>by rw [List.getD,List.getD,List.getElem?_append_left hq]⟩
theorem agg_pfx {c:AggC} {M:Nat}:∀ (O:List Nat) (l:Int) (s:List Int) (S S2:List St4),aggS c M O l s S=.proof S2→Pfx2 S S2:=by
 intro O
 induction O with
 | nil =>
  intro l s S S2 h
  unfold aggS at h
  split at h
  ·injection h with h;subst h;exact pfx_one _ _
  ·split at h
   ·cases h
   ·split at h
    ·injection h with h;subst h;exact pfx_one _ _
    ·cases h
 | cons v O ih =>
  intro l s S S2 h
  unfold aggS at h
  split at h
  ·injection h with h;subst h;exact pfx_one _ _
  ·split at h
   ·cases h
   ·split at h
    ·injection h with h;subst h;exact pfx_one _ _
    ·dsimp only at h
     split at h
     ·rename_i S1 h1
      have k1:=ih _ _ _ _ h1
      have k2:=ih _ _ _ _ h
      have l1:=k1.lt;have l2:=k2.lt
      rw [List.length_append] at l1
      rw [List.length_set] at l2
      simp only [List.length_cons,List.length_nil] at l1
      refine ⟨by omega,fun q hq=>?_⟩
      rw [k2.eq q (by rw [List.length_set];omega),List.getD,List.getElem?_set_ne (by omega),←List.getD,k1.eq q (by rw [List.length_append];omega),List.getD,List.getD,List.getElem?_append_left hq]
     ·rename_i r hr
      exact absurd h (hr _)
theorem agg_right {g:Gr} {c:AggC} (hc:AggOk g c) {M:Nat}:∀ (O:List Nat) (l:Int) (s:List Int) (S S2:List St4),aggS c M O l s S=.proof S2→(s.length:Int)=g.n→l<g.n→(∀ v∈O,(v:Int)<g.n∧stA s (v:Int)=0)→O.Nodup →
  ∀ (X:List St4) (sn:List Bool) (F:Nat),(∀ q,S.length≤q→q<S2.length→X.getD q default=S2.getD q default)→S2.length≤X.length→sn.length=X.length→(∀ q,S.length≤q→q<S2.length→sn.getD q default=false)→S2.length-S.length≤F →
   rightG { c with S:=X } F S.length s sn=some (seenI sn S.length S2.length):=by
 have hleaf:∀ (s:List Int) (S:List St4) (x:St4),(leafG c s x=true∧x.k≠1∧x.i=0∧x.o=0)→∀ (X:List St4) (sn:List Bool) (F:Nat),(∀ q,S.length≤q→q<(S++[x]).length→X.getD q default=(S++[x]).getD q default)→(S++[x]).length≤X.length→sn.length=X.length→(∀ q,S.length≤q→q<(S++[x]).length→sn.getD q default=false)→(S++[x]).length-S.length≤F→rightG { c with S:=X } F S.length s sn=some (seenI sn S.length (S++[x]).length):=by
  intro s S x hx X sn F hX hl hsn h0 hF
  obtain ⟨k1,k2,k3,k4⟩:=hx
  simp only [List.length_append,List.length_cons,List.length_nil] at hX hl h0 hF ⊢
  obtain ⟨F,rfl⟩:∃ F',F=F'+1:=⟨F-1,by omega⟩
  have hat:X.getD S.length default=x:=by
   rw [hX _ (Nat.le_refl _) (by omega),List.getD,List.getElem?_append_right (Nat.le_refl _),Nat.sub_self];rfl
  unfold rightG
  rw [h0 _ (Nat.le_refl _) (by omega),if_neg Bool.false_ne_true]
  dsimp only
  rw [hat,if_neg k2,if_pos ⟨k3,k4,(leafG_steps rfl rfl rfl rfl rfl s x).trans k1⟩,seenI_set (by omega)]
 intro O
 induction O with
 | nil =>
  intro l s S S2 h hs hl0 ho hnd X sn F hX hl hsn h0 hF
  unfold aggS at h
  split at h
  ·rename_i x hx
   injection h with h;subst h
   exact hleaf s S x (cfS_leaf hc hx hl0) X sn F hX hl hsn h0 hF
  ·split at h
   ·cases h
   ·split at h
    ·rename_i hg
     injection h with h;subst h
     exact hleaf s S _ ⟨bound_leaf hg,by show (6:Int)≠1;decide,rfl,rfl⟩ X sn F hX hl hsn h0 hF
    ·cases h
 | cons v O ih =>
  intro l s S S2 h hs hl0 ho hnd X sn F hX hl hsn h0 hF
  obtain ⟨hv,hv0⟩:=ho v (List.mem_cons_self)
  obtain ⟨hnv,hnd⟩:=List.nodup_cons.1 hnd
  have hop:∀ x,∀ u∈O,(u:Int)<g.n∧stA (s.set v x) (u:Int)=0:=fun x u hu=>by
   refine ⟨(ho u (List.mem_cons_of_mem _ hu)).1,?_⟩
   have:=stA_set hs (v:=(v:Int)) (by omega) hv x (u:Int) (by omega)
   rw [Int.toNat_natCast] at this
   rw [this,if_neg (show ¬(u:Int)=(v:Int) from fun e=>hnv (by rw [←Int.ofNat.inj e];exact hu))]
   exact (ho u (List.mem_cons_of_mem _ hu)).2
  unfold aggS at h
  split at h
  ·rename_i x hx
   injection h with h;subst h
   exact hleaf s S x (cfS_leaf hc hx hl0) X sn F hX hl hsn h0 hF
  ·split at h
   ·cases h
   split at h
   ·rename_i hg
    injection h with h;subst h
    exact hleaf s S _ ⟨bound_leaf hg,by show (6:Int)≠1;decide,rfl,rfl⟩ X sn F hX hl hsn h0 hF
   ·dsimp only at h
    split at h
    ·rename_i S1 h1
     have h2:=h
     have k1:=agg_pfx _ _ _ _ _ h1
     have k2:=agg_pfx _ _ _ _ _ h2
     have l1:=k1.lt;have l2:=k2.lt
     rw [List.length_append] at l1
     rw [List.length_set] at l2
     simp only [List.length_cons,List.length_nil] at l1
     have hx1:S1.getD S.length default=⟨1,(v:Int),(S.length:Int)+1,0⟩:=by
      rw [k1.eq _ (by simp),List.getD,List.getElem?_append_right (Nat.le_refl _),Nat.sub_self];rfl
     have hx:X.getD S.length default=⟨1,(v:Int),(S.length:Int)+1,(S1.length:Int)⟩:=by
      rw [hX _ (Nat.le_refl _) (by omega),k2.eq _ (by rw [List.length_set];omega),List.getD,List.getElem?_set_self (by omega),hx1];rfl
     obtain ⟨F,rfl⟩:∃ F',F=F'+1:=⟨F-1,by omega⟩
     have hS1:∀ q,S.length+1≤q→q<S1.length→X.getD q default=S1.getD q default:=fun q a b=>by
      rw [hX q (by omega) (by omega),k2.eq q (by rw [List.length_set];omega),List.getD,List.getElem?_set_ne (by omega)];rfl
     have r1:=ih (v:Int) (s.set v 1) _ _ h1 (by rw [List.length_set];exact hs) hv (hop 1) hnd X (sn.set S.length true) F (fun q a b=>hS1 q (by simpa using a) b) (by omega) (by rw [List.length_set];exact hsn) (fun q a b=>by
      simp only [List.length_append,List.length_cons,List.length_nil] at a
      rw [List.getD,List.getElem?_set_ne (by omega)];exact h0 q (by omega) (by omega)) (by simp only [List.length_append,List.length_cons,List.length_nil];omega)
     simp only [List.length_append,List.length_cons,List.length_nil,Nat.zero_add] at r1
     have r2:=ih (v:Int) (s.set v 2) _ _ h2 (by rw [List.length_set];exact hs) hv (hop 2) hnd X (seenI (sn.set S.length true) (S.length+1) S1.length) F (fun q a b=>hX q (by rw [List.length_set] at a;omega) b) (by omega) (by rw [seenI_len,List.length_set];exact hsn) (fun q a b=>by
      rw [List.length_set] at a
      rw [seenI_get (by rw [List.length_set];omega),decide_eq_false (by omega),Bool.or_false,List.getD,List.getElem?_set_ne (by omega)];exact h0 q (by omega) b) (by rw [List.length_set];omega)
     rw [List.length_set] at r2
     unfold rightG
     rw [h0 _ (Nat.le_refl _) (by omega),if_neg Bool.false_ne_true]
     dsimp only
     rw [hx,if_pos rfl,if_pos (by
      unfold brG
      rw [decide_eq_true_eq]
      dsimp only
      rw [hc.n]
      exact ⟨by omega,hv,hv0,by omega,by omega,by omega,by omega⟩)]
     dsimp only
     rw [Int.toNat_natCast,Int.toNat_natCast,show ((S.length:Int)+1).toNat=S.length+1 by omega,r1,Option.bind_some,r2,seenI_set (by omega),seenI_app (by omega) (by omega),seenI_app (by omega) (by omega)]
    ·rename_i r hr
     exact absurd h (hr _)
theorem sm_upd {f f':Nat→Int} {v:Nat} (h:∀ u,u≠v→f' u=f u):∀ n,v<n→sm ((List.range n).map f')=sm ((List.range n).map f)-f v+f' v
 | 0,hn=>absurd hn (Nat.not_lt_zero v)
 | n+1,hn=>by
  rw [List.range_succ,List.map_append,List.map_append,List.map_singleton,List.map_singleton,sm_snoc,sm_snoc]
  by_cases e:v=n
  ·subst e
   rw [sm_congr f' f fun u hu=>h u (Nat.ne_of_lt (List.mem_range.1 hu))]
   omega
  ·rw [sm_upd h n (by omega),h n fun e2=>e e2.symm]
   omega
theorem sumA_set {g:Gr} {up:Bool} {ws s:List Int} (hs:(s.length:Int)=g.n) {v:Nat} (hv:(v:Int)<g.n) (h0:stA s (v:Int)=0) {x:Int} (hx:x=1∨x=2):sumA up ws (s.set v x) g.n.toNat=sumA up ws s g.n.toNat-bestW up (wtF ws (v:Int))+if x=1 then wtF ws (v:Int) else 0:=by
 unfold sumA
 rw [sm_upd (f:=fun u:Nat=>putW up ws s (u:Int)) (f':=fun u:Nat=>putW up ws (s.set v x) (u:Int)) (v:=v) (fun u hu=>?_) _ (by omega)]
 ·congr 1
  ·congr 1
   show putW up ws s (v:Int)=_
   unfold putW
   rw [h0,if_neg (by decide),if_neg (by decide)]
  ·show putW up ws (s.set v x) (v:Int)=_
   unfold putW
   rw [set_nat (g:=g) hs hv x _ (by omega),if_pos rfl]
   rcases hx with rfl | rfl
   ·rw [if_pos rfl,if_pos rfl]
   ·rw [if_neg (by decide),if_pos rfl,if_neg (by decide)]
 ·show putW up ws (s.set v x) (u:Int)=putW up ws s (u:Int)
  unfold putW
  rw [set_nat (g:=g) hs hv x _ (by omega),if_neg (show ¬(u:Int)=(v:Int) by omega)]
theorem sumA_zero {g:Gr} {up:Bool} {ws:List Int} (hw:ws.length=g.n.toNat):sumA up ws (zerS g) g.n.toNat=sm (ws.map (bestW up)):=by
 unfold sumA
 rw [←hw]
 have:ws=(List.range ws.length).map fun i=>ws.getD i default:=by
  refine List.ext_getElem (by simp) fun i h1 h2=>?_
  rw [List.getElem_map,List.getElem_range,List.getD,List.getElem?_eq_getElem h1];rfl
 conv=>rhs;rw [this,List.map_map]
 refine sm_congr _ _ fun v _=>?_
 show putW up ws (zerS g) (v:Int)=bestW up (ws.getD v default)
 unfold putW wtF
 rw [zerS_at,if_neg (by decide),if_neg (by decide),Int.toNat_natCast]
theorem sumA_full {g:Gr} {up:Bool} {ws s:List Int} {n:Nat} (hn:g.n=(n:Int)) (hd:∀ u,0≤u→u<g.n→stA s u=1∨stA s u=2) (hR:setB (insA s n) g.n=true):sumA up ws s g.n.toNat=totW ws (insA s n):=by
 rw [tot_range hR]
 unfold sumA
 refine sm_congr _ _ fun v hv=>?_
 have hv:=List.mem_range.1 hv
 unfold putW
 rcases hd (v:Int) (by omega) (by omega) with h | h
 ·rw [if_pos h,if_pos (insA_mem.2 ⟨by omega,by omega,h⟩)]
 ·rw [if_neg (by rw [h];decide),if_pos h,if_neg fun hm=>by
   have:=(insA_mem.1 hm).2.2
   rw [h] at this;cases this]
theorem agg_found {g:Gr} {c:AggC} (hc:AggOk g c) {M:Nat}:∀ (O:List Nat) (l:Int) (s:List Int) (S:List St4) (s':List Int),aggS c M O l s S=.found s'→(s.length:Int)=g.n→(∀ v∈O,(v:Int)<g.n∧stA s (v:Int)=0)→O.Nodup→(cfS c s l=none→NoLf (cLv g) s) →
  NoLf (cLv g) s'∧s'.length=s.length∧(∀ u:Nat,u∉O→stA s' (u:Int)=stA s (u:Int))∧(∀ u∈O,stA s' (u:Int)=1∨stA s' (u:Int)=2)∧goodA c.up c.lim (sumA c.up c.ws s' c.n.toNat)=false:=by
 intro O
 induction O with
 | nil =>
  intro l s S s' h hs ho hnd hcl
  unfold aggS at h
  split at h
  ·cases h
  ·rename_i hn
   split at h
   ·cases h
   ·split at h
    ·cases h
    ·rename_i hg
     injection h with h
     subst h
     exact ⟨hcl hn,rfl,fun _ _=>rfl,fun _ h=>absurd h List.not_mem_nil,by simpa using hg⟩
 | cons v O ih =>
  intro l s S s' h hs ho hnd hcl
  obtain ⟨hv,hv0⟩:=ho v (List.mem_cons_self)
  obtain ⟨hnv,hnd⟩:=List.nodup_cons.1 hnd
  have hst:∀ x (u:Nat),stA (s.set v x) (u:Int)=if u=v then x else stA s (u:Int):=fun x u=>by
   have:=stA_set hs (v:=(v:Int)) (by omega) hv x (u:Int) (by omega)
   rw [Int.toNat_natCast] at this
   rw [this]
   by_cases e:u=v
   ·rw [if_pos e,if_pos (by omega)]
   ·rw [if_neg e,if_neg (by omega)]
  unfold aggS at h
  split at h
  ·cases h
  ·rename_i hn
   split at h
   ·cases h
   split at h
   ·cases h
   ·dsimp only at h
    have hN:=hcl hn
    have key:∀ x,(x=1∨x=2)→∀ S,aggS c M O (v:Int) (s.set v x) S=.found s'→NoLf (cLv g) s'∧s'.length=s.length∧(∀ u:Nat,u∉v :: O→stA s' (u:Int)=stA s (u:Int))∧(∀ u∈v :: O,stA s' (u:Int)=1∨stA s' (u:Int)=2)∧goodA c.up c.lim (sumA c.up c.ws s' c.n.toNat)=false:=by
     intro x hx S h
     obtain ⟨k1,k2,k3,k4,k5⟩:=ih _ _ _ _ h (by rw [List.length_set];exact hs) (fun u hu=>⟨(ho u (List.mem_cons_of_mem _ hu)).1,by
      rw [hst,if_neg (show ¬u=v from fun e=>hnv (e▸hu))];exact (ho u (List.mem_cons_of_mem _ hu)).2⟩) hnd (fun hcl=>noLf_step (cLv_ok hc.v) hs hN hv hx hv0 ((cfS_none hc.n hc.E).1 hcl))
     refine ⟨k1,by rw [k2,List.length_set],fun u hu=>?_,fun u hu=>?_,k5⟩
     ·rw [List.mem_cons,not_or] at hu
      rw [k3 u hu.2,hst,if_neg hu.1]
     ·by_cases e:u=v
      ·subst e
       rw [k3 u hnv,hst,if_pos rfl];exact hx
      ·exact k4 u ((List.mem_cons.1 hu).resolve_left e)
    split at h
    ·exact key 2 (.inr rfl) _ h
    ·exact key 1 (.inl rfl) _ h
theorem agg_proof {g:Gr} {c:AggC} (hc:AggOk g c) {n:Nat} (hn:g.n=(n:Int)) (hall:∀ R,IsRep g R→goodA c.up c.lim (totW c.ws R)=true) {M:Nat} {O:List Nat} (hO:∀ v:Nat,v∈O↔v<n) (hnd:O.Nodup) {s':List Int}:aggS c M O (-1) (zerS g) []≠.found s':=fun h=>by
 have hz:((zerS g).length:Int)=g.n:=by simp [zerS];omega
 obtain ⟨k1,k2,k3,k4,k5⟩:=agg_found hc O _ _ _ _ h hz (fun v hv=>⟨by have:=(hO v).1 hv;omega,zerS_at g _⟩) hnd fun hcl=>noLf_start (cLv_ok hc.v) (zerS_at g) ((cfS_none hc.n hc.E).1 hcl)
 have hd:∀ u,0≤u→u<g.n→stA s' u=1∨stA s' u=2:=fun u h0 h1=>by
  have:=k4 u.toNat ((hO _).2 (by omega))
  rwa [show ((u.toNat:Nat):Int)=u by omega] at this
 have hR:=full_rep hn k1 hd fun e he v hv=>((validG_iff.1 hc.v).2.2.1 e he).2.2 v hv
 have:=hall _ hR
 rw [←sumA_full (up:=c.up) hn hd hR.set,←hc.n,k5] at this
 cases this
theorem agg_len {c:AggC} {M:Nat}:∀ (k:Nat) (O:List Nat),O.length=k→∀ (l:Int) (s:List Int) (S:List St4),S.length+(2 ^ (k+1)-1)≤M →
  (∃ s',aggS c M O l s S=.found s')∨∃ S2,aggS c M O l s S=.proof S2∧S2.length≤S.length+(2 ^ (k+1)-1):=by
 intro k
 induction k with
 | zero =>
  intro O hO l s S hM
  obtain rfl:O=[]:=List.length_eq_zero_iff.1 hO
  unfold aggS
  split
  ·exact .inr ⟨_,rfl,by simp⟩
  ·rw [if_neg (by omega)]
   split
   ·exact .inr ⟨_,rfl,by simp⟩
   ·exact .inl ⟨_,rfl⟩
 | succ k ih =>
  intro O hO l s S hM
  have hp:2 ^ (k+1+1)=2*2 ^ (k+1):=by rw [Nat.pow_succ,Nat.mul_comm]
  have hp0:0<2 ^ (k+1):=Nat.two_pow_pos _
  match O,hO with
  | v :: O,hO =>
  have hO:O.length=k:=by simpa using hO
  unfold aggS
  split
  ·exact .inr ⟨_,rfl,by simp;omega⟩
  ·rw [if_neg (by omega)]
   split
   ·exact .inr ⟨_,rfl,by simp;omega⟩
   ·dsimp only
    rcases ih O hO (v:Int) (s.set v 1) (S++[⟨1,(v:Int),(S.length:Int)+1,0⟩]) (by simp;omega) with ⟨s',h1⟩ | ⟨S1,h1,h2⟩
    ·rw [h1];exact .inl ⟨_,rfl⟩
    ·rw [h1]
     simp only [List.length_append,List.length_cons,List.length_nil] at h2
     dsimp only
     rcases ih O hO (v:Int) (s.set v 2) (S1.set S.length { S1.getD S.length default with o:=(S1.length:Int) }) (by rw [List.length_set];omega) with ⟨s',h3⟩ | ⟨S2,h3,h4⟩
     ·exact .inl ⟨s',h3⟩
     ·rw [List.length_set] at h4
      exact .inr ⟨S2,h3,by omega⟩
theorem sing_cf {g:Gr} {c:AggC} (hc:AggOk g c) {v:Nat} (hv:(v:Int)<g.n) (h1:∀ e∈g.edges,(v:Int)∈e→e=[(v:Int)]) {s:List Int} (hs:(s.length:Int)=g.n):(cfS c (s.set v 1) (v:Int)).isSome=true∨(cfS c (s.set v 2) (v:Int)).isSome=true:=by
 have key:∀ x,(closeS (cLv g) (s.set v x) (v:Int)).isSome=true→(cfS c (s.set v x) (v:Int)).isSome=true:=fun x h=>by
  cases hcf:cfS c (s.set v x) (v:Int) with
  | some y=>rfl
  | none =>
   rw [(cfS_none hc.n hc.E).1 hcf] at h
   cases h
 exact (sing_close (cLv_ok hc.v) hv h1 hs).elim (fun h=>.inl (key 1 h)) fun h=>.inr (key 2 h)
theorem agg_bnd {g:Gr} {c:AggC} (hc:AggOk g c) {M:Nat} {pt:List Nat}:∀ (sg:List Nat),(∀ v∈sg,(v:Int)<g.n∧∀ e∈g.edges,(v:Int)∈e→e=[(v:Int)])→∀ (l:Int) (s:List Int) (S:List St4),(s.length:Int)=g.n→S.length+bndS sg.length pt.length≤M →
  (∃ s',aggS c M (sg++pt) l s S=.found s')∨∃ S2,aggS c M (sg++pt) l s S=.proof S2∧S2.length≤S.length+bndS sg.length pt.length:=by
 intro sg
 have hp0:0<2 ^ (pt.length+1):=Nat.two_pow_pos _
 have hp1:2≤2 ^ (pt.length+1):=by rw [Nat.pow_succ];have:=Nat.two_pow_pos pt.length;omega
 induction sg with
 | nil =>
  intro _ l s S _ hM
  unfold bndS at hM ⊢
  rw [List.nil_append,List.length_nil,Nat.mul_zero,Nat.zero_add] at *
  exact agg_len _ pt rfl l s S hM
 | cons v sg ih =>
  intro hsg l s S hs hM
  have hih:=fun l s S=>ih (fun u hu=>hsg u (List.mem_cons_of_mem _ hu)) l s S
  obtain ⟨hv,h1⟩:=hsg v List.mem_cons_self
  have hb:bndS (v :: sg).length pt.length=bndS sg.length pt.length+2:=by unfold bndS;rw [List.length_cons];omega
  have hb0:1≤bndS sg.length pt.length:=by unfold bndS;omega
  rw [hb] at hM ⊢
  have hlf:∀ (s:List Int) (S:List St4),(cfS c s (v:Int)).isSome=true→∃ x,aggS c M (sg++pt) (v:Int) s S=.proof (S++[x]):=fun s S h=>by
   obtain ⟨x,hx⟩:=Option.isSome_iff_exists.1 h
   refine ⟨x,?_⟩
   unfold aggS
   rw [hx]
  rw [List.cons_append]
  unfold aggS
  split
  ·exact .inr ⟨_,rfl,by simp⟩
  ·rw [if_neg (by omega)]
   split
   ·exact .inr ⟨_,rfl,by simp⟩
   ·dsimp only
    rcases sing_cf hc hv h1 hs with h2 | h2
    ·obtain ⟨x,hx⟩:=hlf _ (S++[⟨1,(v:Int),(S.length:Int)+1,0⟩]) h2
     rw [hx]
     dsimp only
     obtain ⟨S1,hS1⟩:∃ S1,S1=S++[(⟨1,(v:Int),(S.length:Int)+1,0⟩:St4)]++[x]:=⟨_,rfl⟩
     rw [←hS1]
     have hl1:S1.length=S.length+2:=by rw [hS1];simp
     rcases hih (v:Int) (s.set v 2) (S1.set S.length { S1.getD S.length default with o:=(S1.length:Int) }) (by rw [List.length_set];exact hs) (by rw [List.length_set];omega) with ⟨s',h3⟩ | ⟨S2,h3,h4⟩
     ·exact .inl ⟨s',h3⟩
     ·refine .inr ⟨S2,h3,?_⟩
      rw [List.length_set] at h4
      omega
    ·rcases hih (v:Int) (s.set v 1) (S++[⟨1,(v:Int),(S.length:Int)+1,0⟩]) (by rw [List.length_set];exact hs) (by simp;omega) with ⟨s',h3⟩ | ⟨S1,h3,h4⟩
     ·rw [h3];exact .inl ⟨_,rfl⟩
     ·rw [h3]
      dsimp only
      simp only [List.length_append,List.length_cons,List.length_nil] at h4
      obtain ⟨x,hx⟩:=hlf (s.set v 2) (S1.set S.length { S1.getD S.length default with o:=(S1.length:Int) }) h2
      refine .inr ⟨_,hx,?_⟩
      rw [List.length_append,List.length_set]
      simp only [List.length_cons,List.length_nil]
      omega
theorem agg_prov {g:Gr} (hg:validG g=true) {n:Nat} (hn:g.n=(n:Int)) {ws:List Int} {up:Bool} {lim:Int} (hall:∀ R,IsRep g R→goodA up lim (totW ws R)=true) {sg pt:List Nat} (hO:∀ v:Nat,v∈sg++pt↔v<n) (hnd:(sg++pt).Nodup) (hsg:∀ v∈sg,∀ e∈g.edges,(v:Int)∈e→e=[(v:Int)]) :
  (∀ S,aggS ⟨g.n,g.edges,ws,up,lim,[]⟩ 100000 (sg++pt) (-1) (zerS g) []=.proof S→S.length≤100000→provG g ws up lim S=true)∧(bndS sg.length pt.length≤100000→∃ S,aggS ⟨g.n,g.edges,ws,up,lim,[]⟩ 100000 (sg++pt) (-1) (zerS g) []=.proof S∧S.length≤100000):=by
 have hc:AggOk g ⟨g.n,g.edges,ws,up,lim,[]⟩:=⟨hg,rfl,rfl⟩
 have hz:((zerS g).length:Int)=g.n:=by simp [zerS];omega
 constructor
 ·intro S hp hl
  have hk:=(agg_pfx _ _ _ _ _ hp).lt
  rw [List.length_nil] at hk
  have:=agg_right hc _ _ _ _ _ hp hz (by omega) (fun v hv=>⟨by have:=(hO v).1 hv;omega,zerS_at g _⟩) hnd S (List.replicate S.length false) S.length (fun _ _ _=>rfl) (Nat.le_refl _) (by simp) (fun q _ hq=>by simp [List.getD,hq]) (by omega)
  rw [List.length_nil] at this
  unfold provG
  rw [decide_eq_true (by omega)]
  unfold zerS at this
  rw [this]
  rfl
 ·intro hb
  rcases agg_bnd hc (M:=100000) (pt:=pt) sg (fun v hv=>⟨by have:=(hO v).1 (List.mem_append.2 (.inl hv));omega,hsg v hv⟩) (-1) (zerS g) [] hz (by rw [List.length_nil];omega) with ⟨s',h⟩ | ⟨S,h,h2⟩
  ·exact absurd h (agg_proof hc hn hall hO hnd)
  ·exact ⟨S,h,by rw [List.length_nil] at h2;omega⟩
end Go.Vc
