/- Own library: proofs about all repairs. Plain. -/
import Derived.Test.YtjocoefpnboccaaGreatDoorXVcBlk
namespace Go.Vc
set_option maxHeartbeats 16000000
set_option maxRecDepth 100000
structure St4 where
 k:Int
 a:Int
 i:Int
 o:Int
instance:Inhabited St4:=⟨⟨0,0,0,0⟩⟩
structure PrfC where
 n:Int
 E:List (List Int)
 W:List Wy
 h:Bool
 S:List St4
def stA (s:List Int) (v:Int):Int:=s.getD v.toNat default
def areA (s l:List Int) (x:Int):Bool:=l.all fun v=>decide (stA s v=x)
def somA (s l:List Int) (x:Int):Bool:=l.any fun v=>decide (stA s v=x)
def frA (E:List (List Int)) (s:List Int) (v:Int):Bool:=E.all fun e=>!decide (v∈e)||e.any fun u=>decide (u≠v)&&decide (stA s u=2)
def leafA (c:PrfC) (s:List Int) (x:St4):Bool :=
 if x.k=2 then decide (0≤x.a∧x.a<(c.E.length:Int))&&areA s (c.E.getD x.a.toNat default) 1
 else if x.k=3 then decide (0≤x.a∧x.a<c.n∧stA s x.a=2)&&frA c.E s x.a
 else if x.k=4 then !c.h&&(decide (0≤x.a∧x.a<(c.W.length:Int))&&(areA s (c.W.getD x.a.toNat default).pos 1&&areA s (c.W.getD x.a.toNat default).neg 2))
 else if x.k=5 then c.h&&(decide (x.a=0)&&c.W.all fun w=>somA s w.pos 2||somA s w.neg 1)
 else false
def brA (c:PrfC) (s:List Int) (q:Nat) (x:St4):Bool:=decide (0≤x.a∧x.a<c.n∧stA s x.a=0∧(q:Int)<x.i∧(q:Int)<x.o∧x.i<(c.S.length:Int)∧x.o<(c.S.length:Int))
def rightO (c:PrfC):Nat→Nat→List Int→List Bool→Option (List Bool)
 | 0,_,_,_=>none
 | f+1,q,s,sn =>
  if sn.getD q default=true then none
  else if (c.S.getD q default).k=1 then
   if brA c s q (c.S.getD q default)=true then
    (rightO c f (c.S.getD q default).i.toNat (s.set (c.S.getD q default).a.toNat 1) (sn.set q true)).bind fun sn2=>rightO c f (c.S.getD q default).o.toNat (s.set (c.S.getD q default).a.toNat 2) sn2
   else none
  else if (c.S.getD q default).i=0∧(c.S.getD q default).o=0∧leafA c s (c.S.getD q default)=true then some (sn.set q true) else none
theorem areA_iff {s l:List Int} {x:Int}:areA s l x=true↔∀ v∈l,stA s v=x:=by simp [areA]
theorem somA_iff {s l:List Int} {x:Int}:somA s l x=true↔∃ v∈l,stA s v=x:=by simp [somA]
theorem frA_iff {E:List (List Int)} {s:List Int} {v:Int}:frA E s v=true↔∀ e∈E,v∈e→∃ u∈e,u≠v∧stA s u=2:=by
 unfold frA
 rw [List.all_eq_true]
 constructor
 ·intro h e he hv
  have:=h e he
  rw [decide_eq_true hv,Bool.not_true,Bool.false_or,List.any_eq_true] at this
  obtain ⟨u,hu,h2⟩:=this
  rw [Bool.and_eq_true,decide_eq_true_eq,decide_eq_true_eq] at h2
  exact ⟨u,hu,h2⟩
 ·intro h e he
  by_cases hv:v∈e
  ·obtain ⟨u,hu,h2,h3⟩:=h e he hv
   rw [Bool.or_eq_true]
   exact .inr (List.any_eq_true.2 ⟨u,hu,by rw [decide_eq_true h2,decide_eq_true h3];rfl⟩)
  ·rw [decide_eq_false hv];rfl
def ConsA (n:Int) (s R:List Int):Prop:=∀ v,0≤v→v<n→(stA s v=1→v∈R)∧(stA s v=2→v∉R)
theorem stA_set {s:List Int} {n v:Int} (hs:(s.length:Int)=n) (h0:0≤v) (h1:v<n) (x u:Int) (hu:0≤u):stA (s.set v.toNat x) u=if u=v then x else stA s u:=by
 unfold stA
 by_cases e:u=v
 ·subst e
  rw [if_pos rfl,List.getD,List.getElem?_set_self (by omega)];rfl
 ·rw [if_neg e,List.getD,List.getElem?_set_ne (by omega)];rfl
theorem ConsA.set {n:Int} {s R:List Int} (h:ConsA n s R) (hs:(s.length:Int)=n) {v x:Int} (h0:0≤v) (h1:v<n) (hx:(x=1→v∈R)∧(x=2→v∉R)):ConsA n (s.set v.toNat x) R:=fun u hu0 hu1=>by
 rw [stA_set hs h0 h1 x u hu0]
 by_cases e:u=v
 ·subst e;rw [if_pos rfl];exact hx
 ·rw [if_neg e];exact h u hu0 hu1
structure PrfOk (g:Gr) (c:PrfC):Prop where
 v:validG g=true
 n:c.n=g.n
 E:c.E=g.edges
 W:∀ w∈c.W,wyB g.n w=true
theorem holdW_iff {R:List Int} {w:Wy}:holdW R w=true↔(∀ v∈w.pos,v∈R)∧∀ v∈w.neg,v∉R:=by
 unfold holdW
 rw [Bool.and_eq_true,List.all_eq_true,List.all_eq_true]
 refine and_congr ⟨fun h v hv=>of_decide_eq_true (h v hv),fun h v hv=>decide_eq_true (h v hv)⟩ ⟨fun h v hv=>by simpa using h v hv,fun h v hv=>by simpa using h v hv⟩
theorem wy_rng {n:Int} {w:Wy} (h:wyB n w=true):(∀ v∈w.pos,0≤v∧v<n)∧∀ v∈w.neg,0≤v∧v<n:=by
 unfold wyB at h
 rw [Bool.and_eq_true] at h
 exact ⟨(setB_iff.1 h.1).2,(setB_iff.1 h.2).2⟩
theorem leaf_sound {g:Gr} {c:PrfC} (hc:PrfOk g c) {s R:List Int} {x:St4} (h:leafA c s x=true) (hR:IsRep g R) (hs:ConsA g.n s R):someW c.W R=!c.h:=by
 have hE:=(validG_iff.1 hc.v).2.2.1
 unfold leafA at h
 split at h
 ·rw [Bool.and_eq_true,decide_eq_true_eq] at h
  obtain ⟨⟨h1,h2⟩,h3⟩:=h
  have he:c.E.getD x.a.toNat default∈g.edges:=by
   rw [←hc.E,show c.E.getD x.a.toNat default=c.E[x.a.toNat]'(by omega) by simp [List.getD,show x.a.toNat<c.E.length by omega]];exact List.getElem_mem _
  have:=hR.free _ he
  rw [subB_iff.2 fun v hv=>(hs v ((hE _ he).2.2 v hv).1 ((hE _ he).2.2 v hv).2).1 (areA_iff.1 h3 v hv)] at this
  cases this
 split at h
 ·rw [Bool.and_eq_true,decide_eq_true_eq] at h
  obtain ⟨⟨h1,h2,h3⟩,h4⟩:=h
  rw [hc.n] at h2
  obtain ⟨e,he,hve,hall⟩:=hR.max _ h1 h2 ((hs _ h1 h2).2 h3)
  rw [hc.E] at h4
  obtain ⟨u,hu,hne,h5⟩:=frA_iff.1 h4 e he hve
  have hr:=(hE e he).2.2 u hu
  exact absurd (hall u hu hne) ((hs u hr.1 hr.2).2 h5)
 split at h
 ·rw [Bool.and_eq_true,Bool.and_eq_true,Bool.and_eq_true,decide_eq_true_eq] at h
  obtain ⟨h1,⟨h2,h3⟩,h4,h5⟩:=h
  rw [h1]
  have hw:c.W.getD x.a.toNat default∈c.W:=by
   rw [show c.W.getD x.a.toNat default=c.W[x.a.toNat]'(by omega) by simp [List.getD,show x.a.toNat<c.W.length by omega]];exact List.getElem_mem _
  have hr:=wy_rng (hc.W _ hw)
  exact List.any_eq_true.2 ⟨_,hw,holdW_iff.2 ⟨fun v hv=>(hs v (hr.1 v hv).1 (hr.1 v hv).2).1 (areA_iff.1 h4 v hv),fun v hv=>(hs v (hr.2 v hv).1 (hr.2 v hv).2).2 (areA_iff.1 h5 v hv)⟩⟩
 split at h
 ·rw [Bool.and_eq_true,Bool.and_eq_true,List.all_eq_true] at h
  obtain ⟨h1,_,h3⟩:=h
  rw [h1]
  refine List.any_eq_false.2 fun w hw hh=>?_
  have hr:=wy_rng (hc.W w hw)
  obtain ⟨h4,h5⟩:=holdW_iff.1 hh
  have:=h3 w hw
  rw [Bool.or_eq_true] at this
  rcases this with h6 | h6
  ·obtain ⟨v,hv,h7⟩:=somA_iff.1 h6
   exact (hs v (hr.1 v hv).1 (hr.1 v hv).2).2 h7 (h4 v hv)
  ·obtain ⟨v,hv,h7⟩:=somA_iff.1 h6
   exact h5 v hv ((hs v (hr.2 v hv).1 (hr.2 v hv).2).1 h7)
 ·cases h
theorem right_sound {g:Gr} {c:PrfC} (hc:PrfOk g c) {R:List Int} (hR:IsRep g R):∀ (f q:Nat) (s:List Int) (sn sn2:List Bool),(s.length:Int)=g.n→rightO c f q s sn=some sn2→ConsA g.n s R→someW c.W R=!c.h:=by
 intro f
 induction f with
 | zero=>intro q s sn sn2 _ h;cases h
 | succ f ih =>
  intro q s sn sn2 hl h hs
  unfold rightO at h
  split at h
  ·cases h
  split at h
  ·split at h
   ·rename_i hb
    unfold brA at hb
    rw [decide_eq_true_eq,hc.n] at hb
    obtain ⟨h0,h1,_⟩:=hb
    rw [Option.bind_eq_some_iff] at h
    obtain ⟨sn1,h2,h3⟩:=h
    by_cases hv:(c.S.getD q default).a∈R
    ·exact ih _ _ _ _ (by rw [List.length_set];exact hl) h2 (hs.set hl h0 h1 ⟨fun _=>hv,fun e=>absurd e (by decide)⟩)
    ·exact ih _ _ _ _ (by rw [List.length_set];exact hl) h3 (hs.set hl h0 h1 ⟨fun e=>absurd e (by decide),fun _=>hv⟩)
   ·cases h
  ·split at h
   ·rename_i hb
    exact leaf_sound hc hb.2.2 hR hs
   ·cases h
theorem consA_zero (n:Nat) (R:List Int):ConsA (n:Int) (List.replicate n 0) R:=fun v h0 h1=>by
 have:stA (List.replicate n 0) v=0:=by unfold stA;rw [List.getD,List.getElem?_replicate,if_pos (by omega)];rfl
 rw [this]
 exact ⟨fun h=>absurd h (by decide),fun h=>absurd h (by decide)⟩
def checkA (g:Gr) (W:List Wy) (h:Bool) (S:List St4):Bool:=readyG g W&&(decide (0<S.length∧S.length≤100000)&&(rightO ⟨g.n,g.edges,W,h,S⟩ S.length 0 (List.replicate g.n.toNat 0) (List.replicate S.length false)).isSome)
theorem ready_ok {g:Gr} {W:List Wy} (h:readyG g W=true) (b:Bool) (S:List St4):PrfOk g ⟨g.n,g.edges,W,b,S⟩:=by
 unfold readyG at h
 rw [Bool.and_eq_true,Bool.and_eq_true,List.all_eq_true] at h
 exact ⟨h.1.1,rfl,rfl,h.2⟩
theorem check_sound {g:Gr} {W:List Wy} {h:Bool} {S:List St4} (hk:checkA g W h S=true) {R:List Int} (hR:IsRep g R):someW W R=!h:=by
 unfold checkA at hk
 rw [Bool.and_eq_true,Bool.and_eq_true,Option.isSome_iff_exists] at hk
 obtain ⟨h1,_,sn,h3⟩:=hk
 have hc:=ready_ok h1 h S
 have hn:=costB_iff.1 (validG_iff.1 hc.v).1
 refine right_sound hc hR _ _ _ _ _ (by rw [List.length_replicate];omega) h3 ?_
 have:=consA_zero g.n.toNat R
 rwa [show ((g.n.toNat:Nat):Int)=g.n by omega] at this
end Go.Vc
