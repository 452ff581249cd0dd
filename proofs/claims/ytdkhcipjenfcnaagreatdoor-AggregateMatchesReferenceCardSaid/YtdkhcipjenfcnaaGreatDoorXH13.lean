/- Hyper: sets by their lengths; sets in order. -/
import Derived.Test.YtdkhcipjenfcnaaGreatDoorXZlG
namespace Go.Proofs.YtdkhcipjenfcnaaGreatDoor
open Go.Proofs.Tryz
set_option maxRecDepth 100000
set_option maxHeartbeats 16000000
open Go.Vc Go.Sort
theorem insS0_spec (g:Nat) (cb:List Value) (cap:Nat) (a:Option Addr) (w:World):RetsP prog 156 #[.slice a 0 cap,.int .i64 0,.int .i64 0,.func (.func g) #[] cb.toArray] w (.tuple #[]):=by
 refine eN (args:=[_,_,_,_]) func156 rfl ntmps156 ?_
 refine Vs<|Vr<|oI rfl<|oD rfl rfl<|oJ rfl<|Vn<|Vb (?_)
 refine Vl [2,8] (fun _:Unit=>[.int .i64 0,.int .i64 1]) (fun _ w'=>Ext w w') (fun _=>0) () rfl (Vc.Mod.refl _ _) ?_
 rintro ρ _ w1 e1
 refine Vs<|Vs<|Vr<|oI rfl<|oI rfl<|oL rfl rfl<|Vn<|Vd rfl (fun c14=>Vk<|Vs<|Vb<|Vs (?_)) (fun c14=>Ve (fend0 rfl (⟨rfl,e1⟩)))
 all_goals (exfalso;omega)
theorem stabS0_spec (g:Nat) (cb:List Value) (cap:Nat) (a:Option Addr) (w:World):RetsP prog 147 #[.slice a 0 cap,.int .i64 0,.func (.func g) #[] cb.toArray] w (.tuple #[]):=by
 refine eN (args:=[_,_,_]) func147 rfl ntmps147 ?_
 refine Vs<|Vr<|oJ rfl<|Vn<|Vs<|Vr<|oI rfl<|oJ rfl<|oJ rfl<|Vn<|Vs<|Vb (?_)
 refine Vl [0,1,2,6,7,8] (fun _:Unit=>[.slice a 0 cap,.int .i64 0,.func (.func g) #[] cb.toArray,.int .i64 20,.int .i64 0,.int .i64 20]) (fun _ w'=>Ext w w') (fun _=>0) () rfl (Vc.Mod.refl _ _) ?_
 rintro ρ _ w1 e1
 refine Vs<|Vs<|Vr<|oI rfl<|oI rfl<|Vo (R.leq rfl rfl)<|Vn<|Vd rfl (fun c13=>Vk<|Vb<|Vs (?_)) (fun c13=>Ve<|Vs (?_))
 ·exfalso;omega
 ·refine Vr<|oS rfl<|oI rfl<|oI rfl<|Vo (R.mvF rfl)<|Vp call156 rfl (insS0_spec g cb cap a _) fun w6_4 e6_4=>Vn<|Vb (?_)
  refine Vl [1,6] (fun _:Unit=>[.int .i64 0,.int .i64 20]) (fun _ w'=>Ext w w') (fun _=>0) () rfl (e1.trans (by assumption)) ?_
  rintro ρ _ w2 e2
  refine Vs<|Vs<|Vr<|oI rfl<|oI rfl<|oL rfl rfl<|Vn<|Vd rfl (fun c30=>Vk<|Vb<|Vs (?_)) (fun c30=>Ve (fend0 rfl (⟨rfl,e2⟩)))
  all_goals (exfalso;omega)
theorem sortS0_spec (g:Nat) (cb:List Value) (cap:Nat) (a:Option Addr) (w:World):RetsP prog 130 #[.slice a 0 cap,.func (.func g) #[] cb.toArray] w (.tuple #[]):=by
 refine eN (args:=[_,_]) func130 rfl ntmps130 ?_
 refine Vr<|oS rfl<|oS rfl<|Vo (R.lenS ru23 rfl)<|Vo (R.mvF rfl)<|Vp call147 rfl (stabS0_spec g cb cap a _) fun w0_4 e0_4=>Vn (fend0 rfl (⟨rfl,e0_4⟩))
def prS (x:SlI):Option Addr×Nat×Nat:=(x.a,x.l.length,x.c)
def cfLen (x y:SlI):Int:=(x.l.length:Int)-y.l.length
theorem byLen_spec (x y:SlI) (w:World) (hx:x.l.length≤1000000) (hy:y.l.length≤1000000) :
  RetsP prog 131 #[.slice x.a x.l.length x.c,.slice y.a y.l.length y.c] w (.int .i64 (cfLen x y)):=by
 refine eN (args:=[_,_]) func131 rfl ntmps131 ?_
 refine Vs<|Vr<|oJ rfl<|Vn<|Vs<|Vr<|oS rfl<|Vo (R.lenS ru22 rfl)<|oS rfl<|Vo (R.lenS ru22 rfl)<|Vo (R.sub rfl rfl (by omega) (by omega))<|oJ rfl<|Vn<|Vt (fret1 (v:=.int _ _) rfl rfl rfl (⟨rfl,(Mod.refl _ _)⟩))
abbrev Shr:={ x:SlI // x.l.length≤1000000 }
theorem swoLen:SWO (StbL.ltf (fun x y:Shr=>cfLen x.1 y.1)) where
 irrefl x:=by simp [StbL.ltf,cfLen]
 trans x y z h1 h2:=by
  have h1:(x.1.l.length:Int)-y.1.l.length<0:=of_decide_eq_true h1
  have h2:(y.1.l.length:Int)-z.1.l.length<0:=of_decide_eq_true h2
  refine decide_eq_true ?_
  show (x.1.l.length:Int)-z.1.l.length<0
  omega
 ntrans x y z h1 h2:=by
  have h1:¬(x.1.l.length:Int)-y.1.l.length<0:=of_decide_eq_false h1
  have h2:¬(y.1.l.length:Int)-z.1.l.length<0:=of_decide_eq_false h2
  refine decide_eq_false ?_
  show ¬(x.1.l.length:Int)-z.1.l.length<0
  omega
instance:Inhabited Shr:=⟨⟨default,Nat.zero_le _⟩⟩
structure ByLen (L L':List SlI):Prop where
 perm:L'.Perm L
 ord:∀ i j,i<j→j<L'.length→(L'.getD i default).l.length≤(L'.getD j default).l.length
theorem stableL_spec (a:Option Addr) (c B:Nat) (L:List SlI) (w:World) (ho:OwnT encSl 1 22 B w a c L) (hm:L.length≤1000000) (hx:∀ x∈L,x.l.length≤1000000) :
  RetsY prog 130 #[.slice a L.length c,.func (.func 131) #[] #[]] w (fun _:List SlI=>.tuple #[]) (fun L' w'=>ByLen L L'∧TSl encSl 1 w' a L'∧Vc.Mod (aBlk a) w w'):=by
 by_cases h0:L.length=0
 ·have hL:L=[]:=List.eq_nil_of_length_eq_zero h0
  subst hL
  exact Rets.mono (sortS0_spec 131 [] c a w) fun u w' ⟨hu,he⟩=>⟨[],hu,⟨List.Perm.refl _,fun i j _ h=>absurd h (Nat.not_lt_zero j)⟩,TSl.nil _ _ _ _,he.mod⟩
 ·have hS0:Srt encSl 1 w a L.toArray w:=Srt.of_own ⟨fun _=>rfl,fun _=>rfl,by decide⟩ (by simpa using ho) (by simpa using Nat.pos_of_ne_zero h0)
  let D:List (Shr×Nat):=(L.pmap (fun x h=>(⟨x,h⟩:Shr)) hx).zipIdx
  have hDl:D.length=L.length:=by simp [D]
  have hD:∀ q,q<L.length→(D.toArray[q]!).1.1=L.getD q default∧(D.toArray[q]!).2=q:=fun q hq=>by
   have e1:D.toArray[q]! = D[q]'(by omega):=by rw [getElem!_pos _ q (by simpa using (by omega:q<D.length))];simp
   rw [e1,gget hq]
   simp [D]
  have hS:Srt (enS fun x:Shr×Nat=>prS x.1.1) 1 w a D.toArray w:=hS0.conv (by simpa using hDl) fun q hq=>by
   have hq:q<L.length:=by simpa using hq
   show [Value.slice (D.toArray[q]!).1.1.a (D.toArray[q]!).1.1.l.length (D.toArray[q]!).1.1.c]=encSl (L.toArray[q]!)
   rw [(hD q hq).1,←getD_bang];rfl
  have hC:StbL.CmpOk (fun x:Shr×Nat=>prS x.1.1) a w 131 [] (fun x y:Shr×Nat=>cfLen x.1.1 y.1.1) :=
   ⟨eltOfS _,call131,fun w' _ x y=>byLen_spec x.1.1 y.1.1 w' x.1.2 y.1.2⟩
  refine Rets.mono (StbL.sortStable_spec hC swoLen c L.length (by omega) D.toArray w hS (by simpa using hDl) fun i j hij hj=>?_) ?_
  ·rw [(hD i (by omega)).2,(hD j hj).2];exact hij
  ·rintro u w' ⟨d',rfl,h1,h2,h3⟩
   refine ⟨d'.toList.map (fun x=>x.1.1),rfl,⟨?_,?_⟩,?_,h3.m⟩
   ·have hsz:d'.size=L.length:=h1.1.trans (by simpa using hDl)
    obtain ⟨_,_,hperm⟩:=h1
    have e1:d'.extract 0 L.length=d':=by rw [←hsz];exact Array.extract_size
    have e2:D.toArray.extract 0 L.length=D.toArray:=by
     have:L.length=D.toArray.size:=by simp [hDl]
     rw [this];exact Array.extract_size
    rw [e1,e2] at hperm
    have hP:d'.toList.Perm D:=by simpa using hperm
    have hm:D.map (fun x=>x.1.1)=L:=by
     refine List.ext_getElem (by simp [hDl]) fun q h1 h2=>?_
     simp [D]
    exact hm▸hP.map (fun x=>x.1.1)
   ·intro i j hij hj
    have hsz:d'.size=L.length:=h1.1.trans (by simpa using hDl)
    have hj:j<d'.size:=by simpa using hj
    have h:=h2 i j (Nat.zero_le _) hij (by omega)
    have g:∀ q,q<d'.size→(d'.toList.map (fun x=>x.1.1)).getD q default=(d'[q]!).1.1:=fun q hq=>by
     rw [getElem!_pos d' q hq];simp [List.getD,hq]
    rw [g i (by omega),g j hj]
    unfold lx at h
    rw [Bool.or_eq_false_iff] at h
    have h:¬((d'[j]!).1.1.l.length:Int)-(d'[i]!).1.1.l.length<0:=of_decide_eq_false h.1
    omega
   ·have:=h3.sl hC.elt
    unfold TSl at this ⊢
    rw [List.map_map]
    exact this
end Go.Proofs.YtdkhcipjenfcnaaGreatDoor
/- Hyper: sets in order. -/
namespace Go.Proofs.YtdkhcipjenfcnaaGreatDoor
open Go.Proofs.Tryz
set_option maxRecDepth 100000
set_option maxHeartbeats 16000000
open Go.Vc Go.Sort
theorem cmpL_neg (l m:List Int):cmpL l m<0↔lexB l m=true:=by
 unfold cmpL
 by_cases h:lexB l m=true
 ·rw [if_pos h];simp [h]
 ·rw [if_neg h]
  by_cases e:l=m
  ·rw [if_pos e];simp [h]
  ·rw [if_neg e];simp [h]
theorem swoLex (L:List SlI):SWO (StbL.ltf (fun x y:{x:SlI // x∈L}=>cmpL x.1.l y.1.l)) where
 irrefl x:=decide_eq_false fun h=>by
  have:=(cmpL_neg _ _).1 h
  rw [lexB_sto.irr] at this;cases this
 trans x y z h1 h2:=decide_eq_true ((cmpL_neg _ _).2 (lexB_sto.trans _ _ _ ((cmpL_neg _ _).1 (of_decide_eq_true h1)) ((cmpL_neg _ _).1 (of_decide_eq_true h2))))
 ntrans x y z h1 h2:=decide_eq_false fun h=>by
  have h1:¬lexB x.1.l y.1.l=true:=fun h=>of_decide_eq_false h1 ((cmpL_neg _ _).2 h)
  have h2:¬lexB y.1.l z.1.l=true:=fun h=>of_decide_eq_false h2 ((cmpL_neg _ _).2 h)
  have h:=(cmpL_neg _ _).1 h
  cases h3:lexB y.1.l x.1.l with
  | true=>exact h2 (lexB_sto.trans _ _ _ h3 h)
  | false =>
   have:=lexB_sto.tot _ _ h3 (by simpa using h1)
   rw [this] at h2
   exact h2 h
structure ByLex (L L':List SlI):Prop where
 perm:L'.Perm L
 ord:∀ i j,i<j→j<L'.length→lexB (L'.getD j default).l (L'.getD i default).l=false
theorem sortL_spec (a:Option Addr) (c B:Nat) (L:List SlI) (w:World) (ho:OwnT encSl 1 22 B w a c L) (hm:L.length≤1000000) (hx:∀ x∈L,x.l.length≤1000000∧IntSl w x.a x.l∧∀ k,aBlk x.a k→¬aBlk a k) :
  RetsY prog 134 #[.slice a L.length c,.func (.func 50) #[] #[]] w (fun _:List SlI=>.tuple #[]) (fun L' w'=>ByLex L L'∧TSl encSl 1 w' a L'∧Vc.Mod (aBlk a) w w'):=by
 by_cases h0:L.length=0
 ·have hL:L=[]:=List.eq_nil_of_length_eq_zero h0
  subst hL
  exact Rets.mono (StbL.sortF_nil (a:=a) (g:=50) (cb:=[]) c w) fun u w' ⟨hu,he⟩=>⟨[],hu,⟨List.Perm.refl _,fun i j _ h=>absurd h (Nat.not_lt_zero j)⟩,TSl.nil _ _ _ _,he.mod⟩
 ·have hpos:=Nat.pos_of_ne_zero h0
  haveI:Inhabited {x:SlI // x∈L}:=⟨⟨_,List.getElem_mem hpos⟩⟩
  have hS0:Srt encSl 1 w a L.toArray w:=Srt.of_own ⟨fun _=>rfl,fun _=>rfl,by decide⟩ (by simpa using ho) (by simpa using hpos)
  have ha:abk a<w.heap.size:=TSl.lt ho.sl hpos
  let D:List {x:SlI // x∈L}:=L.attach
  have hDl:D.length=L.length:=by simp [D]
  have hD:∀ q,q<L.length→(D.toArray[q]!).1=L.getD q default:=fun q hq=>by
   have e1:D.toArray[q]! = D[q]'(by omega):=by rw [getElem!_pos _ q (by simpa using (by omega:q<D.length))];simp
   rw [e1,gget hq]
   simp [D]
  have hS:Srt (enS fun x:{x:SlI // x∈L}=>prS x.1) 1 w a D.toArray w:=hS0.conv (by simpa using hDl) fun q hq=>by
   have hq:q<L.length:=by simpa using hq
   show [Value.slice (D.toArray[q]!).1.a (D.toArray[q]!).1.l.length (D.toArray[q]!).1.c]=encSl (L.toArray[q]!)
   rw [hD q hq,←getD_bang];rfl
  have hC:StbL.CmpOk (fun x:{x:SlI // x∈L}=>prS x.1) a w 50 [] (fun x y=>cmpL x.1.l y.1.l) :=
   ⟨eltOfS _,call50,fun w' m x y=>by
    have f:∀ z:{x:SlI // x∈L},IntSl w' z.1.a z.1.l:=fun z=>(hx z.1 z.2).2.1.mod m fun ad h hk=>(hx z.1 z.2).2.2 ad.block ⟨ad,h,rfl⟩ hk
    have g:∀ z:{x:SlI // x∈L},z.1.l.length≤9223372036854775807:=fun z=>Nat.le_trans (hx z.1 z.2).1 (by decide)
    exact cmpL_spec x.1.a y.1.a x.1.c y.1.c x.1.l y.1.l w' (g x) (g y) (f x) (f y)⟩
  refine Rets.mono (StbL.sortF_spec hC (swoLex L) ha c L.length (by omega) D.toArray w hS (by simpa using hDl)) ?_
  rintro u w' ⟨d',rfl,h1,h2,h3⟩
  refine ⟨d'.toList.map (fun x=>x.1),rfl,⟨?_,?_⟩,?_,h3.m⟩
  ·have hsz:d'.size=L.length:=h1.1.trans (by simpa using hDl)
   obtain ⟨_,_,hperm⟩:=h1
   have e1:d'.extract 0 L.length=d':=by rw [←hsz];exact Array.extract_size
   have e2:D.toArray.extract 0 L.length=D.toArray:=by
    have:L.length=D.toArray.size:=by simp [hDl]
    rw [this];exact Array.extract_size
   rw [e1,e2] at hperm
   have hP:d'.toList.Perm D:=by simpa using hperm
   have hmm:D.map (fun x=>x.1)=L:=by
    refine List.ext_getElem (by simp [hDl]) fun q h1 h2=>?_
    simp [D]
   have hr:=hP.map (fun x:{x:SlI // x∈L}=>x.1)
   rw [hmm] at hr
   exact hr
  ·intro i j hij hj
   have hsz:d'.size=L.length:=h1.1.trans (by simpa using hDl)
   have hj:j<d'.size:=by simpa using hj
   have h:=h2 i j (Nat.zero_le _) hij (by omega)
   have g:∀ q,q<d'.size→(d'.toList.map (fun x=>x.1)).getD q default=(d'[q]!).1:=fun q hq=>by
    rw [getElem!_pos d' q hq];simp [List.getD,hq]
   rw [g i (by omega),g j hj]
   cases h3:lexB (d'[j]!).1.l (d'[i]!).1.l with
   | false=>rfl
   | true=>exact absurd ((cmpL_neg _ _).2 h3) (of_decide_eq_false h)
  ·have:=h3.sl hC.elt
   unfold TSl at this ⊢
   rw [List.map_map]
   exact this
structure KeptI (B:Nat) (w:World) (a:Option Addr) (c:Nat) (M:List SlI):Prop where
 own:OwnT encSl 1 22 B w a c M
 each:∀ x∈M,IntSl w x.a x.l∧x.l.length≤x.c∧∀ k,aBlk x.a k→B≤k∧k<w.heap.size∧¬aBlk a k
theorem KeptI.ext {B:Nat} {w w':World} {a:Option Addr} {c:Nat} {M:List SlI} (h:KeptI B w a c M) (e:Ext w w'):KeptI B w' a c M :=
 ⟨h.own.ext e,fun x hx=>⟨(h.each x hx).1.ext e,(h.each x hx).2.1,fun k hk=>⟨((h.each x hx).2.2 k hk).1,Nat.lt_of_lt_of_le ((h.each x hx).2.2 k hk).2.1 e.size,((h.each x hx).2.2 k hk).2.2⟩⟩⟩
theorem KeptI.nil (B:Nat) (w:World):KeptI B w none 0 []:=⟨OwnT.nil _ _ _ _ _,fun _x hx=>nomatch hx⟩
theorem KeptI.add {B:Nat} {w w':World} {a a':Option Addr} {c c':Nat} {M:List SlI} {x:SlI} (h:KeptI B w a c M) (ho:OwnT encSl 1 22 B w' a' c' (M++[x])) (m:Vc.Mod (aBlk a) w w') (hf:∀ k,aBlk a' k→aBlk a k∨w.heap.size≤k)
  (hx:IntSl w x.a x.l∧x.l.length≤x.c∧∀ k,aBlk x.a k→B≤k∧k<w.heap.size∧¬aBlk a k):KeptI B w' a' c' (M++[x]):=by
 have key:∀ y:SlI,(IntSl w y.a y.l∧y.l.length≤y.c∧∀ k,aBlk y.a k→B≤k∧k<w.heap.size∧¬aBlk a k)→(IntSl w' y.a y.l∧y.l.length≤y.c∧∀ k,aBlk y.a k→B≤k∧k<w'.heap.size∧¬aBlk a' k):=fun y hy =>
  ⟨hy.1.mod m fun ad e hk=>(hy.2.2 ad.block ⟨ad,e,rfl⟩).2.2 hk,hy.2.1,fun k hk=>⟨(hy.2.2 k hk).1,Nat.lt_of_lt_of_le (hy.2.2 k hk).2.1 m.size,fun hk'=>(hf k hk').elim (hy.2.2 k hk).2.2 fun h=>by have:=(hy.2.2 k hk).2.1;omega⟩⟩
 refine ⟨ho,fun y hy=>key y ?_⟩
 rcases List.mem_append.1 hy with hy | hy
 ·exact h.each y hy
 ·rw [List.mem_singleton] at hy;rw [hy];exact hx
theorem setsOf_take {E:List SlI} {k:Nat} (hk:k<E.length):setsOf (vals (E.take (k+1)))=setsOf (vals (E.take k))++if (E.getD k default).l=[] then [] else [setF (E.getD k default).l]:=by
 rw [List.take_succ_eq_append_getElem hk,gget hk]
 unfold setsOf vals
 rw [List.map_append,List.filter_append,List.map_append]
 congr 1
 by_cases h:E[k].l=[]
 ·simp [h]
 ·simp [h]
theorem minimal_spec (a:Option Addr) (c B:Nat) (E:List SlI) (w:World) (hm:E.length≤1000000) (hE:LL w a E) (hx:∀ x∈E,x.l.length≤1000000∧(x.a=none→x.c=0)∧∀ y∈x.l,-9223372036854775808≤y∧y≤9223372036854775807) (hB:B≤w.heap.size) (hT:TabW B w) :
  RetsX prog 98 #[.slice a E.length c] w (fun z:List SlI×Option Addr×Nat=>.slice z.2.1 z.1.length z.2.2) (fun z w'=>vals z.1=minF (vals E)∧LL w' z.2.1 z.1∧z.1.length≤z.2.2∧(∀ k,aBlk z.2.1 k→w.heap.size≤k)∧(z.1.length≤E.length∧∀ x∈z.1,x.l.length≤1000000)∧∀ x∈z.1,x.l.length≤x.c∧∀ k,aBlk x.a k→w.heap.size≤k):=by
 refine eN (args:=[_]) func98 rfl ntmps98 ?_
 refine Vs<|Vr<|oT rfl<|Vn<|Vs<|Vr<|oT rfl<|Vn<|V.cut [3] (fun z:List SlI×Option Addr×Nat=>[.slice z.2.1 z.1.length z.2.2]) (fun z w'=>vals z.1=setsOf (vals E)∧z.1.length≤E.length∧KeptI w.heap.size w' z.2.1 z.2.2 z.1∧Ext w w') (Vs<|Vr<|oS rfl<|Vo (R.lenS ru23 rfl)<|oI rfl<|Vn<|Vb (?_)) (fun rgB0 xB0 wBB0 hBB0=>Vs (?_))
 ·refine Vl [3,10,11,12] (fun z:Nat×List SlI×Option Addr×Nat=>[.slice z.2.2.1 z.2.1.length z.2.2.2,.slice a E.length c,.int .i64 (E.length:Nat),.int .i64 (z.1:Nat)])
   (fun z w'=>z.1≤E.length∧vals z.2.1=setsOf (vals (E.take z.1))∧z.2.1.length≤z.1∧KeptI w.heap.size w' z.2.2.1 z.2.2.2 z.2.1∧Ext w w') (fun z=>E.length-z.1) (0,[],none,0) rfl ⟨Nat.zero_le _,rfl,Nat.le_refl _,KeptI.nil _ _,Vc.Mod.refl _ _⟩ ?_
  rintro ρ ⟨k,M,a3,c3⟩ w1 ⟨hk,hv,hMl,hK,e⟩
  dsimp only at hk hv hMl hK e ⊢
  have hE1:=hE.ext e
  refine Vs<|Vr<|oL rfl rfl<|Vn<|Vs<|Vd rfl (fun c13=>Vk<|Vs<|Vb<|Vs<|Vr<|Vo (iX ru23 sz22 rfl rfl ((hE.sl).some (i:=k) (by omega)))<|Vo (rla ag22 rfl ((((hE.sl).ext e).row (i:=k) (by omega)).c0a rfl))<|oT rfl<|Vn<|Vs<|Vr<|oS rfl<|Vo (R.lenS ru22 rfl)<|Vo (R.gtr rfl rfl)<|Vn<|Vd rfl (fun c18=>?_) (fun c18=>Vk<|Vr<|oD rfl rfl<|oI rfl<|Vn (?_))) (fun c13=>Ve (?_))
  ·have hkl:k<E.length:=by omega
   have hxk:=hx _ (gmem hkl)
   refine Vr<|oS rfl<|oS rfl<|VL.callX call129 rfl (hset_spec (E.getD k default).a (E.getD k default).c (E.getD k default).l w1 hxk.1 hxk.2.1 (hE1.at hkl)) fun x2 w2 hS2 e2=>VL.append1 el23 ru23 sz22 zv22 rfl (SlI.mk x2.1 x2.2 (setF (E.getD k default).l)) rfl rfl rfl (hK.own.ext e2) rfl rfl rfl (by omega) (by unfold maxLen;omega) (Nat.le_trans e.size e2.size) fun a6 c6 w6 vt6 ho6 m6 hf6=>oT rfl<|Vn<|Vr<|oD rfl rfl<|oI rfl<|Vn (?_)
   have hne:(E.getD k default).l≠[]:=fun h=>by rw [h] at c18;simp at c18
   have hvs:=setsOf_take hkl
   rw [if_neg hne] at hvs
   refine ⟨(k+1,M++[⟨x2.1,x2.2,setF (E.getD k default).l⟩],a6,c6),by dsimp only;rw [List.length_append];rfl,⟨by dsimp only;omega,?_,by dsimp only;rw [List.length_append,List.length_singleton];omega,?_,(e.trans e2).ownA m6 fun q hq=>hK.own.ge q hq⟩,by dsimp only;omega⟩
   ·dsimp only;rw [hvs,←hv];simp [vals]
   ·exact (hK.ext e2).add ho6 m6 hf6 ⟨hS2.sl,hS2.cap,fun q hq=>⟨Nat.le_trans e.size (hS2.new q hq).1,(hS2.new q hq).2,fun h=>by have:=hK.own.lt q h;have:=(hS2.new q hq).1;omega⟩⟩
  ·have hkl:k<E.length:=by omega
   have hne:(E.getD k default).l=[]:=List.eq_nil_of_length_eq_zero (by omega)
   have hvs:=setsOf_take hkl
   rw [if_pos hne,List.append_nil] at hvs
   exact ⟨(k+1,M,a3,c3),rfl,⟨by dsimp only;omega,by dsimp only;rw [hvs];exact hv,by dsimp only;omega,hK,e⟩,by dsimp only;omega⟩
  ·have hke:k=E.length:=by omega
   subst hke
   rw [List.take_length] at hv
   exact ⟨(M,a3,c3),rfl,hv,hMl,hK,e⟩
 ·obtain ⟨hv,hMl,hK,e⟩:=hBB0
  obtain ⟨M,a3,c3⟩:=xB0
  dsimp only at hv hMl hK e ⊢
  have hMs:∀ x∈M,Inc x.l∧x.l.length≤1000000∧∀ y∈x.l,-9223372036854775808≤y∧y≤9223372036854775807:=fun x hxM=>by
   have hm1:x.l∈setsOf (vals E):=by rw [←hv];exact List.mem_map_of_mem hxM
   obtain ⟨f,hf,_,hfe⟩:=setsOf_mem.1 hm1
   obtain ⟨y,hy,rfl⟩:=List.mem_map.1 hf
   have h1:=hx y hy
   rw [hfe]
   exact ⟨setF_inc _,Nat.le_trans (setF_len _) h1.1,fun z hz=>h1.2.2 z ((setF_mem z _).1 hz)⟩
  refine Vr<|oS rfl<|VL.callY call130 rfl (stableL_spec a3 c3 w.heap.size M _ hK.own (by omega) (fun x hxM=>(hMs x hxM).2.1)) fun M2 w8 ⟨hL8,hT8,m8⟩=>Vn<|Vs (?_)
  have e8:Ext w w8:=e.ownA m8 fun q hq=>hK.own.ge q hq
  have hM2:∀ x∈M2,x∈M:=fun x hxM=>hL8.perm.mem_iff.1 hxM
  have hl2:M2.length=M.length:=hL8.perm.length_eq
  have hE8:∀ x∈M2,IntSl w8 x.a x.l∧x.l.length≤x.c∧∀ k,aBlk x.a k→w.heap.size≤k∧k<w8.heap.size:=fun x hxM=>by
   obtain ⟨h1,h2,h3⟩:=hK.each x (hM2 x hxM)
   exact ⟨h1.mod m8 fun ad h hk=>(h3 ad.block ⟨ad,h,rfl⟩).2.2 hk,h2,fun k hk=>⟨(h3 k hk).1,Nat.lt_of_lt_of_le (h3 k hk).2.1 m8.size⟩⟩
  rw [←hl2]
  have hm2:M2.length≤1000000:=by omega
  refine Vr<|VL.makeMap fun r9_0 w9_0 hr9_0 e9_0 hM9_0=>Vo (R.asM rfl)<|Vn<|Vs<|Vr<|oT rfl<|Vn<|V.cut [7] (fun z:List SlI×Option Addr×Nat=>[.slice z.2.1 z.1.length z.2.2]) (fun z w'=>vals z.1=minFold (vals M2)∧z.1.length≤M2.length∧(∀ x∈z.1,x∈M2)∧OwnT encSl 1 22 (w8.heap.size+1) w' z.2.1 z.2.2 z.1∧Ext w8 w') (Vs<|Vr<|oS rfl<|Vo (R.lenS ru23 rfl)<|oI rfl<|Vn<|Vb (?_)) (fun rgB2 xB2 wBB2 hBB2=>Vs (?_))
  ·refine Vl [6,7,28,29,30] (fun z:Nat×(List SlI×Option Addr×Nat)×List (ByteArray×Value)=>[.map (some r9_0),.slice z.2.1.2.1 z.2.1.1.length z.2.1.2.2,.slice a3 M2.length c3,.int .i64 (M2.length:Nat),.int .i64 (z.1:Nat)])
    (fun z w'=>z.1≤M2.length∧vals z.2.1.1=minFold (vals (M2.take z.1))∧z.2.1.1.length≤z.1∧(∀ x∈z.2.1.1,x∈M2)∧OwnT encSl 1 22 (w8.heap.size+1) w' z.2.1.2.1 z.2.1.2.2 z.2.1.1∧MapIs w' r9_0 Value.string z.2.2∧TxM (vals z.2.1.1) z.2.2∧Ext w8 w'∧w8.heap.size+1≤w'.heap.size) (fun z=>M2.length-z.1) (0,([],none,0),[]) rfl ⟨Nat.zero_le _,rfl,Nat.le_refl _,(fun x h=>by cases h),OwnT.nil _ _ _ _ _,MapIs.empty hM9_0,TxM.nil,e9_0,by have:=hM9_0.lt;omega⟩ ?_
   rintro ρ ⟨k,⟨O,a7,c7⟩,ml⟩ w1 ⟨hk,hv2,hOl,hOm,hO,hMp,hX,e1,hs1⟩
   dsimp only at hk hv2 hOl hOm hO hMp hX e1 hs1 ⊢
   have hT1:=hT8.ext e1
   refine Vs<|Vr<|oL rfl rfl<|Vn<|Vs<|Vd rfl (fun c31=>Vk<|Vs<|Vb<|Vs<|Vr<|Vo (iX ru23 sz22 rfl rfl ((hT8).some (i:=k) (by omega)))<|Vo (rla ag22 rfl ((((hT8).ext e1).row (i:=k) (by omega)).c0a rfl))<|oT rfl<|Vn<|Vs (?_)) (fun c31=>Ve (?_))
   ·have hkl:k<M2.length:=by omega
    have hk2:=hM2 _ (gmem hkl)
    have hk3:=hMs _ hk2
    have hk8:=hE8 _ (gmem hkl)
    have hLO:LL w1 a7 O:=⟨hO.sl,fun x hxO=>(hE8 x (hOm x hxO)).1.ext e1⟩
    have hww:Ext w w1:=e8.trans e1
    have hvt:vals (M2.take (k+1))=vals (M2.take k)++[(M2.getD k default).l]:=by rw [List.take_succ_eq_append_getElem hkl,gget hkl];unfold vals;rw [List.map_append];rfl
    have hab:aboveB (M2.getD k default).l (vals O)=O.any fun x=>subB x.l (M2.getD k default).l:=by unfold aboveB vals;rw [List.any_map];rfl
    refine Vr<|oS rfl<|oS rfl<|Vo (R.mvM rfl)<|Vp call132 rfl (above_spec (M2.getD k default).a a7 (M2.getD k default).c c7 r9_0 B (M2.getD k default).l O ml w1 hk3.2.1 (by omega) hk3.1 hk8.2.1 (hk8.1.ext e1) hLO (fun x hxO=>⟨(hMs x (hM2 x (hOm x hxO))).1,(hMs x (hM2 x (hOm x hxO))).2.1⟩) hMp hX hk3.2.2 (Nat.le_trans hB hww.size) (hT.ext hB hww)) fun w14_3 e14_3=>Vo (R.not rfl)<|Vn<|Vh rfl (fun c38=>Vs (?_)) (fun c38=>Vk<|Vr<|oD rfl rfl<|oI rfl<|Vn (?_))
    ·have hnr:∀ q,aBlk a7 q→q≠r9_0:=fun q hq h=>by have:=hO.ge q hq;omega
     refine Vr<|Vo (R.mvM rfl)<|oS rfl<|Vp call133 rfl (text_spec (M2.getD k default).a (M2.getD k default).c B (M2.getD k default).l _ hk3.2.1 (hk8.1.ext (e1.trans e14_3)) hk3.2.2 (Nat.le_trans hB (e8.trans (e1.trans e14_3)).size) (hT.ext hB (e8.trans (e1.trans e14_3)))) fun w15_2 e15_2=>VL.mapUpdate key9 runUnderlying134 rfl (k:=(tx (M2.getD k default).l)) rfl rfl (hMp.ext (e14_3.trans e15_2)) fun w15 hm15 m15=>Vn<|Vr<|oS rfl<|oS rfl<|VL.append1 el23 ru23 sz22 zv22 rfl (M2.getD k default) rfl rfl rfl ((hO.ext (e14_3.trans e15_2)).mod m15 hnr) rfl rfl rfl (by omega) (by unfold maxLen;omega) (Nat.le_trans hs1 (Nat.le_trans (e14_3.trans e15_2).size m15.size)) fun a16 c16 w16 vt16 ho16 m16 hf16=>oT rfl<|Vn<|Vr<|oD rfl rfl<|oI rfl<|Vn (?_)
     refine ⟨(k+1,(O++[M2.getD k default],a16,c16),mset ml (tx (M2.getD k default).l) (.bool true)),?_,⟨by dsimp only;omega,?_,by dsimp only;rw [List.length_append,List.length_singleton];omega,?_,ho16,?_,?_,?_,?_⟩,by dsimp only;omega⟩
     ·dsimp only;rw [List.length_append];rfl
     ·dsimp only
      rw [hvt,minFold_snoc,←hv2,minStep,hab,if_neg (by simpa using c38)]
      simp [vals]
     ·intro x hx'
      rcases List.mem_append.1 hx' with h | h
      ·exact hOm x h
      ·rw [List.mem_singleton] at h;rw [h];exact gmem hkl
     ·exact hm15.mod m16 fun h=>hnr _ h rfl
     ·have:=hX.add (M2.getD k default).l
      dsimp only
      rw [show vals (O++[M2.getD k default])=vals O++[(M2.getD k default).l] by simp [vals]]
      exact this
     ·exact (((e1.trans e14_3).trans e15_2).ownA m15 fun q (hq:q=r9_0)=>by omega).ownA m16 fun q hq=>by have:=hO.ge q hq;omega
     ·exact Nat.le_trans hs1 (Nat.le_trans (e14_3.trans e15_2).size (Nat.le_trans m15.size m16.size))
    ·refine ⟨(k+1,(O,a7,c7),ml),rfl,⟨by dsimp only;omega,?_,by dsimp only;omega,hOm,hO.ext e14_3,hMp.ext e14_3,hX,e1.trans e14_3,Nat.le_trans hs1 e14_3.size⟩,by dsimp only;omega⟩
     dsimp only
     rw [hvt,minFold_snoc,←hv2,minStep,hab,if_pos (by simpa using c38)]
   ·have hke:k=M2.length:=by omega
    subst hke
    rw [List.take_length] at hv2
    exact ⟨(O,a7,c7),rfl,hv2,hOl,hOm,hO,e1⟩
  ·obtain ⟨hv2,hOl,hOm,hO,e1⟩:=hBB2
   obtain ⟨O,a7,c7⟩:=xB2
   dsimp only at hv2 hOl hOm hO e1 ⊢
   refine Vr<|oS rfl<|VL.callY call134 rfl (sortL_spec a7 c7 (w8.heap.size+1) O _ hO (by omega) (fun x hxO=>⟨(hMs x (hM2 x (hOm x hxO))).2.1,(hE8 x (hOm x hxO)).1.ext e1,fun q hq h=>by have:=((hE8 x (hOm x hxO)).2.2 q hq).2;have:=hO.ge q h;omega⟩)) fun O2 w18 ⟨hL18,hT18,m18⟩=>Vn<|Vs<|Vr<|oS rfl<|oT rfl<|Vn<|Vt (fret1 (v:=.slice _ _ _) rfl rfl rfl (?_))
   have hO2:∀ x∈O2,x∈M2:=fun x hxO=>hOm x (hL18.perm.mem_iff.1 hxO)
   have hl3:O2.length=O.length:=hL18.perm.length_eq
   refine ⟨(O2,a7,c7),by dsimp only;rw [hl3],⟨?_,⟨hT18,fun x hxO=>?_⟩,?_,?_,⟨by dsimp only;omega,fun x hxO=>(hMs x (hM2 x (hO2 x hxO))).2.1⟩,?_⟩,?_⟩
   ·refine minFold_min (l:=vals M2) (fun x=>?_) ?_ ?_ ?_
    ·rw [←hv];exact (hL8.perm.map _).mem_iff
    ·refine List.pairwise_iff_getElem.2 fun i j hi hj hij=>?_
     have hi':i<M2.length:=by simpa using hi
     have hj':j<M2.length:=by simpa using hj
     have:=hL8.ord i j hij hj'
     rw [gget hi',gget hj'] at this
     simpa [vals] using this
    ·rw [←hv2];exact hL18.perm.map _
    ·refine List.pairwise_iff_getElem.2 fun i j hi hj hij=>?_
     have hi':i<O2.length:=by simpa using hi
     have hj':j<O2.length:=by simpa using hj
     have:=hL18.ord i j hij hj'
     rw [gget hi',gget hj'] at this
     simpa [vals] using this
   ·exact ((hE8 x (hO2 x hxO)).1.ext e1).mod m18 fun ad h hk=>by
     have h1:=((hE8 x (hO2 x hxO)).2.2 ad.block ⟨ad,h,rfl⟩).2
     have:=hO.ge _ hk
     omega
   ·dsimp only;rw [hl3];exact hO.cap
   ·intro q hq
    have:=hO.ge q hq
    have:=e8.size
    omega
   ·intro x hxO
    exact ⟨(hE8 x (hO2 x hxO)).2.1,fun q hq=>((hE8 x (hO2 x hxO)).2.2 q hq).1⟩
   ·exact (e8.trans e1).ownA m18 fun q hq=>by
     have:=hO.ge q hq
     have:=e8.size
     omega
end Go.Proofs.YtdkhcipjenfcnaaGreatDoor
