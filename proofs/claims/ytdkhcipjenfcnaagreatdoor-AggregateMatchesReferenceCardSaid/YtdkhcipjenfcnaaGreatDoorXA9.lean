/- Aggregate: the search as it lies. -/
import Derived.Test.YtdkhcipjenfcnaaGreatDoorXVcAgg4
import Derived.Test.YtdkhcipjenfcnaaGreatDoorXN9
namespace Go.Proofs.YtdkhcipjenfcnaaGreatDoor
set_option maxRecDepth 100000
set_option maxHeartbeats 16000000
open Go.Vc Go.Proofs.Tryz
theorem rangeG31 (F:Int→Bool) (l:List Int):((List.range l.length).any fun k=>F (l.getD k default))=l.any F:=by
 rw [Bool.eq_iff_iff,List.any_eq_true,List.any_eq_true]
 constructor
 ·rintro ⟨k,hk,h⟩
  exact ⟨_,gmem (List.mem_range.1 hk),h⟩
 ·rintro ⟨x,hx,h⟩
  obtain ⟨i,hi,rfl⟩:=List.getElem_of_mem hx
  exact ⟨i,List.mem_range.2 hi,by rw [gget hi];exact h⟩
theorem containsM31 (g:FuncId) (Fv Cv:List Value) (F:Int→Bool) (S:World→Prop) (a:Option Addr) (c:Nat) (l:List Int) (w:World) (hfn:IsFn prog g) (hdo:∀ w x,S w→x∈l→RetsP prog g (Fv++[Value.int .i64 x]++Cv).toArray w (.bool (F x)))
  (hSe:∀ w w',S w→Ext w w'→S w') (h0:S w) (hL:IntSl w a l) (hm:l.length≤1000000) :
  RetsP prog 64 #[.slice a l.length c,.func (.func g) Fv.toArray Cv.toArray] w (.bool (l.any F)):=by
 refine (containsK g Fv Cv (fun k=>F (l.getD k default)) (fun _ w'=>S w'∧Ext w w') a c l w hfn (fun k w' hk h=>(hdo w' _ h.1 (gmem hk)).mono fun u w2 ⟨hu,e⟩=>⟨(),hu,hSe _ _ h.1 e,h.2.trans e⟩) (fun _ w' h=>hL.ext h.2) ⟨h0,Vc.Mod.refl _ _⟩ hm).mono fun u w2 ⟨_,hu,k,_,e⟩=>⟨?_,e⟩
 rw [hu]
 show Value.bool _=Value.bool _
 rw [rangeG31]
theorem findA_at {L:List Int} {p:Int→Bool} {k:Nat} (hk:k<L.length) (h:p (L.getD k default)=true) (hb:∀ j,j<k→p (L.getD j default)=false):L.find? p=some (L.getD k default):=by
 rw [List.find?_eq_some_iff_getElem]
 refine ⟨h,k,hk,(gget hk).symm,fun j hj=>?_⟩
 have:=hb j hj
 rw [gget (by omega)] at this
 rw [this];rfl
theorem findA_no {L:List Int} {p:Int→Bool} (hb:∀ j,j<L.length→p (L.getD j default)=false):L.find? p=none:=by
 rw [List.find?_eq_none]
 intro x hx
 obtain ⟨i,hi,rfl⟩:=List.getElem_of_mem hx
 have:=hb i hi
 rw [gget hi] at this
 rw [this];decide
theorem find_flat {f:Int→List Int} {p:Int→Bool}:∀ {L:List Int} {k j:Nat},k<L.length→j<(f (L.getD k default)).length→p ((f (L.getD k default)).getD j default)=true→(∀ i,i<k→∀ u∈f (L.getD i default),p u=false)→(∀ i,i<j→p ((f (L.getD k default)).getD i default)=false)→(L.flatMap f).find? p=some ((f (L.getD k default)).getD j default)
 | [],k,_,hk,_,_,_,_=>absurd hk (Nat.not_lt_zero k)
 | a :: L,0,j,_,hj,hp,_,h2=>by
  rw [List.flatMap_cons,List.find?_append,findA_at (L:=f a) hj hp h2]
  rfl
 | a :: L,k+1,j,hk,hj,hp,h1,h2=>by
  rw [List.flatMap_cons,List.find?_append,List.find?_eq_none.2 fun u hu=>by rw [h1 0 (Nat.zero_lt_succ k) u hu];decide]
  exact find_flat (L:=L) (k:=k) (by simpa using hk) hj hp (fun i hi=>h1 (i+1) (by omega)) h2
theorem find_flat_no {f:Int→List Int} {p:Int→Bool} {L:List Int} (h:∀ i,i<L.length→∀ u∈f (L.getD i default),p u=false):(L.flatMap f).find? p=none:=by
 rw [List.find?_eq_none]
 intro u hu
 obtain ⟨a,ha,hua⟩:=List.mem_flatMap.1 hu
 obtain ⟨i,hi,rfl⟩:=List.getElem_of_mem ha
 have:=h i hi u (by rw [gget hi];exact hua)
 rw [this];decide
theorem adjA31 (E:List (List Int)) (v:Int) (F:List Int→Bool):((adjK E E.length v).any fun x=>F (E.getD x.toNat default))=E.any fun e=>decide (v∈e)&&F e:=by
 rw [Bool.eq_iff_iff,List.any_eq_true,List.any_eq_true]
 constructor
 ·rintro ⟨x,hx,h⟩
  obtain ⟨k,hk,hv,rfl⟩:=adjK_mem.1 hx
  rw [Int.toNat_natCast] at h
  exact ⟨_,gmem hk,by rw [Bool.and_eq_true,decide_eq_true_eq];exact ⟨hv,h⟩⟩
 ·rintro ⟨e,he,h⟩
  rw [Bool.and_eq_true,decide_eq_true_eq] at h
  obtain ⟨i,hi,rfl⟩:=List.getElem_of_mem he
  refine ⟨(i:Int),adjK_mem.2 ⟨i,hi,by rw [gget hi];exact h.1,rfl⟩,?_⟩
  rw [Int.toNat_natCast,gget hi];exact h.2
theorem exc_fr31 (E:List (List Int)) (st:List Int) (v:Int):((adjK E E.length v).any fun i=>!((E.getD i.toNat default).any fun u=>decide (u≠v)&&decide (stA st u=2)))=!frA E st v:=by
 rw [adjA31 E v fun e=>!(e.any fun u=>decide (u≠v)&&decide (stA st u=2))]
 unfold frA
 rw [Bool.eq_iff_iff]
 simp
structure AgX where
 p:Nat
 g:GrW
 zb:Nat
 z:List SlI
 tb:Nat
def encAg (x:AgX) (n:Nat):List Value:=[.int .i64 x.g.n,.slice x.g.ca x.g.cost.length x.g.cc,.slice x.g.ea x.g.edges.length x.g.ec,.slice (some ⟨x.zb,0,none⟩) x.z.length x.z.length,.slice (some ⟨x.tb,0,none⟩) n n]
structure AgOk (x:AgX) (w:World) (st:List Int):Prop where
 blk:Blk w x.p (.cells (Value.agg (encAg x st.length).toArray).cells 95 (0,0))
 base:∃ w0,Ext w0 w∧w0.heap.size≤x.tb∧GOk w0 x.g
 z:LL w (some ⟨x.zb,0,none⟩) x.z
 t:OwnT Vc.encI 1 3 0 w (some ⟨x.tb,0,none⟩) st.length st
 tp:x.p≠x.tb
 tz:x.zb≠x.tb
 ty:∀ y∈x.z,∀ q,aBlk y.a q→q≠x.tb
theorem AgOk.g {x:AgX} {w:World} {st:List Int} (h:AgOk x w st):GOk w x.g:=by
 obtain ⟨w0,e,_,h1⟩:=h.base
 exact h1.ext e
theorem AgOk.ext {x:AgX} {w w':World} {st:List Int} (h:AgOk x w st) (e:Ext w w'):AgOk x w' st:=by
 obtain ⟨w0,e0,h1⟩:=h.base
 exact ⟨h.blk.ext e,⟨w0,e0.trans e,h1⟩,h.z.ext e,h.t.ext e,h.tp,h.tz,h.ty⟩
theorem AgOk.turn {x:AgX} {w w':World} {st st':List Int} (h:AgOk x w st) (m:Vc.Mod (Vc.one x.tb) w w') (ht:OwnT Vc.encI 1 3 0 w' (some ⟨x.tb,0,none⟩) st.length st') (hl:st'.length=st.length):AgOk x w' st':=by
 obtain ⟨w0,e0,hT,h1⟩:=h.base
 refine ⟨?_,⟨w0,e0.ownA m fun q (hq:q=x.tb)=>by omega,hT,h1⟩,⟨h.z.sl.mod m fun ad e (hs:ad.block=x.tb)=>h.tz ?_,fun y hy=>(h.z.each y hy).mod m fun ad e (hs:ad.block=x.tb)=>h.ty y hy _ ⟨ad,e,rfl⟩ hs⟩,by rw [hl];exact ht,h.tp,h.tz,h.ty⟩
 ·rw [hl];exact h.blk.mod m fun hh=>h.tp hh
 ·injection e with e;subst e;exact hs
structure AgR (x:AgX) (N:Nat):Prop where
 n:x.g.n=(N:Int)
 N4:N≤4000
 E:∀ e∈vals x.g.edges,∀ v∈e,0≤v∧v<(N:Int)
 El:x.g.edges.length≤20000
 el:∀ e∈vals x.g.edges,e.length≤1000000
 zl:x.z.length=N
 z:∀ v:Nat,v<N→(x.z.getD v default).l=adjK (vals x.g.edges) x.g.edges.length ((v:Nat):Int)
theorem AgR.edge {x:AgX} {N:Nat} (h:AgR x N) {i:Nat} (hi:i<x.g.edges.length):(vals x.g.edges).getD i default=(x.g.edges.getD i default).l∧(∀ v∈(x.g.edges.getD i default).l,0≤v∧v<(N:Int))∧(x.g.edges.getD i default).l.length≤1000000:=by
 have hm:(x.g.edges.getD i default).l∈vals x.g.edges:=List.mem_map_of_mem (gmem hi)
 exact ⟨gmap SlI.l x.g.edges default hi,h.E _ hm,h.el _ hm⟩
theorem AgR.adj {x:AgX} {N:Nat} (h:AgR x N) {v:Int} (h0:0≤v) (h1:v<(N:Int)):v.toNat<x.z.length∧(x.z.getD v.toNat default).l=adjK (vals x.g.edges) (vals x.g.edges).length v∧(x.z.getD v.toNat default).l.length≤20000:=by
 have hzl:=h.zl
 have hz:=h.z v.toNat (by omega)
 rw [show ((v.toNat:Nat):Int)=v by omega,show x.g.edges.length=(vals x.g.edges).length from (List.length_map _).symm] at hz
 refine ⟨by omega,hz,?_⟩
 rw [hz]
 have:=adjK_len (vals x.g.edges) (vals x.g.edges).length v
 have hE:=h.El
 rw [List.length_map] at this
 rw [List.length_map]
 omega
theorem AgR.adjat {x:AgX} {N:Nat} (h:AgR x N) {v:Int} (h0:0≤v) (h1:v<(N:Int)) {k:Nat} (hk:k<(x.z.getD v.toNat default).l.length):∃ i:Nat,i<x.g.edges.length∧(x.z.getD v.toNat default).l.getD k default=(i:Int)∧v∈(vals x.g.edges).getD i default:=by
 have hm:=gmem hk
 rw [(h.adj h0 h1).2.1] at hm
 obtain ⟨i,hi,hv,he⟩:=adjK_mem.1 hm
 rw [List.length_map] at hi
 rw [←(h.adj h0 h1).2.1] at he
 exact ⟨i,hi,he,hv⟩
abbrev PtG (w:World) (b:Nat) (x:AgX):Prop:=Blk w b (.cells #[.pointer (some ⟨x.p,0,none⟩)] 92 (0,0))
abbrev NuG (w:World) (b:Nat) (k:Int):Prop:=Blk w b (.cells #[.int .i64 k] 3 (0,0))
def AgA (x:AgX) (st:List Int) (b1:Nat) (w:World):Prop:=AgOk x w st∧PtG w b1 x
theorem AgA.ext {x:AgX} {st:List Int} {b1:Nat} {w w':World} (h:AgA x st b1 w) (e:Ext w w'):AgA x st b1 w':=⟨h.1.ext e,h.2.ext e⟩
def clsI (E:List (List Int)) (s:List Int) (v:Int):Int:=(((adjK E E.length v).find? fun i=>areA s (E.getD i.toNat default) 1)).getD (-1)
def freI (E:List (List Int)) (s:List Int) (v:Int):Int:=((nearS E v).find? fun u=>decide (stA s u=2)&&frA E s u).getD (-1)
theorem cls1_spec (x:AgX) (st:List Int) (b1:Nat) (v:Int) (w:World) (h:AgA x st b1 w) (h0:0≤v) (h1:v<(st.length:Int)) :
  RetsP prog 104 #[.int .i64 v,pA b1] w (.bool (!decide (stA st v=1))):=by
 refine eN (args:=[_,_]) func104 rfl ntmps104 ?_
 refine Vs<|Vr<|oA rfl<|Vn<|Vs<|Vr<|Vo (rla ag92 rfl (show _=some (Value.pointer (some ⟨x.p,0,none⟩)) from h.2.cell 0))<|Vo (R.nilCheck rfl)<|Vo (R.fld' (o:=4) ru95 rfl rfl sz22 rfl rfl)<|Vo (rla ag22 rfl (show _=some (Value.slice (some ⟨x.tb,0,none⟩) st.length st.length) from h.1.blk.cell 4))<|oI rfl<|Vo (iX ru22 sz3 rfl rfl (h.1.t.sl.some (i:=v.toNat) (by omega)))<|Vo (rla ag3 rfl ((h.1.t.sl.row (i:=v.toNat) (by omega)).c0a rfl))<|Vo (R.neq rfl rfl)<|oA rfl<|Vn<|Vt<|tB rfl rfl rfl (⟨?_,(Mod.refl _ _)⟩)
 refine congrArg Value.bool ?_
 rw [←decide_not]
 exact decide_eq_decide.2 Iff.rfl
theorem allI {E:List Int} {s:List Int} {k:Int}:(!(E.any fun v=>!decide (stA s v=k)))=areA s E k:=by
 unfold areA
 rw [Bool.eq_iff_iff]
 simp
theorem cls_spec (x:AgX) (N:Nat) (v:Int) (st:List Int) (w:World) (h:AgOk x w st) (hR:AgR x N) (hst:st.length=N) (hv0:0≤v) (hv1:v<(N:Int)) :
  RetsP prog 72 #[.pointer (some ⟨x.p,0,none⟩),.int .i64 v] w (.int .i64 (clsI (vals x.g.edges) st v)):=by
 have hn:=hR.n
 have hN4:=hR.N4
 have hEl:=hR.El
 refine eN (args:=[_,_]) func72 rfl ntmps72 ?_
 obtain ⟨hzi,hzA,hzL⟩:=hR.adj hv0 hv1
 refine Vs<|Vr<|VL.box (v:=.pointer _) rfl fun b0_0 w0_0 hb0_0 e0_0 hB0_0=>oJ rfl<|Vn<|Vs<|Vs<|Vr<|Vo (rla ag92 rfl (show _=some (Value.pointer (some ⟨x.p,0,none⟩)) from hB0_0.cell 0))<|Vo (R.nilCheck rfl)<|Vo (R.fld' (o:=3) ru95 rfl rfl sz23 rfl rfl)<|Vo (rla ag23 rfl (show _=some (Value.slice (some ⟨x.zb,0,none⟩) x.z.length x.z.length) from (h.blk.ext e0_0).cell 3))<|oI rfl<|Vo (iX ru23 sz22 rfl rfl ((h.z.sl.ext e0_0).some (i:=v.toNat) hzi))<|Vo (rla ag22 rfl (((h.z.sl.ext e0_0).row (i:=v.toNat) hzi).c0a rfl))<|Vo (R.lenS ru22 rfl)<|oI rfl<|Vn<|Vb (?_)
 have h0:=h.ext e0_0
 have hcl:clsI (vals x.g.edges) st v=(((x.z.getD v.toNat default).l).find? fun i=>areA st ((vals x.g.edges).getD i.toNat default) 1).getD (-1):=by unfold clsI;rw [hzA]
 refine Vl [2,13,14,15] (fun k:Nat=>[pA b0_0,.slice (x.z.getD v.toNat default).a (x.z.getD v.toNat default).l.length (x.z.getD v.toNat default).c,.int .i64 ((x.z.getD v.toNat default).l.length:Nat),.int .i64 (k:Nat)])
  (fun k w'=>k≤(x.z.getD v.toNat default).l.length∧(∀ j,j<k→areA st ((vals x.g.edges).getD ((x.z.getD v.toNat default).l.getD j default).toNat default) 1=false)∧Ext w0_0 w') (fun k=>(x.z.getD v.toNat default).l.length-k) 0 rfl ⟨Nat.zero_le _,fun j hj=>absurd hj (Nat.not_lt_zero j),Vc.Mod.refl _ _⟩ ?_
 rintro ρ k w1 ⟨hk,hf,e⟩
 have h1:=h0.ext e
 have hX:=hB0_0.ext e
 have hxi:IntSl w1 (x.z.getD v.toNat default).a (x.z.getD v.toNat default).l:=h1.z.at hzi
 refine Vs<|Vr<|oL rfl rfl<|Vn<|Vs<|Vd rfl (fun c16=>Vk<|Vs<|Vb<|Vs (?_)) (fun c16=>Ve<|Vs (?_))
 ·have hkl:k<(x.z.getD v.toNat default).l.length:=by omega
  obtain ⟨i,hi,hid,hiv⟩:=hR.adjat hv0 hv1 hkl
  obtain ⟨k1,k2,k3⟩:=hR.edge hi
  refine Vr<|Vo (iX ru22 sz3 rfl rfl (hxi.some (i:=k) hkl))<|Vo (rla ag3 rfl ((hxi.row (i:=k) hkl).c0a rfl))<|oJ rfl<|Vn<|Vs (?_)
  rw [hid]
  have hcon:∀ {w':World},Ext w1 w'→RetsP prog 64 #[.slice (x.g.edges.getD i default).a (x.g.edges.getD i default).l.length (x.g.edges.getD i default).c,.func (.func 104) #[] #[pA b0_0]] w' (.bool ((x.g.edges.getD i default).l.any fun u=>!decide (stA st u=1))):=fun e=>containsM31 104 [] [pA b0_0] (fun u=>!decide (stA st u=1)) (AgA x st b0_0) (x.g.edges.getD i default).a (x.g.edges.getD i default).c (x.g.edges.getD i default).l _ call104 (fun w u h hu=>cls1_spec x st b0_0 u w h (k2 u hu).1 (by have:=(k2 u hu).2;omega)) (fun w w' h e=>h.ext e) ⟨h1.ext e,hX.ext e⟩ ((h1.g.e.at hi).ext e) k3
  refine Vr<|Vo (rla ag92 rfl (show _=some (Value.pointer (some ⟨x.p,0,none⟩)) from hX.cell 0))<|Vo (R.nilCheck rfl)<|Vo (R.fld' (o:=0) ru95 rfl rfl sz25 rfl rfl)<|Vo (R.fld' (o:=2) ru25 rfl rfl sz23 rfl rfl)<|Vo (rla ag23 rfl (show _=some (Value.slice x.g.ea x.g.edges.length x.g.ec) from h1.blk.cell 2))<|oI rfl<|Vo (iX ru23 sz22 rfl rfl (h1.g.e.sl.some (i:=i) hi))<|Vo (rla ag22 rfl ((h1.g.e.sl.row (i:=i) hi).c0a rfl))<|Vo (R.mkFn rfl rfl)<|Vp call64 rfl (hcon (Mod.refl _ _)) fun w4_9 e4_9=>Vo (R.not rfl)<|Vn<|Vh rfl (fun c29=>Vs<|Vr<|oI rfl<|oJ rfl<|Vn<|Vt (fret1 (v:=.int _ _) rfl rfl rfl (⟨?_,(e0_0.trans e).trans e4_9⟩))) (fun c29=>Vk<|Vr<|oD rfl rfl<|oI rfl<|Vn (⟨k+1,rfl,⟨by omega,fun j hj=>?_,e.trans e4_9⟩,by omega⟩))
  ·rw [hcl,findA_at (p:=fun i=>areA st ((vals x.g.edges).getD i.toNat default) 1) hkl (by rw [hid,Int.toNat_natCast,k1,←allI];assumption) hf,hid];rfl
  ·by_cases e2:j=k
   ·subst e2;rw [hid,Int.toNat_natCast,k1,←allI];assumption
   ·exact hf j (by omega)
 ·have hke:k=(x.z.getD v.toNat default).l.length:=by omega
  subst hke
  refine Vr<|oJ rfl<|Vn<|Vt (fret1 (v:=.int _ _) rfl rfl rfl (⟨?_,e0_0.trans e⟩))
  rw [hcl,findA_no (p:=fun i=>areA st ((vals x.g.edges).getD i.toNat default) 1) hf];rfl
def ExG (x:AgX) (st:List Int) (b1 b2:Nat) (v:Int) (w:World):Prop:=AgA x st b1 w∧NuG w b2 v
theorem ExG.ext {x:AgX} {st:List Int} {b1 b2:Nat} {v:Int} {w w':World} (h:ExG x st b1 b2 v w) (e:Ext w w'):ExG x st b1 b2 v w':=⟨h.1.ext e,h.2.ext e⟩
theorem exc11_spec (x:AgX) (st:List Int) (b1 b2:Nat) (v u:Int) (w:World) (h:ExG x st b1 b2 v w) (h0:0≤u) (h1:u<(st.length:Int)) :
  RetsP prog 122 #[.int .i64 u,pA b2,pA b1] w (.bool (decide (u≠v)&&decide (stA st u=2))):=by
 refine eN (args:=[_,_,_]) func122 rfl ntmps122 ?_
 refine Vs<|Vr<|oA rfl<|Vn<|Vs<|Vr<|oI rfl<|Vo (rla ag3 rfl (show w.cell? ⟨b2,0,none⟩=some (Value.int .i64 v) from h.2.cell 0))<|Vo (R.neq rfl rfl)<|oB rfl<|VL.andP rfl rfl (fun g1_3=>Vo (rla ag92 rfl (show w.cell? ⟨b1,0,none⟩=some (Value.pointer (some ⟨x.p,0,none⟩)) from h.1.2.cell 0))<|lT<|Vo (R.nilCheck rfl)<|lT<|Vo (R.fld' (o:=4) ru95 rfl rfl sz22 rfl rfl)<|lT<|Vo (rla ag22 rfl (show w.cell? ⟨x.p,4,none⟩=some (Value.slice (some ⟨x.tb,0,none⟩) st.length st.length) from h.1.1.blk.cell 4))<|lT<|oI rfl<|lT<|Vo (iX ru22 sz3 rfl rfl (h.1.1.t.sl.some (i:=u.toNat) (by omega)))<|lT<|Vo (rla ag3 rfl ((h.1.1.t.sl.row (i:=u.toNat) (by omega)).c0a rfl))<|lT<|Vo (R.eql rfl rfl)<|oP rfl rfl<|oA rfl<|Vn<|Vt<|tB rfl rfl rfl (⟨?_,(Mod.refl _ _)⟩)) (fun g1_3=>lF<|lF<|lF<|lF<|lF<|lF<|lF<|oQ rfl rfl<|oA rfl<|Vn<|Vt<|tB rfl rfl rfl (⟨?_,(Mod.refl _ _)⟩))
 all_goals (refine congrArg Value.bool ?_)
 ·rw [show decide (u≠v)=true from decide_eq_true g1_3,Bool.true_and];rfl
 ·rw [show decide (u≠v)=false from decide_eq_false g1_3,Bool.false_and]
theorem exc1_spec (x:AgX) (N:Nat) (st:List Int) (b1 b2:Nat) (v:Int) (i:Nat) (w:World) (h:ExG x st b1 b2 v w) (hR:AgR x N) (hst:st.length=N) (hi:i<x.g.edges.length) :
  RetsP prog 121 #[.int .i64 (i:Nat),pA b1,pA b2] w (.bool (!(((vals x.g.edges).getD i default).any fun u=>decide (u≠v)&&decide (stA st u=2)))):=by
 have hEl:=hR.El
 obtain ⟨k1,k2,k3⟩:=hR.edge hi
 refine eN (args:=[_,_,_]) func121 rfl ntmps121 ?_
 refine Vs<|Vr<|oA rfl<|Vn<|Vs<|Vr<|Vo (rla ag92 rfl (show w.cell? ⟨b1,0,none⟩=some (Value.pointer (some ⟨x.p,0,none⟩)) from h.1.2.cell 0))<|Vo (R.nilCheck rfl)<|Vo (R.fld' (o:=0) ru95 rfl rfl sz25 rfl rfl)<|Vo (R.fld' (o:=2) ru25 rfl rfl sz23 rfl rfl)<|Vo (rla ag23 rfl (show w.cell? ⟨x.p,2,none⟩=some (Value.slice x.g.ea x.g.edges.length x.g.ec) from h.1.1.blk.cell 2))<|oI rfl<|Vo (iX ru23 sz22 rfl rfl (h.1.1.g.e.sl.some (i:=i) hi))<|Vo (rla ag22 rfl ((h.1.1.g.e.sl.row (i:=i) hi).c0a rfl))<|Vo (R.mkFn rfl rfl)<|Vp call64 rfl (containsM31 122 [] [pA b2,pA b1] (fun u=>decide (u≠v)&&decide (stA st u=2)) (ExG x st b1 b2 v) (x.g.edges.getD i default).a (x.g.edges.getD i default).c (x.g.edges.getD i default).l _ call122 (fun w u h hu=>exc11_spec x st b1 b2 v u w h (k2 u hu).1 (by have:=(k2 u hu).2;omega)) (fun w w' h e=>h.ext e) (h.ext (Mod.refl _ _)) ((h.1.1.g.e.at hi).ext (Mod.refl _ _)) k3) fun w1_9 e1_9=>Vo (R.not rfl)<|oA rfl<|Vn<|Vt<|tB rfl rfl rfl (⟨?_,e1_9⟩)
 rw [k1]
theorem exc_spec (x:AgX) (N:Nat) (v:Int) (st:List Int) (w:World) (h:AgOk x w st) (hR:AgR x N) (hst:st.length=N) (hv0:0≤v) (hv1:v<(N:Int)) :
  RetsP prog 92 #[.pointer (some ⟨x.p,0,none⟩),.int .i64 v] w (.bool (!frA (vals x.g.edges) st v)):=by
 have hN4:=hR.N4
 obtain ⟨hzi,hzA,hzL⟩:=hR.adj hv0 hv1
 refine eN (args:=[_,_]) func92 rfl ntmps92 ?_
 refine Vs<|Vr<|VL.box (v:=.pointer _) rfl fun b0_0 w0_0 hb0_0 e0_0 hB0_0=>VL.box (v:=.int _ _) rfl fun b0_1 w0_1 hb0_1 e0_1 hB0_1=>oA rfl<|Vn<|Vs (?_)
 have h0:=h.ext (e0_0.trans e0_1)
 have hb1:PtG w0_1 b0_0 x:=hB0_0.ext e0_1
 have hb2:NuG w0_1 b0_1 v:=hB0_1
 have hcon:∀ {w':World},Ext w0_1 w'→RetsP prog 64 #[.slice (x.z.getD v.toNat default).a (x.z.getD v.toNat default).l.length (x.z.getD v.toNat default).c,.func (.func 121) #[] #[pA b0_0,pA b0_1]] w' (.bool (!frA (vals x.g.edges) st v)):=fun e=>by
  have:=containsM31 121 [] [pA b0_0,pA b0_1] (fun i=>!(((vals x.g.edges).getD i.toNat default).any fun u=>decide (u≠v)&&decide (stA st u=2))) (ExG x st b0_0 b0_1 v) (x.z.getD v.toNat default).a (x.z.getD v.toNat default).c (x.z.getD v.toNat default).l _ call121 (fun w i hx hi=>by
   rw [hzA] at hi
   obtain ⟨k,hk,_,rfl⟩:=adjK_mem.1 hi
   rw [List.length_map] at hk
   rw [Int.toNat_natCast]
   exact exc1_spec x N st b0_0 b0_1 v k w hx hR hst hk) (fun w w' h e=>h.ext e) ⟨⟨h0.ext e,hb1.ext e⟩,hb2.ext e⟩ ((h0.z.at hzi).ext e) (by omega)
  rwa [hzA,exc_fr31,←hzA] at this
 refine rQ 10 (Vq (fun wq eq=>rla ag92 rfl (show wq.cell? ⟨b0_0,0,none⟩=some (Value.pointer (some ⟨x.p,0,none⟩)) from (hb1.ext eq).cell 0))<|Vq (fun wq eq=>R.nilCheck rfl)<|Vq (fun wq eq=>R.fld' (o:=3) ru95 rfl rfl sz23 rfl rfl)<|Vq (fun wq eq=>rla ag23 rfl (show wq.cell? ⟨x.p,3,none⟩=some (Value.slice (some ⟨x.zb,0,none⟩) x.z.length x.z.length) from (h0.blk.ext eq).cell 3))<|Vq (fun wq eq=>rla ag3 rfl (show wq.cell? ⟨b0_1,0,none⟩=some (Value.int .i64 v) from (hb2.ext eq).cell 0))<|Vq (fun wq eq=>iX ru23 sz22 rfl rfl (h0.z.sl.some (i:=v.toNat) hzi))<|Vq (fun wq eq=>rla ag22 rfl (((h0.z.sl.ext eq).row (i:=v.toNat) hzi).c0a rfl))<|Vq (fun wq eq=>R.mkFn rfl rfl)<|VQ.callP (fun _ _ h k=>Mod.trans h k) call64 rfl (fun wq eq=>hcon eq)<|Vq (fun wq eq=>R.asB rfl)<|Vj fun w1q e1q=>Vn<|Vt<|tB rfl rfl rfl (⟨rfl,(e0_0.trans e0_1).trans e1q⟩))
theorem fre_spec (x:AgX) (N:Nat) (v:Int) (st:List Int) (w:World) (h:AgOk x w st) (hR:AgR x N) (hst:st.length=N) (hv0:0≤v) (hv1:v<(N:Int)) (hs2:stA st v=2) :
  RetsP prog 73 #[.pointer (some ⟨x.p,0,none⟩),.int .i64 v] w (.int .i64 (freI (vals x.g.edges) st v)):=by
 have hN4:=hR.N4
 have hEl:=hR.El
 obtain ⟨hzi,hzA,hzL⟩:=hR.adj hv0 hv1
 obtain ⟨p,hp⟩:∃ p:Int→Bool,p=fun u=>decide (stA st u=2)&&frA (vals x.g.edges) st u:=⟨_,rfl⟩
 have hpu:∀ u,p u=(decide (stA st u=2)&&frA (vals x.g.edges) st u):=fun u=>by rw [hp]
 have hfr:freI (vals x.g.edges) st v=((v :: (x.z.getD v.toNat default).l.flatMap fun i=>(vals x.g.edges).getD i.toNat default).find? p).getD (-1):=by
  unfold freI nearS
  rw [hzA,hp]
 refine eN (args:=[_,_]) func73 rfl ntmps73 ?_
 refine Vs<|Vr<|oJ rfl<|Vn<|Vs<|Vs<|Vr<|Vo (R.mvP rfl)<|oI rfl<|Vp call92 rfl (exc_spec x N v st w h hR hst hv0 hv1) fun w1_2 e1_2=>Vo (R.not rfl)<|Vn<|Vh rfl (fun c12=>Vs<|Vr<|oI rfl<|oJ rfl<|Vn<|Vt (fret1 (v:=.int _ _) rfl rfl rfl (⟨?_,e1_2⟩))) (fun c12=>Vk<|Vs<|Vs (?_))
 ·have hf:frA (vals x.g.edges) st v=true:=by simpa using c12
  rw [hfr,List.find?_cons,hpu,hs2,hf]
  rfl
 have hf:frA (vals x.g.edges) st v=false:=by simpa using c12
 have hfr2:freI (vals x.g.edges) st v=(((x.z.getD v.toNat default).l.flatMap fun i=>(vals x.g.edges).getD i.toNat default).find? p).getD (-1):=by
  rw [hfr,List.find?_cons,hpu,hs2,hf]
  rfl
 have h0:=h.ext e1_2
 refine Vr<|Vo (R.mvP rfl)<|Vo (R.nilCheck rfl)<|Vo (R.fld' (o:=3) ru95 rfl rfl sz23 rfl rfl)<|Vo (rla ag23 rfl (show _=some (Value.slice (some ⟨x.zb,0,none⟩) x.z.length x.z.length) from h0.blk.cell 3))<|oI rfl<|Vo (iX ru23 sz22 rfl rfl (h0.z.sl.some (i:=v.toNat) hzi))<|Vo (rla ag22 rfl ((h0.z.sl.row (i:=v.toNat) hzi).c0a rfl))<|Vo (R.lenS ru22 rfl)<|oI rfl<|Vn<|Vb (?_)
 refine Vl [0,20,21,22] (fun k:Nat=>[.pointer (some ⟨x.p,0,none⟩),.slice (x.z.getD v.toNat default).a (x.z.getD v.toNat default).l.length (x.z.getD v.toNat default).c,.int .i64 ((x.z.getD v.toNat default).l.length:Nat),.int .i64 (k:Nat)])
  (fun k w'=>k≤(x.z.getD v.toNat default).l.length∧(∀ i,i<k→∀ u∈(vals x.g.edges).getD ((x.z.getD v.toNat default).l.getD i default).toNat default,p u=false)∧Ext w1_2 w') (fun k=>(x.z.getD v.toNat default).l.length-k) 0 rfl ⟨Nat.zero_le _,fun i hi=>absurd hi (Nat.not_lt_zero i),Vc.Mod.refl _ _⟩ ?_
 rintro ρ k w1 ⟨hk,hb,e⟩
 have h1:=h0.ext e
 have hxi:IntSl w1 (x.z.getD v.toNat default).a (x.z.getD v.toNat default).l:=h1.z.at hzi
 refine Vs<|Vr<|oL rfl rfl<|Vn<|Vs<|Vd rfl (fun c23=>Vk<|Vs<|Vb<|Vs (?_)) (fun c23=>Ve<|Vs (?_))
 ·have hkl:k<(x.z.getD v.toNat default).l.length:=by omega
  obtain ⟨i,hi,hid,hiv⟩:=hR.adjat hv0 hv1 hkl
  obtain ⟨k1,k2,k3⟩:=hR.edge hi
  refine Vr<|Vo (iX ru22 sz3 rfl rfl (hxi.some (i:=k) hkl))<|Vo (rla ag3 rfl ((hxi.row (i:=k) hkl).c0a rfl))<|oJ rfl<|Vn<|Vs (?_)
  rw [hid]
  refine Vr<|Vo (R.mvP rfl)<|Vo (R.nilCheck rfl)<|Vo (R.fld' (o:=0) ru95 rfl rfl sz25 rfl rfl)<|Vo (R.fld' (o:=2) ru25 rfl rfl sz23 rfl rfl)<|Vo (rla ag23 rfl (show _=some (Value.slice x.g.ea x.g.edges.length x.g.ec) from h1.blk.cell 2))<|oI rfl<|Vo (iX ru23 sz22 rfl rfl (h1.g.e.sl.some (i:=i) hi))<|Vo (rla ag22 rfl ((h1.g.e.sl.row (i:=i) hi).c0a rfl))<|Vo (R.lenS ru22 rfl)<|oI rfl<|Vn<|Vb (?_)
  refine Vl [0,20,21,22,33,34,35] (fun j:Nat=>[.pointer (some ⟨x.p,0,none⟩),.slice (x.z.getD v.toNat default).a (x.z.getD v.toNat default).l.length (x.z.getD v.toNat default).c,.int .i64 ((x.z.getD v.toNat default).l.length:Nat),.int .i64 (k:Nat),.slice (x.g.edges.getD i default).a (x.g.edges.getD i default).l.length (x.g.edges.getD i default).c,.int .i64 ((x.g.edges.getD i default).l.length:Nat),.int .i64 (j:Nat)])
   (fun j w'=>j≤(x.g.edges.getD i default).l.length∧(∀ t,t<j→p ((x.g.edges.getD i default).l.getD t default)=false)∧Ext w1 w') (fun j=>(x.g.edges.getD i default).l.length-j) 0 rfl ⟨Nat.zero_le _,fun i hi=>absurd hi (Nat.not_lt_zero i),Vc.Mod.refl _ _⟩ ?_
  rintro ρ j w2 ⟨hj,hb2,e2⟩
  have h2:=h1.ext e2
  have hgi:IntSl w2 (x.g.edges.getD i default).a (x.g.edges.getD i default).l:=h2.g.e.at hi
  refine Vs<|Vr<|oL rfl rfl<|Vn<|Vs<|Vd rfl (fun c36=>Vk<|Vs<|Vb<|Vs (?_)) (fun c36=>Ve<|Vr<|oD rfl rfl<|oI rfl<|Vn (?_))
  ·have hjl:j<(x.g.edges.getD i default).l.length:=by omega
   have hur:=k2 _ (gmem hjl)
   obtain ⟨u,hu⟩:∃ u,u=(x.g.edges.getD i default).l.getD j default:=⟨_,rfl⟩
   have hexc:∀ {w':World},Ext w2 w'→RetsP prog 92 #[.pointer (some ⟨x.p,0,none⟩),.int .i64 u] w' (.bool (!frA (vals x.g.edges) st u)):=fun e=>exc_spec x N u st _ (h2.ext e) hR hst (by rw [hu];exact hur.1) (by rw [hu];exact hur.2)
   refine Vr<|Vo (iX ru22 sz3 rfl rfl (hgi.some (i:=j) hjl))<|Vo (rla ag3 rfl ((hgi.row (i:=j) hjl).c0a rfl))<|oJ rfl<|Vn<|Vs (?_)
   rw [←hu]
   rw [←hu] at hur
   refine Vr<|Vo (R.mvP rfl)<|Vo (R.nilCheck rfl)<|Vo (R.fld' (o:=4) ru95 rfl rfl sz22 rfl rfl)<|Vo (rla ag22 rfl (show _=some (Value.slice (some ⟨x.tb,0,none⟩) st.length st.length) from h2.blk.cell 4))<|oI rfl<|Vo (iX ru22 sz3 rfl rfl (h2.t.sl.some (i:=u.toNat) (by omega)))<|Vo (rla ag3 rfl ((h2.t.sl.row (i:=u.toNat) (by omega)).c0a rfl))<|Vo (R.eql rfl rfl)<|oB rfl<|VL.andP rfl rfl (fun g9_8=>Vo (R.mvP rfl)<|lT<|oI rfl<|lT<|Vp call92 rfl (hexc (Mod.refl _ _)) fun w9_11 e9_11=>lT<|Vo (R.not rfl)<|oP rfl rfl<|Vn<|Vh rfl (fun c52=>Vs<|Vr<|oI rfl<|oJ rfl<|Vn<|Vt (fret1 (v:=.int _ _) rfl rfl rfl (⟨?_,((e1_2.trans e).trans e2).trans e9_11⟩))) (fun c52=>Vk<|Vr<|oD rfl rfl<|oI rfl<|Vn (⟨j+1,rfl,⟨by omega,fun t ht=>?_,e2.trans e9_11⟩,by omega⟩))) (fun g9_8=>lF<|lF<|lF<|oQ rfl rfl<|Vn<|V.condF rfl<|Vk<|Vr<|oD rfl rfl<|oI rfl<|Vn (⟨j+1,rfl,⟨by omega,fun t ht=>?_,e2.trans (Mod.refl _ _)⟩,by omega⟩))
   ·have hpt:p u=true:=by
     rw [hpu,decide_eq_true (show stA st u=2 from g9_8),Bool.true_and]
     simpa using c52
    have hed:(vals x.g.edges).getD ((x.z.getD v.toNat default).l.getD k default).toNat default=(x.g.edges.getD i default).l:=by rw [hid,Int.toNat_natCast,k1]
    have:=find_flat (f:=fun i=>(vals x.g.edges).getD i.toNat default) (p:=p) (L:=(x.z.getD v.toNat default).l) (k:=k) (j:=j) hkl (by rw [hed];exact hjl) (by rw [hed,←hu];exact hpt) hb (fun t ht=>by rw [hed];exact hb2 t ht)
    rw [hfr2,this,hed,←hu]
    rfl
   ·by_cases e3:t=j
    ·subst e3
     rw [←hu,hpu,show frA (vals x.g.edges) st u=false by simpa using c52,Bool.and_false]
    ·exact hb2 t (by omega)
   ·by_cases e3:t=j
    ·subst e3
     rw [←hu,hpu,decide_eq_false (show ¬stA st u=2 from g9_8),Bool.false_and]
    ·exact hb2 t (by omega)
  ·have hje:j=(x.g.edges.getD i default).l.length:=by omega
   subst hje
   refine ⟨k+1,rfl,⟨by omega,fun t ht u hu=>?_,e.trans e2⟩,by omega⟩
   by_cases e3:t=k
   ·subst e3
    rw [hid,Int.toNat_natCast,k1] at hu
    obtain ⟨m,hm,rfl⟩:=List.getElem_of_mem hu
    have:=hb2 m hm
    rwa [gget hm] at this
   ·exact hb t (by omega) u hu
 ·have hke:k=(x.z.getD v.toNat default).l.length:=by omega
  subst hke
  refine Vr<|oJ rfl<|Vn<|Vt (fret1 (v:=.int _ _) rfl rfl rfl (⟨?_,e1_2.trans e⟩))
  rw [hfr2,find_flat_no (f:=fun i=>(vals x.g.edges).getD i.toNat default) (p:=p) hb]
  rfl
def encG5 (g:GrW) (zb tb n:Nat):List Value:=[.int .i64 g.n,.slice g.ca g.cost.length g.cc,.slice g.ea g.edges.length g.ec,.slice (some ⟨zb,0,none⟩) n n,.slice (some ⟨tb,0,none⟩) n n]
structure AgB (g:GrW) (N:Nat) (w:World) (x:AgX) (w':World):Prop where
 ok:AgOk x w' (List.replicate N 0)
 r:AgR x N
 g:x.g=g
 p:w.heap.size≤x.p
 t:w.heap.size≤x.tb
 zb:w.heap.size≤x.zb
 ze:∀ y∈x.z,∀ q,aBlk y.a q→w.heap.size≤q
 zl:x.zb<w'.heap.size
 zel:∀ y∈x.z,∀ q,aBlk y.a q→q<w'.heap.size
theorem begin31_spec (g:GrW) (N:Nat) (w:World) (hG:GOk w g) (hl:GLen g) (hv:validG (grV g)=true) (hN:g.n=(N:Int)) :
  RetsX prog 67 #[.agg (encGr g).toArray] w (fun x:AgX=>.pointer (some ⟨x.p,0,none⟩)) (AgB g N w):=by
 have hn:=costB_iff.1 (validG_iff.1 hv).1
 have hN4:N≤4000:=by have h0:g.n≤4000:=hn.2.1;omega
 have hE20:g.edges.length≤20000:=by have:=(validG_iff.1 hv).2.1;simpa [grV,vals] using this
 refine eN (args:=[_]) func67 rfl ntmps67 ?_
 refine Vs<|Vr<|VL.box (v:=.agg _) rfl fun b0_0 w0_0 hb0_0 e0_0 hB0_0=>Vo (R.asP rfl)<|Vn<|Vs (?_)
 refine V.regionS mixed 7 (by kernel_rfl) rfl (fun us=>VS.op (fun wq eq=>R.ldA ag25 sz25 rfl rfl (show RowAt _ _ _ (encGr g) from (hB0_0.ext eq).rowAt 0 3) rfl) (VS.op (fun wq eq=>R.fld' (o:=0) ru25 rfl rfl sz3 rfl rfl) (VS.op (fun wq eq=>rla ag3 rfl (show wq.cell? ⟨b0_0,0,none⟩=some (Value.int .i64 ((N:Nat):Int)) from by rw [←hN];exact (hB0_0.ext eq).cell 0)) (VS.spec (fun u w'=>∃ b,u=.slice (some ⟨b,0,none⟩) N N∧OwnT encSl 1 22 w0_0.heap.size w' (some ⟨b,0,none⟩) N (List.replicate N (default:SlI))) (fun u a b _ ⟨c,hc,h1⟩ eb=>⟨c,hc,h1.ext eb⟩) rfl (fun wq eq hq=>yieldsR_make el23 (default:SlI) rfl rfl rfl (by omega) (by unfold maxLen;omega) eq.size fun b w' hb he hO=>⟨⟨b,rfl,hO⟩,he⟩) (VS.op (fun wq eq=>R.fld' (o:=0) ru25 rfl rfl sz3 rfl rfl) (VS.op (fun wq eq=>rla ag3 rfl (show wq.cell? ⟨b0_0,0,none⟩=some (Value.int .i64 ((N:Nat):Int)) from by rw [←hN];exact (hB0_0.ext eq).cell 0)) (VS.spec (fun u w'=>∃ b,u=.slice (some ⟨b,0,none⟩) N N∧OwnT Vc.encI 1 3 w0_0.heap.size w' (some ⟨b,0,none⟩) N (List.replicate N (0:Int))) (fun u a b _ ⟨c,hc,h1⟩ eb=>⟨c,hc,h1.ext eb⟩) rfl (fun wq eq hq=>yieldsR_make el22 (0:Int) rfl rfl rfl (by omega) (by unfold maxLen;omega) eq.size fun b w' hb he hO=>⟨⟨b,rfl,hO⟩,he⟩) (VS.nil (fun w15 e15 h15=>?_))))))))) rfl
 obtain ⟨zb,hzb,hoz⟩:=h15 3
 obtain ⟨tb,htb,hot⟩:=h15 6
 rw [show us 3=_ from hzb,show us 6=_ from htb]
 have hX15:=hB0_0.ext e15
 refine Vo (R.build zeroValue95 ru95 pl95 rfl)<|VL.box (v:=.agg _) rfl fun p w29 hp e16 hP16=>Vo (R.asP rfl)<|Vn<|Vs<|Vs (?_)
 have hX29:=hX15.ext e16
 have hB29:Blk w29 p (.cells (Value.agg (encG5 g zb tb N).toArray).cells 95 (0,0)):=hP16
 have E29:Ext w w29:=(e0_0.trans e15).trans e16
 have ltb:=hot.lt tb ⟨_,rfl,rfl⟩
 have lzb:=hoz.lt zb ⟨_,rfl,rfl⟩
 have gtb:=hot.ge tb ⟨_,rfl,rfl⟩
 have gzb:=hoz.ge zb ⟨_,rfl,rfl⟩
 have s00:=e0_0.size
 have s15:=e15.size
 have s16:=e16.size
 have hp29:=hB29.lt
 have ntz:tb≠zb:=fun h=>by
  obtain ⟨cA,zA,bA⟩:=OwnT.tyA hoz _ rfl
  exact (OwnT.tyA hot).apart bA (by decide) ⟨_,rfl,h⟩
 have npz:p≠zb:=by omega
 have hgl0:GLs w0_0.heap.size w29 (some ⟨zb,0,none⟩) N (List.replicate N (default:SlI)):=by
  refine ⟨hoz.ext e16,fun j=>?_,fun j=>?_,fun i j _=>?_⟩
  ·rw [rep_def];exact OwnT.nil _ _ _ _ _
  ·rw [rep_def];exact Sep.nil' _
  ·rw [rep_def,rep_def];exact Sep.nil _
 have hot29:=hot.ext e16
 refine Vr<|Vo (R.fld' (o:=2) ru25 rfl rfl sz23 rfl rfl)<|Vo (rla ag23 rfl (show w29.cell? ⟨b0_0,2,none⟩=some (Value.slice g.ea g.edges.length g.ec) from hX29.cell 2))<|Vo (R.lenS ru23 rfl)<|oI rfl<|Vn<|Vb (?_)
 refine Vl [3,18,19,20] (fun x:Nat×List SlI=>[pA p,.slice g.ea g.edges.length g.ec,.int .i64 (g.edges.length:Nat),.int .i64 (x.1:Nat)])
  (fun x w'=>x.1≤g.edges.length∧x.2.length=N∧GLs w0_0.heap.size w' (some ⟨zb,0,none⟩) N x.2∧(∀ j q,aBlk (x.2.getD j default).a q→w29.heap.size≤q)∧(∀ v:Nat,v<N→(x.2.getD v default).l=adjK (vals g.edges) x.1 ((v:Nat):Int))∧Vc.Mod (fun q=>q=zb∨w29.heap.size≤q) w29 w') (fun x=>g.edges.length-x.1) (0,List.replicate N default) rfl ⟨Nat.zero_le _,by simp,hgl0,fun j q hq=>by rw [rep_def] at hq;exact absurd hq (Sep.nil none q hq),fun v hv=>by rw [rep_at hv];rfl,Vc.Mod.refl _ _⟩ ?_
 rintro ρ ⟨k,zz⟩ w30 ⟨hk,hz,hS,hup,hI,m30⟩
 dsimp only at hk hz hS hup hI m30 ⊢
 have hkeep:∀ {w':World},Vc.Mod (fun q=>q=zb∨w29.heap.size≤q) w29 w'→Ext w w'∧Blk w' p (.cells (Value.agg (encG5 g zb tb N).toArray).cells 95 (0,0)):=fun m=>⟨E29.ownA m fun q hq=>by omega,hB29.mod m fun hq=>by omega⟩
 obtain ⟨E30,hB30⟩:=hkeep m30
 have hG30:=(hG.ext E30).e
 refine Vs<|Vr<|oL rfl rfl<|Vn<|Vs<|Vd rfl (fun c21=>Vk<|Vs<|Vb<|Vs (?_)) (fun c21=>Ve<|Vs (?_))
 ·have hkl:k<g.edges.length:=by omega
  have hxs:=(validG_iff.1 hv).2.2.1 _ (List.mem_map_of_mem (gmem hkl))
  have hxv:∀ y∈(g.edges.getD k default).l,0≤y∧y<(N:Int):=fun y hy=>by have:=hxs.2.2 y hy;rw [show (grV g).n=g.n from rfl,hN] at this;exact this
  have hxl:=(hl.each _ (gmem hkl)).1
  refine Vr<|oI rfl<|Vo (iX ru23 sz22 rfl rfl ((hG30.sl).some (i:=k) (by omega)))<|Vo (rla ag22 rfl ((((hG30.sl).ext (Mod.refl _ _)).row (i:=k) (by omega)).c0a rfl))<|oJ rfl<|oT rfl<|Vn<|Vs<|Vr<|oS rfl<|Vo (R.lenS ru22 rfl)<|oI rfl<|Vn<|Vb (?_)
  refine Vl [3,4,18,19,20,25,26,27] (fun x:Nat×List SlI=>[pA p,.int .i64 (k:Nat),.slice g.ea g.edges.length g.ec,.int .i64 (g.edges.length:Nat),.int .i64 (k:Nat),.slice (g.edges.getD k default).a (g.edges.getD k default).l.length (g.edges.getD k default).c,.int .i64 ((g.edges.getD k default).l.length:Nat),.int .i64 (x.1:Nat)])
   (fun x w'=>x.1≤(g.edges.getD k default).l.length∧x.2.length=N∧GLs w0_0.heap.size w' (some ⟨zb,0,none⟩) N x.2∧(∀ j q,aBlk (x.2.getD j default).a q→w29.heap.size≤q)∧(∀ v:Nat,v<N→(x.2.getD v default).l=adjK (vals g.edges) k ((v:Nat):Int)++if ((v:Nat):Int)∈(g.edges.getD k default).l.take x.1 then [(k:Int)] else [])∧Vc.Mod (fun q=>q=zb∨w29.heap.size≤q) w29 w') (fun x=>(g.edges.getD k default).l.length-x.1) (0,zz) rfl ⟨Nat.zero_le _,hz,hS,hup,fun v hv=>by rw [hI v hv];simp,m30⟩ ?_
  rintro ρ ⟨i,z2⟩ w5 ⟨hi,hz2,hA2,hup2,hI2,m5⟩
  dsimp only at hi hz2 hA2 hup2 hI2 m5 ⊢
  obtain ⟨E5,hX5⟩:=hkeep m5
  have hx5:IntSl w5 (g.edges.getD k default).a (g.edges.getD k default).l:=((hG.ext E5).e).at hkl
  refine Vs<|Vr<|oL rfl rfl<|Vn<|Vs<|Vd rfl (fun c28=>Vk<|Vs<|Vb<|Vs (?_)) (fun c28=>Ve<|Vr<|oD rfl rfl<|oI rfl<|Vn (?_))
  ·have hil:i<(g.edges.getD k default).l.length:=by omega
   refine Vr<|Vo (iX ru22 sz3 rfl rfl ((hx5).some (i:=i) (by omega)))<|Vo (rla ag3 rfl ((((hx5).ext (Mod.refl _ _)).row (i:=i) (by omega)).c0a rfl))<|oJ rfl<|Vn (?_)
   obtain ⟨v,hvd⟩:∃ v:Nat,(v:Int)=(g.edges.getD k default).l.getD i default:=⟨((g.edges.getD k default).l.getD i default).toNat,by have:=(hxv _ (gmem hil)).1;omega⟩
   have hvN:v<N:=by have:=(hxv _ (gmem hil)).2;omega
   rw [←hvd]
   have hx:=hA2.each v
   have hxl2:=hx.lt
   have hxg:=hx.ge
   have hxp:=hup2 v
   have hll:(z2.getD v default).l.length≤20001:=by
    rw [hI2 v hvN,List.length_append]
    have h1:=adjK_len (vals g.edges) k ((v:Nat):Int)
    have h2:(if ((v:Nat):Int)∈(g.edges.getD k default).l.take i then [(k:Int)] else []).length≤1:=by split <;> simp
    omega
   have hnew:((v:Nat):Int)∉(g.edges.getD k default).l.take i:=fun h=>by
    obtain ⟨j,hj,hjv⟩:=List.getElem_of_mem h
    rw [List.length_take] at hj
    rw [List.getElem_take] at hjv
    have:=inc_at hxs.2.1 (i:=j) (j:=i) (by omega) hil
    rw [←hvd,gget (show j<(g.edges.getD k default).l.length by omega),hjv] at this
    omega
   have hs5:=m5.size
   have hclq:∀ {wq:World},TA Vc.encI 1 3 w0_0.heap.size (z2.getD v default).a (z2.getD v default).c (z2.getD v default).l ((k:Nat):Int) w5 wq→Blk wq p (.cells (Value.agg (encG5 g zb tb N).toArray).cells 95 (0,0))∧TSl encSl 1 wq (some ⟨zb,0,none⟩) z2:=fun tt=>⟨hX5.mod tt.m fun h=>by have:=hxp _ h;omega,(hA2.own.mod tt.m (hA2.out _)).sl⟩
   refine V.regionT (T:=(TA Vc.encI 1 3 w0_0.heap.size (z2.getD v default).a (z2.getD v default).c (z2.getD v default).l ((k:Nat):Int))) mixed 15 (by kernel_rfl) rfl (fun us=>VT.op (fun wq eq=>R.mvP rfl) (VT.op (fun wq eq=>R.nilCheck rfl) (VT.op (fun wq eq=>R.fld' (o:=3) ru95 rfl rfl sz23 rfl rfl) (VT.op (fun wq eq=>rla ag23 rfl (show wq.cell? ⟨p,3,none⟩=some (Value.slice (some ⟨zb,0,none⟩) N N) from (hclq eq).1.cell 3)) (VT.op (fun wq eq=>R.mvI rfl) (VT.op (fun wq eq=>R.mvP rfl) (VT.op (fun wq eq=>R.nilCheck rfl) (VT.op (fun wq eq=>R.fld' (o:=3) ru95 rfl rfl sz23 rfl rfl) (VT.op (fun wq eq=>rla ag23 rfl (show wq.cell? ⟨p,3,none⟩=some (Value.slice (some ⟨zb,0,none⟩) N N) from (hclq eq).1.cell 3)) (VT.op (fun wq eq=>R.mvI rfl) (VT.op (fun wq eq=>iX ru23 sz22 rfl rfl (hA2.own.sl.some (i:=v) (by omega))) (VT.op (fun wq eq=>rla ag22 rfl (((hclq eq).2.row (i:=v) (by omega)).c0a rfl)) (VT.op (fun wq eq=>R.mvI rfl) (VT.spec (SB1 Vc.encI 1 3 w5.heap.size ((k:Nat):Int)) (fun u x y _ ⟨bb,h1,h2⟩ eb=>⟨bb,h1,h2.mod eb.m fun k hk hs=>by have:=OwnT.ge h2 k hk;have:=hxl2 k hs;omega⟩) rfl (fun wq eq hq=>yieldsR_build1 ru22 sz3 zv3 rfl rfl rfl ((k:Nat):Int) rfl rfl rfl eq.m.size fun b w2 ho he=>⟨⟨b,rfl,ho⟩,Turn.ext he⟩) (VT.spec (SA Vc.encI 1 3 w0_0.heap.size w5.heap.size (z2.getD v default).a (z2.getD v default).c (z2.getD v default).l ((k:Nat):Int)) (SA.mono hx) rfl (fun wq eq hq=>by
      obtain ⟨bb,hb,hB⟩:=hq 13 (by kernel_rfl)
      refine yieldsR_app1 (a:=(z2.getD v default).a) (cap:=(z2.getD v default).c) (b:=bb) (l:=(z2.getD v default).l) (u:=((k:Nat):Int)) el22 (fun _=>rfl) hx eq ?_ ?_ hB.sl (by omega) (by unfold maxLen;omega) (by omega)
      ·rfl
      ·exact hb) (VT.nil (fun w10 e10 h10=>?_))))))))))))))))) rfl
   obtain ⟨a',c',hu,hO,hd⟩:=h10 14
   have hm10:=e10.m
   rw [hu]
   refine Vo (iX ru23 sz22 rfl rfl (hA2.own.sl.some (i:=v) (by omega)))<|VL.ownSt eltSl (v:=.slice _ _ _) sz22 (hA2.own.mod hm10 (hA2.out _)) v 0 (SlI.mk a' c' ((z2.getD v default).l++[((k:Nat):Int)])) rfl rfl (by omega) rfl rfl rfl rfl (by show [Value.slice a' ((z2.getD v default).l++[((k:Nat):Int)]).length c']=_;rw [List.length_append];rfl) fun w22 ho22 m22 hs22=>Vn<|Vr<|oD rfl rfl<|oI rfl<|Vn (?_)
   refine ⟨(i+1,z2.set v ⟨a',c',(z2.getD v default).l++[((k:Nat):Int)]⟩),rfl,⟨by dsimp only;omega,by dsimp only;rw [List.length_set];exact hz2,?_,?_,?_,(m5.then hm10 fun q _ hq=>.inr (hxp q hq)).then m22 fun q _ hq=>.inl (aBlk_some hq)⟩,by dsimp only;omega⟩
   ·dsimp only
    refine hA2.app (by omega) hO hm10 (fun q hq=>?_) ho22 m22
    rcases hd with ⟨e1,_⟩ | h
    ·exact .inl (e1▸hq)
    ·exact .inr (h q hq)
   ·intro j q hq
    dsimp only at hq
    by_cases e:j=v
    ·subst e
     rw [setD_eq _ (by omega)] at hq
     rcases hd with ⟨e1,_⟩ | h
     ·exact hxp q (e1▸hq)
     ·exact Nat.le_trans hs5 (h q hq)
    ·rw [setD_ne _ e] at hq;exact hup2 j q hq
   ·intro u huN
    dsimp only
    have ht:(g.edges.getD k default).l.take (i+1)=(g.edges.getD k default).l.take i++[(v:Int)]:=by rw [List.take_succ_eq_append_getElem hil,hvd,gget hil]
    by_cases e:u=v
    ·subst e
     rw [setD_eq _ (by omega)]
     dsimp only
     rw [hI2 u huN,if_neg hnew,List.append_nil,ht,if_pos (by simp)]
    ·rw [setD_ne _ e,hI2 u huN,ht]
     congr 1
     have:((u:Nat):Int)∈(g.edges.getD k default).l.take i++[(v:Int)]↔((u:Nat):Int)∈(g.edges.getD k default).l.take i:=by
      rw [List.mem_append,List.mem_singleton]
      exact ⟨fun h=>h.resolve_right (by omega),.inl⟩
     by_cases hh:((u:Nat):Int)∈(g.edges.getD k default).l.take i
     ·rw [if_pos hh,if_pos (this.2 hh)]
     ·rw [if_neg hh,if_neg (fun h=>hh (this.1 h))]
  ·have hie:i=(g.edges.getD k default).l.length:=by omega
   subst hie
   refine ⟨(k+1,z2),rfl,⟨by dsimp only;omega,hz2,hA2,hup2,fun v hv=>?_,m5⟩,by dsimp only;omega⟩
   rw [hI2 v hv,List.take_length,adjK_succ,vals_at hkl]
 ·have hke:k=g.edges.length:=by omega
  subst hke
  refine Vr<|Vo (R.mvP rfl)<|Vo (R.asP rfl)<|Vn<|Vt (fret1 (v:=.pointer _) rfl rfl rfl (?_))
  have ht30:OwnT Vc.encI 1 3 0 w30 (some ⟨tb,0,none⟩) N (List.replicate N (0:Int)):=(hot29.mod m30 fun q h1 h2=>by have:=aBlk_some h1;omega).weaken (Nat.zero_le _)
  have henc:encAg ⟨p,g,zb,zz,tb⟩ (List.replicate N (0:Int)).length=encG5 g zb tb N:=by unfold encAg encG5;rw [List.length_replicate];dsimp only;rw [hz]
  refine ⟨⟨p,g,zb,zz,tb⟩,rfl,⟨⟨by rw [henc];exact hB30,⟨w,E30,by dsimp only;omega,hG⟩,hS.LL,by rw [List.length_replicate];exact ht30,?_,fun h=>ntz h.symm,fun y hy q hq=>?_⟩,⟨hN,hN4,fun e he u hu=>?_,hE20,fun e he=>?_,hz,hI⟩,rfl,?_,?_,?_,fun y hy q hq=>?_,hS.own.lt zb ⟨_,rfl,rfl⟩,fun y hy q hq=>?_⟩,E30⟩
  ·show p≠tb;omega
  ·obtain ⟨i,hi,e⟩:=List.getElem_of_mem hy
   rw [←gget hi] at e
   rw [←e] at hq
   have:=hup i q hq
   show q≠tb
   omega
  ·have:=((validG_iff.1 hv).2.2.1 e he).2.2 u hu
   rw [show (grV g).n=g.n from rfl,hN] at this
   exact this
  ·obtain ⟨y,hy,rfl⟩:=List.mem_map.1 he
   exact (hl.each y hy).1
  ·show w.heap.size≤p;omega
  ·show w.heap.size≤tb;omega
  ·show w.heap.size≤zb;omega
  ·obtain ⟨i,hi,e⟩:=List.getElem_of_mem hy
   rw [←gget hi] at e
   rw [←e] at hq
   have:=hup i q hq
   omega
  ·obtain ⟨i,hi,e⟩:=List.getElem_of_mem hy
   rw [←gget hi] at e
   rw [←e] at hq
   exact (hS.each i).lt q hq
theorem tot_bnd {ws S:List Int} (hb:∀ x∈ws,-1000000000≤x∧x≤1000000000) (hr:∀ v∈S,0≤v∧v<(ws.length:Int)) (k:Nat):-(1000000000*(k:Int))≤totW ws (S.take k)∧totW ws (S.take k)≤1000000000*(k:Int):=by
 have h1:=sm_bnd (M:=1000000000) (l:=(S.take k).map (wtF ws)) fun x hx=>by
  obtain ⟨v,hv,rfl⟩:=List.mem_map.1 hx
  have:=hr v (List.take_subset _ _ hv)
  exact hb _ (gmem (show v.toNat<ws.length by omega))
 have h2:((S.take k).map (wtF ws)).length≤k:=by rw [List.length_map,List.length_take];omega
 unfold totW
 omega
theorem tot_succ {ws S:List Int} {k:Nat} (hk:k<S.length):totW ws (S.take (k+1))=totW ws (S.take k)+wtF ws (S.getD k default):=by
 unfold totW
 rw [List.take_succ_eq_append_getElem hk,List.map_append,sm_app,gget hk]
 show _+(_+0)=_
 omega
theorem total31_spec (wa:Option Addr) (wc:Nat) (ws:List Int) (sa:Option Addr) (sc:Nat) (S:List Int) (w:World) (hW:IntSl w wa ws) (_hwl:ws.length≤1000000) (hS:IntSl w sa S) (hSl:S.length≤1000000) (hb:∀ x∈ws,-1000000000≤x∧x≤1000000000) (hr:∀ v∈S,0≤v∧v<(ws.length:Int)) :
  RetsP prog 35 #[.slice wa ws.length wc,.slice sa S.length sc] w (.int .i64 (totW ws S)):=by
 refine eN (args:=[_,_]) func35 rfl ntmps35 ?_
 refine Vs<|Vr<|oJ rfl<|Vn<|Vs<|Vr<|oJ rfl<|Vn<|Vs<|Vs<|Vr<|oS rfl<|Vo (R.lenS ru22 rfl)<|oI rfl<|Vn<|Vb (?_)
 refine Vl [0,5,8,9,10] (fun k:Nat=>[.slice wa ws.length wc,.int .i64 (totW ws (S.take k)),.slice sa S.length sc,.int .i64 (S.length:Nat),.int .i64 (k:Nat)]) (fun k w'=>k≤S.length∧Ext w w') (fun k=>S.length-k) 0 rfl ⟨Nat.zero_le _,Vc.Mod.refl _ _⟩ ?_
 rintro ρ k w1 ⟨hk,e⟩
 have hbd:=tot_bnd hb hr k
 have hS1:=hS.ext e
 have hW1:=hW.ext e
 refine Vs<|Vr<|oL rfl rfl<|Vn<|Vs<|Vd rfl (fun c11=>Vk<|Vs<|Vb<|Vs (?_)) (fun c11=>Ve<|Vs (?_))
 ·have hkl:k<S.length:=by omega
  have hvr:=hr _ (gmem hkl)
  have hts:=tot_succ (ws:=ws) hkl
  have hwb:=hb _ (gmem (show (S.getD k default).toNat<ws.length by omega))
  refine Vr<|Vo (iX ru22 sz3 rfl rfl (hS1.some (i:=k) hkl))<|Vo (rla ag3 rfl ((hS1.row (i:=k) hkl).c0a rfl))<|oJ rfl<|Vn<|Vr<|oI rfl<|oS rfl<|oI rfl<|Vo (iX ru22 sz3 rfl rfl (hW1.some (i:=(S.getD k default).toNat) (by omega)))<|Vo (rla ag3 rfl ((hW1.row (i:=(S.getD k default).toNat) (by omega)).c0a rfl))<|oD rfl rfl<|oJ rfl<|Vn<|Vr<|oD rfl rfl<|oI rfl<|Vn (⟨k+1,?_,⟨by omega,e⟩,by omega⟩)
  rw [hts]
  rfl
 ·have hke:k=S.length:=by omega
  subst hke
  rw [List.take_length]
  refine Vr<|oI rfl<|oJ rfl<|Vn<|Vt (fret1 (v:=.int _ _) rfl rfl rfl (⟨rfl,e⟩))
theorem rsum31_spec (wa:Option Addr) (wc:Nat) (ws:List Int) (sa:Option Addr) (sc:Nat) (S:List Int) (w:World) (hW:IntSl w wa ws) (_hwl:ws.length≤1000000) (hS:IntSl w sa S) (hSl:S.length≤1000000) (hb:∀ x∈ws,-1000000000≤x∧x≤1000000000) (hr:∀ v∈S,0≤v∧v<(ws.length:Int)) :
  RetsP prog 54 #[.slice wa ws.length wc,.slice sa S.length sc] w (.int .i64 (totW ws S)):=by
 refine eN (args:=[_,_]) func54 rfl ntmps54 ?_
 refine Vs<|Vr<|oJ rfl<|Vn<|Vs<|Vr<|oJ rfl<|Vn<|Vs<|Vs<|Vr<|oJ rfl<|Vn<|Vb (?_)
 refine Vl [0,1,5,6] (fun k:Nat=>[.slice wa ws.length wc,.slice sa S.length sc,.int .i64 (totW ws (S.take k)),.int .i64 (k:Nat)]) (fun k w'=>k≤S.length∧Ext w w') (fun k=>S.length-k) 0 rfl ⟨Nat.zero_le _,Vc.Mod.refl _ _⟩ ?_
 rintro ρ k w1 ⟨hk,e⟩
 have hbd:=tot_bnd hb hr k
 have hS1:=hS.ext e
 have hW1:=hW.ext e
 refine Vs<|Vs<|Vr<|oI rfl<|oS rfl<|Vo (R.lenS ru22 rfl)<|oL rfl rfl<|Vn<|Vd rfl (fun c10=>Vk<|Vs<|Vb (?_)) (fun c10=>Ve<|Vs (?_))
 ·have hkl:k<S.length:=by omega
  have hvr:=hr _ (gmem hkl)
  have hts:=tot_succ (ws:=ws) hkl
  have hwb:=hb _ (gmem (show (S.getD k default).toNat<ws.length by omega))
  refine Vr<|oI rfl<|oS rfl<|oS rfl<|oI rfl<|Vo (iX ru22 sz3 rfl rfl (hS1.some (i:=k) hkl))<|Vo (rla ag3 rfl ((hS1.row (i:=k) hkl).c0a rfl))<|Vo (iX ru22 sz3 rfl rfl (hW1.some (i:=(S.getD k default).toNat) (by omega)))<|Vo (rla ag3 rfl ((hW1.row (i:=(S.getD k default).toNat) (by omega)).c0a rfl))<|oD rfl rfl<|oJ rfl<|Vn<|Vr<|oI rfl<|oD rfl rfl<|oJ rfl<|Vn (⟨k+1,?_,⟨by omega,e⟩,by omega⟩)
  rw [hts]
  rfl
 ·have hke:k=S.length:=by omega
  subst hke
  rw [List.take_length]
  refine Vr<|oI rfl<|oJ rfl<|Vn<|Vt (fret1 (v:=.int _ _) rfl rfl rfl (⟨rfl,e⟩))
theorem rvalid31_spec (g:GrW) (wa:Option Addr) (wc:Nat) (ws:List Int) (least:Int) (w:World) (hW:IntSl w wa ws) (hwl:ws.length≤9223372036854775807) :
  RetsP prog 40 #[.agg (encGr g).toArray,.slice wa ws.length wc,.int .i64 least] w (.bool (wtsB (grV g) ws least)):=by
 refine eN (args:=[_,_,_]) func40 rfl ntmps40 ?_
 have hgn:(grV g).n=g.n:=rfl
 refine Vs<|Vr<|VL.box (v:=.agg _) rfl fun b0_0 w0_0 hb0_0 e0_0 hB0_0=>oA rfl<|Vn<|Vs<|Vs<|Vr<|oS rfl<|Vo (R.lenS ru22 rfl)<|Vo (R.fld' (o:=0) ru25 rfl rfl sz3 rfl rfl)<|Vo (rla ag3 rfl (show _=some (Value.int .i64 g.n) from hB0_0.cell 0))<|Vo (R.neq rfl rfl)<|Vn<|Vd rfl (fun c12=>Vs<|Vr<|oA rfl<|Vn<|Vt<|tB rfl rfl rfl (⟨?_,e0_0⟩)) (fun c12=>Vk<|Vs<|Vs (?_))
 ·unfold wtsB
  rw [hgn,decide_eq_false (by omega),Bool.false_and]
 refine Vr<|oJ rfl<|Vn<|Vb (?_)
 refine Vl [1,2,7] (fun k:Nat=>[.slice wa ws.length wc,.int .i64 least,.int .i64 (k:Nat)]) (fun k w'=>k≤ws.length∧(∀ j,j<k→least≤ws.getD j default∧ws.getD j default≤1000000000)∧Ext w0_0 w') (fun k=>ws.length-k) 0 rfl ⟨Nat.zero_le _,fun j hj=>absurd hj (Nat.not_lt_zero j),Vc.Mod.refl _ _⟩ ?_
 rintro ρ k w1 ⟨hk,hb,e⟩
 have E1:=e0_0.trans e
 have hW1:=hW.ext E1
 refine Vs<|Vs<|Vr<|oI rfl<|oS rfl<|Vo (R.lenS ru22 rfl)<|oL rfl rfl<|Vn<|Vd rfl (fun c16=>Vk<|Vs<|Vb<|Vs (?_)) (fun c16=>Ve<|Vs (?_))
 ·have hkl:k<ws.length:=by omega
  have hbad:¬(least≤ws.getD k default∧ws.getD k default≤1000000000)→wtsB (grV g) ws least=false:=fun h=>by
   unfold wtsB
   rw [Bool.and_eq_false_iff]
   right
   rw [List.all_eq_false]
   exact ⟨_,gmem hkl,by rw [decide_eq_false h];decide⟩
  refine Vr<|oS rfl<|oI rfl<|Vo (iX ru22 sz3 rfl rfl (hW1.some (i:=k) hkl))<|Vo (rla ag3 rfl ((hW1.row (i:=k) hkl).c0a rfl))<|oI rfl<|oL rfl rfl<|oB rfl<|VL.orP rfl rfl (fun g6_6=>oS rfl<|lT<|oI rfl<|lT<|Vo (iX ru22 sz3 rfl rfl (hW1.some (i:=k) hkl))<|lT<|Vo (rla ag3 rfl ((hW1.row (i:=k) hkl).c0a rfl))<|lT<|Vo (R.gtr rfl rfl)<|oQ rfl rfl<|Vn<|Vd rfl (fun c31=>Vs<|Vr<|oA rfl<|Vn<|Vt<|tB rfl rfl rfl (⟨?_,E1⟩)) (fun c31=>Vk<|Vr<|oI rfl<|oD rfl rfl<|oJ rfl<|Vn (⟨k+1,rfl,⟨by omega,fun j hj=>?_,e⟩,by omega⟩))) (fun g6_6=>lF<|lF<|lF<|lF<|oP rfl rfl<|Vn<|Vg rfl<|Vs<|Vr<|oA rfl<|Vn<|Vt<|tB rfl rfl rfl (⟨?_,E1⟩))
  all_goals first | (rw [hbad (by omega)];done) | skip
  by_cases e2:j=k
  ·subst e2;omega
  ·exact hb j (by omega)
 ·have hke:k=ws.length:=by omega
  subst hke
  refine Vr<|oA rfl<|Vn<|Vt<|tB rfl rfl rfl (⟨?_,E1⟩)
  unfold wtsB
  rw [hgn,decide_eq_true (by omega),List.all_eq_true.2 fun x hx=>by
   obtain ⟨j,hj,rfl⟩:=List.getElem_of_mem hx
   have:=hb j hj
   rw [gget hj] at this
   exact decide_eq_true this]
  rfl
theorem low1_spec (x:Int) (w:World):RetsP prog 74 #[.int .i64 x] w (.int .i64 (bestW false x)):=by
 refine eN (args:=[_]) func74 rfl ntmps74 ?_
 refine Vs<|Vr<|oJ rfl<|Vn<|Vs<|Vr<|oI rfl<|Vo (R.min rfl rfl)<|oJ rfl<|Vn<|Vt (fret1 (v:=.int _ _) rfl rfl rfl (⟨rfl,(Mod.refl _ _)⟩))
theorem up1_spec (x:Int) (w:World):RetsP prog 76 #[.int .i64 x] w (.int .i64 (bestW true x)):=by
 refine eN (args:=[_]) func76 rfl ntmps76 ?_
 refine Vs<|Vr<|oJ rfl<|Vn<|Vs<|Vr<|oI rfl<|Vo (R.max rfl rfl)<|oJ rfl<|Vn<|Vt (fret1 (v:=.int _ _) rfl rfl rfl (⟨rfl,(Mod.refl _ _)⟩))
theorem low2_spec (x l:Int) (w:World):RetsP prog 75 #[.int .i64 x,.int .i64 l] w (.bool (goodA false l x)):=by
 refine eN (args:=[_,_]) func75 rfl ntmps75 ?_
 refine Vs<|Vr<|oA rfl<|Vn<|Vs<|Vr<|oI rfl<|oI rfl<|Vo (R.geq rfl rfl)<|oA rfl<|Vn<|Vt<|tB rfl rfl rfl (⟨?_,(Mod.refl _ _)⟩)
 rfl
theorem up2_spec (x l:Int) (w:World):RetsP prog 77 #[.int .i64 x,.int .i64 l] w (.bool (goodA true l x)):=by
 refine eN (args:=[_,_]) func77 rfl ntmps77 ?_
 refine Vs<|Vr<|oA rfl<|Vn<|Vs<|Vr<|oI rfl<|oI rfl<|Vo (R.leq rfl rfl)<|oA rfl<|Vn<|Vt<|tB rfl rfl rfl (⟨?_,(Mod.refl _ _)⟩)
 rfl
theorem chk1_spec (x least:Int) (b:Nat) (w:World) (h:NuG w b least):RetsP prog 65 #[.int .i64 x,pA b] w (.bool (!decide (least≤x∧x≤1000000000))):=by
 refine eN (args:=[_,_]) func65 rfl ntmps65 ?_
 refine Vs<|Vr<|oA rfl<|Vn<|Vs<|Vr<|oI rfl<|Vo (rla ag3 rfl (show _=some (Value.int .i64 least) from h.cell 0))<|oL rfl rfl<|oB rfl<|VL.orP rfl rfl (fun g1_3=>oI rfl<|lT<|Vo (R.gtr rfl rfl)<|oQ rfl rfl<|oA rfl<|Vn<|Vt<|tB rfl rfl rfl (⟨?_,(Mod.refl _ _)⟩)) (fun g1_3=>lF<|oP rfl rfl<|oA rfl<|Vn<|Vt<|tB rfl rfl rfl (⟨?_,(Mod.refl _ _)⟩))
 all_goals (refine congrArg Value.bool ?_)
 ·rw [←decide_not];exact decide_eq_decide.2 (by omega)
 ·rw [decide_eq_false (by omega)];rfl
def chkF (g:Gr) (ws:List Int) (least:Int):Int:=if validG g=true∧wtsB g ws least=true then (if 40<g.n-((fixF g).1.length:Int) then 17 else 0) else 1
theorem check31_spec (g:GrW) (wa:Option Addr) (wc:Nat) (ws:List Int) (least:Int) (B:Nat) (w:World) (hG:GOk w g) (hl:GLen g) (hW:IntSl w wa ws) (hwl:ws.length≤1000000) (hB:B≤w.heap.size) (hT:TabW B w) :
  RetsP prog 33 #[.agg (encGr g).toArray,.slice wa ws.length wc,.int .i64 least] w (.int .i64 (chkF (grV g) ws least)):=by
 refine eN (args:=[_,_,_]) func33 rfl ntmps33 ?_
 have hgn:(grV g).n=g.n:=rfl
 refine Vs<|Vr<|VL.box (v:=.agg _) rfl fun b0_0 w0_0 hb0_0 e0_0 hB0_0=>VL.box (v:=.int _ _) rfl fun b0_1 w0_1 hb0_1 e0_1 hB0_1=>oJ rfl<|Vn<|Vs<|Vs<|Vr<|Vo (R.ldA ag25 sz25 rfl rfl (show RowAt _ _ _ (encGr g) from (hB0_0.ext e0_1).rowAt 0 3) rfl)<|Vp call56 rfl (valid_spec g B _ (hG.ext (e0_0.trans e0_1)) hl (Nat.le_trans hB (e0_0.trans e0_1).size) (hT.ext hB (e0_0.trans e0_1))) fun w1_1 e1_1=>Vo (R.not rfl)<|oB rfl<|VL.or rfl rfl (fun g1_3=>oS rfl<|lT<|Vo (R.lenS ru22 rfl)<|lT<|Vo (R.fld' (o:=0) ru25 rfl rfl sz3 rfl rfl)<|lT<|Vo (rla ag3 rfl (show _=some (Value.int .i64 g.n) from (hB0_0.ext (e0_1.trans e1_1)).cell 0))<|lT<|Vo (R.neq rfl rfl)<|oQ rfl rfl<|oB rfl<|VL.orP rfl rfl (fun g1_10=>oS rfl<|lT<|Vo (R.mkFn rfl rfl)<|lT<|Vp call64 rfl (containsM31 65 [] [pA b0_1] (fun x=>!decide (least≤x∧x≤1000000000)) (fun w=>NuG w b0_1 least) wa wc ws _ call65 (fun w x h _=>chk1_spec x least b0_1 w h) (fun w w' h e=>h.ext e) (hB0_1.ext e1_1) (hW.ext ((e0_0.trans e0_1).trans e1_1)) hwl) fun w1_13 e1_13=>oQ rfl rfl<|Vn<|Vh rfl (fun c23=>Vs<|Vr<|oJ rfl<|Vn<|Vt (fret1 (v:=.int _ _) rfl rfl rfl (⟨?_,(((e0_0.trans e0_1).trans e1_1).trans e1_13)⟩))) (fun c23=>Vk<|Vs<|Vs (?_))) (fun g1_10=>lF<|lF<|oP rfl rfl<|Vn<|Vg rfl<|Vs<|Vr<|oJ rfl<|Vn<|Vt (fret1 (v:=.int _ _) rfl rfl rfl (⟨?_,((e0_0.trans e0_1).trans e1_1)⟩)))) (fun g1_3=>lF<|lF<|lF<|lF<|oP rfl rfl<|oB rfl<|lF<|lF<|lF<|oP rfl rfl<|Vn<|Vg rfl<|Vs<|Vr<|oJ rfl<|Vn<|Vt (fret1 (v:=.int _ _) rfl rfl rfl (⟨?_,((e0_0.trans e0_1).trans e1_1)⟩)))
 ·have hb:wtsB (grV g) ws least=false:=by
   unfold wtsB
   rw [Bool.and_eq_false_iff]
   right
   rw [List.any_eq_true] at c23
   obtain ⟨x,hx,h1⟩:=c23
   rw [List.all_eq_false]
   exact ⟨x,hx,by intro h2;rw [h2] at h1;cases h1⟩
  unfold chkF
  rw [if_neg (fun h=>by rw [hb] at h;cases h.2)]
 ·have hv:validG (grV g)=true:=by simpa using g1_3
  have hb:wtsB (grV g) ws least=true:=by
   unfold wtsB
   rw [hgn,decide_eq_true (by omega),Bool.true_and,List.all_eq_true]
   intro x hx
   rw [List.any_eq_false] at c23
   have:=c23 x hx
   simpa using this
  have hn:=costB_iff.1 (validG_iff.1 hv).1
  have hn4:g.n≤4000:=hn.2.1
  have hn0:0≤g.n:=hn.1
  have hX:=hB0_0.ext (e0_1.trans (e1_1.trans e1_13))
  have E1:=(e0_0.trans e0_1).trans (e1_1.trans e1_13)
  refine Vr<|Vo (R.ldA ag25 sz25 rfl rfl (show RowAt _ _ _ (encGr g) from hX.rowAt 0 3) rfl)<|VL.callX call22 rfl (fixed_spec g B _ (hG.ext E1) hl (Nat.le_trans hB E1.size) (hT.ext hB E1)) fun z w3 h3 e3=>Vo (R.mvT rfl)<|Vo (R.extr rfl rfl)<|Vo (R.extr rfl rfl)<|oT rfl<|oT rfl<|Vn<|Vs (?_)
  have hz:z.1.l=(fixF (grV g)).1:=congrArg Prod.fst h3.1
  have hzl:z.1.l.length≤4000:=by
   rw [hz]
   unfold fixF
   rw [if_pos hv]
   show (freeK (grV g).edges (grV g).n.toNat).length≤4000
   unfold freeK
   rw [List.length_map]
   refine Nat.le_trans (List.length_filter_le _ _) ?_
   rw [List.length_range]
   omega
  refine Vr<|Vo (R.fld' (o:=0) ru25 rfl rfl sz3 rfl rfl)<|Vo (rla ag3 rfl (show _=some (Value.int .i64 g.n) from (hX.ext e3).cell 0))<|oS rfl<|Vo (R.lenS ru22 rfl)<|Vo (R.sub rfl rfl (by omega) (by omega))<|Vo (R.gtr rfl rfl)<|Vn<|Vd rfl (fun c34=>Vs<|Vr<|oJ rfl<|Vn<|Vt (fret1 (v:=.int _ _) rfl rfl rfl (⟨?_,E1.trans e3⟩))) (fun c34=>Vk<|Vs<|Vr<|oJ rfl<|Vn<|Vt (fret1 (v:=.int _ _) rfl rfl rfl (⟨?_,E1.trans e3⟩)))
  ·unfold chkF
   rw [if_pos ⟨hv,hb⟩,hgn,←hz,if_pos (by omega)]
  ·unfold chkF
   rw [if_pos ⟨hv,hb⟩,hgn,←hz,if_neg (by omega)]
 ·unfold chkF wtsB
  rw [hgn,decide_eq_false (by omega),Bool.false_and,if_neg (fun h=>by cases h.2)]
 ·unfold chkF
  rw [if_neg (fun h=>by rw [h.1] at g1_3;cases g1_3)]
def gmx (ws S:List Int):Int:=S.foldl (fun m v=>max m (wtF ws v)) 0
theorem gmx_succ {ws S:List Int} {k:Nat} (hk:k<S.length):gmx ws (S.take (k+1))=max (gmx ws (S.take k)) (wtF ws (S.getD k default)):=by
 unfold gmx
 rw [List.take_succ_eq_append_getElem hk,List.foldl_append,gget hk]
 rfl
theorem greatest31_spec (wa:Option Addr) (wc:Nat) (ws:List Int) (sa:Option Addr) (sc:Nat) (S:List Int) (w:World) (hW:IntSl w wa ws) (_hwl:ws.length≤1000000) (hS:IntSl w sa S) (hSl:S.length≤1000000) (hr:∀ v∈S,0≤v∧v<(ws.length:Int)) :
  RetsP prog 45 #[.slice wa ws.length wc,.slice sa S.length sc] w (.int .i64 (gmx ws S)):=by
 refine eN (args:=[_,_]) func45 rfl ntmps45 ?_
 refine Vs<|Vr<|oJ rfl<|Vn<|Vs<|Vr<|oJ rfl<|Vn<|Vs<|Vs<|Vr<|oS rfl<|Vo (R.lenS ru22 rfl)<|oI rfl<|Vn<|Vb (?_)
 refine Vl [0,5,8,9,10] (fun k:Nat=>[.slice wa ws.length wc,.int .i64 (gmx ws (S.take k)),.slice sa S.length sc,.int .i64 (S.length:Nat),.int .i64 (k:Nat)]) (fun k w'=>k≤S.length∧Ext w w') (fun k=>S.length-k) 0 rfl ⟨Nat.zero_le _,Vc.Mod.refl _ _⟩ ?_
 rintro ρ k w1 ⟨hk,e⟩
 have hS1:=hS.ext e
 have hW1:=hW.ext e
 refine Vs<|Vr<|oL rfl rfl<|Vn<|Vs<|Vd rfl (fun c11=>Vk<|Vs<|Vb<|Vs (?_)) (fun c11=>Ve<|Vs (?_))
 ·have hkl:k<S.length:=by omega
  have hvr:=hr _ (gmem hkl)
  have hts:=gmx_succ (ws:=ws) hkl
  refine Vr<|Vo (iX ru22 sz3 rfl rfl (hS1.some (i:=k) hkl))<|Vo (rla ag3 rfl ((hS1.row (i:=k) hkl).c0a rfl))<|oJ rfl<|Vn<|Vr<|oI rfl<|oS rfl<|oI rfl<|Vo (iX ru22 sz3 rfl rfl (hW1.some (i:=(S.getD k default).toNat) (by omega)))<|Vo (rla ag3 rfl ((hW1.row (i:=(S.getD k default).toNat) (by omega)).c0a rfl))<|Vo (R.max rfl rfl)<|oJ rfl<|Vn<|Vr<|oD rfl rfl<|oI rfl<|Vn (⟨k+1,?_,⟨by omega,e⟩,by omega⟩)
  rw [hts]
  rfl
 ·have hke:k=S.length:=by omega
  subst hke
  rw [List.take_length]
  refine Vr<|oI rfl<|oJ rfl<|Vn<|Vt (fret1 (v:=.int _ _) rfl rfl rfl (⟨rfl,e⟩))
theorem rpeak31_spec (wa:Option Addr) (wc:Nat) (ws:List Int) (sa:Option Addr) (sc:Nat) (S:List Int) (w:World) (hW:IntSl w wa ws) (_hwl:ws.length≤1000000) (hS:IntSl w sa S) (hSl:S.length≤1000000) (hr:∀ v∈S,0≤v∧v<(ws.length:Int)) :
  RetsP prog 83 #[.slice wa ws.length wc,.slice sa S.length sc] w (.int .i64 (gmx ws S)):=by
 refine eN (args:=[_,_]) func83 rfl ntmps83 ?_
 refine Vs<|Vr<|oJ rfl<|Vn<|Vs<|Vr<|oJ rfl<|Vn<|Vs<|Vs<|Vr<|oJ rfl<|Vn<|Vb (?_)
 refine Vl [0,1,5,6] (fun k:Nat=>[.slice wa ws.length wc,.slice sa S.length sc,.int .i64 (gmx ws (S.take k)),.int .i64 (k:Nat)]) (fun k w'=>k≤S.length∧Ext w w') (fun k=>S.length-k) 0 rfl ⟨Nat.zero_le _,Vc.Mod.refl _ _⟩ ?_
 rintro ρ k w1 ⟨hk,e⟩
 have hS1:=hS.ext e
 have hW1:=hW.ext e
 refine Vs<|Vs<|Vr<|oI rfl<|oS rfl<|Vo (R.lenS ru22 rfl)<|oL rfl rfl<|Vn<|Vd rfl (fun c10=>Vk<|Vs<|Vb (?_)) (fun c10=>Ve<|Vs (?_))
 ·have hkl:k<S.length:=by omega
  have hvr:=hr _ (gmem hkl)
  have hts:=gmx_succ (ws:=ws) hkl
  refine Vr<|oI rfl<|oS rfl<|oS rfl<|oI rfl<|Vo (iX ru22 sz3 rfl rfl (hS1.some (i:=k) hkl))<|Vo (rla ag3 rfl ((hS1.row (i:=k) hkl).c0a rfl))<|Vo (iX ru22 sz3 rfl rfl (hW1.some (i:=(S.getD k default).toNat) (by omega)))<|Vo (rla ag3 rfl ((hW1.row (i:=(S.getD k default).toNat) (by omega)).c0a rfl))<|Vo (R.max rfl rfl)<|oJ rfl<|Vn<|Vr<|oI rfl<|oD rfl rfl<|oJ rfl<|Vn (⟨k+1,?_,⟨by omega,e⟩,by omega⟩)
  rw [hts]
  rfl
 ·have hke:k=S.length:=by omega
  subst hke
  rw [List.take_length]
  refine Vr<|oI rfl<|oJ rfl<|Vn<|Vt (fret1 (v:=.int _ _) rfl rfl rfl (⟨rfl,e⟩))
def confI (E:List (List Int)) (k:Nat):Nat:=((List.range k).filter fun v:Nat=>inE E (v:Int)).length
theorem confI_succ (E:List (List Int)) (k:Nat):confI E (k+1)=confI E k+if inE E (k:Int)=true then 1 else 0:=by
 unfold confI
 rw [List.range_succ,List.filter_append,List.length_append,List.filter_cons]
 split <;> simp
theorem confI_le (E:List (List Int)) (k:Nat):confI E k≤k:=by
 unfold confI
 exact Nat.le_trans (List.length_filter_le _ _) (Nat.le_of_eq List.length_range)
theorem conf31_spec (g:GrW) (w:World) (hG:GOk w g) (hl:GLen g) (hn:g.n≤1000000) :
  RetsP prog 32 #[.agg (encGr g).toArray] w (.int .i64 (confI (vals g.edges) g.n.toNat:Nat)):=by
 refine eN (args:=[_]) func32 rfl ntmps32 ?_
 have hel:=hl.e
 refine Vs<|Vr<|VL.box (v:=.agg _) rfl fun b0_0 w0_0 hb0_0 e0_0 hB0_0=>oJ rfl<|Vn<|Vs<|Vr<|oJ rfl<|Vn<|Vs<|Vs<|Vr<|oJ rfl<|Vn<|Vb (?_)
 refine Vl [1,3,4] (fun v:Nat=>[pA b0_0,.int .i64 (confI (vals g.edges) v:Nat),.int .i64 (v:Nat)]) (fun v w'=>v≤g.n.toNat∧Ext w0_0 w') (fun v=>g.n.toNat-v) 0 rfl ⟨Nat.zero_le _,Vc.Mod.refl _ _⟩ ?_
 rintro ρ v w1 ⟨hv,e⟩
 have hX1:=hB0_0.ext e
 have hcl:=confI_le (vals g.edges) v
 have hcs:=confI_succ (vals g.edges) v
 refine Vs<|Vs<|Vr<|oI rfl<|Vo (R.fld' (o:=0) ru25 rfl rfl sz3 rfl rfl)<|Vo (rla ag3 rfl (show _=some (Value.int .i64 g.n) from hX1.cell 0))<|oL rfl rfl<|Vn<|Vd rfl (fun c9=>Vk<|Vs<|Vb<|Vs (?_)) (fun c9=>Ve<|Vs (?_))
 ·have hvn:v<g.n.toNat:=by omega
  refine Vr<|oJ rfl<|Vn<|Vb (?_)
  refine Vl [1,3,4,5] (fun i:Nat=>[pA b0_0,.int .i64 (confI (vals g.edges) v:Nat),.int .i64 (v:Nat),.int .i64 (i:Nat)]) (fun i w'=>i≤g.edges.length∧(∀ j,j<i→(v:Int)∉(g.edges.getD j default).l)∧Ext w1 w') (fun i=>g.edges.length-i) 0 rfl ⟨Nat.zero_le _,fun j hj=>absurd hj (Nat.not_lt_zero j),Vc.Mod.refl _ _⟩ ?_
  rintro ρ i w2 ⟨hi,hb,e2⟩
  have hX2:=hX1.ext e2
  have E2:Ext w w2:=(e0_0.trans e).trans e2
  have hG2:=hG.ext E2
  refine Vs<|Vs<|Vr<|oI rfl<|Vo (R.fld' (o:=2) ru25 rfl rfl sz23 rfl rfl)<|Vo (rla ag23 rfl (show _=some (Value.slice g.ea g.edges.length g.ec) from hX2.cell 2))<|Vo (R.lenS ru23 rfl)<|oL rfl rfl<|Vn<|Vd rfl (fun c16=>Vk<|Vs<|Vb<|Vs (?_)) (fun c16=>Ve<|Vr<|oI rfl<|oD rfl rfl<|oJ rfl<|Vn (?_))
  ·have hil:i<g.edges.length:=by omega
   have hxl:=(hl.each _ (gmem hil)).1
   refine Vr<|Vo (R.fld' (o:=2) ru25 rfl rfl sz23 rfl rfl)<|Vo (rla ag23 rfl (show _=some (Value.slice g.ea g.edges.length g.ec) from hX2.cell 2))<|oI rfl<|Vo (iX ru23 sz22 rfl rfl (hG2.e.sl.some (i:=i) hil))<|Vo (rla ag22 rfl ((hG2.e.sl.row (i:=i) hil).c0a rfl))<|oI rfl<|Vp call23 rfl (in_spec _ _ _ (v:Int) _ (by omega) ((hG2.e.at hil).ext (Mod.refl _ _))) fun w8_6 e8_6=>Vn<|Vh rfl (fun c25=>Vs<|Vr<|oI rfl<|oD rfl rfl<|oJ rfl<|Vn<|Ve<|Vr<|oI rfl<|oD rfl rfl<|oJ rfl<|Vn (?_)) (fun c25=>Vk<|Vr<|oI rfl<|oD rfl rfl<|oJ rfl<|Vn (?_))
   ·have hin:inE (vals g.edges) (v:Int)=true:=List.any_eq_true.2 ⟨_,List.mem_map_of_mem (gmem hil),c25⟩
    refine ⟨v+1,?_,⟨by omega,e.trans (e2.trans e8_6)⟩,by omega⟩
    rw [hcs,if_pos hin];rfl
   ·refine ⟨i+1,rfl,⟨by omega,fun j hj=>?_,e2.trans e8_6⟩,by omega⟩
    by_cases e3:j=i
    ·subst e3;exact of_decide_eq_false c25
    ·exact hb j (by omega)
  ·have hin:inE (vals g.edges) (v:Int)=false:=by
    unfold inE
    rw [List.any_eq_false]
    intro x hx hm
    obtain ⟨y,hy,rfl⟩:=List.mem_map.1 hx
    obtain ⟨j,hj,rfl⟩:=List.getElem_of_mem hy
    have:=hb j (by omega)
    rw [gget hj] at this
    exact this (of_decide_eq_true hm)
   refine ⟨v+1,?_,⟨by omega,e.trans e2⟩,by omega⟩
   rw [hcs,if_neg (by rw [hin];decide)];rfl
 ·have hve:v=g.n.toNat:=by omega
  subst hve
  refine Vr<|oI rfl<|oJ rfl<|Vn<|Vt (fret1 (v:=.int _ _) rfl rfl rfl (⟨rfl,e0_0.trans e⟩))
theorem find_none_lt {L:List Int} {p:Int→Bool} (hL:∀ x∈L,0≤x):(L.find? p).getD (-1)<0↔L.find? p=none:=by
 cases h:L.find? p with
 | none=>exact ⟨fun _=>rfl,fun _=>by decide⟩
 | some x =>
  have:=hL x (List.mem_of_find?_eq_some h)
  exact ⟨fun h2=>by have h3:x<0:=h2;omega,fun h2=>nomatch h2⟩
theorem cf_in {c:AggC} {s:List Int} {v:Int} (h0:0≤v) (h1:stA s v=1):cfS c s v=if clsI c.E s v<0 then none else some ⟨2,clsI c.E s v,0,0⟩:=by
 unfold cfS clashS freeS
 rw [if_neg (show ¬(v<0∨stA s v≠1) by rw [h1];omega),if_pos (show v<0∨stA s v≠2 by rw [h1];exact .inr (by decide)),Option.or_none]
 have hL:∀ x∈adjK c.E c.E.length v,0≤x:=fun x hx=>by
  obtain ⟨k,_,_,rfl⟩:=adjK_mem.1 hx
  omega
 have hiff:=find_none_lt (p:=fun i=>areA s (c.E.getD i.toNat default) 1) hL
 unfold clsI
 cases hf:(adjK c.E c.E.length v).find? fun i=>areA s (c.E.getD i.toNat default) 1 with
 | none=>rw [if_pos (by show (-1:Int)<0;decide)];rfl
 | some x =>
  rw [hf] at hiff
  rw [if_neg (fun h=>by cases hiff.1 h)]
  rfl
theorem cf_out {c:AggC} {s:List Int} {v:Int} (h0:0≤v) (h2:stA s v=2) (hE:∀ e∈c.E,∀ u∈e,0≤u):cfS c s v=if freI c.E s v<0 then none else some ⟨3,freI c.E s v,0,0⟩:=by
 unfold cfS clashS freeS
 rw [if_pos (show v<0∨stA s v≠1 by rw [h2];exact .inr (by decide)),if_neg (show ¬(v<0∨stA s v≠2) by rw [h2];omega),Option.none_or]
 have hL:∀ x∈nearS c.E v,0≤x:=fun x hx=>by
  rcases nearS_mem.1 hx with rfl | ⟨e,he,_,hu⟩
  ·exact h0
  ·exact hE e he x hu
 have hiff:=find_none_lt (p:=fun u=>decide (stA s u=2)&&frA c.E s u) hL
 unfold freI
 cases hf:(nearS c.E v).find? fun u=>decide (stA s u=2)&&frA c.E s u with
 | none=>rw [if_pos (by show (-1:Int)<0;decide)];rfl
 | some x =>
  rw [hf] at hiff
  rw [if_neg (fun h=>by cases hiff.1 h)]
  rfl
def encBd (up:Bool) (l:Int):List Value:=[.int .i64 l,.func (.func (if up=true then 76 else 74)) #[] #[],.func (.func (if up=true then 77 else 75)) #[] #[]]
theorem lower31_spec (l:Int) (w:World):RetsP prog 37 #[.int .i64 l] w (.agg (encBd false l).toArray):=by
 refine eN (args:=[_]) func37 rfl ntmps37 ?_
 refine Vs<|Vr<|VL.alloc zeroValue64 fun b0_0 w0_0 hb0_0 e0_0 hB0_0=>Vn<|Vs<|Vr<|oI rfl<|Vo (R.build zeroValue64 ru64 pl64 rfl)<|VL.store (v:=.agg _) sizeOf64 rfl rfl rfl rfl hB0_0 rfl rfl fun w1 m1 hs1 hB1=>Vn<|Vt (fretC rfl rfl rfl isAgg64 sizeOf64 rfl (show RowAt _ _ _ (encBd false l) from hB1.rowAt 0 3) rfl (⟨rfl,e0_0.own m1 (Nat.le_of_eq hb0_0.symm)⟩))
theorem upper31_spec (l:Int) (w:World):RetsP prog 38 #[.int .i64 l] w (.agg (encBd true l).toArray):=by
 refine eN (args:=[_]) func38 rfl ntmps38 ?_
 refine Vs<|Vr<|VL.alloc zeroValue64 fun b0_0 w0_0 hb0_0 e0_0 hB0_0=>Vn<|Vs<|Vr<|oI rfl<|Vo (R.build zeroValue64 ru64 pl64 rfl)<|VL.store (v:=.agg _) sizeOf64 rfl rfl rfl rfl hB0_0 rfl rfl fun w1 m1 hs1 hB1=>Vn<|Vt (fretC rfl rfl rfl isAgg64 sizeOf64 rfl (show RowAt _ _ _ (encBd true l) from hB1.rowAt 0 3) rfl (⟨rfl,e0_0.own m1 (Nat.le_of_eq hb0_0.symm)⟩))
end Go.Proofs.YtdkhcipjenfcnaaGreatDoor
