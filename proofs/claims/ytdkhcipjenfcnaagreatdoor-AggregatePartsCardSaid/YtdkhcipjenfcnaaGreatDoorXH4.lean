/- Hyper: lists of sets; the reference's small functions. -/
import Derived.Test.YtdkhcipjenfcnaaGreatDoorXTy
import Derived.Test.YtdkhcipjenfcnaaGreatDoorXVcGuard
import Derived.Test.YtdkhcipjenfcnaaGreatDoorXVcDiv
import Derived.Test.YtdkhcipjenfcnaaGreatDoorXVcStable
namespace Go.Proofs.YtdkhcipjenfcnaaGreatDoor
set_option maxRecDepth 100000
set_option maxHeartbeats 16000000
open Go.Vc Go.Proofs.Tryz
abbrev IntSl (w:World) (a:Option Addr) (l:List Int):Prop:=TSl encI 1 w a l
structure SlI where
 a:Option Addr
 c:Nat
 l:List Int
instance:Inhabited SlI:=⟨⟨none,0,[]⟩⟩
def encSl (x:SlI):List Value:=[.slice x.a x.l.length x.c]
structure LL (w:World) (a:Option Addr) (L:List SlI):Prop where
 sl:TSl encSl 1 w a L
 each:∀ x∈L,IntSl w x.a x.l
theorem LL.ext {w w':World} {a:Option Addr} {L:List SlI} (h:LL w a L) (e:Ext w w'):LL w' a L:=⟨h.sl.ext e,fun x hx=>(h.each x hx).ext e⟩
abbrev vals (L:List SlI):List (List Int):=L.map (·.l)
theorem gmem {α:Type} [Inhabited α] {l:List α} {i:Nat} (hi:i<l.length):l.getD i default∈l:=by
 rw [show l.getD i default=l[i] by simp [List.getD,hi]];exact List.getElem_mem _
theorem gget {α:Type} [Inhabited α] {l:List α} {i:Nat} (h:i<l.length):l.getD i default=l[i]:=by simp [List.getD,h]
theorem gmap {α β:Type} [Inhabited α] (f:α→β) (l:List α) (d:β) {i:Nat} (h:i<l.length):(l.map f).getD i d=f (l.getD i default):=by
 simp [List.getD,h]
theorem LL.at {w:World} {a:Option Addr} {L:List SlI} (h:LL w a L) {i:Nat} (hi:i<L.length):IntSl w (L.getD i default).a (L.getD i default).l:=h.each _ (gmem hi)
theorem getD_ext' {α:Type} [Inhabited α] {l m:List α} (h:l.length=m.length) (hh:∀ i,i<l.length→l.getD i default=m.getD i default):l=m:=by
 refine List.ext_getElem h fun i h1 h2=>?_
 have:=hh i h1
 simpa [List.getD,h1,h2] using this
theorem ints_spec (a b:Option Addr) (ca cb:Nat) (l m:List Int) (w:World) (hl:l.length≤9223372036854775807) (hm:m.length≤9223372036854775807) (hS:IntSl w a l) (hT:IntSl w b m) :
  RetsP prog 51 #[.slice a l.length ca,.slice b m.length cb] w (.bool (decide (l=m))):=by
 refine enter (args:=[_,_]) func51 rfl ntmps51 (by kernel_rfl) rfl ?_
 refine Vs (Vr (oA rfl (Vn (Vs (Vs (Vr (oS rfl (Vo (R.lenS runUnderlying22 rfl) (oS rfl (Vo (R.lenS runUnderlying22 rfl) (Vo (R.neq rfl rfl) (Vn (V.condP rfl (fun c10=>Vs (Vr (oA rfl (Vn (V.ret (fret1 (v:=.bool _) rfl rfl rfl (⟨?_,(Mod.refl _ _)⟩))))))) (fun c10=>V.skip (Vs (Vs (Vr (oJ rfl (Vn (V.block (?_)))))))))))))))))))))
 ·have:l≠m:=by rintro rfl;exact c10 rfl
  simp [this]
 have hlm:l.length=m.length:=by have:=Classical.not_not.1 c10;omega
 refine V.loop [0,1,5] (fun k:Nat=>[.slice a l.length ca,.slice b m.length cb,.int .i64 k]) (fun k w'=>k≤l.length∧(∀ i,i<k→l.getD i default=m.getD i default)∧Ext w w') (fun k=>l.length-k) 0 rfl ⟨by omega,by intro i hi;omega,Mod.refl _ _⟩ ?_
 rintro ρ k w1 ⟨hk,hi,e⟩
 refine Vs (Vs (Vr (oI rfl (oS rfl (Vo (R.lenS runUnderlying22 rfl) (oL rfl rfl (Vn (V.condP rfl (fun c14=>V.skip (Vs (V.block (Vs (V.regionQ mixed 9 (by kernel_rfl) rfl (fun w'=>Ext _ w') (Ext.drawn _) (VQ.op (fun wq eq=>R.mvS rfl) (VQ.op (fun wq eq=>R.mvI rfl) (VQ.op (fun wq eq=>R.ixS runUnderlying22 sizeOf3 rfl rfl (by omega) (by omega) ((hS).some (i:=k) (by omega))) (VQ.op (fun wq eq=>R.ld1 isAgg3 rfl (((((hS).ext (e.trans eq)).row (i:=k) (by omega)).cell (i:=0) rfl))) (VQ.op (fun wq eq=>R.mvS rfl) (VQ.op (fun wq eq=>R.mvI rfl) (VQ.op (fun wq eq=>R.ixS runUnderlying22 sizeOf3 rfl rfl (by omega) (by omega) ((hT).some (i:=k) (by omega))) (VQ.op (fun wq eq=>R.ld1 isAgg3 rfl (((((hT).ext (e.trans eq)).row (i:=k) (by omega)).cell (i:=0) rfl))) (VQ.op (fun wq eq=>R.neq rfl rfl) (VQ.nil fun w6q e6q=>Vn (V.condP rfl (fun c25=>Vs (Vr (oA rfl (Vn (V.ret (fret1 (v:=.bool _) rfl rfl rfl (⟨?_,(e.trans e6q)⟩))))))) (fun c25=>V.skip (Vr (oI rfl (Vo (R.add rfl rfl (by omega) (by omega)) (oJ rfl (Vn (⟨k+1,rfl,⟨by omega,?_,(e.trans e6q)⟩,by omega⟩))))))))))))))))))))))) (fun c14=>V.exit (Vs (Vr (oA rfl (Vn (V.ret (fret1 (v:=.bool _) rfl rfl rfl (⟨?_,e⟩))))))))))))))))
 ·have:l≠m:=by rintro rfl;exact c25 rfl
  simp [this]
 ·intro i hik
  by_cases h:i=k
  ·subst h;exact Classical.not_not.1 c25
  ·exact hi i (by omega)
 ·have:l=m:=getD_ext' hlm fun i hik=>hi i (by omega)
  simp [this]
theorem inc_step {l:List Int} {k:Nat}:(∀ i,0<i→i<k→l.getD (i-1) default<l.getD i default)→l.length≤k→Inc l:=by
 intro h hk
 have key:∀ j i,i<j→j<l.length→l.getD i default<l.getD j default:=by
  intro j
  induction j with
  | zero=>intro i hi;omega
  | succ j ih =>
   intro i hi hj
   have h1:=h (j+1) (by omega) (by omega)
   by_cases e:i=j
   ·subst e;exact h1
   ·have:=ih i (by omega) (by omega)
    exact Int.lt_trans this h1
 refine List.pairwise_iff_getElem.2 fun i j hi hj hij=>?_
 have:=key j i hij hj
 rwa [gget hi,gget hj] at this
theorem in_spec (a:Option Addr) (c:Nat) (l:List Int) (n:Int) (w:World) (hl:l.length≤9223372036854775807) (hS:IntSl w a l) :
  RetsP prog 23 #[.slice a l.length c,.int .i64 n] w (.bool (decide (n∈l))):=by
 refine enter (args:=[_,_]) func23 rfl ntmps23 (by kernel_rfl) rfl ?_
 refine Vs (Vr (oA rfl (Vn (Vs (Vs (Vr (oJ rfl (Vn (V.block (?_))))))))))
 refine V.loop [0,1,5] (fun k:Nat=>[.slice a l.length c,.int .i64 n,.int .i64 (k:Nat)]) (fun k w'=>k≤l.length∧(∀ i,i<k→l.getD i default≠n)∧Ext w w') (fun k=>l.length-k) 0 rfl ⟨by omega,fun i h=>absurd h (Nat.not_lt_zero i),Mod.refl _ _⟩ ?_
 rintro ρ k w1 ⟨hk,hi,e⟩
 refine Vs (Vs (Vr (oI rfl (oS rfl (Vo (R.lenS runUnderlying22 rfl) (oL rfl rfl (Vn (V.condP rfl (fun c9=>V.skip (Vs (V.block (Vs (Vr (oS rfl (oI rfl (Vo (R.ixS runUnderlying22 sizeOf3 rfl rfl (by omega) (by omega) ((hS).some (i:=k) (by omega))) (Vo (R.ld1 isAgg3 rfl (((((hS).ext e).row (i:=k) (by omega)).cell (i:=0) rfl))) (oI rfl (Vo (R.eql rfl rfl) (Vn (V.condP rfl (fun c17=>Vs (Vr (oA rfl (Vn (V.ret (fret1 (v:=.bool _) rfl rfl rfl (⟨?_,e⟩))))))) (fun c17=>V.skip (Vr (oI rfl (Vo (R.add rfl rfl (by omega) (by omega)) (oJ rfl (Vn (⟨k+1,rfl,⟨by omega,fun i h=>?_,e⟩,by omega⟩)))))))))))))))))))) (fun c9=>V.exit (Vs (Vr (oA rfl (Vn (V.ret (fret1 (v:=.bool _) rfl rfl rfl (⟨?_,e⟩))))))))))))))))
 ·rw [decide_eq_true (c17▸gmem (by omega))]
 ·by_cases e2:i=k
  ·subst e2;exact c17
  ·exact hi i (by omega)
 ·rw [decide_eq_false fun h=>?_]
  obtain ⟨i,h1,h2⟩:=List.getElem_of_mem h
  exact hi i (by omega) (by rw [gget h1];exact h2)
theorem sets_spec (E F:List SlI) (a b:Option Addr) (ca cb:Nat) (w:World) (hl:E.length≤9223372036854775807) (_hm:F.length≤9223372036854775807) (he:∀ x∈E,x.l.length≤9223372036854775807) (hf:∀ x∈F,x.l.length≤9223372036854775807) (hE:LL w a E) (hF:LL w b F) :
  RetsP prog 17 #[.slice a E.length ca,.slice b F.length cb] w (.bool (decide (vals E=vals F))):=by
 refine enter (args:=[_,_]) func17 rfl ntmps17 (by kernel_rfl) rfl ?_
 refine Vs (Vr (oA rfl (Vn (Vs (Vs (Vr (oS rfl (Vo (R.lenS runUnderlying23 rfl) (oS rfl (Vo (R.lenS runUnderlying23 rfl) (Vo (R.neq rfl rfl) (Vn (V.condP rfl (fun c10=>Vs (Vr (oA rfl (Vn (V.ret (fret1 (v:=.bool _) rfl rfl rfl (⟨?_,(Mod.refl _ _)⟩))))))) (fun c10=>V.skip (Vs (Vs (Vr (oJ rfl (Vn (V.block (?_)))))))))))))))))))))
 ·rw [decide_eq_false fun h=>?_]
  have:=congrArg List.length h
  rw [List.length_map,List.length_map] at this
  omega
 have hlm:E.length=F.length:=by have:=Classical.not_not.1 c10;omega
 refine V.loop [0,1,5] (fun k:Nat=>[.slice a E.length ca,.slice b F.length cb,.int .i64 k]) (fun k w'=>k≤E.length∧(∀ i,i<k→(E.getD i default).l=(F.getD i default).l)∧Ext w w') (fun k=>E.length-k) 0 rfl ⟨by omega,by intro i hi;omega,Mod.refl _ _⟩ ?_
 rintro ρ k w1 ⟨hk,hi,e⟩
 refine Vs (Vs (Vr (oI rfl (oS rfl (Vo (R.lenS runUnderlying23 rfl) (oL rfl rfl (Vn (V.condP rfl (fun c14=>V.skip (Vs (V.block (Vs (?_))))) (fun c14=>V.exit (Vs (Vr (oA rfl (Vn (V.ret (fret1 (v:=.bool _) rfl rfl rfl (⟨?_,e⟩))))))))))))))))
 ·have hkl:k<E.length:=by omega
  have h1:=he _ (gmem hkl)
  have h2:=hf _ (gmem (show k<F.length by omega))
  refine V.regionQCut mixed 10 (by kernel_rfl) rfl (fun w'=>Ext _ w') (Ext.drawn _) [17,18,19,20,21,22,23,24,25,26] 26 (.bool (decide ((E.getD k default).l≠(F.getD k default).l))) rfl (VQ.op (fun wq eq=>R.mvS rfl) (VQ.op (fun wq eq=>R.mvI rfl) (VQ.op (fun wq eq=>R.ixS runUnderlying23 sizeOf22 rfl rfl (by omega) (by omega) ((hE.sl).some (i:=k) (by omega))) (VQ.op (fun wq eq=>R.ld1 isAgg22 rfl (((((hE.sl).ext (e.trans eq)).row (i:=k) (by omega)).cell (i:=0) rfl))) (VQ.op (fun wq eq=>R.mvS rfl) (VQ.op (fun wq eq=>R.mvI rfl) (VQ.op (fun wq eq=>R.ixS runUnderlying23 sizeOf22 rfl rfl (by omega) (by omega) ((hF.sl).some (i:=k) (by omega))) (VQ.op (fun wq eq=>R.ld1 isAgg22 rfl (((((hF.sl).ext (e.trans eq)).row (i:=k) (by omega)).cell (i:=0) rfl))) (VQ.callP (fun _ _ h k=>Mod.trans h k) call51 rfl (fun wq eq=>ints_spec (E.getD k default).a (F.getD k default).a (E.getD k default).c (F.getD k default).c (E.getD k default).l (F.getD k default).l _ h1 h2 ((hE.ext (e.trans eq)).at hkl) ((hF.ext (e.trans eq)).at (by omega))) (VQ.op (fun wq eq=>R.not rfl) (VQ.nil (cutB rfl ?_)))))))))))) (fun rg6 w6c e6c=>V.condP rfl (fun c26=>Vs (Vr (oA rfl (Vn (V.ret (fret1 (v:=.bool _) rfl rfl rfl (⟨?_,(e.trans e6c)⟩))))))) (fun c26=>V.skip (Vr (oI rfl (Vo (R.add rfl rfl (by omega) (by omega)) (oJ rfl (Vn (⟨k+1,rfl,⟨by omega,fun i h=>?_,(e.trans e6c)⟩,by omega⟩))))))))
  ·simp
  ·rw [decide_eq_false fun h=>?_]
   have:=congrArg (fun l=>l.getD k default) h
   rw [gmap _ _ _ hkl,gmap _ _ _ (show k<F.length by omega)] at this
   exact c26 this
  ·by_cases e2:i=k
   ·subst e2;exact Classical.not_not.1 c26
   ·exact hi i (by omega)
 ·rw [decide_eq_true]
  refine getD_ext' (by simpa using hlm) fun i h1=>?_
  rw [List.length_map] at h1
  rw [gmap _ _ _ h1,gmap _ _ _ (show i<F.length by omega)]
  exact hi i (by omega)
theorem cnan_spec (a:Int) (w:World):RetsP prog 120 #[.int .i64 a] w (.bool false):=by
 refine enter (args:=[_]) func120 rfl ntmps120 (by kernel_rfl) rfl ?_
 refine Vs (Vr (oA rfl (Vn (Vs (Vr (oI rfl (oI rfl (Vo (R.lit (R.neq rfl rfl) ((decide_eq_false fun h=>h rfl))) (oA rfl (Vn (V.ret (fret1 (v:=.bool _) rfl rfl rfl (⟨rfl,(Mod.refl _ _)⟩)))))))))))))
theorem snan_spec (a:Int) (w:World):RetsP prog 171 #[.int .i64 a] w (.bool false):=by
 refine enter (args:=[_]) func171 rfl ntmps171 (by kernel_rfl) rfl ?_
 refine Vs (Vr (oA rfl (Vn (Vs (Vr (oI rfl (oI rfl (Vo (R.lit (R.neq rfl rfl) ((decide_eq_false fun h=>h rfl))) (oA rfl (Vn (V.ret (fret1 (v:=.bool _) rfl rfl rfl (⟨rfl,(Mod.refl _ _)⟩)))))))))))))
theorem lessI_spec (a b:Int) (w:World):RetsP prog 115 #[.int .i64 a,.int .i64 b] w (.bool (decide (a<b))):=by
 refine enter (args:=[_,_]) func115 rfl ntmps115 (by kernel_rfl) rfl ?_
 refine Vs (Vr (oA rfl (Vn (Vs (Vr (oI rfl (VL.callP call120 rfl (cnan_spec a _) fun w1_1 e1_1=>oB rfl (VL.gF rfl rfl (VL.gF rfl rfl (VL.gF rfl rfl (oQ rfl rfl (oB rfl (VL.gT rfl rfl (oI rfl (VL.gT rfl rfl (oI rfl (VL.gT rfl rfl (oL rfl rfl (oQ rfl rfl (oA rfl (Vn (V.ret (fret1 (v:=.bool _) rfl rfl rfl (⟨rfl,e1_1⟩))))))))))))))))))))))))
theorem cmpI_spec (a b:Int) (w:World):RetsP prog 89 #[.int .i64 a,.int .i64 b] w (.int .i64 (cmpI a b)):=by
 refine enter (args:=[_,_]) func89 rfl ntmps89 (by kernel_rfl) rfl ?_
 refine Vs (Vr (oJ rfl (Vn (Vs (Vr (oI rfl (VL.callP call120 rfl (cnan_spec a _) fun w1_1 e1_1=>oA rfl (Vn (Vs (Vr (oI rfl (VL.callP call120 rfl (cnan_spec b _) fun w2_1 e2_1=>oA rfl (Vn (Vs (Vs (Vr (oB rfl (Vn (V.condF rfl (V.skip (Vs (Vs (Vr (oB rfl (Vn (V.condF rfl (V.skip (Vs (Vs (Vr (oI rfl (oI rfl (oL rfl rfl (Vn (V.condP rfl (fun c16=>Vs (Vr (oJ rfl (Vn (V.ret (fret1 (v:=.int _ _) rfl rfl rfl (⟨?_,(e1_1.trans e2_1)⟩))))))) (fun c16=>V.skip (Vs (Vs (Vr (oI rfl (oI rfl (Vo (R.gtr rfl rfl) (Vn (V.condP rfl (fun c19=>Vs (Vr (oJ rfl (Vn (V.ret (fret1 (v:=.int _ _) rfl rfl rfl (⟨?_,(e1_1.trans e2_1)⟩))))))) (fun c19=>V.skip (Vs (Vr (oJ rfl (Vn (V.ret (fret1 (v:=.int _ _) rfl rfl rfl (⟨?_,(e1_1.trans e2_1)⟩))))))))))))))))))))))))))))))))))))))))))))))))))))
 ·unfold cmpI;rw [if_pos (by assumption)]
 ·unfold cmpI;rw [if_neg (by assumption),if_pos (by assumption)]
 ·unfold cmpI;rw [if_neg (by assumption),if_neg (by assumption)]
def cmpL (l m:List Int):Int:=if lexB l m=true then -1 else if l=m then 0 else 1
theorem cmpL_cons (a b:Int) (l m:List Int):cmpL (a :: l) (b :: m)=if cmpI a b=0 then cmpL l m else cmpI a b:=by
 unfold cmpL cmpI
 rw [lexB]
 by_cases h1:a<b
 ·simp [h1]
 ·by_cases h2:b<a
  ·simp [h1,h2];omega
  ·have:a=b:=by omega
   subst this
   simp
theorem cmpL_drop {l m:List Int} {k:Nat} (h1:k<l.length) (h2:k<m.length):cmpL (l.drop k) (m.drop k)=if cmpI (l.getD k default) (m.getD k default)=0 then cmpL (l.drop (k+1)) (m.drop (k+1)) else cmpI (l.getD k default) (m.getD k default):=by
 rw [List.drop_eq_getElem_cons h1,List.drop_eq_getElem_cons h2,cmpL_cons,gget h1,gget h2]
theorem cmpL_spec (a b:Option Addr) (ca cb:Nat) (l m:List Int) (w:World) (hl:l.length≤9223372036854775807) (hm:m.length≤9223372036854775807) (hS:IntSl w a l) (hT:IntSl w b m) :
  RetsP prog 50 #[.slice a l.length ca,.slice b m.length cb] w (.int .i64 (cmpL l m)):=by
 refine enter (args:=[_,_]) func50 rfl ntmps50 (by kernel_rfl) rfl ?_
 refine Vs (Vr (oJ rfl (Vn (Vs (Vs (Vr (oS rfl (Vo (R.lenS runUnderlying22 rfl) (oI rfl (Vn (V.block (?_))))))))))))
 refine V.loop [0,1,9,10,11] (fun k:Nat=>[.slice a l.length ca,.slice b m.length cb,.slice a l.length ca,.int .i64 (l.length:Nat),.int .i64 k]) (fun k w'=>k≤l.length∧k≤m.length∧cmpL l m=cmpL (l.drop k) (m.drop k)∧Ext w w') (fun k=>l.length-k) 0 rfl ⟨by omega,by omega,rfl,Mod.refl _ _⟩ ?_
 rintro ρ k w1 ⟨hk,hk2,hq,e⟩
 refine Vs (Vr (oL rfl rfl (Vn (Vs (V.condP rfl (fun c12=>V.skip (Vs (V.block (Vs (Vr (oI rfl (Vo (R.ixS runUnderlying22 sizeOf3 rfl rfl (by omega) (by omega) ((hS).some (i:=k) (by omega))) (Vo (R.ld1 isAgg3 rfl (((((hS).ext e).row (i:=k) (by omega)).cell (i:=0) rfl))) (oJ rfl (oJ rfl (Vn (Vs (Vs (Vr (oI rfl (oS rfl (Vo (R.lenS runUnderlying22 rfl) (Vo (R.geq rfl rfl) (Vn (V.condP rfl (fun c19=>Vs (Vr (oJ rfl (Vn (V.ret (fret1 (v:=.int _ _) rfl rfl rfl (⟨?_,e⟩))))))) (fun c19=>V.skip (Vs (Vr (oS rfl (oI rfl (Vo (R.ixS runUnderlying22 sizeOf3 rfl rfl (by omega) (by omega) ((hT).some (i:=k) (by omega))) (Vo (R.ld1 isAgg3 rfl (((((hT).ext e).row (i:=k) (by omega)).cell (i:=0) rfl))) (oJ rfl (Vn (Vs (Vr (oI rfl (oI rfl (VL.callP call89 rfl (cmpI_spec _ _ _) fun w7_2 e7_2=>oJ rfl (Vn (Vs (Vr (oI rfl (Vo (R.neq rfl rfl) (Vn (V.condP rfl (fun c28=>Vs (Vr (oI rfl (oJ rfl (Vn (V.ret (fret1 (v:=.int _ _) rfl rfl rfl (⟨?_,(e.trans e7_2)⟩)))))))) (fun c28=>V.skip (Vr (Vo (R.add rfl rfl (by omega) (by omega)) (oI rfl (Vn (⟨k+1,rfl,⟨by omega,by omega,?_,(e.trans e7_2)⟩,by omega⟩))))))))))))))))))))))))))))))))))))))))))))))) (fun c12=>V.exit (Vs (Vs (Vr (oS rfl (Vo (R.lenS runUnderlying22 rfl) (oS rfl (Vo (R.lenS runUnderlying22 rfl) (oL rfl rfl (Vn (V.condP rfl (fun c35=>Vs (?_)) (fun c35=>V.skip (Vs (?_)))))))))))))))))))
 ·have hkm:k=m.length:=by omega
  rw [hq,hkm,List.drop_length]
  have hp:0<(l.drop m.length).length:=by rw [List.length_drop];omega
  cases hd:l.drop m.length with
  | nil=>rw [hd] at hp;exact absurd hp (by decide)
  | cons x d=>simp [cmpL,lexB]
 ·rw [hq,cmpL_drop (by omega) (by omega),if_neg c28]
 ·rw [hq,cmpL_drop (by omega) (by omega),if_pos (Classical.not_not.1 c28)]
 ·refine Vr (oJ rfl (Vn (V.ret (fret1 (v:=.int _ _) rfl rfl rfl (⟨?_,e⟩)))))
  have hkl:k=l.length:=by omega
  rw [hq,hkl,List.drop_length]
  have hp:0<(m.drop l.length).length:=by rw [List.length_drop];omega
  cases hd:m.drop l.length with
  | nil=>rw [hd] at hp;exact absurd hp (by decide)
  | cons x d=>simp [cmpL,lexB]
 ·refine Vr (oJ rfl (Vn (V.ret (fret1 (v:=.int _ _) rfl rfl rfl (⟨?_,e⟩)))))
  have hkl:k=l.length:=by omega
  rw [hq,hkl,List.drop_length,List.drop_eq_nil_of_le (by omega)]
  simp [cmpL,lexB]
theorem equal_spec (a b:Option Addr) (ca cb:Nat) (l m:List Int) (w:World) (hl:l.length≤9223372036854775807) (hm:m.length≤9223372036854775807) (hS:IntSl w a l) (hT:IntSl w b m) :
  RetsP prog 99 #[.slice a l.length ca,.slice b m.length cb] w (.bool (decide (l=m))):=by
 refine enter (args:=[_,_]) func99 rfl ntmps99 (by kernel_rfl) rfl ?_
 refine Vs (Vr (oA rfl (Vn (Vs (Vs (Vr (oS rfl (Vo (R.lenS runUnderlying22 rfl) (oS rfl (Vo (R.lenS runUnderlying22 rfl) (Vo (R.neq rfl rfl) (Vn (V.condP rfl (fun c10=>Vs (Vr (oA rfl (Vn (V.ret (fret1 (v:=.bool _) rfl rfl rfl (⟨?_,(Mod.refl _ _)⟩))))))) (fun c10=>V.skip (Vs (Vs (Vr (oS rfl (Vo (R.lenS runUnderlying22 rfl) (oI rfl (Vn (V.block (?_)))))))))))))))))))))))
 ·have:l≠m:=by rintro rfl;exact c10 rfl
  simp [this]
 have hlm:l.length=m.length:=by have:=Classical.not_not.1 c10;omega
 refine V.loop [0,1,12,13] (fun k:Nat=>[.slice a l.length ca,.slice b m.length cb,.int .i64 (l.length:Nat),.int .i64 k]) (fun k w'=>k≤l.length∧(∀ i,i<k→l.getD i default=m.getD i default)∧Ext w w') (fun k=>l.length-k) 0 rfl ⟨by omega,by intro i hi;omega,Mod.refl _ _⟩ ?_
 rintro ρ k w1 ⟨hk,hi,e⟩
 refine Vs (Vr (oL rfl rfl (Vn (Vs (V.condP rfl (fun c14=>V.skip (Vs (V.block (Vs (Vr (oI rfl (oJ rfl (Vn (Vs (V.regionQ mixed 9 (by kernel_rfl) rfl (fun w'=>Ext _ w') (Ext.drawn _) (VQ.op (fun wq eq=>R.mvS rfl) (VQ.op (fun wq eq=>R.mvI rfl) (VQ.op (fun wq eq=>R.ixS runUnderlying22 sizeOf3 rfl rfl (by omega) (by omega) ((hS).some (i:=k) (by omega))) (VQ.op (fun wq eq=>R.ld1 isAgg3 rfl (((((hS).ext (e.trans eq)).row (i:=k) (by omega)).cell (i:=0) rfl))) (VQ.op (fun wq eq=>R.mvS rfl) (VQ.op (fun wq eq=>R.mvI rfl) (VQ.op (fun wq eq=>R.ixS runUnderlying22 sizeOf3 rfl rfl (by omega) (by omega) ((hT).some (i:=k) (by omega))) (VQ.op (fun wq eq=>R.ld1 isAgg3 rfl (((((hT).ext (e.trans eq)).row (i:=k) (by omega)).cell (i:=0) rfl))) (VQ.op (fun wq eq=>R.neq rfl rfl) (VQ.nil fun w6q e6q=>Vn (V.condP rfl (fun c24=>Vs (Vr (oA rfl (Vn (V.ret (fret1 (v:=.bool _) rfl rfl rfl (⟨?_,(e.trans e6q)⟩))))))) (fun c24=>V.skip (Vr (Vo (R.add rfl rfl (by omega) (by omega)) (oI rfl (Vn (⟨k+1,rfl,⟨by omega,?_,(e.trans e6q)⟩,by omega⟩))))))))))))))))))))))))))) (fun c14=>V.exit (Vs (Vr (oA rfl (Vn (V.ret (fret1 (v:=.bool _) rfl rfl rfl (⟨?_,e⟩)))))))))))))
 ·have:l≠m:=by rintro rfl;exact c24 rfl
  simp [this]
 ·intro i hik
  by_cases h:i=k
  ·subst h;exact Classical.not_not.1 c24
  ·exact hi i (by omega)
 ·have:l=m:=getD_ext' hlm fun i hik=>hi i (by omega)
  simp [this]
theorem setB_step {l:List Int} {n:Int}:(∀ i,i<l.length→0≤l.getD i default∧l.getD i default<n∧(0<i→l.getD (i-1) default<l.getD i default))→setB l n=true:=fun h=>by
 rw [setB_iff]
 refine ⟨inc_step (k:=l.length) (fun i h1 h2=>(h i h2).2.2 h1) (Nat.le_refl _),fun x hx=>?_⟩
 obtain ⟨i,hi,rfl⟩:=List.getElem_of_mem hx
 rw [←gget hi]
 exact ⟨(h i hi).1,(h i hi).2.1⟩
theorem setB_bad {l:List Int} {n:Int} {i:Nat} (hi:i<l.length) (h:¬(0≤l.getD i default∧l.getD i default<n∧(0<i→l.getD (i-1) default<l.getD i default))):setB l n=false:=by
 cases hs:setB l n with
 | false=>rfl
 | true =>
  obtain ⟨h1,h2⟩:=setB_iff.1 hs
  have:=h2 _ (gmem hi)
  exact absurd ⟨this.1,this.2,fun h0=>inc_at h1 (by omega) hi⟩ h
theorem isSet_spec (a:Option Addr) (c:Nat) (l:List Int) (n:Int) (w:World) (hl:l.length≤9223372036854775807) (hS:IntSl w a l) :
  RetsP prog 58 #[.slice a l.length c,.int .i64 n] w (.bool (setB l n)):=by
 refine enter (args:=[_,_]) func58 rfl ntmps58 (by kernel_rfl) rfl ?_
 refine Vs (Vr (oA rfl (Vn (Vs (Vs (Vr (oS rfl (Vo (R.lenS runUnderlying22 rfl) (oI rfl (Vn (V.block (?_))))))))))))
 refine V.loop [0,1,7,8,9] (fun k:Nat=>[.slice a l.length c,.int .i64 n,.slice a l.length c,.int .i64 (l.length:Nat),.int .i64 k]) (fun k w'=>k≤l.length∧(∀ i,i<k→0≤l.getD i default∧l.getD i default<n∧(0<i→l.getD (i-1) default<l.getD i default))∧Ext w w') (fun k=>l.length-k) 0 rfl ⟨by omega,fun i h=>absurd h (Nat.not_lt_zero i),Mod.refl _ _⟩ ?_
 rintro ρ k w1 ⟨hk,hi,e⟩
 have hk1:((k:Int)-1).toNat=k-1:=by omega
 refine Vs (Vr (oL rfl rfl (Vn (Vs (V.condP rfl (fun c10=>V.skip (Vs (V.block (Vs (Vr (oI rfl (Vo (R.ixS runUnderlying22 sizeOf3 rfl rfl (by omega) (by omega) ((hS).some (i:=k) (by omega))) (Vo (R.ld1 isAgg3 rfl (((((hS).ext e).row (i:=k) (by omega)).cell (i:=0) rfl))) (oJ rfl (oJ rfl (Vn (Vs (V.regionCut [14,15,16,17,18,19,20,21,22,23,24,25,26,27,28,29,30,31,32,33] 33 (.bool (!decide (0≤l.getD k default∧l.getD k default<n∧(0<k→l.getD (k-1) default<l.getD k default)))) (fun w'=>Ext _ w') rfl (oI rfl (oL rfl rfl (oB rfl (VL.orP rfl rfl (fun g4_2=>oI rfl (VL.gT rfl rfl (oI rfl (VL.gT rfl rfl (Vo (R.geq rfl rfl) (oQ rfl rfl (oB rfl (VL.orP rfl rfl (fun g4_7=>oI rfl (VL.gT rfl rfl (Vo (R.gtr rfl rfl) (VL.gT rfl rfl (oB rfl (VL.andP rfl rfl (fun g4_10=>oI rfl (VL.gT rfl rfl (oS rfl (VL.gT rfl rfl (oI rfl (VL.gT rfl rfl (Vo (R.sub rfl rfl (by omega) (by omega)) (VL.gT rfl rfl (Vo (R.ixS runUnderlying22 sizeOf3 rfl rfl (by omega) (by omega) ((hS).some (i:=((k:Int)-1).toNat) (by omega))) (VL.gT rfl rfl (Vo (R.ld1 isAgg3 rfl (((((hS).ext e).row (i:=((k:Int)-1).toNat) (by omega)).cell (i:=0) rfl))) (VL.gT rfl rfl (Vo (R.leq rfl rfl) (VL.gT rfl rfl (oP rfl rfl (oQ rfl rfl (VL.nil ⟨rfl,cutB rfl ?_,Mod.refl _ _⟩))))))))))))))))) (fun g4_10=>VL.gF rfl rfl (VL.gF rfl rfl (VL.gF rfl rfl (VL.gF rfl rfl (VL.gF rfl rfl (VL.gF rfl rfl (VL.gT rfl rfl (oQ rfl rfl (oQ rfl rfl (VL.nil ⟨rfl,cutB rfl ?_,Mod.refl _ _⟩)))))))))))))))) (fun g4_7=>VL.gF rfl rfl (VL.gF rfl rfl (VL.gU rfl rfl (VL.gU rfl rfl (VL.gU rfl rfl (VL.gU rfl rfl (VL.gU rfl rfl (VL.gU rfl rfl (VL.gU rfl rfl (VL.gF rfl rfl (oP rfl rfl (VL.nil ⟨rfl,cutB rfl ?_,Mod.refl _ _⟩)))))))))))))))))))) (fun g4_2=>VL.gF rfl rfl (VL.gF rfl rfl (oP rfl rfl (oB rfl (VL.gF rfl rfl (VL.gF rfl rfl (VL.gF rfl rfl (VL.gU rfl rfl (VL.gU rfl rfl (VL.gU rfl rfl (VL.gU rfl rfl (VL.gU rfl rfl (VL.gU rfl rfl (VL.gU rfl rfl (VL.gF rfl rfl (oP rfl rfl (VL.nil ⟨rfl,cutB rfl ?_,Mod.refl _ _⟩))))))))))))))))))))) (fun rg4 w4c e4c=>V.cond rfl (fun c33=>Vs (Vr (oA rfl (Vn (V.ret (fret1 (v:=.bool _) rfl rfl rfl (⟨?_,(e.trans e4c)⟩))))))) (fun c33=>V.skip (Vr (Vo (R.add rfl rfl (by omega) (by omega)) (oI rfl (Vn (⟨k+1,rfl,⟨by omega,fun i h=>?_,(e.trans e4c)⟩,by omega⟩)))))))))))))))))))) (fun c10=>V.exit (Vs (Vr (oA rfl (Vn (V.ret (fret1 (v:=.bool _) rfl rfl rfl (⟨?_,e⟩)))))))))))))
 ·rw [hk1,←decide_not];exact decide_eq_decide.2 (by omega)
 ·rw [decide_eq_true (by omega)];rfl
 ·rw [decide_eq_false (by omega)];rfl
 ·rw [decide_eq_false (by omega)];rfl
 ·rw [setB_bad (i:=k) (by omega) (by rw [Bool.not_eq_true'] at c33;exact of_decide_eq_false c33)]
 ·by_cases e2:i=k
  ·subst e2;simpa using c33
  ·exact hi i (by omega)
 ·rw [setB_step fun i h=>hi i (by omega)]
theorem findI_at {α:Type} [Inhabited α] (f:α→Bool) (l:List α) (k:Nat) (hk:k<l.length) (_h0:∀ i,i<k→f (l.getD i default)=false) (h1:f (l.getD k default)=true):l.any f=true:=List.any_eq_true.2 ⟨_,gmem hk,h1⟩
theorem findI_none {α:Type} [Inhabited α] (f:α→Bool) (l:List α) (h0:∀ i,i<l.length→f (l.getD i default)=false):l.any f=false:=by
 rw [List.any_eq_false]
 intro x hx
 obtain ⟨i,hi,rfl⟩:=List.getElem_of_mem hx
 rw [←gget hi,h0 i hi];decide
theorem indexI_spec (g:FuncId) (Fv Cv:List Value) (f:Int→Bool) (S:World→Prop) (a:Option Addr) (c:Nat) (l:List Int) (w:World) (hfn:IsFn prog g) (hdo:∀ w x,S w→RetsP prog g (Fv++[Value.int .i64 x]++Cv).toArray w (.bool (f x)))
  (hSe:∀ w w',S w→Ext w w'→S w') (h0:S w) (hL:IntSl w a l) (hm:l.length≤1000000) :
  RetsX prog 102 #[.slice a l.length c,.func (.func g) Fv.toArray Cv.toArray] w (fun i:Int=>.int .i64 i) (fun i _=>decide (0≤i)=l.any f):=by
 refine enter (args:=[_,_]) func102 rfl ntmps102 (by kernel_rfl) rfl ?_
 refine Vs (Vr (oJ rfl (Vn (Vs (Vs (Vr (oS rfl (Vo (R.lenS runUnderlying22 rfl) (oI rfl (Vn (V.block (?_))))))))))))
 refine V.loop [0,1,7,8] (fun k:Nat=>[.slice a l.length c,.func (.func g) Fv.toArray Cv.toArray,.int .i64 l.length,.int .i64 (k:Nat)])
  (fun k w'=>k≤l.length∧Ext w w'∧∀ i,i<k→f (l.getD i default)=false) (fun k=>l.length-k) 0 rfl ⟨Nat.zero_le _,Mod.refl _ _,fun i h=>absurd h (Nat.not_lt_zero i)⟩ ?_
 rintro ρ k w2 ⟨hk,e,hf⟩
 have hL2:=hL.ext e
 refine Vs (Vr (oL rfl rfl (Vn (Vs (V.condP rfl (fun c9=>V.skip (Vs (V.block (Vs (Vr (oI rfl (oJ rfl (Vn (Vs (?_)))))))))) (fun c9=>V.exit (Vs (?_))))))))
 ·have hkn:k<l.length:=by omega
  refine Vr (Vo (R.mvF rfl) (oS rfl (oI rfl (Vo (R.ixS runUnderlying22 sizeOf3 rfl rfl (by omega) (by omega) (hL2.some (i:=k) hkn)) (Vo (R.ld1 isAgg3 rfl (((hL2.row (i:=k) hkn).cell (i:=0) rfl))) (VL.callCP rfl (hfn) rfl (hdo w2 (l.getD k default) (hSe _ _ h0 e)) fun w4_5 e4_5=>Vn (V.cond rfl (fun c16=>Vs (Vr (oI rfl (oJ rfl (Vn (V.ret (fret1 (v:=.int _ _) rfl rfl rfl (?_)))))))) (fun c16=>V.skip (Vr (Vo (R.add rfl rfl (by omega) (by omega)) (oI rfl (Vn (?_)))))))))))))
  ·exact ⟨(k:Int),rfl,by rw [findI_at f l k hkn hf (by assumption)];exact decide_eq_true (by omega),e.trans e4_5⟩
  ·refine ⟨k+1,rfl,⟨by omega,e.trans e4_5,fun i hi=>?_⟩,by omega⟩
   by_cases h:i=k
   ·subst h;assumption
   ·exact hf i (by omega)
 ·have hkn:k=l.length:=by omega
  subst hkn
  refine Vr (oJ rfl (Vn (V.ret (fret1 (v:=.int _ _) rfl rfl rfl (?_)))))
  exact ⟨-1,rfl,by rw [findI_none f l hf];rfl,e⟩
theorem containsI_spec (g:FuncId) (Fv Cv:List Value) (f:Int→Bool) (S:World→Prop) (a:Option Addr) (c:Nat) (l:List Int) (w:World) (hfn:IsFn prog g) (hdo:∀ w x,S w→RetsP prog g (Fv++[Value.int .i64 x]++Cv).toArray w (.bool (f x)))
  (hSe:∀ w w',S w→Ext w w'→S w') (h0:S w) (hL:IntSl w a l) (hm:l.length≤1000000) :
  RetsP prog 64 #[.slice a l.length c,.func (.func g) Fv.toArray Cv.toArray] w (.bool (l.any f)):=by
 refine enter (args:=[_,_]) func64 rfl ntmps64 (by kernel_rfl) rfl ?_
 refine Vs (Vr (oA rfl (Vn (Vs (Vr (oS rfl (Vo (R.mvF rfl) (VL.callX call102 rfl (indexI_spec g Fv Cv f S a c l _ hfn hdo hSe h0 hL hm) fun i w1 h1 e1=>Vo (R.geq rfl rfl) (oA rfl (Vn (V.ret (fret1 (v:=.bool _) rfl rfl rfl (⟨by rw [←h1],e1⟩)))))))))))))
theorem wght_spec (x:Int) (w:World):RetsP prog 128 #[.int .i64 x] w (.bool (decide (x<0)||decide (1000000000<x))):=by
 refine enter (args:=[_]) func128 rfl ntmps128 (by kernel_rfl) rfl ?_
 refine Vs (Vr (oA rfl (Vn (Vs (Vr (oI rfl (oL rfl rfl (oB rfl (VL.orP rfl rfl (fun g1_2=>oI rfl (VL.gT rfl rfl (Vo (R.gtr rfl rfl) (oQ rfl rfl (oA rfl (Vn (V.ret (fret1 (v:=.bool _) rfl rfl rfl (⟨?_,(Mod.refl _ _)⟩))))))))) (fun g1_2=>VL.gF rfl rfl (oP rfl rfl (oA rfl (Vn (V.ret (fret1 (v:=.bool _) rfl rfl rfl (⟨?_,(Mod.refl _ _)⟩))))))))))))))))
 ·rw [decide_eq_false g1_2];rfl
 ·rw [decide_eq_true g1_2];rfl
theorem weighed_spec (n:Int) (a:Option Addr) (c:Nat) (l:List Int) (w:World) (hL:IntSl w a l) (_hl:l.length≤9223372036854775807) :
  RetsP prog 96 #[.int .i64 n,.slice a l.length c] w (.bool (costB n l)):=by
 have hall:(!l.any fun x=>decide (x<0)||decide (1000000000<x))=l.all fun c=>decide (0≤c)&&decide (c≤1000000000):=by
  rw [List.not_any_eq_all_not]
  congr 1;funext x
  by_cases h1:x<0
  ·simp [h1] <;> omega
  ·by_cases h2:1000000000<x
   ·simp [h2] <;> omega
   ·simp [h1,h2] <;> omega
 refine enter (args:=[_,_]) func96 rfl ntmps96 (by kernel_rfl) rfl ?_
 have hcs:∀ w',Ext w w'→l.length≤1000000→RetsP prog 64 #[.slice a l.length c,.func (.func 128) #[] #[]] w' (.bool (l.any fun x=>decide (x<0)||decide (1000000000<x))):=fun w' e hm =>
  containsI_spec 128 [] [] _ (fun _=>True) a c l w' call128 (fun w x _=>wght_spec x w) (fun _ _ _ _=>trivial) trivial (hL.ext e) hm
 refine Vs (Vr (oA rfl (Vn (Vs (Vr (oI rfl (Vo (R.geq rfl rfl) (oB rfl (VL.andP rfl rfl (fun g1_2=>oI rfl (VL.gT rfl rfl (Vo (R.leq rfl rfl) (oP rfl rfl (oB rfl (VL.andP rfl rfl (fun g1_6=>oS rfl (VL.gT rfl rfl (Vo (R.lenS runUnderlying22 rfl) (VL.gT rfl rfl (oI rfl (VL.gT rfl rfl (Vo (R.eql rfl rfl) (oP rfl rfl (oB rfl (VL.andP rfl rfl (fun g1_12=>oS rfl (VL.gT rfl rfl (VL.callP call64 rfl (hcs _ (Mod.refl _ _) (by omega)) fun w1_14 e1_14=>VL.gT rfl rfl (Vo (R.not rfl) (oP rfl rfl (oA rfl (Vn (V.ret (fret1 (v:=.bool _) rfl rfl rfl (⟨?_,e1_14⟩)))))))))) (fun g1_12=>VL.gF rfl rfl (VL.gF rfl rfl (oQ rfl rfl (oA rfl (Vn (V.ret (fret1 (v:=.bool _) rfl rfl rfl (⟨?_,(Mod.refl _ _)⟩)))))))))))))))))) (fun g1_6=>VL.gF rfl rfl (VL.gF rfl rfl (VL.gF rfl rfl (oQ rfl rfl (oB rfl (VL.gF rfl rfl (VL.gF rfl rfl (VL.gF rfl rfl (oQ rfl rfl (oA rfl (Vn (V.ret (fret1 (v:=.bool _) rfl rfl rfl (⟨?_,(Mod.refl _ _)⟩)))))))))))))))))))) (fun g1_2=>VL.gF rfl rfl (oQ rfl rfl (oB rfl (VL.gF rfl rfl (VL.gF rfl rfl (VL.gF rfl rfl (VL.gF rfl rfl (oQ rfl rfl (oB rfl (VL.gF rfl rfl (VL.gF rfl rfl (VL.gF rfl rfl (oQ rfl rfl (oA rfl (Vn (V.ret (fret1 (v:=.bool _) rfl rfl rfl (⟨?_,(Mod.refl _ _)⟩)))))))))))))))))))))))))))
 ·rw [hall]
  unfold costB
  rw [decide_eq_true g1_2,decide_eq_true g1_6,decide_eq_true g1_12]
  simp only [Bool.true_and]
 all_goals
  cases hc:costB n l with
  | false=>rfl
  | true =>
   exfalso
   have:=costB_iff.1 hc
   omega
theorem equalF_spec (E F:List SlI) (a b:Option Addr) (ca cb:Nat) (w:World) (hl:E.length≤9223372036854775807) (_hm:F.length≤9223372036854775807) (he:∀ x∈E,x.l.length≤9223372036854775807) (hf:∀ x∈F,x.l.length≤9223372036854775807) (hE:LL w a E) (hF:LL w b F) :
  RetsP prog 97 #[.slice a E.length ca,.slice b F.length cb,.func (.func 99) #[] #[]] w (.bool (decide (vals E=vals F))):=by
 refine enter (args:=[_,_,_]) func97 rfl ntmps97 (by kernel_rfl) rfl ?_
 refine Vs (Vr (oA rfl (Vn (Vs (Vs (Vr (oS rfl (Vo (R.lenS runUnderlying23 rfl) (oS rfl (Vo (R.lenS runUnderlying23 rfl) (Vo (R.neq rfl rfl) (Vn (V.condP rfl (fun c14=>Vs (Vr (oA rfl (Vn (V.ret (fret1 (v:=.bool _) rfl rfl rfl (⟨?_,(Mod.refl _ _)⟩))))))) (fun c14=>V.skip (Vs (Vs (Vr (oS rfl (Vo (R.lenS runUnderlying23 rfl) (oI rfl (Vn (V.block (?_)))))))))))))))))))))))
 ·rw [decide_eq_false fun h=>?_]
  have:=congrArg List.length h
  rw [List.length_map,List.length_map] at this
  omega
 have hlm:E.length=F.length:=by have:=Classical.not_not.1 c14;omega
 refine V.loop [0,1,2,15,16,17] (fun k:Nat=>[.slice a E.length ca,.slice b F.length cb,.func (.func 99) #[] #[],.slice a E.length ca,.int .i64 (E.length:Nat),.int .i64 k]) (fun k w'=>k≤E.length∧(∀ i,i<k→(E.getD i default).l=(F.getD i default).l)∧Ext w w') (fun k=>E.length-k) 0 rfl ⟨by omega,by intro i hi;omega,Mod.refl _ _⟩ ?_
 rintro ρ k w1 ⟨hk,hi,e⟩
 refine Vs (Vr (oL rfl rfl (Vn (Vs (V.condP rfl (fun c18=>V.skip (Vs (V.block (Vs (?_))))) (fun c18=>V.exit (Vs (Vr (oA rfl (Vn (V.ret (fret1 (v:=.bool _) rfl rfl rfl (⟨?_,e⟩)))))))))))))
 ·have hkl:k<E.length:=by omega
  have h1:=he _ (gmem hkl)
  have h2:=hf _ (gmem (show k<F.length by omega))
  refine Vr (oI rfl (Vo (R.ixS runUnderlying23 sizeOf22 rfl rfl (by omega) (by omega) ((hE.sl).some (i:=k) (by omega))) (Vo (R.ld1 isAgg22 rfl (((((hE.sl).ext e).row (i:=k) (by omega)).cell (i:=0) rfl))) (oJ rfl (oT rfl (Vn (Vs (Vr (oS rfl (oI rfl (Vo (R.ixS runUnderlying23 sizeOf22 rfl rfl (by omega) (by omega) ((hF.sl).some (i:=k) (by omega))) (Vo (R.ld1 isAgg22 rfl (((((hF.sl).ext e).row (i:=k) (by omega)).cell (i:=0) rfl))) (oT rfl (Vn (Vs (Vr (Vo (R.mvF rfl) (oS rfl (oS rfl (VL.callCP rfl (call99) rfl (equal_spec (E.getD k default).a (F.getD k default).a (E.getD k default).c (F.getD k default).c (E.getD k default).l (F.getD k default).l _ h1 h2 ((hE.ext e).at hkl) ((hF.ext e).at (by omega))) fun w7_3 e7_3=>Vo (R.not rfl) (Vn (V.cond rfl (fun c30=>Vs (Vr (oA rfl (Vn (V.ret (fret1 (v:=.bool _) rfl rfl rfl (⟨?_,(e.trans e7_3)⟩))))))) (fun c30=>V.skip (Vr (Vo (R.add rfl rfl (by omega) (by omega)) (oI rfl (Vn (⟨k+1,rfl,⟨by omega,fun i h=>?_,(e.trans e7_3)⟩,by omega⟩))))))))))))))))))))))))))))
  ·rw [decide_eq_false fun h=>?_]
   have:=congrArg (fun l=>l.getD k default) h
   rw [gmap _ _ _ hkl,gmap _ _ _ (show k<F.length by omega)] at this
   simp at c30
   exact c30 this
  ·by_cases e2:i=k
   ·subst e2;simpa using c30
   ·exact hi i (by omega)
 ·rw [decide_eq_true]
  refine getD_ext' (by simpa using hlm) fun i h1=>?_
  rw [List.length_map] at h1
  rw [gmap _ _ _ h1,gmap _ _ _ (show i<F.length by omega)]
  exact hi i (by omega)
structure BinJ (l:List Int) (x:Int) (i:Nat):Prop where
 le:i≤l.length
 lo:∀ q,q<i→l.getD q default<x
 hi:∀ q,i≤q→q<l.length→x≤l.getD q default
theorem BinJ.mem {l:List Int} {x:Int} {i:Nat} (h:BinJ l x i) (hI:Inc l):x∈l↔i<l.length∧l.getD i default=x:=by
 constructor
 ·intro hx
  obtain ⟨q,hq,e⟩:=List.getElem_of_mem hx
  rw [←gget hq] at e
  have h1:i≤q:=by
   by_cases h2:q<i
   ·have:=h.lo q h2;omega
   ·omega
  refine ⟨by omega,?_⟩
  have:=h.hi i (Nat.le_refl _) (by omega)
  by_cases e2:i=q
  ·rw [e2];exact e
  ·have:=inc_at hI (show i<q by omega) hq
   omega
 ·rintro ⟨h1,rfl⟩;exact gmem h1
theorem bin_spec (a:Option Addr) (c:Nat) (l:List Int) (x:Int) (w:World) (hm:l.length≤1000000) (hi:Inc l) (hL:IntSl w a l) :
  RetsX prog 159 #[.slice a l.length c,.int .i64 x] w (fun i:Nat=>.tuple #[.int .i64 (i:Nat),.bool (decide (i<l.length∧l.getD i default=x))]) (fun i _=>BinJ l x i):=by
 refine enter (args:=[_,_]) func159 rfl ntmps159 (by kernel_rfl) rfl ?_
 refine Vs (Vr (oJ rfl (oA rfl (Vn (Vs (Vr (oS rfl (Vo (R.lenS runUnderlying22 rfl) (oJ rfl (Vn (Vs (Vr (oI rfl (oJ rfl (oJ rfl (Vn (Vs (V.block (?_)))))))))))))))))))
 refine V.loop [0,1,6,7,8] (fun z:Nat×Nat=>[.slice a l.length c,.int .i64 x,.int .i64 (l.length:Nat),.int .i64 (z.1:Nat),.int .i64 (z.2:Nat)])
  (fun z w'=>z.1≤z.2∧z.2≤l.length∧(∀ q,q<z.1→l.getD q default<x)∧(∀ q,z.2≤q→q<l.length→x≤l.getD q default)∧Ext w w') (fun z=>z.2-z.1) (0,l.length) rfl ⟨by omega,Nat.le_refl _,fun q h=>absurd h (Nat.not_lt_zero q),fun q h1 h2=>by omega,Mod.refl _ _⟩ ?_
 rintro ρ ⟨i,j⟩ w1 ⟨hij,hjn,hlo,hhi,e⟩
 dsimp only at hij hjn hlo hhi e ⊢
 have hL1:=hL.ext e
 have hmono:∀ p q,p≤q→q<l.length→l.getD p default≤l.getD q default:=fun p q h1 h2=>by
  by_cases e2:p=q
  ·subst e2;omega
  ·have:=inc_at hi (show p<q by omega) h2;omega
 refine Vs (Vs (Vr (oI rfl (oI rfl (oL rfl rfl (Vn (V.condP rfl (fun c15=>V.skip (V.block (Vs (Vr (oI rfl (oI rfl (Vo (R.add rfl rfl (by omega) (by omega)) (Vo (R.conv runUnderlying3 runUnderlying108 rfl (wrap_u64 (by omega) (by omega))) (Vo (R.half (a:=(i+j)) rfl rfl) (Vo (R.conv runUnderlying108 runUnderlying3 rfl (wrap_i64 (by omega) (by omega))) (oJ rfl (Vn (Vs (?_)))))))))))))) (fun c15=>V.exit (Vs (?_))))))))))
 ·have hq:=hmono
  refine Vr (oS rfl (oI rfl (Vo (R.ixS runUnderlying22 sizeOf3 rfl rfl (by omega) (by omega) ((hL1).some (i:=((i+j) / 2)) (by omega))) (Vo (R.ld1 isAgg3 rfl (((((hL1).ext (Mod.refl _ _)).row (i:=((i+j) / 2)) (by omega)).cell (i:=0) rfl))) (oI rfl (VL.callP call115 rfl (lessI_spec (l.getD ((i+j) / 2) default) x _) fun w5_5 e5_5=>Vn (V.cond rfl (fun c27=>?_) (fun c27=>?_))))))))
  ·refine Vr (oI rfl (Vo (R.add rfl rfl (by omega) (by omega)) (oJ rfl (Vn (⟨((i+j) / 2+1,j),rfl,⟨by dsimp only;omega,by dsimp only;omega,fun q h=>?_,hhi,e.trans e5_5⟩,by dsimp only;omega⟩)))))
   have:=hmono q ((i+j) / 2) (by dsimp only at h;omega) (by omega)
   have c27:l.getD ((i+j) / 2) default<x:=by simpa using c27
   omega
  ·refine Vr (oI rfl (oJ rfl (Vn (⟨(i,(i+j) / 2),rfl,⟨by dsimp only;omega,by dsimp only;omega,hlo,fun q h1 h2=>?_,e.trans e5_5⟩,by dsimp only;omega⟩))))
   have:=hmono ((i+j) / 2) q (by dsimp only at h1;omega) h2
   have c27:¬l.getD ((i+j) / 2) default<x:=by simpa using c27
   omega
 ·have hj:i=j:=by omega
  subst hj
  refine Vr (oI rfl (oI rfl (oI rfl (oL rfl rfl (oB rfl (VL.andP rfl rfl (fun g8_4=>oS rfl (VL.gT rfl rfl (oI rfl (VL.gT rfl rfl (Vo (R.ixS runUnderlying22 sizeOf3 rfl rfl (by omega) (by omega) ((hL1).some (i:=i) (by omega))) (VL.gT rfl rfl (Vo (R.ld1 isAgg3 rfl (((((hL1).ext (Mod.refl _ _)).row (i:=i) (by omega)).cell (i:=0) rfl))) (VL.gT rfl rfl (oI rfl (VL.gT rfl rfl (Vo (R.eql rfl rfl) (VL.gT rfl rfl (oB rfl (VL.orP rfl rfl (fun g8_11=>oS rfl (VL.gT rfl rfl (oI rfl (VL.gT rfl rfl (Vo (R.ixS runUnderlying22 sizeOf3 rfl rfl (by omega) (by omega) ((hL1).some (i:=i) (by omega))) (VL.gT rfl rfl (Vo (R.ld1 isAgg3 rfl (((((hL1).ext (Mod.refl _ _)).row (i:=i) (by omega)).cell (i:=0) rfl))) (VL.gT rfl rfl (VL.callP call171 rfl (snan_spec (l.getD i default) _) fun w8_16 e8_16=>VL.gT rfl rfl (oB rfl (VL.gF rfl rfl (VL.gF rfl rfl (VL.gT rfl rfl (oQ rfl rfl (VL.gT rfl rfl (oQ rfl rfl (oP rfl rfl (oJ rfl (oA rfl (Vn (V.ret (fret2 (v:=.int _ _) (x:=.bool _) rfl rfl rfl rfl rfl (⟨i,?_,⟨by omega,hlo,hhi⟩,e.trans e8_16⟩))))))))))))))))))))))) (fun g8_11=>VL.gF rfl rfl (VL.gF rfl rfl (VL.gF rfl rfl (VL.gF rfl rfl (VL.gF rfl rfl (VL.gU rfl rfl (VL.gU rfl rfl (VL.gF rfl rfl (VL.gT rfl rfl (oP rfl rfl (oP rfl rfl (oJ rfl (oA rfl (Vn (V.ret (fret2 (v:=.int _ _) (x:=.bool _) rfl rfl rfl rfl rfl (⟨i,?_,⟨by omega,hlo,hhi⟩,e.trans (Mod.refl _ _)⟩))))))))))))))))))))))))))))))) (fun g8_4=>VL.gF rfl rfl (VL.gF rfl rfl (VL.gF rfl rfl (VL.gF rfl rfl (VL.gF rfl rfl (VL.gF rfl rfl (VL.gU rfl rfl (VL.gU rfl rfl (VL.gU rfl rfl (VL.gU rfl rfl (VL.gU rfl rfl (VL.gU rfl rfl (VL.gU rfl rfl (VL.gU rfl rfl (VL.gU rfl rfl (VL.gF rfl rfl (oQ rfl rfl (oJ rfl (oA rfl (Vn (V.ret (fret2 (v:=.int _ _) (x:=.bool _) rfl rfl rfl rfl rfl (⟨i,?_,⟨by omega,hlo,hhi⟩,e.trans (Mod.refl _ _)⟩)))))))))))))))))))))))))))))
  ·rw [decide_eq_false fun h=>g8_11 h.2]
  ·rw [decide_eq_true ⟨by omega,g8_11⟩]
  ·rw [decide_eq_false fun h=>g8_4 (by omega)]
theorem drop_mem {l:List Int} (hi:Inc l) {i:Nat} {y:Int} (hl:i<l.length) (hy:l.getD i default<y):y∈l↔y∈l.drop (i+1):=by
 constructor
 ·intro h
  obtain ⟨q,hq,rfl⟩:=List.getElem_of_mem h
  have:i<q:=by
   rcases Nat.lt_trichotomy q i with h1 | h1 | h1
   ·have:=inc_at hi h1 hl;rw [gget hq] at this;omega
   ·subst h1;rw [gget hq] at hy;omega
   ·exact h1
  refine List.mem_iff_getElem.2 ⟨q-(i+1),by rw [List.length_drop];omega,?_⟩
  rw [List.getElem_drop]
  congr 1;omega
 ·exact List.mem_of_mem_drop
theorem contains_spec (a b:Option Addr) (ca cb:Nat) (l m:List Int) (w:World) (hl:l.length≤1000000) (hm:m.length≤1000000) (hil:Inc l) (him:Inc m) (hc:l.length≤ca) (hL:IntSl w a l) (hM:IntSl w b m) :
  RetsP prog 150 #[.slice a l.length ca,.slice b m.length cb] w (.bool (subB m l)):=by
 refine enter (args:=[_,_]) func150 rfl ntmps150 (by kernel_rfl) rfl ?_
 refine Vs (Vr (oA rfl (Vn (Vs (Vs (Vr (oS rfl (Vo (R.lenS runUnderlying22 rfl) (oI rfl (Vn (V.block (?_))))))))))))
 refine V.loop [0,9,10,11] (fun z:Nat×Option Addr×Nat×Nat=>[.slice z.2.1 (l.drop z.2.2.2).length z.2.2.1,.slice b m.length cb,.int .i64 (m.length:Nat),.int .i64 (z.1:Nat)])
  (fun z w'=>z.1≤m.length∧z.2.2.2≤l.length∧(l.drop z.2.2.2).length≤z.2.2.1∧IntSl w z.2.1 (l.drop z.2.2.2)∧(∀ i,i<z.1→m.getD i default∈l)∧(∀ i,z.1≤i→i<m.length→(m.getD i default∈l↔m.getD i default∈l.drop z.2.2.2))∧Ext w w') (fun z=>m.length-z.1) (0,a,ca,0) rfl ⟨Nat.zero_le _,Nat.zero_le _,hc,hL,fun i h=>absurd h (Nat.not_lt_zero i),fun i _ _=>Iff.rfl,Mod.refl _ _⟩ ?_
 rintro ρ ⟨k,a',c',d⟩ w1 ⟨hk,hd,hc',hA,hin,hrest,e⟩
 dsimp only at hk hd hc' hA hin hrest e ⊢
 have hA1:=hA.ext e
 have hM1:=hM.ext e
 have hid:Inc (l.drop d):=List.Pairwise.sublist (List.drop_sublist d l) hil
 have hdl:(l.drop d).length=l.length-d:=List.length_drop ..
 refine Vs (Vr (oL rfl rfl (Vn (Vs (V.condP rfl (fun c12=>V.skip (Vs (V.block (Vs (?_))))) (fun c12=>V.exit (Vs (Vr (oA rfl (Vn (V.ret (fret1 (v:=.bool _) rfl rfl rfl (⟨?_,e.trans (Mod.refl _ _)⟩)))))))))))))
 ·have hkl:k<m.length:=by omega
  refine Vr (Vo (R.ixS runUnderlying22 sizeOf3 rfl rfl (by omega) (by omega) ((hM1).some (i:=k) (by omega))) (Vo (R.ld1 isAgg3 rfl (((((hM1).ext (Mod.refl _ _)).row (i:=k) (by omega)).cell (i:=0) rfl))) (oJ rfl (Vn (Vs (Vr (oS rfl (oI rfl (VL.callX call159 rfl (bin_spec a' c' (l.drop d) (m.getD k default) _ (by omega) hid (hA1.ext (Mod.refl _ _))) fun i w2 hB e2=>Vo (R.mvT rfl) (Vo (R.extr rfl rfl) (Vo (R.extr rfl rfl) (oJ rfl (oA rfl (Vn (Vs (Vs (?_)))))))))))))))))
  have hmk:=hB.mem hid
  have hmr:=hrest k (Nat.le_refl _) hkl
  refine Vr (oB rfl (Vo (R.notD rfl) (Vn (V.condP rfl (fun c22=>Vs (Vr (oA rfl (Vn (V.ret (fret1 (v:=.bool _) rfl rfl rfl (⟨?_,e.trans e2⟩))))))) (fun c22=>V.skip (?_))))))
  ·cases hs:subB m l with
   | false=>rfl
   | true=>exact absurd (hmk.1 (hmr.1 (subB_iff.1 hs _ (gmem hkl)))) (by simpa using c22)
  ·have hb:i<(l.drop d).length∧(l.drop d).getD i default=m.getD k default:=by simpa using c22
   refine Vr (oS rfl (oI rfl (Vo (R.add rfl rfl (by omega) (by omega)) (Vo (R.slLo runUnderlying22 sizeOf3 rfl rfl (by omega) (by omega)) (oT rfl (Vn (Vr (Vo (R.add rfl rfl (by omega) (by omega)) (oI rfl (Vn (?_)))))))))))
   have hdd:(l.drop d).drop (i+1)=l.drop (d+(i+1)):=by rw [List.drop_drop]
   have hT:=hA.drop (i+1) c' hc'
   rw [hdd] at hT
   have hln:(l.drop (d+(i+1))).length=(l.drop d).length-(i+1):=by rw [List.length_drop,List.length_drop];omega
   refine ⟨(k+1,cutA a' 1 (i+1) c',c' - (i+1),d+(i+1)),?_,⟨by dsimp only;omega,by dsimp only;omega,by dsimp only;omega,hT,fun q hq=>?_,fun q h1 h2=>?_,e.trans e2⟩,by dsimp only;omega⟩
   ·dsimp only;rw [hln];rfl
   ·by_cases e3:q=k
    ·subst e3;exact hmr.2 (hmk.2 hb)
    ·exact hin q (by dsimp only at hq;omega)
   ·dsimp only at h1 ⊢
    rw [hrest q (by omega) h2,←hdd]
    refine drop_mem hid hb.1 ?_
    rw [hb.2]
    exact inc_at him (by omega) h2
 ·cases hs:subB m l with
  | true=>rfl
  | false =>
   exfalso
   have:subB m l=true:=subB_iff.2 fun x hx=>by
    obtain ⟨i,hi,rfl⟩:=List.getElem_of_mem hx
    rw [←gget hi];exact hin i (by omega)
   rw [hs] at this;cases this
end Go.Proofs.YtdkhcipjenfcnaaGreatDoor
