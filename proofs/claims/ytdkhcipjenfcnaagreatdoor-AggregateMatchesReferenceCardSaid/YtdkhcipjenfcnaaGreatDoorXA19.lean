/- Aggregate: the reference's state of checking a proof: all. -/
import Derived.Test.YtdkhcipjenfcnaaGreatDoorXA9
import Derived.Test.YtdkhcipjenfcnaaGreatDoorXVcDefer2
namespace Go.Proofs.YtdkhcipjenfcnaaGreatDoor
set_option maxRecDepth 100000
set_option maxHeartbeats 16000000
open Go.Vc Go.Proofs.Tryz
structure WkX where
 g:GrW
 wa:Option Addr
 wc:Nat
 ws:List Int
 sa:Option Addr
 sc:Nat
 S:List St4
 lim:Int
 up:Bool
 ta:Option Addr
 tc:Nat
 ra:Option Addr
 rc:Nat
structure SpX where
 fr:Int
 to:Int
 lo:SlI
 hi:SlI
 pa:Option Addr
 pc:Nat
 P:List St4
 qa:Option Addr
 qc:Nat
 Q:List St4
def encSp (x:SpX):List Value:=[.int .i64 x.fr,.int .i64 x.to,.slice x.lo.a x.lo.l.length x.lo.c,.slice x.hi.a x.hi.l.length x.hi.c,.slice x.pa x.P.length x.pc,.slice x.qa x.Q.length x.qc]
def runF {σ:Type} (f:σ→List Int→σ×Bool):σ→List (List Int)→σ×Option (List Int)
 | s,[]=>(s,none)
 | s,R :: L=>if (f s R).2=true then ((f s R).1,some R) else runF f (f s R).1 L
theorem runF_app {σ:Type} {f:σ→List Int→σ×Bool}:∀ {s:σ} {A C:List (List Int)},runF f s (A++C)=match (runF f s A).2 with | some R=>((runF f s A).1,some R) | none=>runF f (runF f s A).1 C
 | s,[],C=>rfl
 | s,R :: A,C=>by
  have ih:=runF_app (f:=f) (s:=(f s R).1) (A:=A) (C:=C)
  rw [List.cons_append]
  show (if (f s R).2=true then ((f s R).1,some R) else runF f (f s R).1 (A++C))=_
  rw [show runF f s (R :: A)=if (f s R).2=true then ((f s R).1,some R) else runF f (f s R).1 A from rfl]
  by_cases h:(f s R).2=true
  ·rw [if_pos h,if_pos h]
  ·rw [if_neg h,if_neg h]
   exact ih
theorem back31_spec (x:AgX) (st:List Int) (b1 b2:Nat) (v:Int) (w:World) (h:AgA x st b1 w) (hv:NuG w b2 v) (hv0:0≤v) (hv1:v<(st.length:Int)) :
  RetsD prog 108 [Value.pointer (some ⟨b1,0,none⟩),Value.pointer (some ⟨b2,0,none⟩)].toArray w (fun w'=>AgOk x w' (st.set v.toNat 0)∧Vc.Mod (Vc.one x.tb) w w'):=by
 refine enterDef (args:=[_,_]) func108 rfl ntmps108 (by kernel_rfl) rfl ?_
 refine rQ 6 (Vq (fun wq eq=>rla ag92 rfl (show _=some (Value.pointer (some ⟨x.p,0,none⟩)) from (h.2.ext eq).cell 0))<|Vq (fun wq eq=>R.nilCheck rfl)<|Vq (fun wq eq=>R.fld' (o:=4) ru95 rfl rfl sz22 rfl rfl)<|Vq (fun wq eq=>rla ag22 rfl (show _=some (Value.slice (some ⟨x.tb,0,none⟩) st.length st.length) from (h.1.blk.ext eq).cell 4))<|Vq (fun wq eq=>rla ag3 rfl (show _=some (Value.int .i64 v) from (hv.ext eq).cell 0))<|Vq (fun wq eq=>iX ru22 sz3 rfl rfl (h.1.t.sl.some (i:=v.toNat) (by omega)))<|Vj fun w0q e0q=>VL.ownSt eltI (v:=.int _ _) sz3 (h.1.t.ext e0q) v.toNat 0 0 rfl rfl (by omega) rfl rfl rfl rfl rfl fun w1 ho1 m1 hs1=>Vn (fend0 rfl (?_)))
 have m2:Vc.Mod (Vc.one x.tb) w0q w1:=m1.weaken fun q _ hq=>aBlk_some hq
 exact ⟨(h.1.ext e0q).turn m2 ho1 List.length_set,(e0q.weaken fun _ _ h=>h.elim).then m2 fun _ _ h=>h⟩
structure AgT (x:AgX) (T:Nat→Prop) (w:World) (st:List Int):Prop where
 ok:AgOk x w st
 base:∃ w0,Ext w0 w∧w0.heap.size≤x.tb∧GOk w0 x.g∧∀ q,T q→w0.heap.size≤q
 p:¬T x.p
 t:¬T x.tb
 zb:¬T x.zb
 ze:∀ y∈x.z,∀ q,aBlk y.a q→¬T q
theorem AgT.ext {x:AgX} {T:Nat→Prop} {w w':World} {st:List Int} (h:AgT x T w st) (e:Ext w w'):AgT x T w' st:=by
 obtain ⟨w0,e0,h1⟩:=h.base
 exact ⟨h.ok.ext e,⟨w0,e0.trans e,h1⟩,h.p,h.t,h.zb,h.ze⟩
theorem AgT.turn {x:AgX} {T:Nat→Prop} {w w':World} {st st':List Int} (h:AgT x T w st) (m:Vc.Mod (Vc.one x.tb) w w') (ht:OwnT Vc.encI 1 3 0 w' (some ⟨x.tb,0,none⟩) st.length st') (hl:st'.length=st.length):AgT x T w' st':=by
 obtain ⟨w0,e0,h1,h2⟩:=h.base
 exact ⟨h.ok.turn m ht hl,⟨w0,e0.ownA m fun q (hq:q=x.tb)=>by omega,h1,h2⟩,h.p,h.t,h.zb,h.ze⟩
theorem AgT.modT {x:AgX} {T:Nat→Prop} {w w':World} {st:List Int} (h:AgT x T w st) (m:Vc.Mod T w w'):AgT x T w' st:=by
 obtain ⟨w0,e0,h1,h2,h3⟩:=h.base
 have e1:=e0.ownA m h3
 refine ⟨⟨h.ok.blk.mod m h.p,⟨w0,e1,h1,h2⟩,⟨h.ok.z.sl.mod m fun ad e hs=>?_,fun y hy=>(h.ok.z.each y hy).mod m fun ad e hs=>h.ze y hy _ ⟨ad,e,rfl⟩ hs⟩,h.ok.t.mod m fun k hk hs=>?_,h.ok.tp,h.ok.tz,h.ok.ty⟩,⟨w0,e1,h1,h2,h3⟩,h.p,h.t,h.zb,h.ze⟩
 ·injection e with e;subst e;exact h.zb hs
 ·rw [aBlk_some hk] at hs;exact h.t hs
theorem AgB.agT {g:GrW} {N:Nat} {w w0 w':World} {x:AgX} (h:AgB g N w x w') (e:Ext w w') {T:Nat→Prop} (hT:∀ q,T q→q<w.heap.size) (e0:Ext w0 w) (hg:GOk w0 g) (hT0:∀ q,T q→w0.heap.size≤q):AgT x T w' (List.replicate N 0):=by
 have h1:=h.p;have h2:=h.t;have h3:=h.zb
 have s0:=e0.size
 refine ⟨h.ok,⟨w0,e0.trans e,by omega,by rw [h.g];exact hg,hT0⟩,fun k=>?_,fun k=>?_,fun k=>?_,fun y hy q hq k=>?_⟩
 ·have:=hT _ k;omega
 ·have:=hT _ k;omega
 ·have:=hT _ k;omega
 ·have:=hT _ k;have:=h.ze y hy q hq;omega
structure HdsOk {σ:Type} (f:σ→List Int→σ×Bool) (g:FuncId) (Cv:List Value) (N:Nat) (J:σ→World→Prop) (T:Nat→Prop) (tb:Nat):Prop where
 fn:IsFn prog g
 go:∀ s w a c R,J s w→IntSl w a R→(∀ q,aBlk a q→q≠tb)→(a=none→c=0)→R.length≤N→Inc R→(∀ v∈R,0≤v∧v<(N:Int))→RetsY prog g ([Value.slice a R.length c]++Cv).toArray w (fun _:Unit=>.bool (f s R).2) (fun _ w'=>J (f s R).1 w'∧Vc.Mod T w w')
 st:∀ s w w',J s w→Vc.Mod (Vc.one tb) w w'→J s w'
theorem HdsOk.ext {σ:Type} {f:σ→List Int→σ×Bool} {g:FuncId} {Cv:List Value} {N:Nat} {J:σ→World→Prop} {T:Nat→Prop} {tb:Nat} (H:HdsOk f g Cv N J T tb) {s:σ} {w w':World} (h:J s w) (e:Ext w w'):J s w':=H.st s w w' h e.mod
def resN:Option (List Int)→Nat
 | none=>0
 | some R=>R.length
structure FiR {σ:Type} (x:AgX) (T:Nat→Prop) (J:σ→World→Prop) (r:σ×Option (List Int)) (st:List Int) (w:World) (y:Option Addr×Nat) (w':World):Prop where
 ok:AgT x T w' st
 j:J r.1 w'
 m:Vc.Mod (fun q=>q=x.tb∨T q) w w'
 no:r.2=none→y=(none,0)
 so:∀ R,r.2=some R→OwnT Vc.encI 1 3 w.heap.size w' y.1 y.2 R
theorem insA_succ (s:List Int) (i:Nat):insA s (i+1)=insA s i++if s.getD i default=1 then [(i:Int)] else []:=by
 unfold insA
 rw [List.range_succ,List.filter_append,List.map_append]
 congr 1
 by_cases h:s.getD i default=1
 ·rw [if_pos h,List.filter_cons,if_pos (decide_eq_true h)];rfl
 ·rw [if_neg h,List.filter_cons,if_neg (by rw [decide_eq_false h];decide)];rfl
theorem insA_len (s:List Int) (i:Nat):(insA s i).length≤i:=by
 unfold insA
 rw [List.length_map]
 exact Nat.le_trans (List.length_filter_le _ _) (by rw [List.length_range];exact Nat.le_refl _)
theorem cls_close {g:Gr} {s:List Int} {v:Int} (h0:0≤v) (h1:stA s v=1):(closeS (cLv g) s v).isNone=true↔clsI g.edges s v<0:=by
 rw [Option.isNone_iff_eq_none,←cfS_none (g:=g) (c:=⟨g.n,g.edges,[],false,0,[]⟩) rfl rfl,cf_in h0 h1]
 split
 ·exact ⟨fun _=>by assumption,fun _=>rfl⟩
 ·exact ⟨fun h=>(by cases h),fun h=>by contradiction⟩
theorem fre_close {g:Gr} {s:List Int} {v:Int} (h0:0≤v) (h2:stA s v=2) (hE:∀ e∈g.edges,∀ u∈e,0≤u):(closeS (cLv g) s v).isNone=true↔freI g.edges s v<0:=by
 rw [Option.isNone_iff_eq_none,←cfS_none (g:=g) (c:=⟨g.n,g.edges,[],false,0,[]⟩) rfl rfl,cf_out h0 h2 hE]
 split
 ·exact ⟨fun _=>by assumption,fun _=>rfl⟩
 ·exact ⟨fun h=>(by cases h),fun h=>by contradiction⟩
theorem runF_mem {σ:Type} {f:σ→List Int→σ×Bool}:∀ {s:σ} {L:List (List Int)} {R:List Int},(runF f s L).2=some R→R∈L
 | _,[],_,h=>by cases h
 | s,A :: L,R,h=>by
  have e:runF f s (A :: L)=if (f s A).2=true then ((f s A).1,some A) else runF f (f s A).1 L:=rfl
  rw [e] at h
  split at h
  ·injection h with h;rw [h];exact List.mem_cons_self
  ·exact List.mem_cons_of_mem _ (runF_mem h)
theorem leav_keep {c:PrfC} {n v:Nat} (hv:v<n):∀ {O:List Nat} {s:List Int} {R:List Int},R∈leavS c n O s→v∉O→s.getD v default=1→(v:Int)∈R
 | [],s,R,h,_,hs=>by
  obtain rfl:R=insA s n:=List.mem_singleton.1 h
  refine insA_mem.2 ⟨by omega,by omega,?_⟩
  unfold stA;rw [Int.toNat_natCast];exact hs
 | u :: O,s,R,h,ho,hs=>by
  rw [List.mem_cons,not_or] at ho
  have key:∀ x,(s.set u x).getD v default=1:=fun x=>by
   rw [List.getD,List.getElem?_set_ne (fun e=>ho.1 e.symm)];exact hs
  unfold leavS at h
  rcases List.mem_append.1 h with h | h
  ·split at h
   ·exact leav_keep hv h ho.2 (key 1)
   ·cases h
  ·split at h
   ·exact leav_keep hv h ho.2 (key 2)
   ·cases h
theorem leafN {P:Program} {N:Nat} {fn:Func} {RR:Value→World→Prop} {ρ:Env} {w:World} {t:Nat} {v:Value} {y:Code} (hr:fn.results=#[.tmp t]) (ht:Nat.blt t N=true) (hv:ρ t=v) (h:RR v w):nxD P N y (bodyPostD P fn fun e w'=>∃ v,e=.returned v∧RR v w') .ret ρ w:=⟨v,res1 hr ht hv,v,rfl,h⟩
theorem leafT {P:Program} {N:Nat} {fn:Func} {RR:Value→World→Prop} {ρ:Env} {w:World} {t:Nat} {v:Value} {y:Code} {X:Env→World→Prop} (hr:fn.results=#[.tmp t]) (ht:Nat.blt t N=true) (hv:ρ t=v) (h:RR v w):thn X (nxD P N y (bodyPostD P fn fun e w'=>∃ v,e=.returned v∧RR v w')) .ret ρ w:=⟨v,res1 hr ht hv,v,rfl,h⟩
theorem R.neqNilS {P:Program} {ρ:Env} {w:World} {ty t ty2 e:TypeId} {x y:Operand} {a:Option Addr} {n c:Nat} (hu:∀ w,(underlying t).run P w=.ok (.slice e) w) (hx:tm ρ x=.slice a n c) (hy:tm ρ y=.slice none 0 0):run1 P ρ (.binOp .neq t x y ty2) ty w=.ok (.value (.bool (!decide (a=none)))) w:=by
 have hp:(eqGuard .neq t x y (.slice a n c) (.slice none 0 0)).run P w=.ok () w:=by
  simp [eqGuard,go_sem]
 have h:(Op.equal t (.slice a n c) (.slice none 0 0)).run P w=.ok (decide (a=none)) w:=by
  show (Op.equalIn (9999+1) t _ _).run P w=_
  unfold Op.equalIn
  cases a <;> simp [go_sem,hu]
 simp only [run1,execOp,hx,hy,Sem.run_bind,hp,Result.andThen_ok,binOp,h,Sem.run_pure]
theorem first31_spec {σ:Type} (x:AgX) (N:Nat) (hR:AgR x N) (f:σ→List Int→σ×Bool) (g:FuncId) (Cv:List Value) (J:σ→World→Prop) (T:Nat→Prop) (H:HdsOk f g Cv N J T x.tb) :
  ∀ (k v:Nat) (st:List Int) (s:σ) (w:World),v+k=N→st.length=N→AgT x T w st→J s w→(∀ q,T q→q<w.heap.size)→(∀ u:Nat,v≤u→u<N→stA st (u:Int)=0) →
  RetsY prog 85 #[.pointer (some ⟨x.p,0,none⟩),.int .i64 (v:Nat),.func (.func g) #[] Cv.toArray] w (fun y:Option Addr×Nat=>.slice y.1 (resN (runF f s (leavS (cLv (grV x.g)) N (List.range' v k) st)).2) y.2) (FiR x T J (runF f s (leavS (cLv (grV x.g)) N (List.range' v k) st)) st w):=by
 have hn:=hR.n
 have hN4:=hR.N4
 intro k
 induction k with
 | zero =>
  intro v st s w hk hst h hJ hTw h0
  have hvN:v=N:=by omega
  subst hvN
  refine enterDf (args:=[_,_,_]) func85 rfl ntmps85 rfl ?_
  refine DW.seqV (by kernel_rfl)<|Vr<|VL.box (v:=.pointer _) rfl fun b0_0 w0_0 hb0_0 e0_0 hB0_0=>VL.box (v:=.int _ _) rfl fun b0_1 w0_1 hb0_1 e0_1 hB0_1=>oT rfl<|Vn (?_)
  have hb3:PtG w0_1 b0_0 x:=hB0_0.ext e0_1
  have E0:=e0_0.trans e0_1
  have h1:=h.ext E0
  refine DW.seqV (by kernel_rfl)<|Vs<|rQ 6 (Vq (fun wq eq=>rla ag3 rfl (show _=some (Value.int .i64 (v:Nat)) from (hB0_1.ext eq).cell 0))<|Vq (fun wq eq=>rla ag92 rfl (show _=some (Value.pointer (some ⟨x.p,0,none⟩)) from (hb3.ext eq).cell 0))<|Vq (fun wq eq=>R.nilCheck rfl)<|Vq (fun wq eq=>R.fld' (o:=0) ru95 rfl rfl sz25 rfl rfl)<|Vq (fun wq eq=>R.fld' (o:=0) ru25 rfl rfl sz3 rfl rfl)<|Vq (fun wq eq=>rla ag3 rfl (show _=some (Value.int .i64 x.g.n) from (h1.ok.blk.ext eq).cell 0))<|Vj fun w1q e1q=>Vo (R.eql rfl rfl)<|Vn (?_))
  rw [hn]
  refine Vd rfl (fun c17=>?_) (fun c17=>absurd rfl c17)
  have h2:=h1.ext e1q
  repeat refine V.seq ?_
  refine Vr<|oT rfl<|Vn<|V.cut [2,7] (fun y:Option Addr×Nat=>[.func (.func g) #[] Cv.toArray,.slice y.1 (insA st v).length y.2]) (fun y w'=>Ext w1q w'∧OwnT Vc.encI 1 3 w1q.heap.size w' y.1 y.2 (insA st v)) (Vs<|Vr<|Vo (rla ag92 rfl (show _=some (Value.pointer (some ⟨x.p,0,none⟩)) from (hb3.ext e1q).cell 0))<|Vo (R.nilCheck rfl)<|Vo (R.fld' (o:=4) ru95 rfl rfl sz22 rfl rfl)<|Vo (rla ag22 rfl (show _=some (Value.slice (some ⟨x.tb,0,none⟩) st.length st.length) from h2.ok.blk.cell 4))<|Vo (R.lenS ru22 rfl)<|oI rfl<|Vn<|Vb (?_)) (fun rgB0 xB0 wBB0 hBB0=>Vs<|Vs (?_))
  ·have hsl:=OwnT.sl h2.ok.t
   refine Vl [2,7,21,22,23] (fun y:Nat×Option Addr×Nat=>[.func (.func g) #[] Cv.toArray,.slice y.2.1 (insA st y.1).length y.2.2,.slice (some ⟨x.tb,0,none⟩) st.length st.length,.int .i64 (st.length:Nat),.int .i64 (y.1:Nat)])
    (fun y w'=>y.1≤v∧Ext w1q w'∧OwnT Vc.encI 1 3 w1q.heap.size w' y.2.1 y.2.2 (insA st y.1)) (fun y=>v-y.1) (0,none,0) rfl ⟨Nat.zero_le _,Vc.Mod.refl _ _,OwnT.nil _ _ _ _ _⟩ ?_
   rintro ρ ⟨i,a7,c7⟩ w3 ⟨hi,e3,ho⟩
   dsimp only at hi e3 ho ⊢
   have hil:=insA_len st i
   refine Vs<|Vr<|oL rfl rfl<|Vn<|Vs<|Vd rfl (fun c24=>Vk<|Vs<|Vb<|Vs<|Vr<|oI rfl<|Vo (iX ru22 sz3 rfl rfl ((hsl).some (i:=i) (by omega)))<|Vo (rla ag3 rfl ((((hsl).ext e3).row (i:=i) (by omega)).c0a rfl))<|oJ rfl<|oJ rfl<|Vn<|Vs<|Vr<|oI rfl<|Vo (R.eql rfl rfl)<|Vn<|Vd rfl (fun c29=>Vr<|oS rfl<|oI rfl<|VL.append1 el22 ru22 sz3 zv3 rfl ((i:Nat):Int) rfl rfl rfl ho rfl rfl rfl (by omega) (by unfold maxLen;omega) e3.size fun a9 c9 w9 vt9 ho9 m9 hf9=>oT rfl<|Vn<|Vr<|oD rfl rfl<|oI rfl<|Vn (?_)) (fun c29=>Vk<|Vr<|oD rfl rfl<|oI rfl<|Vn (?_))) (fun c24=>Ve (?_))
   ·have hs:insA st (i+1)=insA st i++[(i:Int)]:=by rw [insA_succ,if_pos c29]
    exact ⟨(i+1,a9,c9),by dsimp only;rw [hs,List.length_append];rfl,⟨by dsimp only;omega,e3.ownA m9 fun q hq=>ho.ge q hq,by dsimp only;rw [hs];exact ho9⟩,by dsimp only;omega⟩
   ·have hs:insA st (i+1)=insA st i:=by rw [insA_succ,if_neg c29,List.append_nil]
    exact ⟨(i+1,a7,c7),by dsimp only;rw [hs];rfl,⟨by dsimp only;omega,e3,by dsimp only;rw [hs];exact ho⟩,by dsimp only;omega⟩
   ·have hiv:i=v:=by omega
    subst hiv
    exact ⟨(a7,c7),rfl,e3,ho⟩
  ·obtain ⟨eB,hoB⟩:=hBB0
   have EB:=E0.trans (e1q.trans eB)
   have hB:=h2.ext eB
   have hlt:=hB.ok.t.lt x.tb ⟨_,rfl,rfl⟩
   have hlt1:=h2.ok.t.lt x.tb ⟨_,rfl,rfl⟩
   have hil:=insA_len st v
   have hgo:=H.go s wBB0 xB0.1 xB0.2 (insA st v) (H.ext hJ EB) hoB.sl (fun q hq=>by have:=hoB.ge q hq;omega) (fun q=>hoB.hax q) (by omega) (insA_inc st v) (fun u hu=>by have:=insA_mem.1 hu;omega)
   have hL:leavS (cLv (grV x.g)) v (List.range' v 0) st=[insA st v]:=rfl
   rw [hL]
   have hrun:runF f s [insA st v]=if (f s (insA st v)).2=true then ((f s (insA st v)).1,some (insA st v)) else ((f s (insA st v)).1,none):=rfl
   refine Vr<|Vo (R.mvF rfl)<|oS rfl<|VL.callCY rfl (H.fn) rfl (hgo) fun u w9 ⟨hJ9,m9⟩=>Vn<|Vh rfl (fun c37=>Vs<|Vr<|VL.buildSl ru22 sz3 zv3 rfl rfl rfl fun b10 w10 hb10 e10 hX10=>oS rfl<|VL.appendT el22 (fun _=>rfl) rfl (rfl) (OwnT.of0 Vc.encI 1 hX10 (Nat.le_of_eq (Eq.symm hb10))) rfl (rfl) ((OwnT.sl (hoB.mod m9 ?_)).ext e10) (fun q=>hoB.hax q) (by simp;omega) (by simp [maxLen];omega) e10.size (Nat.zero_add _) fun a5 c5 w5 ho5 m5 hf5=>oT rfl<|Vn<|Vt (?_)) (fun c37=>Vk<|Vs<|Vr<|oT rfl<|Vn<|Vt (?_))
   ·intro q hq h
    have:=hoB.ge q hq
    have:=hTw q h
    have:=E0.size
    have:=e1q.size
    omega
   ·refine leafT (v:=.slice a5 (insA st v).length c5) rfl rfl rfl ⟨(a5,c5),by rw [hrun,if_pos c37];rfl,?_⟩
    rw [hrun,if_pos c37]
    have hm5:Ext w9 w5:=e10.ownA m5 fun q hq=>by have:=aBlk_some hq;omega
    have ho5:OwnT Vc.encI 1 3 w9.heap.size w5 a5 c5 (insA st v):=ho5
    have hz:=EB.size
    have hz9:=m9.size
    exact ⟨((hB.modT m9).ext hm5),H.ext hJ9 hm5,((EB.weaken fun _ _ h=>h.elim).then m9 fun q _ hq=>.inr hq).ext hm5,fun q=>(by cases q),fun R q=>by
     injection q with q;subst q
     exact ho5.weaken (by omega)⟩
   ·refine leafN (v:=.slice none 0 0) rfl rfl rfl ⟨(none,0),by rw [hrun,if_neg (by rw [c37];decide)];rfl,?_⟩
    rw [hrun,if_neg (by rw [c37];decide)]
    exact ⟨hB.modT m9,hJ9,(EB.weaken fun _ _ h=>h.elim).then m9 fun q _ hq=>.inr hq,fun _=>rfl,fun R q=>(by cases q)⟩
 | succ k ih =>
  intro v st s w hk hst h hJ hTw h0
  have hvN:v<N:=by omega
  have hz:=h0 v (Nat.le_refl _) hvN
  refine enterDf (args:=[_,_,_]) func85 rfl ntmps85 rfl ?_
  refine DW.seqV (by kernel_rfl)<|Vr<|VL.box (v:=.pointer _) rfl fun b0_0 w0_0 hb0_0 e0_0 hB0_0=>VL.box (v:=.int _ _) rfl fun b0_1 w0_1 hb0_1 e0_1 hB0_1=>oT rfl<|Vn (?_)
  have hb3:PtG w0_1 b0_0 x:=hB0_0.ext e0_1
  have E0:=e0_0.trans e0_1
  have h1:=h.ext E0
  refine DW.seqV (by kernel_rfl)<|Vs<|rQ 6 (Vq (fun wq eq=>rla ag3 rfl (show _=some (Value.int .i64 (v:Nat)) from (hB0_1.ext eq).cell 0))<|Vq (fun wq eq=>rla ag92 rfl (show _=some (Value.pointer (some ⟨x.p,0,none⟩)) from (hb3.ext eq).cell 0))<|Vq (fun wq eq=>R.nilCheck rfl)<|Vq (fun wq eq=>R.fld' (o:=0) ru95 rfl rfl sz25 rfl rfl)<|Vq (fun wq eq=>R.fld' (o:=0) ru25 rfl rfl sz3 rfl rfl)<|Vq (fun wq eq=>rla ag3 rfl (show _=some (Value.int .i64 x.g.n) from (h1.ok.blk.ext eq).cell 0))<|Vj fun w1q e1q=>Vo (R.eql rfl rfl)<|Vn (?_))
  rw [hn]
  refine Vd rfl (fun c17=>absurd c17 (by omega)) (fun c17=>Vk ?_)
  have h2:=h1.ext e1q
  have hb3:=hb3.ext e1q
  have hb4:NuG w1q b0_1 (v:Int):=hB0_1.ext e1q
  have E2:=E0.trans e1q
  have hlt:=h2.ok.t.lt x.tb ⟨_,rfl,rfl⟩
  have hltw:=h.ok.t.lt x.tb ⟨_,rfl,rfl⟩
  have hne3:b0_0≠x.tb:=by omega
  have hne4:b0_1≠x.tb:=by have:=e0_0.size;omega
  refine DW.region (by kernel_rfl) ?_
  refine DL.op (R.mkFn rfl rfl) ?_
  refine DL.deferW (R.deferC (Fv:=[]) (Cv:=[Value.pointer (some ⟨b0_0,0,none⟩),Value.pointer (some ⟨b0_1,0,none⟩)]) (l:=[]) rfl rfl) ?_
  have hL0:leavS (cLv (grV x.g)) N (List.range' v (k+1)) st=(if (closeS (cLv (grV x.g)) (st.set v 1) (v:Int)).isNone=true then leavS (cLv (grV x.g)) N (List.range' (v+1) k) (st.set v 1) else [])++if (closeS (cLv (grV x.g)) (st.set v 2) (v:Int)).isNone=true then leavS (cLv (grV x.g)) N (List.range' (v+1) k) (st.set v 2) else []:=by
   rw [List.range'_succ];rfl
  rw [hL0]
  obtain ⟨A,hA⟩:∃ A,A=if (closeS (cLv (grV x.g)) (st.set v 1) (v:Int)).isNone=true then leavS (cLv (grV x.g)) N (List.range' (v+1) k) (st.set v 1) else []:=⟨_,rfl⟩
  obtain ⟨C,hC⟩:∃ C,C=if (closeS (cLv (grV x.g)) (st.set v 2) (v:Int)).isNone=true then leavS (cLv (grV x.g)) N (List.range' (v+1) k) (st.set v 2) else []:=⟨_,rfl⟩
  rw [←hA,←hC]
  have hleaf:∀ (ρ:Env) (w':World) (st':List Int) (r:σ×Option (List Int)) (y:Option Addr×Nat),ρ 6=.slice y.1 (resN r.2) y.2→AgT x T w' st'→st'.set v 0=st→st'.length=N→J r.1 w'→PtG w' b0_0 x→NuG w' b0_1 (v:Int)→Vc.Mod (fun q=>q=x.tb∨T q) w w'→(r.2=none→y=(none,0))→(∀ R,r.2=some R→OwnT Vc.encI 1 3 w.heap.size w' y.1 y.2 R) →
    bodyPostD prog Tryz.f85 (fun e w'=>∃ v,e=.returned v∧∃ i:Option Addr×Nat,v=.slice i.1 (resN r.2) i.2∧FiR x T J r st w i w') .ret { act 75 ρ with defers:=[{ target:=.fn (.func 108) [Value.pointer (some ⟨b0_0,0,none⟩),Value.pointer (some ⟨b0_1,0,none⟩)].toArray,args:=([]++[]).toArray }] } w':=fun ρ w' st' r y h6 ht hs hl hj hp hn4 hm hno hso=>by
   refine leaves1 (call108) (dargs:=[]) (cap:=[Value.pointer (some ⟨b0_0,0,none⟩),Value.pointer (some ⟨b0_1,0,none⟩)]) rfl (back31_spec x st' b0_0 b0_1 v w' ⟨ht.ok,hp⟩ hn4 (by omega) (by omega)) fun w3 hK=>⟨.slice y.1 (resN r.2) y.2,res1 rfl rfl h6,y,rfl,?_⟩
   obtain ⟨k1,k2⟩:=hK
   rw [Int.toNat_natCast,hs] at k1
   have hT3:AgT x T w3 st:=by
    obtain ⟨w0,e0,a1,a2⟩:=ht.base
    exact ⟨k1,⟨w0,e0.ownA k2 fun q (hq:q=x.tb)=>by omega,a1,a2⟩,ht.p,ht.t,ht.zb,ht.ze⟩
   exact ⟨hT3,H.st _ _ _ hj k2,hm.then k2 fun q _ hq=>.inl hq,hno,fun R hR=>(hso R hR).mod k2 fun q hq (hq2:q=x.tb)=>by
    have:=(hso R hR).ge q hq;omega⟩
  have hset:∀ u:Int,(st.set v u).set v 0=st:=fun u=>by
   rw [List.set_set]
   refine List.ext_getElem (by simp) fun i hi1 hi2=>?_
   rw [List.getElem_set]
   split
   ·rename_i e
    subst e
    unfold stA at hz
    rw [Int.toNat_natCast,gget hi2] at hz
    exact hz.symm
   ·rfl
  refine DW.cut [2,3,4] (fun _:Unit=>[.func (.func g) #[] Cv.toArray,pA b0_0,pA b0_1]) (fun _ w'=>AgT x T w' (st.set v 1)∧J (runF f s A).1 w'∧(runF f s A).2=none∧Vc.Mod (fun q=>q=x.tb∨T q) w w'∧PtG w' b0_0 x∧NuG w' b0_1 (v:Int)) (DW.seq (DW.regionQ mixed 5 (by kernel_rfl) rfl ?_ (by kernel_rfl) (fun w'=>Ext _ w') (Ext.drawn _)<|Vq (fun wq eq=>rla ag92 rfl (show _=some (Value.pointer (some ⟨x.p,0,none⟩)) from (hb3.ext eq).cell 0))<|Vq (fun wq eq=>R.nilCheck rfl)<|Vq (fun wq eq=>R.fld' (o:=4) ru95 rfl rfl sz22 rfl rfl)<|Vq (fun wq eq=>rla ag22 rfl (show _=some (Value.slice (some ⟨x.tb,0,none⟩) st.length st.length) from (h2.ok.blk.ext eq).cell 4))<|Vq (fun wq eq=>rla ag3 rfl (show _=some (Value.int .i64 (v:Nat)) from (hb4.ext eq).cell 0))<|Vj fun w13q e13q=>Vo (iX ru22 sz3 rfl rfl (h2.ok.t.sl.some (i:=v) (by omega)))<|VL.ownSt eltI (v:=.int _ _) sz3 (h2.ok.t.ext e13q) v 0 1 rfl rfl (by omega) rfl rfl rfl rfl rfl fun w3 ho3 m3 hs3=>Vn (?_))) ?_
  ·exact noD_of rfl
  ·refine ⟨rfl,DW.thenN ?_⟩
   have m3':Vc.Mod (Vc.one x.tb) w13q w3:=m3.weaken fun q _ hq=>aBlk_some hq
   have h3:AgT x T w3 (st.set v 1):=(h2.ext e13q).turn m3' ho3 List.length_set
   have hl1:(st.set v 1).length=N:=by rw [List.length_set];exact hst
   have hp3:PtG w3 b0_0 x:=(hb3.ext e13q).mod m3' fun hh=>hne3 hh
   have hn3:NuG w3 b0_1 (v:Int):=(hb4.ext e13q).mod m3' fun hh=>hne4 hh
   have hJ3:J s w3:=H.st s _ _ (H.ext hJ (E2.trans e13q)) m3'
   have M3:Vc.Mod (fun q=>q=x.tb∨T q) w w3:=((E2.trans e13q).weaken fun _ _ h=>h.elim).then m3' fun q _ hq=>.inl hq
   have hs1:∀ u:Nat,stA (st.set v 1) (u:Int)=if u=v then 1 else stA st (u:Int):=fun u=>by
    unfold stA
    rw [Int.toNat_natCast]
    by_cases e:u=v
    ·rw [if_pos e,e,List.getD,List.getElem?_set_self (by omega)];rfl
    ·rw [if_neg e,List.getD,List.getElem?_set_ne (fun q=>e q.symm)];rfl
   refine DW.seq (DW.reg ?_ (by kernel_rfl)<|Vo (rla ag92 rfl (show _=some (Value.pointer (some ⟨x.p,0,none⟩)) from hp3.cell 0))<|Vo (rla ag3 rfl (show _=some (Value.int .i64 (v:Nat)) from hn3.cell 0))<|Vp call72 rfl (cls_spec x N (v:Int) (st.set v 1) _ h3.ok hR hl1 (by omega) (by omega)) fun w14_2 e14_2=>oL rfl rfl<|Vn (?_))
   ·exact noD_ofc call72 rfl
   refine ⟨rfl,DW.thenN ?_⟩
   have h4:=h3.ext e14_2
   have hp4:=hp3.ext e14_2
   have hn4:=hn3.ext e14_2
   have hJ4:=H.ext hJ3 e14_2
   have M4:=M3.ext e14_2
   have hcl:=cls_close (g:=grV x.g) (s:=st.set v 1) (v:=(v:Int)) (by omega) (by rw [hs1 v,if_pos rfl])
   by_cases hc:clsI (vals x.g.edges) (st.set v 1) (v:Int)<0
   ·have hA1:A=leavS (cLv (grV x.g)) N (List.range' (v+1) k) (st.set v 1):=by rw [hA,if_pos (hcl.2 hc)]
    refine DW.condT (congrArg Value.bool (decide_eq_true hc)) rfl ?_
    have hih:=ih (v+1) (st.set v 1) s w14_2 (by omega) hl1 h4 hJ4 (fun q hq=>by have:=hTw q hq;have:=M4.size;omega) (fun u hu1 hu2=>by rw [hs1 u,if_neg (by omega)];exact h0 u (by omega) hu2)
    rw [←hA1] at hih
    rw [show ((v+1:Nat):Int)=(v:Int)+1 by omega] at hih
    refine DW.seq (DW.reg ?_ (by kernel_rfl)<|Vo (rla ag92 rfl (show _=some (Value.pointer (some ⟨x.p,0,none⟩)) from hp4.cell 0))<|Vo (rla ag3 rfl (show _=some (Value.int .i64 (v:Nat)) from hn4.cell 0))<|oD rfl rfl<|Vo (R.mvF rfl)<|VL.callY call85 rfl (hih) fun y w5 hy=>oT rfl<|Vn (?_))
    ·exact noD_ofc call85 rfl
    refine ⟨rfl,DW.thenN ?_⟩
    refine DW.seq (DW.reg ?_ (by kernel_rfl)<|oS rfl<|Vo (R.neqNilS ru22 rfl rfl)<|Vn (?_))
    ·exact noD_of rfl
    refine ⟨rfl,DW.thenN ?_⟩
    have hTb:∀ b,w.heap.size≤b→¬T b:=fun b hb hT=>by have:=hTw b hT;omega
    have hp6:PtG w5 b0_0 x:=hp4.mod hy.m fun hh=>hh.elim hne3 (hTb _ (by omega))
    have hn6:NuG w5 b0_1 (v:Int):=hn4.mod hy.m fun hh=>hh.elim hne4 (hTb _ (by have:=e0_0.size;omega))
    have M6:Vc.Mod (fun q=>q=x.tb∨T q) w w5:=M4.then hy.m fun q _ hq=>hq
    cases hr:(runF f s A).2 with
    | none =>
     have hy0:=hy.no hr
     refine DW.condF (congrArg (fun z:Option Addr×Nat=>Value.bool (!decide (z.1=none))) hy0) rfl (DW.skip (cutD.mk () rfl ⟨hy.ok,hy.j,rfl,M6,hp6,hn6⟩))
    | some Rr =>
     have ho:=hy.so Rr hr
     have hm:=runF_mem hr
     rw [hA1] at hm
     have hvR:=leav_keep hvN hm (fun hv=>by have:=List.mem_range'_1.1 hv;omega) (by have:=hs1 v;rw [if_pos rfl] at this;unfold stA at this;rwa [Int.toNat_natCast] at this)
     have hyn:y.1≠none:=fun q=>by
      obtain ⟨_,_,z⟩:=TSl.some ho.sl (i:=0) (List.length_pos_of_mem hvR)
      rw [z] at q;cases q
     have hAC:runF f s (A++C)=runF f s A:=by
      rw [runF_app,hr];exact Prod.ext rfl hr.symm
     refine DW.condT (congrArg (fun z:Bool=>Value.bool (!z)) (decide_eq_false hyn)) rfl ?_
     refine DW.seq (DW.reg ?_ (by kernel_rfl)<|oS rfl<|oT rfl<|Vn (?_))
     ·exact noD_of rfl
     refine ⟨rfl,DW.thenN (DW.ret ?_)⟩
     exact hleaf _ w5 (st.set v 1) (runF f s (A++C)) y (by rw [hAC,hr];rfl) hy.ok (hset 1) hl1 (by rw [hAC];exact hy.j) hp6 hn6 M6 (by rw [hAC];exact hy.no) (fun R hR=>(hy.so R (by rw [←hAC];exact hR)).weaken M4.size)
   ·have hA0:A=[]:=by rw [hA,if_neg fun q=>hc (hcl.1 q)]
    refine DW.condF (congrArg Value.bool (decide_eq_false hc)) rfl (DW.skip (cutD.mk () rfl ?_))
    rw [hA0]
    exact ⟨h4,hJ4,rfl,M4,hp4,hn4⟩
  ·rintro ρ' _ w5 ⟨h5,hJ5,hno,M5,hp5,hn5⟩
   have hl1:(st.set v 1).length=N:=by rw [List.length_set];exact hst
   have hAC:runF f s (A++C)=runF f (runF f s A).1 C:=by rw [runF_app,hno]
   obtain ⟨s5,hs5⟩:∃ s5,s5=(runF f s A).1:=⟨_,rfl⟩
   rw [←hs5] at hJ5 hAC
   have hTb:∀ b,w.heap.size≤b→¬T b:=fun b hb hT=>by have:=hTw b hT;omega
   refine DW.seq (DW.seq (DW.regionQ mixed 5 (by kernel_rfl) rfl ?_ (by kernel_rfl) (fun w'=>Ext _ w') (Ext.drawn _)<|Vq (fun wq eq=>rla ag92 rfl (show _=some (Value.pointer (some ⟨x.p,0,none⟩)) from (hp5.ext eq).cell 0))<|Vq (fun wq eq=>R.nilCheck rfl)<|Vq (fun wq eq=>R.fld' (o:=4) ru95 rfl rfl sz22 rfl rfl)<|Vq (fun wq eq=>rla ag22 rfl (show _=some (Value.slice (some ⟨x.tb,0,none⟩) (st.set v 1).length (st.set v 1).length) from (h5.ok.blk.ext eq).cell 4))<|Vq (fun wq eq=>rla ag3 rfl (show _=some (Value.int .i64 (v:Nat)) from (hn5.ext eq).cell 0))<|Vj fun w18q e18q=>Vo (iX ru22 sz3 rfl rfl (h5.ok.t.sl.some (i:=v) (by omega)))<|VL.ownSt eltI (v:=.int _ _) sz3 (h5.ok.t.ext e18q) v 0 2 rfl rfl (by omega) rfl rfl rfl rfl rfl fun w6 ho6 m6 hs6=>Vn (?_)))
   ·exact noD_of rfl
   refine ⟨rfl,DW.thenN ?_⟩
   rw [List.set_set] at ho6
   have hl2:(st.set v 2).length=N:=by rw [List.length_set];exact hst
   have m6':Vc.Mod (Vc.one x.tb) w18q w6:=m6.weaken fun q _ hq=>aBlk_some hq
   have h6:AgT x T w6 (st.set v 2):=(h5.ext e18q).turn m6' ho6 (by rw [List.length_set,List.length_set])
   have hp6:PtG w6 b0_0 x:=(hp5.ext e18q).mod m6' fun hh=>hne3 hh
   have hn6:NuG w6 b0_1 (v:Int):=(hn5.ext e18q).mod m6' fun hh=>hne4 hh
   have hJ6:J s5 w6:=H.st s5 _ _ (H.ext hJ5 e18q) m6'
   have M6:Vc.Mod (fun q=>q=x.tb∨T q) w w6:=(M5.ext e18q).then m6' fun q _ hq=>.inl hq
   have hs2:∀ u:Nat,stA (st.set v 2) (u:Int)=if u=v then 2 else stA st (u:Int):=fun u=>by
    unfold stA
    rw [Int.toNat_natCast]
    by_cases e:u=v
    ·rw [if_pos e,e,List.getD,List.getElem?_set_self (by omega)];rfl
    ·rw [if_neg e,List.getD,List.getElem?_set_ne (fun q=>e q.symm)];rfl
   have hsv2:stA (st.set v 2) (v:Int)=2:=by rw [hs2 v,if_pos rfl]
   refine DW.seq (DW.reg ?_ (by kernel_rfl)<|Vo (rla ag92 rfl (show _=some (Value.pointer (some ⟨x.p,0,none⟩)) from hp6.cell 0))<|Vo (rla ag3 rfl (show _=some (Value.int .i64 (v:Nat)) from hn6.cell 0))<|Vp call73 rfl (fre_spec x N (v:Int) (st.set v 2) _ h6.ok hR hl2 (by omega) (by omega) hsv2) fun w19_2 e19_2=>oL rfl rfl<|Vn (?_))
   ·exact noD_ofc call73 rfl
   refine ⟨rfl,DW.thenN ?_⟩
   have h7:=h6.ext e19_2
   have hp7:=hp6.ext e19_2
   have hn7:=hn6.ext e19_2
   have hJ7:=H.ext hJ6 e19_2
   have M7:=M6.ext e19_2
   have hfr:=fre_close (g:=grV x.g) (s:=st.set v 2) (v:=(v:Int)) (by omega) hsv2 (fun e he u hu=>(hR.E e he u hu).1)
   by_cases hc:freI (vals x.g.edges) (st.set v 2) (v:Int)<0
   ·have hC1:C=leavS (cLv (grV x.g)) N (List.range' (v+1) k) (st.set v 2):=by rw [hC,if_pos (hfr.2 hc)]
    refine DW.condT (congrArg Value.bool (decide_eq_true hc)) rfl ?_
    have hih:=ih (v+1) (st.set v 2) s5 w19_2 (by omega) hl2 h7 hJ7 (fun q hq=>by have:=hTw q hq;have:=M7.size;omega) (fun u hu1 hu2=>by rw [hs2 u,if_neg (by omega)];exact h0 u (by omega) hu2)
    rw [←hC1] at hih
    rw [show ((v+1:Nat):Int)=(v:Int)+1 by omega] at hih
    refine DW.seq (DW.reg ?_ (by kernel_rfl)<|Vo (rla ag92 rfl (show _=some (Value.pointer (some ⟨x.p,0,none⟩)) from hp7.cell 0))<|Vo (rla ag3 rfl (show _=some (Value.int .i64 (v:Nat)) from hn7.cell 0))<|oD rfl rfl<|Vo (R.mvF rfl)<|VL.callY call85 rfl (hih) fun y w8 hy=>oT rfl<|Vn (?_))
    ·exact noD_ofc call85 rfl
    refine ⟨rfl,DW.thenN (DW.ret ?_)⟩
    exact hleaf _ w8 (st.set v 2) (runF f s (A++C)) y (by rw [hAC];rfl) hy.ok (hset 2) hl2 (by rw [hAC];exact hy.j) (hp7.mod hy.m fun hh=>hh.elim hne3 (hTb _ (by omega))) (hn7.mod hy.m fun hh=>hh.elim hne4 (hTb _ (by have:=e0_0.size;omega))) (M7.then hy.m fun q _ hq=>hq) (by rw [hAC];exact hy.no) (fun R hR=>(hy.so R (by rw [←hAC];exact hR)).weaken M7.size)
   ·have hC0:C=[]:=by rw [hC,if_neg fun q=>hc (hfr.1 q)]
    have hAC0:runF f s (A++C)=(s5,none):=by rw [hAC,hC0];rfl
    refine DW.condF (congrArg Value.bool (decide_eq_false hc)) rfl (DW.skip (DW.thenN ?_))
    refine DW.seq (DW.reg ?_ (by kernel_rfl)<|oT rfl<|Vn (?_))
    ·exact noD_of rfl
    refine ⟨rfl,DW.thenN (DW.ret ?_)⟩
    exact hleaf _ w19_2 (st.set v 2) (runF f s (A++C)) (none,0) (by rw [hAC0];rfl) h7 (hset 2) hl2 (by rw [hAC0];exact hJ7) hp7 hn7 M7 (fun _=>rfl) (fun R hR=>by rw [hAC0] at hR;cases hR)
section
variable {P:Program} {ρ:Env} {ty:TypeId} {p:String} {af:Array Edge}
theorem yieldsR_callC {w:World} {f:FuncId} {x:Operand} {l':List Operand} {Fv Cv vs:List Value} {ts:Array TypeId} {dst:Option Tmp} {gg:Option (Nat×Bool)} {Kw:Value→World→Prop} (hc:IsFn P f) (hx:tm ρ x=.func (.func f) Fv.toArray Cv.toArray) (ha:l'.map (tm ρ)=vs) (h:Rets P f (Fv++vs++Cv).toArray w Kw) :
  yieldsR P ρ { dst:=dst,op:=.call { callee:=.value x,args:=l'.toArray,argTypes:=ts },type:=ty,pos:=p,after:=af,guard:=gg } w Kw:=by
 unfold yieldsR;rw [run1_eq,R.callC hc hx ha];exact h
end
def whC (vs r:List Int):List Int:=r.map fun v=>vs.getD v.toNat default
theorem whC_succ {vs r:List Int} {j:Nat} (h:j<r.length):whC vs (r.take (j+1))=whC vs (r.take j)++[vs.getD (r.getD j default).toNat default]:=by
 unfold whC
 rw [List.take_succ_eq_append_getElem h,List.map_append,gget h];rfl
theorem whC_len (vs r:List Int):(whC vs r).length=r.length:=List.length_map _
def encCm (g:GrW) (va:Option Addr) (vc:Nat) (vs:List Int):List Value:=encGr g++[.slice va vs.length vc]
abbrev CmB (w:World) (b:Nat) (g:GrW) (va:Option Addr) (vc:Nat) (vs:List Int):Prop:=Blk w b (.cells (Value.agg (encCm g va vc vs).toArray).cells 72 (0,0))
theorem whole_spec (b:Nat) (g:GrW) (va:Option Addr) (vc:Nat) (vs:List Int) (sa:Option Addr) (sc:Nat) (Z:List Int) (w:World) (hb:CmB w b g va vc vs) (hV:IntSl w va vs) (_hvl:vs.length≤1000000) (hS:IntSl w sa Z) (hZl:Z.length≤1000000) (hr:∀ v∈Z,0≤v∧v<(vs.length:Int)) :
  RetsX prog 84 #[.slice sa Z.length sc,pA b] w (fun y:Option Addr×Nat=>.slice y.1 Z.length y.2) (fun y w'=>y.1≠none∧OwnT Vc.encI 1 3 w.heap.size w' y.1 y.2 (whC vs Z)):=by
 refine eN (args:=[_,_]) func84 rfl ntmps84 ?_
 refine Vs<|Vr<|oT rfl<|Vn<|Vs<|Vr<|VL.buildSl ru22 sz3 zv3 rfl rfl rfl fun b7 w7 hb7 e7 hX7=>oT rfl<|Vn<|Vs<|Vs<|Vr<|oS rfl<|Vo (R.lenS ru22 rfl)<|oI rfl<|Vn<|Vb (?_)
 refine Vl [1,4,8,9,10] (fun y:Nat×Option Addr×Nat=>[pA b,.slice y.2.1 (whC vs (Z.take y.1)).length y.2.2,.slice sa Z.length sc,.int .i64 (Z.length:Nat),.int .i64 (y.1:Nat)])
  (fun y w'=>y.1≤Z.length∧Ext w w'∧y.2.1≠none∧OwnT Vc.encI 1 3 w.heap.size w' y.2.1 y.2.2 (whC vs (Z.take y.1))) (fun y=>Z.length-y.1) (0,some ⟨b7,0,none⟩,0) rfl ⟨Nat.zero_le _,e7,fun h=>(by cases h),OwnT.of0 Vc.encI 1 hX7 (Nat.le_of_eq (Eq.symm hb7))⟩ ?_
 rintro ρ ⟨k,a4,c4⟩ w1 ⟨hk,e1,hne,ho⟩
 dsimp only at hk e1 hne ho ⊢
 have hlk:(whC vs (Z.take k)).length=k:=by rw [whC_len,List.length_take];omega
 have hrk:k<Z.length→0≤Z.getD k default∧Z.getD k default<(vs.length:Int):=fun h=>hr _ (gmem h)
 refine Vs<|Vr<|oL rfl rfl<|Vn<|Vs<|Vd rfl (fun c11=>Vk<|Vs<|Vb<|Vs<|Vr<|Vo (R.ixS ru22 sz3 rfl rfl (by have:=hrk;omega) (by have:=hrk;omega) ((hS).some (i:=k) (by have:=hrk;omega)))<|Vo (rla ag3 rfl ((((hS).ext e1).row (i:=k) (by have:=hrk;omega)).c0a rfl))<|oJ rfl<|Vn<|Vr<|oS rfl<|Vo (R.fld' (o:=3) runUnderlying72 rfl rfl sz22 rfl rfl)<|Vo (rla ag22 rfl (show _=some (Value.slice va vs.length vc) from (hb.ext e1).cell 3))<|oI rfl<|Vo (R.ixS ru22 sz3 rfl rfl (by have:=hrk;omega) (by have:=hrk;omega) ((hV).some (i:=(Z.getD k default).toNat) (by have:=hrk;omega)))<|Vo (rla ag3 rfl ((((hV).ext e1).row (i:=(Z.getD k default).toNat) (by have:=hrk;omega)).c0a rfl))<|VL.append1 el22 ru22 sz3 zv3 rfl (vs.getD (Z.getD k default).toNat default) rfl rfl rfl ho rfl rfl rfl (by omega) (by unfold maxLen;omega) e1.size fun a9 c9 w9 vt9 ho9 m9 hf9=>oT rfl<|Vn<|Vr<|oD rfl rfl<|oI rfl<|Vn (?_)) (fun c11=>Ve<|Vs<|Vr<|oS rfl<|oT rfl<|Vn<|Vt (fret1 (v:=.slice _ _ _) rfl rfl rfl (?_)))
 ·have hs:=whC_succ (vs:=vs) (r:=Z) (j:=k) (by omega)
  refine ⟨(k+1,a9,c9),by dsimp only;rw [hs,List.length_append];rfl,⟨by dsimp only;omega,e1.ownA m9 fun q hq=>ho.ge q hq,fun q=>?_,by dsimp only;rw [hs];exact ho9⟩,by dsimp only;omega⟩
  obtain ⟨_,_,z⟩:=TSl.some (OwnT.sl ho9) (i:=0) (by rw [List.length_append,List.length_singleton];omega)
  dsimp only at q
  rw [z] at q;cases q
 ·have hkz:k=Z.length:=by omega
  subst hkz
  rw [List.take_length] at ho ⊢
  refine ⟨(a4,c4),by rw [whC_len],⟨hne,ho⟩,e1⟩
structure HdC {σ:Type} (f:σ→List Int→σ×Bool) (g:FuncId) (Cv:List Value) (vs:List Int) (J:Nat→σ→World→Prop) (T:Nat→Prop) (B:Nat):Prop where
 fn:IsFn prog g
 go:∀ t s w a c S,B≤t→J t s w→a≠none→IntSl w a S→(∀ q,aBlk a q→q≠t∧B≤q)→S.length≤vs.length→(∀ v∈S,v∈vs)→RetsY prog g ([Value.slice a S.length c]++Cv).toArray w (fun _:Unit=>.bool (f s S).2) (fun _ w'=>J t (f s S).1 w'∧Vc.Mod T w w')
 st:∀ t s w w',B≤t→J t s w→Vc.Mod (Vc.one t) w w'→J t s w'
 low:∀ q,T q→q<B
abbrev FcH (w:World) (b:Nat) (g:FuncId) (Cv:List Value):Prop:=Blk w b (.cells #[.func (.func g) #[] Cv.toArray] 74 (0,0))
abbrev FcW (w:World) (b b2:Nat):Prop:=Blk w b (.cells #[.func (.func 84) #[] #[pA b2]] 104 (0,0))
theorem modP {w w':World} {a:Option Addr} {l:List Int} {S:Nat→Prop} (h:IntSl w a l) (m:Vc.Mod S w w') (hb:∀ q,0<l.length→aBlk a q→¬S q):IntSl w' a l:=by
 cases l with
 | nil=>exact TSl.nil _ _ _ _
 | cons x l=>exact TSl.mod h m fun ad e=>hb _ (Nat.succ_pos _) ⟨ad,e,rfl⟩
structure CfB (w:World) (b2 b3 b5:Nat) (g:GrW) (va:Option Addr) (vc:Nat) (vs:List Int) (g':FuncId) (Cv:List Value):Prop where
 h2:CmB w b2 g va vc vs
 h3:FcH w b3 g' Cv
 h5:FcW w b5 b2
 v:IntSl w va vs
theorem CfB.mod {w w':World} {b2 b3 b5:Nat} {g:GrW} {va:Option Addr} {vc:Nat} {vs:List Int} {g':FuncId} {Cv:List Value} {S:Nat→Prop} (h:CfB w b2 b3 b5 g va vc vs g' Cv) (m:Vc.Mod S w w') (n2:¬S b2) (n3:¬S b3) (n5:¬S b5) (nv:∀ q,0<vs.length→aBlk va q→¬S q):CfB w' b2 b3 b5 g va vc vs g' Cv :=
 ⟨h.h2.mod m n2,h.h3.mod m n3,h.h5.mod m n5,modP h.v m nv⟩
def WhR (B:Nat) (vs Z:List Int):Rel:=fun u w=>∃ a c,u=.slice a Z.length c∧a≠none∧OwnT Vc.encI 1 3 B w a c (whC vs Z)
theorem WhR.mono {B:Nat} {vs Z:List Int} {w0:World}:MonoS w0 (WhR B vs Z):=fun _ _ _ _ ⟨a,c,h1,h2,h3⟩ e=>⟨a,c,h1,h2,h3.ext e⟩
theorem whC_sub {vs Z:List Int} (hr:∀ v∈Z,0≤v∧v<(vs.length:Int)):∀ v∈whC vs Z,v∈vs:=fun v hv=>by
 obtain ⟨x,hx,rfl⟩:=List.mem_map.1 hv
 have:=hr x hx
 exact gmem (by omega)
theorem hold2_spec {σ:Type} (f:σ→List Int→σ×Bool) (g':FuncId) (Cv:List Value) (vs:List Int) (J:Nat→σ→World→Prop) (T:Nat→Prop) (B:Nat) (H:HdC f g' Cv vs J T B) (b2 b3 b5 t:Nat) (g:GrW) (va:Option Addr) (vc:Nat) (s:σ) (sa:Option Addr) (sc:Nat) (Z:List Int) (w:World) (hvl:vs.length≤1000000) (hBt:B≤t) (htw:t<w.heap.size) (hJ:J t s w) (hX:CfB w b2 b3 b5 g va vc vs g' Cv) (nb:B≤b2∧B≤b3∧B≤b5) (nv:∀ q,0<vs.length→aBlk va q→¬T q) (hS:IntSl w sa Z) (hZl:Z.length≤vs.length) (hr:∀ v∈Z,0≤v∧v<(vs.length:Int)) :
  RetsY prog 86 #[.slice sa Z.length sc,pA b3,pA b5] w (fun _:Unit=>.bool (f s (whC vs Z)).2) (fun _ w'=>(J t (f s (whC vs Z)).1 w'∧CfB w' b2 b3 b5 g va vc vs g' Cv)∧Vc.Mod T w w'):=by
 refine eN (args:=[_,_,_]) func86 rfl ntmps86 ?_
 refine Vs<|Vr<|oA rfl<|Vn<|Vs<|V.regionS mixed 4 (by kernel_rfl) rfl (fun us=>VS.op (fun wq eq=>rla isAgg74 rfl (show _=some (Value.func (.func g') #[] Cv.toArray) from (hX.h3.ext eq).cell 0)) (VS.op (fun wq eq=>rla isAgg104 rfl (show _=some (Value.func (.func 84) #[] #[pA b2]) from (hX.h5.ext eq).cell 0)) (VS.op (fun wq eq=>R.mvS rfl) (VS.spec (WhR w.heap.size vs Z) (WhR.mono) rfl (fun wq eq hq=>yieldsR_callC (Fv:=[]) (Cv:=[Value.pointer (some ⟨b2,0,none⟩)]) call84 rfl rfl ((whole_spec b2 g va vc vs sa sc Z wq (hX.h2.ext eq) (TSl.ext hX.v eq) hvl (TSl.ext hS eq) (by omega) hr).mono fun u w2 ⟨y,k1,⟨k2,k3⟩,k4⟩=>⟨⟨y.1,y.2,k1,k2,k3.weaken eq.size⟩,k4⟩)) (VS.nil (fun w1 e1 h1=>?_)))))) rfl
 obtain ⟨a',c',hu,hne,ho⟩:=h1 3
 rw [hu]
 have hlw:=whC_len vs Z
 have hgo:=H.go t s w1 a' c' (whC vs Z) hBt (H.st t s w w1 hBt hJ e1.mod) hne ho.sl (fun q hq=>by have:=ho.ge q hq;omega) (by omega) (whC_sub hr)
 rw [hlw] at hgo
 have hX1:CfB w1 b2 b3 b5 g va vc vs g' Cv:=hX.mod e1 (fun h=>h) (fun h=>h) (fun h=>h) (fun _ _ _ h=>h)
 refine VL.callCY rfl (H.fn) rfl (hgo) fun u w9 ⟨hJ9,m9⟩=>oA rfl<|Vn<|Vt<|tB rfl rfl rfl (?_)
 exact ⟨(),rfl,⟨hJ9,hX1.mod m9 (fun h=>by have:=H.low _ h;omega) (fun h=>by have:=H.low _ h;omega) (fun h=>by have:=H.low _ h;omega) nv⟩,(e1.weaken fun _ _ h=>h.elim).then m9 fun _ _ h=>h⟩
theorem runF_map {σ:Type} {f:σ→List Int→σ×Bool} {h:List Int→List Int}:∀ {s:σ} {L:List (List Int)},runF f s (L.map h)=((runF (fun s R=>f s (h R)) s L).1,(runF (fun s R=>f s (h R)) s L).2.map h)
 | s,[]=>rfl
 | s,R :: L=>by
  have ih:=runF_map (f:=f) (h:=h) (s:=(f s (h R)).1) (L:=L)
  rw [List.map_cons]
  rw [show runF f s (h R :: L.map h)=if (f s (h R)).2=true then ((f s (h R)).1,some (h R)) else runF f (f s (h R)).1 (L.map h) from rfl,show runF (fun s R=>f s (h R)) s (R :: L)=if (f s (h R)).2=true then ((f s (h R)).1,some R) else runF (fun s R=>f s (h R)) (f s (h R)).1 L from rfl]
  by_cases q:(f s (h R)).2=true
  ·rw [if_pos q,if_pos q];rfl
  ·rw [if_neg q,if_neg q];exact ih
def repsW (g:Gr) (vs:List Int):List (List Int):=(repsG g).map (whC vs)
def resW:Option (List Int)→List Int
 | none=>[]
 | some R=>R
theorem resW_len (o:Option (List Int)):(resW o).length=resN o:=by cases o <;> rfl
theorem cfirst_spec {σ:Type} (f:σ→List Int→σ×Bool) (g':FuncId) (Cv:List Value) (J:Nat→σ→World→Prop) (T:Nat→Prop) (g:GrW) (va:Option Addr) (vc:Nat) (vs:List Int) (w w0:World) (H:HdC f g' Cv vs J T w.heap.size) (s:σ) (hG:GOk w0 g) (hl:GLen g) (hv:validG (grV g)=true) (hN:g.n=(vs.length:Int)) (hV:IntSl w0 va vs) (e0:Ext w0 w) (hT0:∀ q,T q→w0.heap.size≤q) (hJ:∀ t w',w.heap.size≤t→Ext w w'→J t s w') :
  RetsY prog 43 #[.agg (encCm g va vc vs).toArray,.func (.func g') #[] Cv.toArray] w (fun y:Option Addr×Nat=>.slice y.1 (resW (runF f s (repsW (grV g) vs)).2).length y.2) (fun y w'=>(∃ t,w.heap.size≤t∧J t (runF f s (repsW (grV g) vs)).1 w')∧Vc.Mod T w w'∧OwnT Vc.encI 1 3 w.heap.size w' y.1 y.2 (resW (runF f s (repsW (grV g) vs)).2)):=by
 have hcb:=costB_iff.1 (validG_iff.1 hv).1
 have hN4:(vs.length:Int)≤4000:=by have h0:g.n≤4000:=hcb.2.1;omega
 refine eN (args:=[_,_]) func43 rfl ntmps43 ?_
 refine Vs<|Vr<|VL.box (v:=.agg _) rfl fun b0_0 w0_0 hb0_0 e0_0 hB0_0=>VL.box (v:=.func _ _ _) rfl fun b0_1 w0_1 hb0_1 e0_1 hB0_1=>oT rfl<|Vn<|Vs<|Vr<|Vo (R.mkFn rfl rfl)<|VL.allocSt (v:=.func (.func 84) #[] #[pA b0_0]) zeroValue104 sizeOf104 rfl rfl rfl rfl rfl fun b1_1 w1_1 hb1_1 e1_1 hB1_1=>Vn<|Vs (?_)
 have E1:Ext w w1_1:=(e0_0.trans e0_1).trans e1_1
 have EG:=e0.trans E1
 have hX1:CfB w1_1 b0_0 b0_1 b1_1 g va vc vs g' Cv:=⟨(hB0_0.ext e0_1).ext e1_1,hB0_1.ext e1_1,hB1_1,TSl.ext hV EG⟩
 have z0:=e0_0.size;have z1:=e0_1.size;have z2:=e1_1.size
 have l0:=hX1.h2.lt;have l1:=hX1.h3.lt;have l5:=hX1.h5.lt
 have hva:∀ q,aBlk va q→0<vs.length→q<w0.heap.size:=fun q ⟨ad,ha,hq⟩ hp=>by
  have:=TSl.lt hV hp
  rw [ha] at this
  rw [←hq];exact this
 obtain ⟨r,hr⟩:∃ r,r=runF (fun s R=>f s (whC vs R)) s (repsG (grV g)):=⟨_,rfl⟩
 have hmap:runF f s (repsW (grV g) vs)=(r.1,r.2.map (whC vs)):=by rw [hr];exact runF_map
 have hres:resW (runF f s (repsW (grV g) vs)).2=whC vs (resW r.2):=by
  rw [hmap]
  cases r.2 <;> rfl
 have hset:∀ v∈resW r.2,0≤v∧v<(vs.length:Int):=by
  cases ho:r.2 with
  | none=>exact fun v hv=>nomatch hv
  | some Q =>
   rw [hr] at ho
   have:=(setB_iff.1 ((reps_mem hv).1 (runF_mem ho)).set).2
   intro v hv
   have h:=this v hv
   rw [show (grV g).n=g.n from rfl,hN] at h
   exact h
 have hlen:(resW r.2).length≤vs.length:=by
  cases ho:r.2 with
  | none=>exact Nat.zero_le _
  | some Q =>
   rw [hr] at ho
   have h1:=setB_iff.1 ((reps_mem hv).1 (runF_mem ho)).set
   have h2:=set_len h1.1 h1.2 (by show (0:Int)≤g.n;omega)
   have h3:(grV g).n=g.n:=rfl
   have h4:(resW (some Q)).length=Q.length:=rfl
   omega
 have hfirst:∀ x w5,AgB g vs.length w1_1 x w5→Ext w1_1 w5→RetsY prog 85 #[.pointer (some ⟨x.p,0,none⟩),.int .i64 ((0:Nat):Int),.func (.func 86) #[] #[pA b0_1,pA b1_1]] w5 (fun y:Option Addr×Nat=>.slice y.1 (resW r.2).length y.2)
   (fun y w6=>(w.heap.size≤x.tb∧J x.tb r.1 w6)∧Vc.Mod (fun q=>q=x.tb∨T q) w5 w6∧CfB w6 b0_0 b0_1 b1_1 g va vc vs g' Cv∧IntSl w6 y.1 (resW r.2)):=fun x w5 hx e5=>by
  have hxt:=hx.t
  have hBt:w.heap.size≤x.tb:=Nat.le_trans E1.size hx.t
  have nv:∀ q,0<vs.length→aBlk va q→¬T q:=fun q hp hq hT=>by
   have:=hva q hq hp;have:=hT0 q hT;omega
  have HH:HdsOk (fun s R=>f s (whC vs R)) 86 [pA b0_1,pA b1_1] vs.length (fun s w'=>(J x.tb s w'∧CfB w' b0_0 b0_1 b1_1 g va vc vs g' Cv)∧x.tb<w'.heap.size) T x.tb:=by
   refine ⟨call86,fun s w' a c Z ⟨⟨h1,h2⟩,h3⟩ hS _ _ hZl _ hZ=>?_,fun s w' w'' ⟨⟨h1,h2⟩,h3⟩ m=>⟨⟨H.st _ _ _ _ hBt h1 m,?_⟩,by have:=m.size;omega⟩⟩
   ·exact (hold2_spec f g' Cv vs J T w.heap.size H b0_0 b0_1 b1_1 x.tb g va vc s a c Z w' (by omega) hBt h3 h1 h2 ⟨by omega,by omega,by omega⟩ nv hS hZl hZ).mono fun u w2 ⟨i,k1,k2,k3⟩=>⟨i,k1,⟨k2,by have:=k3.size;omega⟩,k3⟩
   ·refine h2.mod m (fun (q:_=_)=>?_) (fun (q:_=_)=>?_) (fun (q:_=_)=>?_) (fun b hp hb (q:_=_)=>?_)
    ·omega
    ·omega
    ·omega
    ·have:=hva b hb hp;have:=e0.size;omega
  have hT5:=hx.agT (T:=T) e5 (fun q hq=>by have:=H.low q hq;have:=E1.size;omega) EG hG hT0
  have hrep:leavS (cLv (grV x.g)) vs.length (List.range' 0 vs.length) (List.replicate vs.length 0)=repsG (grV g):=by
   have:=leav_reps hv (n:=vs.length) hN
   rw [hx.g,←this]
   unfold zerS
   rw [show (grV g).n.toNat=vs.length by show g.n.toNat=_;omega]
  have hX5:=hX1.mod e5 (fun h=>h) (fun h=>h) (fun h=>h) (fun _ _ _ h=>h)
  have hlt:=hT5.ok.t.lt x.tb ⟨_,rfl,rfl⟩
  have hf:=first31_spec x vs.length hx.r _ _ _ _ T HH vs.length 0 (List.replicate vs.length 0) s w5 (Nat.zero_add _) (List.length_replicate) hT5 ⟨⟨hJ _ _ hBt (E1.trans e5),hX5⟩,hlt⟩ (fun q hq=>by have:=H.low q hq;have:=(E1.trans e5).size;omega) (fun u _ hu=>by
   unfold stA
   rw [Int.toNat_natCast,List.getD,List.getElem?_replicate,if_pos hu];rfl)
  rw [hrep,←hr] at hf
  refine hf.mono fun u w6 ⟨y,k1,k2⟩=>⟨y,by rw [k1,resW_len],⟨hBt,k2.j.1.1⟩,k2.m,k2.j.1.2,?_⟩
  cases ho:r.2 with
  | none=>rw [k2.no ho];exact TSl.nil _ _ _ _
  | some Q=>exact OwnT.sl (k2.so Q ho)
 refine Vr<|Vo (R.fld' (o:=0) runUnderlying72 rfl rfl sz25 rfl rfl)<|Vo (R.ldA ag25 sz25 rfl rfl (show RowAt _ _ _ (encGr g) from hX1.h2.rowAt 0 3) rfl)<|VL.callX call67 rfl (begin31_spec g vs.length w1_1 (hG.ext EG) hl hv hN) fun x w5 hx e5=>Vo (R.mkFn rfl rfl)<|VL.callY call85 rfl (hfirst x w5 hx e5) fun y w6 hy=>oT rfl<|Vn<|Vs (?_)
 obtain ⟨⟨ht,hj⟩,m6,hX6,hS6⟩:=hy
 have hw:=whole_spec b0_0 g va vc vs y.1 y.2 (resW r.2) w6 hX6.h2 hX6.v (by omega) hS6 (by omega) hset
 refine Vr<|Vo (rla isAgg104 rfl (show _=some (Value.func (.func 84) #[] #[pA b0_0]) from hX6.h5.cell 0))<|oS rfl<|VL.callCY rfl (call84) rfl (hw) fun z w7 ⟨hz,e7⟩=>oT rfl<|Vn<|Vt (fret1 (v:=.slice _ _ _) rfl rfl rfl (?_))
 rw [hres]
 have M:Vc.Mod T w w7:=(((E1.trans e5).weaken fun _ _ h=>h.elim).then m6 fun q hq h=>h.elim (fun e=>by omega) id).ext e7
 have hz6:w.heap.size≤w6.heap.size:=Nat.le_trans (E1.trans e5).size m6.size
 refine ⟨z,by rw [whC_len],⟨x.tb,ht,?_⟩,M,hz.2.weaken hz6⟩
 rw [hmap]
 exact H.st _ _ _ _ ht hj e7.mod
theorem compsL31 {g:Gr} (hg:validG g=true):(compsG g).length≤4000∧∀ c∈compsG g,c.length≤4000:=by
 have hn:=costB_iff.1 (validG_iff.1 hg).1
 have h0:g.n≤4000:=hn.2.1
 constructor
 ·unfold compsG
  rw [if_pos hg,grpsK_len]
  have:=hdsK_len (compE g.edges) g.n.toNat
  omega
 ·intro c hc
  have h1:=setB_iff.1 (comps_set hg hc)
  have:=set_len h1.1 h1.2 (by omega)
  omega
theorem glen31 {w w':World} {g:GrW} (h:GNew w w' g) (hv:validG (grV g)=true):GLen g:=by
 obtain ⟨h1,h2,h3,_⟩:=validG_iff.1 hv
 have hc:=costB_iff.1 h1
 exact h.glen rfl (by have h0:(grV g).n≤4000:=hc.2.1;have h4:=hc.2.2.1;omega) (by omega) (List.all_eq_true.2 fun e he=>decide_eq_true (h3 e he).1)
structure CmI where
 g:GrW
 vs:SlI
instance:Inhabited CmI:=⟨⟨default,⟨none,0,[]⟩⟩⟩
def encCmI (y:CmI):List Value:=encCm y.g y.vs.a y.vs.c y.vs.l
structure CmOk (w:World) (y:CmI):Prop where
 g:GOk w y.g
 t:GTy w y.g
 l:GLen y.g
 v:IntSl w y.vs.a y.vs.l
 vt:TyA w y.vs.a 3
theorem CmOk.ext {w w':World} {y:CmI} (h:CmOk w y) (e:Ext w w'):CmOk w' y:=⟨h.g.ext e,h.t.ext e,h.l,h.v.ext e,h.vt.ext e⟩
theorem CmOk.keep {w w':World} {y:CmI} {a:Option Addr} (h:CmOk w y) (ht:TyA w a 72) (m:Vc.Mod (aBlk a) w w'):CmOk w' y:=by
 have key:∀ {b:Option Addr} {T:TypeId},TyA w b T→T≠72→∀ ad,b=some ad→¬aBlk a ad.block:=fun hT hne ad ha hk=>by
  obtain ⟨ad2,h2,h3⟩:=hk
  obtain ⟨c,z,hb⟩:=ht ad2 h2
  rw [h3] at hb
  exact hT.apart hb hne ⟨ad,ha,rfl⟩
 have key2:∀ {b:Option Addr} {T:TypeId},TyA w b T→T≠72→∀ k,aBlk b k→¬aBlk a k:=fun hT hne k ⟨ad,ha,hk⟩=>hk▸key hT hne ad ha
 refine ⟨⟨TSl.mod h.g.c m (key h.t.c (by decide)),⟨TSl.mod h.g.e.sl m (key h.t.e (by decide)),fun x hx=>TSl.mod (h.g.e.each x hx) m (key (h.t.each x hx) (by decide))⟩⟩,⟨h.t.c.mod m (key2 h.t.c (by decide)),h.t.e.mod m (key2 h.t.e (by decide)),fun x hx=>(h.t.each x hx).mod m (key2 (h.t.each x hx) (by decide))⟩,h.l,TSl.mod h.v m (key h.vt (by decide)),h.vt.mod m (key2 h.vt (by decide))⟩
def cmsK (g:Gr) (k:Nat):List (Gr×List Int):=((compsG g).take k).map fun c=>(partG g c,c)
theorem cmsK_succ {g:Gr} {k:Nat} (h:k<(compsG g).length):cmsK g (k+1)=cmsK g k++[(partG g ((compsG g).getD k default),(compsG g).getD k default)]:=by
 unfold cmsK
 rw [List.take_succ_eq_append_getElem h,List.map_append,gget h];rfl
def cmV (y:CmI):Gr×List Int:=(grV y.g,y.vs.l)
structure CmL (B:Nat) (w:World) (a:Option Addr) (c:Nat) (L:List CmI):Prop where
 own:OwnT encCmI 4 72 B w a c L
 each:∀ y∈L,CmOk w y
theorem CmL.ext {B:Nat} {w w':World} {a:Option Addr} {c:Nat} {L:List CmI} (h:CmL B w a c L) (e:Ext w w'):CmL B w' a c L:=⟨h.own.ext e,fun y hy=>(h.each y hy).ext e⟩
theorem comps31_spec (g:GrW) (B:Nat) (w:World) (hG:GOk w g) (hl:GLen g) (hv:validG (grV g)=true) (hB:B≤w.heap.size) (hT:TabW B w) :
  RetsX prog 42 #[.agg (encGr g).toArray] w (fun x:Option Addr×Nat×List CmI=>.slice x.1 x.2.2.length x.2.1)
   (fun x w'=>CmL w.heap.size w' x.1 x.2.1 x.2.2∧x.2.2.map cmV=(compsG (grV g)).map fun c=>(partG (grV g) c,c)):=by
 refine eN (args:=[_]) func42 rfl ntmps42 ?_
 refine Vs<|Vr<|VL.box (v:=.agg _) rfl fun b0_0 w0_0 hb0_0 e0_0 hB0_0=>oT rfl<|Vn<|Vs<|Vr<|oT rfl<|Vn<|Vs<|Vs<|Vr<|Vo (R.ldA ag25 sz25 rfl rfl (show RowAt _ _ _ (encGr g) from (hB0_0.rowAt 0 3)) rfl)<|VL.callX call24 rfl (comps_specG g B _ (hG.ext e0_0) hl (Nat.le_trans hB (e0_0).size) (hT.ext hB e0_0)) fun z w3 ⟨hz,hL⟩ e3=>Vo (R.lenS ru23 rfl)<|oI rfl<|Vn<|Vb (?_)
 obtain ⟨hcl,hce⟩:=compsL31 hv
 have hzl:z.1.length=(compsG (grV g)).length:=by rw [←hz,List.length_map]
 have E3:=e0_0.trans e3
 have hX3:=hB0_0.ext e3
 refine Vl [1,3,9,10,11] (fun x:Nat×Option Addr×Nat×List CmI=>[pA b0_0,.slice x.2.1 x.2.2.2.length x.2.2.1,.slice z.2.1 z.1.length z.2.2,.int .i64 (z.1.length:Nat),.int .i64 (x.1:Nat)])
  (fun x w'=>x.1≤z.1.length∧CmL w3.heap.size w' x.2.1 x.2.2.1 x.2.2.2∧x.2.2.2.map cmV=cmsK (grV g) x.1∧Ext w3 w') (fun x=>z.1.length-x.1) (0,none,0,[]) rfl ⟨Nat.zero_le _,⟨OwnT.nil _ _ _ _ _,fun _ h=>nomatch h⟩,rfl,Vc.Mod.refl _ _⟩ ?_
 rintro ρ ⟨k,a7,c7,L7⟩ w5 ⟨hk,ho,hL7,e5⟩
 dsimp only at hk ho hL7 e5 ⊢
 have hX5:=hX3.ext e5
 have hL5:=hL.ext e5
 have E5:=E3.trans e5
 have hln:L7.length=k:=by have:=congrArg List.length hL7;unfold cmsK at this;rw [List.length_map,List.length_map,List.length_take] at this;omega
 refine Vs<|Vr<|oL rfl rfl<|Vn<|Vs<|Vd rfl (fun c12=>Vk<|Vs<|Vb<|Vs (?_)) (fun c12=>Ve<|Vs (?_))
 ·have hkl:k<z.1.length:=by omega
  have hck:(compsG (grV g)).getD k default=(z.1.getD k default).l:=by rw [←hz];exact vals_at hkl
  have hcm:(z.1.getD k default).l∈compsG (grV g):=by rw [←hck];exact gmem (by omega)
  have hc40:=hce _ hcm
  have hset:=comps_set hv hcm
  have hpv:=part_valid hv hset
  have hzk:=hL5.each k
  refine Vr<|Vo (iX ru23 sz22 rfl rfl (hL5.own.sl.some (i:=k) hkl))<|Vo (rla ag22 rfl ((hL5.own.sl.row (i:=k) hkl).c0a rfl))<|oT rfl<|Vn<|Vs<|Vr<|Vo (R.ldA ag25 sz25 rfl rfl (show RowAt _ _ _ (encGr g) from hX5.rowAt 0 3) rfl)<|oS rfl<|VL.callX call25 rfl (part_spec g (z.1.getD k default).a (z.1.getD k default).c (z.1.getD k default).l B w5 (hG.ext E5) hl hzk.sl (by omega) (Nat.le_trans hB E5.size) (hT.ext hB E5)) fun y w10 h10 e10=>Vo (R.mvT rfl)<|Vo (R.extr rfl rfl)<|Vo (R.extr rfl rfl)<|VL.allocSt (v:=.agg (encGr y.1).toArray) zv25 sz25 rfl rfl rfl rfl rfl fun b5_6 w5_6 hb5_6 e5_6 hB5_6=>oJ rfl<|Vn (?_)
  obtain ⟨hy,hN,hY⟩:=h10
  have hpf:partF (grV g) (z.1.getD k default).l=(partG (grV g) (z.1.getD k default).l,0):=by
   unfold partF;rw [if_pos ⟨hv,hset⟩]
  rw [hpf] at hy
  have hgv:grV y.1=partG (grV g) (z.1.getD k default).l:=congrArg Prod.fst hy
  have hvy:validG (grV y.1)=true:=by rw [hgv];exact hpv
  have hnx:cmsK (grV g) (k+1)=cmsK (grV g) k++[cmV ⟨y.1,z.1.getD k default⟩]:=by
   rw [cmsK_succ (by omega),hck]
   unfold cmV
   rw [hgv]
  have e56:=e10.trans e5_6
  refine Vr<|oS rfl<|Vo (R.ldA ag25 sz25 rfl rfl (show RowAt _ _ _ (encGr y.1) from hB5_6.rowAt 0 3) rfl)<|oS rfl<|Vo (R.build zv72 runUnderlying72 pl72 rfl)<|VL.append1 el69 ru69 sz72 zv72 rfl (⟨y.1,z.1.getD k default⟩:CmI) rfl rfl rfl (ho.own.ext e56) rfl rfl rfl (by omega) (by unfold maxLen;omega) (e5.trans e56).size fun a9 c9 w9 vt9 ho9 m9 hf9=>oT rfl<|Vn<|Vr<|oD rfl rfl<|oI rfl<|Vn (?_)
  have hown:=ho.own.ext e56
  have htA:=OwnT.tyA hown
  refine ⟨(k+1,a9,c9,L7++[⟨y.1,z.1.getD k default⟩]),by dsimp only;rw [List.length_append];rfl,⟨by dsimp only;omega,⟨ho9,fun y' hy'=>?_⟩,by dsimp only;rw [hnx,List.map_append,hL7];rfl,(e5.trans e56).ownA m9 fun q hq=>hown.ge q hq⟩,by dsimp only;omega⟩
  dsimp only at hy'
  rcases List.mem_append.1 hy' with h | h
  ·exact ((ho.each y' h).ext e56).keep htA m9
  ·rw [List.mem_singleton] at h
   subst h
   exact (CmOk.mk (hN.ok.ext e5_6) (hY.ext e5_6) (glen31 hN hvy) (hzk.sl.ext e56) (OwnT.tyA (hzk.ext e56))).keep htA m9
 ·have hke:k=z.1.length:=by omega
  subst hke
  refine Vr<|oS rfl<|oT rfl<|Vn<|Vt (fret1 (v:=.slice _ _ _) rfl rfl rfl (?_))
  have z3:=E3.size
  refine ⟨(a7,c7,L7),rfl,⟨⟨ho.own.weaken z3,ho.each⟩,?_⟩,E5⟩
  dsimp only
  rw [hL7,hzl]
  unfold cmsK
  rw [List.take_length]
end Go.Proofs.YtdkhcipjenfcnaaGreatDoor
