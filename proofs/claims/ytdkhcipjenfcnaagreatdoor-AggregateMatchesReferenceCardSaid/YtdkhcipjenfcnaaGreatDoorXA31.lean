/- Aggregate: the proof of a bound as it is written. -/
import Derived.Test.YtdkhcipjenfcnaaGreatDoorXA24
import Derived.Test.YtdkhcipjenfcnaaGreatDoorXVcTct
namespace Go.Proofs.YtdkhcipjenfcnaaGreatDoor
open Go.Proofs.Tryz
set_option maxRecDepth 100000
set_option maxHeartbeats 16000000
open Go.Vc
def encS4 (x:St4):List Value:=[.int .i64 x.k,.int .i64 x.a,.int .i64 x.i,.int .i64 x.o]
theorem eltS4:Elt encS4 4:=⟨fun _=>rfl,fun _=>rfl,by decide⟩
def fnB (up:Bool):FuncId:=if up=true then 76 else 74
def fnG (up:Bool):FuncId:=if up=true then 77 else 75
theorem fnB_is (up:Bool):IsFn prog (fnB up):=by
 unfold fnB
 cases up
 ·exact call74
 ·exact call76
theorem fnG_is (up:Bool):IsFn prog (fnG up):=by
 unfold fnG
 cases up
 ·exact call75
 ·exact call77
theorem fnB_spec (up:Bool) (x:Int) (w:World):RetsP prog (fnB up) #[.int .i64 x] w (.int .i64 (bestW up x)):=by
 unfold fnB
 cases up
 ·exact low1_spec x w
 ·exact up1_spec x w
theorem fnG_spec (up:Bool) (x l:Int) (w:World):RetsP prog (fnG up) #[.int .i64 x,.int .i64 l] w (.bool (goodA up l x)):=by
 unfold fnG
 cases up
 ·exact low2_spec x l w
 ·exact up2_spec x l w
theorem encBd_fn (up:Bool) (l:Int):encBd up l=[.int .i64 l,.func (.func (fnB up)) #[] #[],.func (.func (fnG up)) #[] #[]]:=by
 unfold encBd fnB fnG;cases up <;> rfl
structure ViX where
 x:AgX
 N:Nat
 b2:Nat
 b3:Nat
 b4:Nat
 b5:Nat
 b6:Nat
 b7:Nat
 up:Bool
 lim:Int
 oa:Option Addr
 oc:Nat
 O:List Nat
 wa:Option Addr
 wc:Nat
 ws:List Int
 U:Nat
def ViX.T (y:ViX) (q:Nat):Prop:=q=y.b2∨y.U≤q
def ViX.F (y:ViX) (q:Nat):Prop:=q=y.x.tb∨y.T q
def ViX.caps (y:ViX):List Value:=[.pointer (some ⟨y.b2,0,none⟩),.pointer (some ⟨y.b3,0,none⟩),.pointer (some ⟨y.b4,0,none⟩),.pointer (some ⟨y.b5,0,none⟩),.pointer (some ⟨y.b6,0,none⟩),.pointer (some ⟨y.b7,0,none⟩)]
def ViX.c (y:ViX):AggC:=⟨y.x.g.n,vals y.x.g.edges,y.ws,y.up,y.lim,[]⟩
def ViX.Oi (y:ViX):List Int:=y.O.map fun v=>((v:Nat):Int)
structure ViR (y:ViX) (w:World):Prop where
 b3:Blk w y.b3 (.cells #[.int .i64 y.lim,.func (.func (fnB y.up)) #[] #[],.func (.func (fnG y.up)) #[] #[]] 64 (0,0))
 b4:Blk w y.b4 (.cells #[.slice y.oa y.Oi.length y.oc] 22 (0,0))
 o:IntSl w y.oa y.Oi
 b5:Blk w y.b5 (.cells #[.slice y.wa y.ws.length y.wc] 22 (0,0))
 v:IntSl w y.wa y.ws
 b6:PtG w y.b6 y.x
 b7:Blk w y.b7 (.cells #[.func (.func 71) #[] y.caps.toArray] 98 (0,0))
structure ViS (y:ViX):Prop where
 b2:y.b2<y.U∧y.b2≠y.x.tb
 b3:¬y.F y.b3
 b4:¬y.F y.b4
 b5:¬y.F y.b5
 b6:¬y.F y.b6
 b7:¬y.F y.b7
 o:∀ q,0<y.Oi.length→aBlk y.oa q→¬y.F q
 v:∀ q,0<y.ws.length→aBlk y.wa q→¬y.F q
 tb:y.x.tb<y.U
 R:AgR y.x y.N
 wl:y.ws.length=y.N
 wb:∀ x∈y.ws,-1000000000≤x∧x≤1000000000
 ol:y.O.length=y.N
 on:y.O.Nodup
 ob:∀ v∈y.O,v<y.N
theorem ViR.mod {y:ViX} {w w':World} {S:Nat→Prop} (h:ViR y w) (hs:ViS y) (m:Vc.Mod S w w') (hS:∀ q,S q→y.F q):ViR y w' :=
 ⟨h.b3.mod m fun q=>hs.b3 (hS _ q),h.b4.mod m fun q=>hs.b4 (hS _ q),modP h.o m fun q hp hq k=>hs.o q hp hq (hS _ k),h.b5.mod m fun q=>hs.b5 (hS _ q),modP h.v m fun q hp hq k=>hs.v q hp hq (hS _ k),h.b6.mod m fun q=>hs.b6 (hS _ q),h.b7.mod m fun q=>hs.b7 (hS _ q)⟩
structure ViOk (y:ViX) (w:World) (st:List Int) (S:List St4) (sa:Option Addr) (sc:Nat):Prop where
 a:AgT y.x y.T w st
 r:ViR y w
 b:Blk w y.b2 (.cells #[.slice sa S.length sc] 28 (0,0))
 s:OwnT encS4 4 100 y.U w sa sc S
 u:y.U≤w.heap.size
theorem ViOk.ext {y:ViX} {w w':World} {st:List Int} {S:List St4} {sa:Option Addr} {sc:Nat} (h:ViOk y w st S sa sc) (hs:ViS y) (e:Ext w w'):ViOk y w' st S sa sc:=⟨h.a.ext e,h.r.mod hs e fun _ q=>q.elim,h.b.ext e,h.s.ext e,Nat.le_trans h.u e.size⟩
theorem ViOk.turn {y:ViX} {w w':World} {st st':List Int} {S:List St4} {sa:Option Addr} {sc:Nat} (h:ViOk y w st S sa sc) (hs:ViS y) (m:Vc.Mod (aBlk (some ⟨y.x.tb,0,none⟩)) w w') (ht:OwnT Vc.encI 1 3 0 w' (some ⟨y.x.tb,0,none⟩) st.length st') (hl:st'.length=st.length):ViOk y w' st' S sa sc∧Vc.Mod y.F w w':=by
 have m1:Vc.Mod (Vc.one y.x.tb) w w':=m.weaken fun q _ hq=>aBlk_some hq
 have htb:=hs.tb
 have hb2:=hs.b2
 refine ⟨⟨h.a.turn m1 ht hl,h.r.mod hs m1 fun q (hq:q=_)=>.inl hq,h.b.mod m1 fun (hq:_=_)=>hb2.2 hq,h.s.mod m1 fun q hq (e:_=_)=>?_,Nat.le_trans h.u m1.size⟩,m1.weaken fun q _ (hq:q=_)=>.inl hq⟩
 have:=h.s.ge q hq
 omega
theorem ViOk.put {y:ViX} {w w9 w10:World} {st:List Int} {S S':List St4} {sa a9:Option Addr} {sc c9:Nat} (h:ViOk y w st S sa sc) (hs:ViS y) (m9:Vc.Mod (aBlk sa) w w9) (ho9:OwnT encS4 4 100 y.U w9 a9 c9 S') (m10:Vc.Mod (Vc.one y.b2) w9 w10) (hB:Blk w10 y.b2 (.cells #[.slice a9 S'.length c9] 28 (0,0))):ViOk y w10 st S' a9 c9∧Vc.Mod y.F w w10:=by
 have hb2:=hs.b2
 have M:Vc.Mod y.T w w10:=(m9.weaken fun q _ hq=>(.inr (h.s.ge q hq):y.T q)).then m10 fun q _ (hq:q=_)=>.inl hq
 refine ⟨⟨h.a.modT M,h.r.mod hs M fun q hq=>.inr hq,hB,ho9.mod m10 fun q hq (e:_=_)=>?_,Nat.le_trans h.u M.size⟩,M.weaken fun q _ hq=>.inr hq⟩
 have:=ho9.ge q hq
 omega
theorem ViOk.mend {y:ViX} {w w9:World} {st:List Int} {S S':List St4} {sa:Option Addr} {sc:Nat} (h:ViOk y w st S sa sc) (hs:ViS y) (m9:Vc.Mod (aBlk sa) w w9) (ho9:OwnT encS4 4 100 y.U w9 sa sc S') (hl:S'.length=S.length):ViOk y w9 st S' sa sc∧Vc.Mod y.F w w9:=by
 have hb2:=hs.b2
 have M:Vc.Mod y.T w w9:=m9.weaken fun q _ hq=>(.inr (h.s.ge q hq):y.T q)
 refine ⟨⟨h.a.modT M,h.r.mod hs M fun q hq=>.inr hq,?_,ho9,Nat.le_trans h.u M.size⟩,M.weaken fun q _ hq=>.inr hq⟩
 rw [hl]
 refine h.b.mod m9 fun hq=>?_
 have:=h.s.ge _ hq
 omega
theorem sumA_bnd {up:Bool} {ws s:List Int} (hb:∀ x∈ws,-1000000000≤x∧x≤1000000000):∀ n:Nat,-(1000000000*(n:Int))≤sumA up ws s n∧sumA up ws s n≤1000000000*(n:Int)
 | 0=>⟨Int.le_refl _,Int.le_refl _⟩
 | n+1=>by
  have ih:=sumA_bnd (up:=up) (s:=s) hb n
  have hs:sumA up ws s (n+1)=sumA up ws s n+putW up ws s ((n:Nat):Int):=by
   unfold sumA
   rw [List.range_succ,List.map_append,List.map_singleton]
   exact sm_snoc _ _
  have hw:-1000000000≤wtF ws ((n:Nat):Int)∧wtF ws ((n:Nat):Int)≤1000000000:=by
   unfold wtF
   rw [Int.toNat_natCast]
   by_cases h:n<ws.length
   ·exact hb _ (gmem h)
   ·rw [show ws.getD n default=0 by rw [List.getD,List.getElem?_eq_none (Nat.le_of_not_lt h)];rfl];decide
  have hp:-1000000000≤putW up ws s ((n:Nat):Int)∧putW up ws s ((n:Nat):Int)≤1000000000:=by
   unfold putW bestW
   split
   ·exact hw
   ·split
    ·decide
    ·split <;> omega
  rw [hs]
  omega
theorem aggS_some {c:AggC} {M:Nat} {O:List Nat} {l:Int} {s:List Int} {S:List St4} {x:St4} (h:cfS c s l=some x):aggS c M O l s S=.proof (S++[x]):=by
 unfold aggS;rw [h]
theorem aggS_full {c:AggC} {M:Nat} {O:List Nat} {l:Int} {s:List Int} {S:List St4} (h:cfS c s l=none) (hM:M<S.length):aggS c M O l s S=.full:=by
 unfold aggS;rw [h];dsimp only;rw [if_pos hM]
theorem aggS_good {c:AggC} {M:Nat} {O:List Nat} {l:Int} {s:List Int} {S:List St4} (h:cfS c s l=none) (hM:¬M<S.length) (hg:goodA c.up c.lim (sumA c.up c.ws s c.n.toNat)=true):aggS c M O l s S=.proof (S++[⟨6,0,0,0⟩]):=by
 unfold aggS;rw [h];dsimp only;rw [if_neg hM,if_pos hg]
theorem aggS_nil {c:AggC} {M:Nat} {l:Int} {s:List Int} {S:List St4} (h:cfS c s l=none) (hM:¬M<S.length) (hg:goodA c.up c.lim (sumA c.up c.ws s c.n.toNat)=false):aggS c M [] l s S=.found s:=by
 unfold aggS;rw [h];dsimp only;rw [if_neg hM,if_neg (by rw [hg];decide)]
theorem aggS_cons {c:AggC} {M:Nat} {v:Nat} {O:List Nat} {l:Int} {s:List Int} {S:List St4} (h:cfS c s l=none) (hM:¬M<S.length) (hg:goodA c.up c.lim (sumA c.up c.ws s c.n.toNat)=false) :
  aggS c M (v :: O) l s S=match aggS c M O (v:Int) (s.set v 1) (S++[⟨1,(v:Int),(S.length:Int)+1,0⟩]) with
   | .proof S1=>aggS c M O (v:Int) (s.set v 2) (S1.set S.length { S1.getD S.length default with o:=(S1.length:Int) })
   | r=>r:=by
 rw [aggS,h];dsimp only;rw [if_neg hM,if_neg (by rw [hg];decide)]
 cases aggS c M O (v:Int) (s.set v 1) (S++[⟨1,(v:Int),(S.length:Int)+1,0⟩]) <;> rfl
structure VisR (y:ViX) (st:List Int) (S:List St4) (d:Nat) (r:Srch) (w:World) (z:List St4×Option Addr×Nat) (w':World):Prop where
 ok:ViOk y w' st z.1 z.2.1 z.2.2
 m:Vc.Mod y.F w w'
 up:z.1.length≤max S.length (100002+d)
 lo:S.length≤z.1.length
 p:∀ S2,r=.proof S2→z.1=S2
 f:r=.full→100000<z.1.length
theorem visit0_spec (y:ViX) (hs:ViS y) (d k:Nat) (O:List Nat) (st:List Int) (S:List St4) (sa:Option Addr) (sc:Nat) (l:Int) (w:World) (h:ViOk y w st S sa sc) (hSl:S.length≤200000) (hcf:cfS y.c st l=none) (hstop:100000<S.length∨goodA y.up y.lim (sumA y.up y.ws st y.N)=true) :
  RetsY prog 71 #[.int .i64 (k:Nat),.int .i64 (sumA y.up y.ws st y.N),.pointer (some ⟨y.b2,0,none⟩),.pointer (some ⟨y.b3,0,none⟩),.pointer (some ⟨y.b4,0,none⟩),.pointer (some ⟨y.b5,0,none⟩),.pointer (some ⟨y.b6,0,none⟩),.pointer (some ⟨y.b7,0,none⟩)] w (fun _:List St4×Option Addr×Nat=>.tuple #[]) (VisR y st S d (aggS y.c 100000 O l st S) w):=by
 have hxn:=hs.R.n
 have hcn:y.c.n.toNat=y.N:=by show y.x.g.n.toNat=_;omega
 refine eN (args:=[_,_,_,_,_,_,_,_]) func71 rfl ntmps71 ?_
 have hoff:¬aBlk sa y.b2:=fun q=>by have:=h.s.ge _ q;have:=hs.b2;omega
 refine Vs<|Vr<|Vo (rla ag28 rfl (show _=some (Value.slice sa S.length sc) from h.b.cell 0))<|Vo (R.lenS ru28 rfl)<|oJ rfl<|Vn<|Vs<|Vs<|Vr<|oI rfl<|Vo (R.gtr rfl rfl)<|Vn<|Vd rfl (fun c18=>Vt (fret0 rfl (?_))) (fun c18=>Vk<|Vs<|Vs<|Vr<|Vo (R.fld' (o:=2) ru64 rfl rfl sizeOf62 rfl rfl)<|Vo (rla isAgg62 rfl (show _=some (Value.func (.func (fnG y.up)) #[] #[]) from h.r.b3.cell 2))<|oI rfl<|Vo (R.fld' (o:=0) ru64 rfl rfl sz3 rfl rfl)<|Vo (rla ag3 rfl (show _=some (Value.int .i64 y.lim) from h.r.b3.cell 0))<|VL.callCP rfl (fnG_is y.up) rfl (fnG_spec y.up (sumA y.up y.ws st y.N) y.lim _) fun w2_5 e2_5=>Vn<|Vh rfl (fun c24=>Vs (?_)) (fun c24=>Vk<|Vs (?_)))
 ·have hf:100000<S.length:=by omega
  exact ⟨(S,sa,sc),rfl,h,Vc.Mod.refl _ _,by dsimp only;omega,Nat.le_refl _,fun S2 e=>(by rw [aggS_full hcf hf] at e;cases e),fun _=>hf⟩
 ·have hf:¬100000<S.length:=by omega
  have hg:goodA y.up y.lim (sumA y.up y.ws st y.N)=true:=by assumption
  have h5:=h.ext hs e2_5
  refine Vr<|Vo (rla ag28 rfl (show _=some (Value.slice sa S.length sc) from h5.b.cell 0))<|Vo (R.build zv100 ru100 pl100 rfl)<|VL.append1 el28 ru28 sz100 zv100 rfl (⟨6,0,0,0⟩:St4) rfl rfl rfl h5.s rfl rfl rfl (by omega) (by unfold maxLen;omega) h5.u fun a9 c9 w9 vt9 ho9 m9 hf9=>VL.store (v:=.slice _ _ _) sz28 rfl rfl rfl rfl (h5.b.mod m9 hoff) rfl rfl fun w10 m10 hs10 hB10=>Vn<|Vt (fret0 rfl (?_))
  obtain ⟨k1,k2⟩:=h5.put hs m9 ho9 m10 (by rw [List.length_append];exact hB10)
  have hag:=aggS_good (M:=100000) (O:=O) hcf hf (by rw [hcn];exact hg)
  exact ⟨(S++[⟨6,0,0,0⟩],a9,c9),rfl,k1,(e2_5.weaken fun _ _ h=>h.elim).then k2 fun _ _ h=>h,by dsimp only;rw [List.length_append,List.length_singleton];omega,by dsimp only;rw [List.length_append];omega,fun S2 e=>(by rw [hag] at e;injection e),fun e=>(by rw [hag] at e;cases e)⟩
 ·exfalso
  rcases hstop with q | q
  ·omega
  ·simp_all
theorem visit31_spec (y:ViX) (hs:ViS y):∀ (m k:Nat) (st:List Int) (S:List St4) (sa:Option Addr) (sc:Nat) (l:Int) (w:World),k+m=y.N→ViOk y w st S sa sc→st.length=y.N→S.length≤200000→(∀ v∈y.O.drop k,stA st ((v:Nat):Int)=0)→cfS y.c st l=none→(∀ s',aggS y.c 100000 (y.O.drop k) l st S≠.found s') →
  RetsY prog 71 #[.int .i64 (k:Nat),.int .i64 (sumA y.up y.ws st y.N),.pointer (some ⟨y.b2,0,none⟩),.pointer (some ⟨y.b3,0,none⟩),.pointer (some ⟨y.b4,0,none⟩),.pointer (some ⟨y.b5,0,none⟩),.pointer (some ⟨y.b6,0,none⟩),.pointer (some ⟨y.b7,0,none⟩)] w (fun _:List St4×Option Addr×Nat=>.tuple #[]) (VisR y st S m (aggS y.c 100000 (y.O.drop k) l st S) w):=by
 have hR:=hs.R
 have hN4:=hR.N4
 have hxn:=hR.n
 have hcn:y.c.n.toNat=y.N:=by show y.x.g.n.toNat=_;omega
 intro m
 induction m with
 | zero =>
  intro k st S sa sc l w hk h hst hSl h0 hcf hnf
  have hdrop:y.O.drop k=[]:=List.drop_eq_nil_of_le (by have:=hs.ol;omega)
  rw [hdrop] at hnf ⊢
  refine visit0_spec y hs 0 k [] st S sa sc l w h hSl hcf ?_
  refine Classical.byContradiction fun hc=>?_
  rw [not_or] at hc
  have hg:goodA y.up y.lim (sumA y.up y.ws st y.N)=false:=by simpa using hc.2
  exact hnf st (aggS_nil hcf hc.1 (by rw [hcn];exact hg))
 | succ m ih =>
  intro k st S sa sc l w hk h hst hSl h0 hcf hnf
  by_cases hstop:100000<S.length∨goodA y.up y.lim (sumA y.up y.ws st y.N)=true
  ·exact visit0_spec y hs (m+1) k _ st S sa sc l w h hSl hcf hstop
  rw [not_or] at hstop
  obtain ⟨hfull,hgood⟩:=hstop
  have hgood:goodA y.up y.lim (sumA y.up y.ws st y.N)=false:=by simpa using hgood
  have hol:=hs.ol
  have hkO:k<y.O.length:=by omega
  obtain ⟨v,hv⟩:∃ v,v=y.O[k]:=⟨_,rfl⟩
  have hdrop:y.O.drop k=v :: y.O.drop (k+1):=by rw [hv];exact List.drop_eq_getElem_cons hkO
  have hvN:v<y.N:=hs.ob v (by rw [hv];exact List.getElem_mem _)
  have hOl:y.Oi.length=y.N:=by unfold ViX.Oi;rw [List.length_map];exact hol
  have hkl:k<y.Oi.length:=by omega
  have hOv:y.Oi.getD k default=(v:Int):=by
   unfold ViX.Oi
   rw [List.getD,List.getElem?_eq_getElem (by rw [List.length_map];exact hkO),List.getElem_map,←hv];rfl
  have hz0:stA st (v:Int)=0:=h0 v (by rw [hdrop];exact List.mem_cons_self)
  have hnd:(v :: y.O.drop (k+1)).Nodup:=by rw [←hdrop];exact hs.on.sublist (List.drop_sublist _ _)
  have hvn:v∉y.O.drop (k+1):=(List.nodup_cons.1 hnd).1
  rw [hdrop] at hnf ⊢
  have hagg:=aggS_cons (v:=v) (O:=y.O.drop (k+1)) hcf hfull (by rw [hcn];exact hgood)
  have hsb:=sumA_bnd (up:=y.up) (s:=st) hs.wb y.N
  have hwl:=hs.wl
  have hws:-1000000000≤wtF y.ws (v:Int)∧wtF y.ws (v:Int)≤1000000000:=by
   unfold wtF;rw [Int.toNat_natCast];exact hs.wb _ (gmem (by omega))
  have hbw:-1000000000≤bestW y.up (wtF y.ws (v:Int))∧bestW y.up (wtF y.ws (v:Int))≤1000000000:=by
   unfold bestW;split <;> omega
  have hoff:∀ {w:World} {st:List Int} {S:List St4} {sa:Option Addr} {sc:Nat},ViOk y w st S sa sc→¬aBlk sa y.b2:=fun h q=>by have:=h.s.ge _ q;have:=hs.b2;omega
  refine eN (args:=[_,_,_,_,_,_,_,_]) func71 rfl ntmps71 ?_
  refine Vs<|Vr<|Vo (rla ag28 rfl (show _=some (Value.slice sa S.length sc) from h.b.cell 0))<|Vo (R.lenS ru28 rfl)<|oJ rfl<|Vn<|Vs<|Vs<|Vr<|oI rfl<|Vo (R.gtr rfl rfl)<|Vn<|Vd rfl (fun c18=>Vt (fret0 rfl (?_))) (fun c18=>Vk<|Vs<|Vs<|Vr<|Vo (R.fld' (o:=2) ru64 rfl rfl sizeOf62 rfl rfl)<|Vo (rla isAgg62 rfl (show _=some (Value.func (.func (fnG y.up)) #[] #[]) from h.r.b3.cell 2))<|oI rfl<|Vo (R.fld' (o:=0) ru64 rfl rfl sz3 rfl rfl)<|Vo (rla ag3 rfl (show _=some (Value.int .i64 y.lim) from h.r.b3.cell 0))<|VL.callCP rfl (fnG_is y.up) rfl (fnG_spec y.up (sumA y.up y.ws st y.N) y.lim _) fun w2_5 e2_5=>Vn<|Vh rfl (fun c24=>Vs (?_)) (fun c24=>Vk<|Vs (?_)))
  ·exfalso;omega
  ·exfalso
   have:goodA y.up y.lim (sumA y.up y.ws st y.N)=true:=by assumption
   rw [hgood] at this;cases this
  have h5:=h.ext hs e2_5
  refine Vr<|Vo (rla ag22 rfl (show _=some (Value.slice y.oa y.Oi.length y.oc) from h5.r.b4.cell 0))<|oI rfl<|Vo (iX ru22 sz3 rfl rfl (h5.r.o.some (i:=k) hkl))<|Vo (rla ag3 rfl (show _=some (Value.int .i64 (v:Nat)) from by rw [←hOv];exact (h5.r.o.row (i:=k) hkl).c0a rfl))<|oJ rfl<|Vn<|Vs<|Vr<|Vo (rla ag28 rfl (show _=some (Value.slice sa S.length sc) from h5.b.cell 0))<|oI rfl<|oI rfl<|oD rfl rfl<|Vo (R.build zv100 ru100 pl100 rfl)<|VL.append1 el28 ru28 sz100 zv100 rfl (⟨1,(v:Int),(S.length:Int)+1,0⟩:St4) rfl rfl rfl h5.s rfl rfl rfl (by omega) (by unfold maxLen;omega) h5.u fun a6 c6 w6 vt6 ho6 m6 hf6=>VL.store (v:=.slice _ _ _) sz28 rfl rfl rfl rfl (h5.b.mod m6 (hoff h5)) rfl rfl fun w7 m7 hs7 hB7=>Vn<|Vs (?_)
  obtain ⟨S1,hS1⟩:∃ S1,S1=S++[(⟨1,(v:Int),(S.length:Int)+1,0⟩:St4)]:=⟨_,rfl⟩
  have hS1l:S1.length=S.length+1:=by rw [hS1,List.length_append];rfl
  obtain ⟨h7,M7⟩:=h5.put hs m6 ho6 m7 (by rw [List.length_append];exact hB7)
  rw [←hS1] at h7 hagg
  obtain ⟨base,hbase⟩:∃ base,base=sumA y.up y.ws st y.N-bestW y.up (wtF y.ws (v:Int)):=⟨_,rfl⟩
  have hwrow:∀ {w:World},ViR y w→w.cell? (eAddr y.wa 1 v)=some (Value.int .i64 (wtF y.ws (v:Int))):=fun h=>by
   have:=(h.v.row (i:=v) (by omega)).cell (i:=0) (v:=.int .i64 (y.ws.getD v default)) rfl
   unfold wtF;rw [Int.toNat_natCast];exact this
  refine rQ 8 (qI rfl<|Vq (fun wq eq=>R.fld' (o:=1) ru64 rfl rfl sizeOf61 rfl rfl)<|Vq (fun wq eq=>rla isAgg61 rfl (show _=some (Value.func (.func (fnB y.up)) #[] #[]) from (h7.r.mod hs eq fun _ h=>h.elim).b3.cell 1))<|Vq (fun wq eq=>rla ag22 rfl (show _=some (Value.slice y.wa y.ws.length y.wc) from (h7.r.b5.ext eq).cell 0))<|qI rfl<|Vq (fun wq eq=>iX ru22 sz3 rfl rfl (h7.r.v.some (i:=v) (by omega)))<|Vq (fun wq eq=>rla ag3 rfl (show _=some (Value.int .i64 (wtF y.ws (v:Int))) from hwrow (h7.r.mod hs eq fun _ h=>h.elim)))<|VQ.callCP (fun _ _ h k=>Mod.trans h k) rfl (fnB_is y.up) rfl (fun wq eq=>fnB_spec y.up (wtF y.ws (v:Int)) _)<|Vj fun w6q e6q=>Vo (R.sub rfl rfl (by omega) (by omega))<|oJ rfl<|Vn<|Vs (?_))
  have h8:=h7.ext hs e6q
  have M8:Vc.Mod y.F w w6q:=((e2_5.weaken fun _ _ h=>h.elim).then M7 fun _ _ h=>h).ext e6q
  have hl1:(st.set v 1).length=y.N:=by rw [List.length_set];exact hst
  have hst1:∀ u:Nat,stA (st.set v 1) (u:Int)=if u=v then 1 else stA st (u:Int):=fun u=>by
   unfold stA
   rw [Int.toNat_natCast]
   by_cases e:u=v
   ·rw [if_pos e,e,List.getD,List.getElem?_set_self (by omega)];rfl
   ·rw [if_neg e,List.getD,List.getElem?_set_ne (fun q=>e q.symm)];rfl
  have hgn:(grV y.x.g).n=y.x.g.n:=rfl
  have hsl:(st.length:Int)=(grV y.x.g).n:=by rw [hst,hgn];exact hxn.symm
  have hnN:(grV y.x.g).n.toNat=y.N:=by omega
  have hsum1:sumA y.up y.ws (st.set v 1) y.N=base+wtF y.ws (v:Int):=by
   have:=sumA_set (g:=grV y.x.g) (up:=y.up) (ws:=y.ws) hsl (v:=v) (by omega) hz0 (x:=1) (.inl rfl)
   rw [hnN,if_pos rfl] at this
   rw [this,hbase]
  have hsum2:sumA y.up y.ws (st.set v 2) y.N=base:=by
   have:=sumA_set (g:=grV y.x.g) (up:=y.up) (ws:=y.ws) hsl (v:=v) (by omega) hz0 (x:=2) (.inr rfl)
   rw [hnN,if_neg (by decide)] at this
   rw [this,hbase];omega
  have hcf1:=cf_in (c:=y.c) (s:=st.set v 1) (v:=(v:Int)) (by omega) (by rw [hst1 v,if_pos rfl])
  obtain ⟨r1,hr1⟩:∃ r1,r1=aggS y.c 100000 (y.O.drop (k+1)) (v:Int) (st.set v 1) S1:=⟨_,rfl⟩
  rw [←hr1] at hagg
  refine Vr<|Vo (rla ag92 rfl (show _=some (Value.pointer (some ⟨y.x.p,0,none⟩)) from h8.r.b6.cell 0))<|Vo (R.nilCheck rfl)<|Vo (R.fld' (o:=4) ru95 rfl rfl sz22 rfl rfl)<|Vo (rla ag22 rfl (show _=some (Value.slice (some ⟨y.x.tb,0,none⟩) st.length st.length) from h8.a.ok.blk.cell 4))<|oI rfl<|Vo (iX ru22 sz3 rfl rfl (h8.a.ok.t.sl.some (i:=v) (by omega)))<|VL.ownSt eltI (v:=.int _ _) sz3 (h8.a.ok.t) v 0 1 rfl rfl (by omega) rfl rfl rfl rfl rfl fun w9 ho9 m9 hs9=>Vn<|V.cut [0,2,3,4,5,6,7,10,11,12] (fun _:List St4×Option Addr×Nat=>[.int .i64 (k:Nat),.pointer (some ⟨y.b2,0,none⟩),.pointer (some ⟨y.b3,0,none⟩),.pointer (some ⟨y.b4,0,none⟩),.pointer (some ⟨y.b5,0,none⟩),.pointer (some ⟨y.b6,0,none⟩),.pointer (some ⟨y.b7,0,none⟩),.int .i64 (S.length:Nat),.int .i64 (v:Nat),.int .i64 (sumA y.up y.ws st y.N-bestW y.up (wtF y.ws (v:Int)))]) (fun z w'=>VisR y (st.set v 1) S1 m r1 w9 z w') (Vs<|Vr<|Vo (rla ag92 rfl (show _=some (Value.pointer (some ⟨y.x.p,0,none⟩)) from (h8.turn hs m9 ho9 List.length_set).1.r.b6.cell 0))<|oI rfl<|Vp call72 rfl (cls_spec y.x y.N (v:Int) (st.set v 1) _ (h8.turn hs m9 ho9 List.length_set).1.a.ok hR hl1 (by omega) (by omega)) fun w8_2 e8_2=>oJ rfl<|Vn<|Vs<|Vr<|oI rfl<|Vo (R.geq rfl rfl)<|Vn<|Vd rfl (fun c59=>?_) (fun c59=>?_)) (fun rgC59 xC59 wBC59 hBC59=>Vs (?_))
  ·obtain ⟨h9,M9'⟩:=h8.turn hs m9 ho9 List.length_set
   have hc0:¬clsI (vals y.x.g.edges) (st.set v 1) (v:Int)<0:=by omega
   have hcs:cfS y.c (st.set v 1) (v:Int)=some ⟨2,clsI (vals y.x.g.edges) (st.set v 1) (v:Int),0,0⟩:=by rw [hcf1];exact if_neg hc0
   have hag1:=aggS_some (M:=100000) (O:=y.O.drop (k+1)) (S:=S1) hcs
   rw [←hr1] at hag1
   have hA:=h9.ext hs e8_2
   refine Vr<|Vo (rla ag28 rfl (show _=some (Value.slice a6 S1.length c6) from hA.b.cell 0))<|oI rfl<|Vo (R.build zv100 ru100 pl100 rfl)<|VL.append1 el28 ru28 sz100 zv100 rfl (⟨2,clsI (vals y.x.g.edges) (st.set v 1) (v:Int),0,0⟩:St4) rfl rfl rfl hA.s rfl rfl rfl (by omega) (by unfold maxLen;omega) hA.u fun a11 c11 w11 vt11 ho11 m11 hf11=>VL.store (v:=.slice _ _ _) sz28 rfl rfl rfl rfl (hA.b.mod m11 (hoff hA)) rfl rfl fun w12 m12 hs12 hB12=>Vn (?_)
   obtain ⟨k1,k2⟩:=hA.put hs m11 ho11 m12 (by rw [List.length_append];exact hB12)
   exact ⟨(S1++[⟨2,clsI (vals y.x.g.edges) (st.set v 1) (v:Int),0,0⟩],a11,c11),rfl,k1,(e8_2.weaken fun _ _ h=>h.elim).then k2 fun _ _ h=>h,by dsimp only;rw [List.length_append,List.length_singleton];omega,by dsimp only;rw [List.length_append];omega,fun S2 e=>(by rw [hag1] at e;injection e),fun e=>(by rw [hag1] at e;cases e)⟩
  ·obtain ⟨h9,M9'⟩:=h8.turn hs m9 ho9 List.length_set
   have hc0:clsI (vals y.x.g.edges) (st.set v 1) (v:Int)<0:=by omega
   have hcs:cfS y.c (st.set v 1) (v:Int)=none:=by rw [hcf1];exact if_pos hc0
   have hA:=h9.ext hs e8_2
   have hih:=fun w' (e:Ext w8_2 w')=>ih (k+1) (st.set v 1) S1 a6 c6 (v:Int) w' (by omega) (hA.ext hs e) hl1 (by omega) (fun u hu=>by
    rw [hst1 u,if_neg (fun e:u=v=>hvn (by rw [←e];exact hu))]
    exact h0 u (by rw [hdrop];exact List.mem_cons_of_mem _ hu)) hcs (fun s' e=>hnf s' (by rw [hagg,hr1,e]))
   rw [←hr1,hsum1,hbase,show ((k+1:Nat):Int)=(k:Int)+1 by omega] at hih
   refine rQ 9 (Vq (fun wq eq=>rla isAgg98 rfl (show _=some (Value.func (.func 71) #[] y.caps.toArray) from (hA.r.b7.ext eq).cell 0))<|qI rfl<|Vq (fun wq eq=>R.add rfl rfl (by omega) (by omega))<|qI rfl<|Vq (fun wq eq=>rla ag22 rfl (show _=some (Value.slice y.wa y.ws.length y.wc) from (hA.r.b5.ext eq).cell 0))<|qI rfl<|Vq (fun wq eq=>iX ru22 sz3 rfl rfl (hA.r.v.some (i:=v) (by omega)))<|Vq (fun wq eq=>rla ag3 rfl (show _=some (Value.int .i64 (wtF y.ws (v:Int))) from hwrow (hA.r.mod hs eq fun _ h=>h.elim)))<|Vq (fun wq eq=>R.add rfl rfl (by omega) (by omega))<|Vj fun w11q e11q=>VL.callCY rfl (call71) rfl (hih _ e11q) fun z w12 hz=>Vn (?_))
   exact ⟨z,rfl,hz.ok,((e8_2.trans e11q).weaken fun _ _ h=>h.elim).then hz.m fun _ _ h=>h,hz.up,hz.lo,hz.p,hz.f⟩
  ·obtain ⟨S2,sa2,sc2⟩:=xC59
   obtain ⟨h10,M10',hup1,hlo1,hp1,hf1⟩:=hBC59
   dsimp only at h10 hup1 hlo1 hp1 hf1
   obtain ⟨_,M9'⟩:=h8.turn hs m9 ho9 List.length_set
   have M10:Vc.Mod y.F w wBC59:=(M8.then M9' fun _ _ h=>h).then M10' fun _ _ h=>h
   have hat:S.length<S2.length:=by omega
   obtain ⟨S3,hS3⟩:∃ S3,S3=S2.set S.length { S2.getD S.length default with o:=(S2.length:Int) }:=⟨_,rfl⟩
   have hS3l:S3.length=S2.length:=by rw [hS3,List.length_set]
   obtain ⟨r2,hr2⟩:∃ r2,r2=aggS y.c 100000 (y.O.drop (k+1)) (v:Int) (st.set v 2) S3:=⟨_,rfl⟩
   have hl2:(st.set v 2).length=y.N:=by rw [List.length_set];exact hst
   have hst2:∀ u:Nat,stA (st.set v 2) (u:Int)=if u=v then 2 else stA st (u:Int):=fun u=>by
    unfold stA
    rw [Int.toNat_natCast]
    by_cases e:u=v
    ·rw [if_pos e,e,List.getD,List.getElem?_set_self (by omega)];rfl
    ·rw [if_neg e,List.getD,List.getElem?_set_ne (fun q=>e q.symm)];rfl
   have hsv2:stA (st.set v 2) (v:Int)=2:=by rw [hst2 v,if_pos rfl]
   have hcf2:=cf_out (c:=y.c) (s:=st.set v 2) (v:=(v:Int)) (by omega) hsv2 (fun e he u hu=>(hR.E e he u hu).1)
   have hrr:aggS y.c 100000 (v :: y.O.drop (k+1)) l st S=r2∨(aggS y.c 100000 (v :: y.O.drop (k+1)) l st S=.full∧100000<S2.length):=by
    cases r1 with
    | proof S1' =>
     have:=hp1 S1' rfl
     subst this
     refine .inl ?_
     rw [hagg,hr2,hS3]
    | full=>exact .inr ⟨hagg,hf1 rfl⟩
    | found s''=>exact absurd hagg (hnf s'')
   refine Vr<|Vo (rla ag28 rfl (show _=some (Value.slice sa2 S2.length sc2) from h10.b.cell 0))<|oI rfl<|Vo (rla ag28 rfl (show _=some (Value.slice sa2 S2.length sc2) from h10.b.cell 0))<|Vo (R.lenS ru28 rfl)<|Vo (iX ru28 sz100 rfl rfl (h10.s.sl.some (i:=S.length) hat))<|Vo (R.fld' (o:=3) ru100 rfl rfl sz3 rfl rfl)<|VL.ownSt eltS4 (v:=.int _ _) sz3 (h10.s) S.length 3 { S2.getD S.length default with o:=(S2.length:Int) } rfl rfl (by omega) rfl rfl rfl rfl rfl fun w11 ho11 m11 hs11=>Vn<|Vs (?_)
   rw [←hS3] at ho11
   obtain ⟨h11,M11'⟩:=h10.mend hs m11 ho11 hS3l
   have M11:=M10.then M11' fun _ _ h=>h
   have hnf2:∀ s',r2≠.found s':=fun s' e=>by
    rcases hrr with q | ⟨_,q⟩
    ·exact hnf s' (by rw [q,e])
    ·rw [hr2] at e
     cases hcc:cfS y.c (st.set v 2) (v:Int) with
     | some x=>rw [aggS_some hcc] at e;cases e
     | none=>rw [aggS_full hcc (by omega)] at e;cases e
   have hturn:∀ {w12:World},Vc.Mod (aBlk (some ⟨y.x.tb,0,none⟩)) w11 w12→OwnT Vc.encI 1 3 0 w12 (some ⟨y.x.tb,0,none⟩) (st.set v 1).length ((st.set v 1).set v 2)→ViOk y w12 (st.set v 2) S3 sa2 sc2∧Vc.Mod y.F w11 w12:=fun m ho=>h11.turn hs m (by rw [List.set_set] at ho;exact ho) (by rw [List.length_set,List.length_set])
   refine Vr<|Vo (rla ag92 rfl (show _=some (Value.pointer (some ⟨y.x.p,0,none⟩)) from h11.r.b6.cell 0))<|Vo (R.nilCheck rfl)<|Vo (R.fld' (o:=4) ru95 rfl rfl sz22 rfl rfl)<|Vo (rla ag22 rfl (show _=some (Value.slice (some ⟨y.x.tb,0,none⟩) (st.set v 1).length (st.set v 1).length) from h11.a.ok.blk.cell 4))<|oI rfl<|Vo (iX ru22 sz3 rfl rfl (h11.a.ok.t.sl.some (i:=v) (by omega)))<|VL.ownSt eltI (v:=.int _ _) sz3 (h11.a.ok.t) v 0 2 rfl rfl (by omega) rfl rfl rfl rfl rfl fun w12 ho12 m12 hs12=>Vn<|V.cut [6,11] (fun _:List St4×Option Addr×Nat=>[.pointer (some ⟨y.b6,0,none⟩),.int .i64 (v:Nat)]) (fun z w'=>VisR y (st.set v 2) S3 (m+1) r2 w12 z w') (Vs<|Vr<|Vo (rla ag92 rfl (show _=some (Value.pointer (some ⟨y.x.p,0,none⟩)) from (hturn m12 ho12).1.r.b6.cell 0))<|oI rfl<|Vp call73 rfl (fre_spec y.x y.N (v:Int) (st.set v 2) _ (hturn m12 ho12).1.a.ok hR hl2 (by omega) (by omega) hsv2) fun w14_2 e14_2=>oJ rfl<|Vn<|Vs<|Vr<|oI rfl<|Vo (R.geq rfl rfl)<|Vn<|Vd rfl (fun c91=>?_) (fun c91=>?_)) (fun rgC91 xC91 wBC91 hBC91=>?_)
   ·obtain ⟨h12,_⟩:=hturn m12 ho12
    have hc0:¬freI (vals y.x.g.edges) (st.set v 2) (v:Int)<0:=by omega
    have hcs:cfS y.c (st.set v 2) (v:Int)=some ⟨3,freI (vals y.x.g.edges) (st.set v 2) (v:Int),0,0⟩:=by rw [hcf2];exact if_neg hc0
    have hag2:=aggS_some (M:=100000) (O:=y.O.drop (k+1)) (S:=S3) hcs
    rw [←hr2] at hag2
    have hA:=h12.ext hs e14_2
    refine Vr<|Vo (rla ag28 rfl (show _=some (Value.slice sa2 S3.length sc2) from hA.b.cell 0))<|oI rfl<|Vo (R.build zv100 ru100 pl100 rfl)<|VL.append1 el28 ru28 sz100 zv100 rfl (⟨3,freI (vals y.x.g.edges) (st.set v 2) (v:Int),0,0⟩:St4) rfl rfl rfl hA.s rfl rfl rfl (by omega) (by unfold maxLen;omega) hA.u fun a15 c15 w15 vt15 ho15 m15 hf15=>VL.store (v:=.slice _ _ _) sz28 rfl rfl rfl rfl (hA.b.mod m15 (hoff hA)) rfl rfl fun w16 m16 hs16 hB16=>Vn (?_)
    obtain ⟨k1,k2⟩:=hA.put hs m15 ho15 m16 (by rw [List.length_append];exact hB16)
    exact ⟨(S3++[⟨3,freI (vals y.x.g.edges) (st.set v 2) (v:Int),0,0⟩],a15,c15),rfl,k1,(e14_2.weaken fun _ _ h=>h.elim).then k2 fun _ _ h=>h,by dsimp only;rw [List.length_append,List.length_singleton];omega,by dsimp only;rw [List.length_append];omega,fun S2 e=>(by rw [hag2] at e;injection e),fun e=>(by rw [hag2] at e;cases e)⟩
   ·obtain ⟨h12,_⟩:=hturn m12 ho12
    have hc0:freI (vals y.x.g.edges) (st.set v 2) (v:Int)<0:=by omega
    have hcs:cfS y.c (st.set v 2) (v:Int)=none:=by rw [hcf2];exact if_pos hc0
    have hA:=h12.ext hs e14_2
    have hih:=ih (k+1) (st.set v 2) S3 sa2 sc2 (v:Int) w14_2 (by omega) hA hl2 (by omega) (fun u hu=>by
     rw [hst2 u,if_neg (fun e:u=v=>hvn (by rw [←e];exact hu))]
     exact h0 u (by rw [hdrop];exact List.mem_cons_of_mem _ hu)) hcs (by rw [←hr2];exact hnf2)
    rw [←hr2,hsum2,hbase,show ((k+1:Nat):Int)=(k:Int)+1 by omega] at hih
    refine Vr<|Vo (rla isAgg98 rfl (show _=some (Value.func (.func 71) #[] y.caps.toArray) from hA.r.b7.cell 0))<|oI rfl<|oD rfl rfl<|oI rfl<|VL.callCY rfl (call71) rfl (hih) fun z w16 hz=>Vn (?_)
    exact ⟨z,rfl,hz.ok,(e14_2.weaken fun _ _ h=>h.elim).then hz.m fun _ _ h=>h,(by have:=hz.up;omega),hz.lo,hz.p,hz.f⟩
   ·obtain ⟨_,M12'⟩:=hturn m12 ho12
    obtain ⟨S4,sa4,sc4⟩:=xC91
    obtain ⟨h13,M13',hup2,hlo2,hp2,hf2⟩:=hBC91
    dsimp only at h13 hup2 hlo2 hp2 hf2
    have M13:Vc.Mod y.F w wBC91:=(M11.then M12' fun _ _ h=>h).then M13' fun _ _ h=>h
    refine Vr<|Vo (rla ag92 rfl (show _=some (Value.pointer (some ⟨y.x.p,0,none⟩)) from h13.r.b6.cell 0))<|Vo (R.nilCheck rfl)<|Vo (R.fld' (o:=4) ru95 rfl rfl sz22 rfl rfl)<|Vo (rla ag22 rfl (show _=some (Value.slice (some ⟨y.x.tb,0,none⟩) (st.set v 2).length (st.set v 2).length) from h13.a.ok.blk.cell 4))<|oI rfl<|Vo (iX ru22 sz3 rfl rfl (h13.a.ok.t.sl.some (i:=v) (by omega)))<|VL.ownSt eltI (v:=.int _ _) sz3 (h13.a.ok.t) v 0 0 rfl rfl (by omega) rfl rfl rfl rfl rfl fun w14 ho14 m14 hs14=>Vn (fend0 rfl (?_))
    have hback:(st.set v 2).set v 0=st:=by
     rw [List.set_set]
     refine List.ext_getElem (by simp) fun i hi1 hi2=>?_
     rw [List.getElem_set]
     split
     ·rename_i e
      subst e
      unfold stA at hz0
      rw [Int.toNat_natCast,gget hi2] at hz0
      exact hz0.symm
     ·rfl
    rw [hback] at ho14
    obtain ⟨h14,M14'⟩:=h13.turn hs m14 ho14 (by rw [List.length_set])
    refine ⟨(S4,sa4,sc4),rfl,h14,M13.then M14' fun _ _ h=>h,by dsimp only;omega,by dsimp only;omega,fun S5 e=>?_,fun e=>?_⟩
    ·rcases hrr with q | ⟨q,_⟩
     ·exact hp2 S5 (by rw [←q];exact e)
     ·rw [q] at e;cases e
    ·rcases hrr with q | ⟨_,q⟩
     ·exact hf2 (by rw [←q];exact e)
     ·dsimp only;omega
theorem cer_sing {g:Gr} (hg:validG g=true) {v:Nat} (h:cerF g.edges (v:Int)=0):∀ e∈g.edges,(v:Int)∈e→e=[(v:Int)]:=by
 obtain ⟨_,_,c3,_,c5⟩:=validG_iff2.1 hg
 intro e he hv
 obtain ⟨i,hi,rfl⟩:=List.getElem_of_mem he
 have hm:(i:Int)∈adjK g.edges g.edges.length (v:Int):=adjK_mem.2 ⟨i,hi,by rw [gget hi];exact hv,rfl⟩
 unfold cerF at h
 split at h
 ·rename_i hn
  rw [hn] at hm;cases hm
 ·rename_i j L hn
  have hj:j∈adjK g.edges g.edges.length (v:Int):=by rw [hn];exact List.mem_cons_self
  obtain ⟨k,hk,hvk,rfl⟩:=adjK_mem.1 hj
  rw [Int.toNat_natCast] at h
  split at h
  ·rename_i h1
   have hs:g.edges.getD k default=[(v:Int)]:=by
    match g.edges.getD k default,h1,hvk with
    | [x],_,hvk=>rw [List.mem_singleton.1 hvk]
   have:=c5 _ (List.getElem_mem hi) _ (gmem hk) (subB_iff.2 fun x hx=>by rw [hs,List.mem_singleton] at hx;rw [hx];exact hv)
   rw [←this,hs]
  ·cases h
theorem cer_in {E:List (List Int)} {v:Int} (h:cerF E v≠0):inE E v=true:=by
 unfold cerF at h
 split at h
 ·exact absurd rfl h
 ·rename_i j L hn
  have hj:j∈adjK E E.length v:=by rw [hn];exact List.mem_cons_self
  obtain ⟨k,hk,hvk,rfl⟩:=adjK_mem.1 hj
  exact inE_iff.2 ⟨_,gmem hk,hvk⟩
theorem split_up {f:Nat→Int}:∀ {O:List Nat},(∀ v∈O,f v=0∨f v=1)→O.Pairwise (fun u v=>f u≤f v)→O=O.filter (fun v=>decide (f v=0))++O.filter (fun v=>!decide (f v=0))
 | [],_,_=>rfl
 | x :: O,h01,hp=>by
  obtain ⟨h1,h2⟩:=List.pairwise_cons.1 hp
  have ih:=split_up (fun v hv=>h01 v (List.mem_cons_of_mem _ hv)) h2
  rw [List.filter_cons,List.filter_cons]
  rcases h01 x List.mem_cons_self with h | h
  ·rw [if_pos (decide_eq_true h),if_neg (by rw [decide_eq_true h];decide),List.cons_append,←ih]
  ·have hn:∀ v∈O,¬f v=0:=fun v hv=>by have:=h1 v hv;omega
   have hx:¬f x=0:=by omega
   rw [if_neg (by rw [decide_eq_false hx];decide),if_pos (by rw [decide_eq_false hx];rfl),List.filter_eq_nil_iff.2 fun v hv=>by rw [decide_eq_false (hn v hv)];decide,List.nil_append,List.filter_eq_self.2 fun v hv=>by rw [decide_eq_false (hn v hv)];rfl]
theorem cf_zero {g:Gr} {c:AggC} (hc:AggOk g c):cfS c (zerS g) (-1)=none:=by
 rw [cfS_none hc.n hc.E]
 cases h:closeS (cLv g) (zerS g) (-1) with
 | none=>rfl
 | some x =>
  obtain ⟨X,hX⟩:=List.exists_mem_of_ne_nil _ (reps_ne hc.v)
  have hX:=(reps_mem hc.v).1 hX
  have hn:=costB_iff.1 (validG_iff.1 hc.v).1
  have h1:=(closeS_leaf (cLv_ok hc.v) h (by omega)).1
  have h0:=zerS_at g
  have h2:=leaf_sound (cLv_ok hc.v) h1 hX fun v _ _=>⟨fun e=>(by rw [h0] at e;cases e),fun e=>(by rw [h0] at e;cases e)⟩
  cases h2
theorem ord_prov {g:Gr} (hg:validG g=true) {n:Nat} (hn:g.n=(n:Int)) {ws:List Int} {up:Bool} {lim:Int} (hall:∀ R,IsRep g R→goodA up lim (totW ws R)=true) {O:List Nat} (hO:OrdC g.edges n O) :
  (∀ s',aggS ⟨g.n,g.edges,ws,up,lim,[]⟩ 100000 O (-1) (zerS g) []≠.found s')∧(∀ S,aggS ⟨g.n,g.edges,ws,up,lim,[]⟩ 100000 O (-1) (zerS g) []=.proof S→S.length≤100000→provG g ws up lim S=true)∧(confI g.edges n≤12→∃ S,aggS ⟨g.n,g.edges,ws,up,lim,[]⟩ 100000 O (-1) (zerS g) []=.proof S∧S.length≤100000):=by
 have hc:AggOk g ⟨g.n,g.edges,ws,up,lim,[]⟩:=⟨hg,rfl,rfl⟩
 have hn4:=costB_iff.1 (validG_iff.1 hg).1
 have h4:g.n≤4000:=hn4.2.1
 have hm:∀ v:Nat,v∈O↔v<n:=fun v=>by rw [hO.perm.mem_iff,List.mem_range]
 have hnd:O.Nodup:=hO.perm.nodup_iff.2 List.nodup_range
 have hs:=split_up (f:=fun v=>cerF g.edges (v:Int)) (O:=O) (fun v _=>cerF_01 _ _) hO.up
 obtain ⟨sg,hsg⟩:∃ sg,sg=O.filter fun v=>decide (cerF g.edges ((v:Nat):Int)=0):=⟨_,rfl⟩
 obtain ⟨pt,hpt⟩:∃ pt,pt=O.filter fun v=>!decide (cerF g.edges ((v:Nat):Int)=0):=⟨_,rfl⟩
 rw [←hsg,←hpt] at hs
 have hall2:=agg_prov hg hn hall (sg:=sg) (pt:=pt) (fun v=>by rw [←hs];exact hm v) (by rw [←hs];exact hnd) (fun v hv=>by
  rw [hsg,List.mem_filter,decide_eq_true_eq] at hv
  exact cer_sing hg hv.2)
 rw [←hs] at hall2
 refine ⟨fun s'=>agg_proof hc hn hall hm hnd,hall2.1,fun hcf=>hall2.2 ?_⟩
 have h1:sg.length≤O.length:=by rw [hsg];exact List.length_filter_le _ _
 have h2:O.length=n:=by rw [hO.perm.length_eq,List.length_range]
 have h3:pt.length≤confI g.edges n:=by
  rw [hpt]
  have e1:=(hO.perm.filter fun v=>!decide (cerF g.edges ((v:Nat):Int)=0)).length_eq
  rw [e1]
  unfold confI
  rw [←List.countP_eq_length_filter,←List.countP_eq_length_filter]
  refine List.countP_mono_left fun v _ hv=>cer_in ?_
  simpa using hv
 have h5:2 ^ (pt.length+1)≤2 ^ 13:=Nat.pow_le_pow_right (by decide) (by omega)
 have h6:2 ^ 13=8192:=by decide
 unfold bndS
 omega
structure PvR (g:Gr) (n:Nat) (ws:List Int) (up:Bool) (lim:Int) (S:List St4) (b:Bool):Prop where
 ok:b=decide (S.length≤100000)
 r:b=true→provG g ws up lim S=true
 few:confI g.edges n≤12→b=true
 len:S.length≤200000
theorem bst_bnd {up:Bool} {ws:List Int} (hb:∀ x∈ws,-1000000000≤x∧x≤1000000000):∀ i,i≤ws.length→-(1000000000*(i:Int))≤sm ((ws.take i).map (bestW up))∧sm ((ws.take i).map (bestW up))≤1000000000*(i:Int)
 | 0,_=>⟨Int.le_refl _,Int.le_refl _⟩
 | i+1,h=>by
  have ih:=bst_bnd (up:=up) hb i (by omega)
  have h1:=hb _ (List.getElem_mem (show i<ws.length by omega))
  have h2:-1000000000≤bestW up ws[i]∧bestW up ws[i]≤1000000000:=by unfold bestW;split <;> omega
  rw [List.take_succ_eq_append_getElem (by omega),List.map_append,List.map_singleton,sm_snoc]
  omega
theorem prove31_spec (g:GrW) (N:Nat) (wa:Option Addr) (wc:Nat) (ws:List Int) (up:Bool) (lim:Int) (w:World) (hG:GOk w g) (hl:GLen g) (hv:validG (grV g)=true) (hN:g.n=(N:Int)) (hW:IntSl w wa ws) (hwl:ws.length=N) (hwb:∀ x∈ws,-1000000000≤x∧x≤1000000000) (hall:∀ R,IsRep (grV g) R→goodA up lim (totW ws R)=true) :
  RetsX prog 36 #[.agg (encGr g).toArray,.slice wa ws.length wc,.agg (encBd up lim).toArray] w (fun x:Option Addr×Nat×List St4×Bool=>.tuple #[.agg #[.slice x.1 x.2.2.1.length x.2.1],.bool x.2.2.2])
   (fun x w'=>OwnT encS4 4 100 w.heap.size w' x.1 x.2.1 x.2.2.1∧PvR (grV g) N ws up lim x.2.2.1 x.2.2.2):=by
 have hcb:=costB_iff.1 (validG_iff.1 hv).1
 have hN4:N≤4000:=by have h0:g.n≤4000:=hcb.2.1;omega
 rw [encBd_fn]
 refine eN (args:=[_,_,_]) func36 rfl ntmps36 ?_
 refine Vs<|Vr<|VL.box (v:=.agg _) rfl fun b0_0 w0_0 hb0_0 e0_0 hB0_0=>VL.box (v:=.slice _ _ _) rfl fun b0_1 w0_1 hb0_1 e0_1 hB0_1=>VL.box (v:=.agg _) rfl fun b0_2 w0_2 hb0_2 e0_2 hB0_2=>VL.alloc zeroValue30 fun b0_3 w0_3 hb0_3 e0_3 hB0_3=>oA rfl<|Vn<|Vs<|Vr<|Vo (R.ldA ag25 sz25 rfl rfl (show RowAt _ _ _ (encGr g) from ((((hB0_0.ext e0_1).ext e0_2).ext e0_3).rowAt 0 3)) rfl)<|VL.callX call67 rfl (begin31_spec g N _ (hG.ext (((e0_0.trans e0_1).trans e0_2).trans e0_3)) hl hv hN) fun x w1 hx e1=>VL.allocSt (v:=.pointer _) zeroValue92 sizeOf92 rfl rfl rfl rfl rfl fun b1_2 w1_2 hb1_2 e1_2 hB1_2=>Vn<|Vs (?_)
 have E1:Ext w w1_2:=((((e0_0.trans e0_1).trans e0_2).trans e0_3).trans e1).trans e1_2
 have z0:=e0_0.size;have z1:=e0_1.size;have z2:=e0_2.size;have z3:=e0_3.size;have z4:=e1.size;have z5:=e1_2.size
 have l0:=hB0_0.lt;have l1:=hB0_1.lt;have l2:=hB0_2.lt;have l3:=hB0_3.lt;have l4:=hB1_2.lt
 have hxt:=hx.t
 have hxlt:=hx.ok.t.lt x.tb ⟨_,rfl,rfl⟩
 have e13:Ext w0_3 w1_2:=e1.trans e1_2
 have hG0:GrB w1_2 b0_0 g:=((hB0_0.ext (e0_1.trans e0_2)).ext e0_3).ext e13
 have hb5:Blk w1_2 b0_1 (.cells #[.slice wa ws.length wc] 22 (0,0)):=((hB0_1.ext e0_2).ext e0_3).ext e13
 have hb3:Blk w1_2 b0_2 (.cells #[.int .i64 lim,.func (.func (fnB up)) #[] #[],.func (.func (fnG up)) #[] #[]] 64 (0,0)):=(hB0_2.ext e0_3).ext e13
 have hb6:PtG w1_2 b1_2 x:=hB1_2
 have hW1:=hW.ext E1
 have hx1:=hx.ok.ext e1_2
 refine Vr<|oJ rfl<|Vn<|V.cut [3,4,5,6,8,9] (fun _:Unit=>[pA b0_0,pA b0_1,pA b0_2,pA b0_3,pA b1_2,.int .i64 (sm (ws.map (bestW up)))]) (fun _ w'=>Ext w1_2 w') (Vs<|Vr<|Vo (rla ag22 rfl (show _=some (Value.slice wa ws.length wc) from hb5.cell 0))<|Vo (R.lenS ru22 rfl)<|oI rfl<|Vn<|Vb (?_)) (fun rgB0 xB0 wBB0 hBB0=>Vs (?_))
 ·refine Vl [3,4,5,6,8,9,19,20,21] (fun i:Nat=>[pA b0_0,pA b0_1,pA b0_2,pA b0_3,pA b1_2,.int .i64 (sm ((ws.take i).map (bestW up))),.slice wa ws.length wc,.int .i64 (ws.length:Nat),.int .i64 (i:Nat)])
   (fun i w'=>i≤ws.length∧Ext w1_2 w') (fun i=>ws.length-i) 0 rfl ⟨Nat.zero_le _,Vc.Mod.refl _ _⟩ ?_
  rintro ρ i w3 ⟨hi,e3⟩
  have hbn:=bst_bnd (up:=up) hwb i hi
  have hbi:i<ws.length→-1000000000≤bestW up (ws.getD i default)∧bestW up (ws.getD i default)≤1000000000:=fun h=>by
   have:=hwb _ (gmem h)
   unfold bestW;split <;> omega
  refine Vs<|Vr<|oL rfl rfl<|Vn<|Vs<|Vd rfl (fun c22=>Vk<|Vs<|Vb<|Vs<|Vr<|Vo (iX ru22 sz3 rfl rfl ((hW1).some (i:=i) (by omega)))<|Vo (rla ag3 rfl ((((hW1).ext e3).row (i:=i) (by omega)).c0a rfl))<|oJ rfl<|Vn<|Vr<|oI rfl<|Vo (R.fld' (o:=1) ru64 rfl rfl sizeOf61 rfl rfl)<|Vo (rla isAgg61 rfl (show _=some (Value.func (.func (fnB up)) #[] #[]) from (hb3.ext e3).cell 1))<|oI rfl<|VL.callCP rfl (fnB_is up) rfl (fnB_spec up (ws.getD i default) _) fun w6_4 e6_4=>Vo (R.add rfl rfl (by have:=hbi;omega) (by have:=hbi;omega))<|oJ rfl<|Vn<|Vr<|oD rfl rfl<|oI rfl<|Vn (⟨i+1,?_,⟨by omega,(e3.trans e6_4)⟩,by omega⟩)) (fun c22=>Ve (?_))
  ·rw [List.take_succ_eq_append_getElem (by omega),List.map_append,List.map_singleton,sm_snoc,gget (l:=ws) (by omega)];rfl
  ·have hil:i=ws.length:=by omega
   subst hil
   rw [List.take_length]
   exact ⟨(),rfl,e3⟩
 ·have hG2:=hG0.ext hBB0
  refine Vr<|Vo (R.fld' (o:=0) ru25 rfl rfl sz3 rfl rfl)<|Vo (rla ag3 rfl (show _=some (Value.int .i64 (N:Nat)) from by rw [←hN];exact hG2.cell 0))<|VL.makeSl (enc:=Vc.encI ) el22 ( (0:Int)) rfl rfl rfl (by omega) (by unfold maxLen;omega) (Nat.le_refl _) fun b8 w8 hb8 e8 ho8=>VL.allocSt (v:=.slice _ _ _) zv22 sz22 rfl rfl rfl rfl rfl fun b8_3 w8_3 hb8_3 e8_3 hB8_3=>Vn<|V.cut [3,4,5,6,8,9,12] (fun _:Unit=>[pA b0_0,pA b0_1,pA b0_2,pA b0_3,pA b1_2,.int .i64 (sm (ws.map (bestW up))),pA b8_3]) (fun _ w'=>Vc.Mod (aBlk (some ⟨b8,0,none⟩)) w8_3 w'∧OwnT Vc.encI 1 3 wBB0.heap.size w' (some ⟨b8,0,none⟩) N (rngI N)) (Vs<|Vr<|Vo (rla ag22 rfl (show _=some (Value.slice (some ⟨b8,0,none⟩) N N) from hB8_3.cell 0))<|Vo (R.lenS ru22 rfl)<|oI rfl<|Vn<|Vb (?_)) (fun rgB2 xB2 wBB2 hBB2=>Vs (?_))
  ·have hne:b8_3≠b8:=by have:=e8.size;have:=ho8.lt b8 ⟨_,rfl,rfl⟩;omega
   have ho83:=ho8.ext e8_3
   refine Vl [3,4,5,6,8,9,12,35,36,37] (fun z:Nat×List Int=>[pA b0_0,pA b0_1,pA b0_2,pA b0_3,pA b1_2,.int .i64 (sm (ws.map (bestW up))),pA b8_3,.slice (some ⟨b8,0,none⟩) N N,.int .i64 (N:Nat),.int .i64 (z.1:Nat)])
    (fun z w'=>z.1≤N∧Vc.Mod (aBlk (some ⟨b8,0,none⟩)) w8_3 w'∧OwnT Vc.encI 1 3 wBB0.heap.size w' (some ⟨b8,0,none⟩) N z.2∧z.2.length=N∧∀ j,j<z.1→z.2.getD j default=(j:Int)) (fun z=>N-z.1) (0,List.replicate N 0) rfl ⟨Nat.zero_le _,Vc.Mod.refl _ _,ho83,List.length_replicate,fun j h=>absurd h (Nat.not_lt_zero _)⟩ ?_
   rintro ρ ⟨i,L⟩ w9 ⟨hi,m9,ho9,hl9,hg9⟩
   dsimp only at hi m9 ho9 hl9 hg9 ⊢
   have hB9:=hB8_3.mod m9 fun q=>hne (aBlk_some q)
   refine Vs<|Vr<|oL rfl rfl<|Vn<|Vs<|Vd rfl (fun c38=>Vk<|Vs<|Vb<|Vs<|Vr<|oI rfl<|oJ rfl<|Vn<|Vr<|Vo (rla ag22 rfl (show _=some (Value.slice (some ⟨b8,0,none⟩) N N) from hB9.cell 0))<|oI rfl<|oI rfl<|Vo (iX ru22 sz3 rfl rfl (ho9.sl.some (i:=i) (by omega)))<|VL.ownSt eltI (v:=.int _ _) sz3 (ho9) i 0 ((i:Nat):Int) rfl rfl (by omega) rfl rfl rfl rfl rfl fun w10 ho10 m10 hs10=>Vn<|Vr<|oD rfl rfl<|oI rfl<|Vn (?_)) (fun c38=>Ve (?_))
   ·refine ⟨(i+1,L.set i (i:Int)),rfl,⟨by dsimp only;omega,m9.trans m10,ho10,by dsimp only;rw [List.length_set];exact hl9,fun j hj=>?_⟩,by dsimp only;omega⟩
    dsimp only at hj ⊢
    by_cases q:j=i
    ·rw [q,List.getD,List.getElem?_set_self (by omega)];rfl
    ·rw [List.getD,List.getElem?_set_ne (fun e=>q e.symm)];exact hg9 j (by omega)
   ·have hiN:i=N:=by omega
    subst hiN
    have hL:L=rngI i:=by
     refine List.ext_getElem (by rw [rngI_len];exact hl9) fun j h1 h2=>?_
     have:=hg9 j (by omega)
     rw [gget h1] at this
     rw [this]
     simp [rngI]
    subst hL
    exact ⟨(),rfl,m9,ho9⟩
  ·obtain ⟨m9,ho9⟩:=hBB2
   have l8:=ho9.lt b8 ⟨_,rfl,rfl⟩
   have s8:=e8.size;have s83:=e8_3.size;have sBB:=hBB0.size;have s9:=m9.size
   have E9:Ext w1_2 wBB2:=(hBB0.trans (e8.trans e8_3)).ownA m9 fun q hq=>by have:=aBlk_some hq;omega
   have l83:=hB8_3.lt
   have hb83:b8_3≠b8:=by have:=ho8.lt b8 ⟨_,rfl,rfl⟩;omega
   have hB4:Blk wBB2 b8_3 (.cells #[.slice (some ⟨b8,0,none⟩) N N] 22 (0,0)):=(show Blk w8_3 b8_3 (.cells #[.slice (some ⟨b8,0,none⟩) N N] 22 (0,0)) from hB8_3).mod m9 fun q=>hb83 (aBlk_some q)
   have hsort:∀ w14,Ext wBB2 w14→FcC w14 wBB2.heap.size b1_2 b0_0→RetsY prog 69 #[.slice (some ⟨b8,0,none⟩) N N,.func (.func 70) #[] #[.pointer (some ⟨wBB2.heap.size,0,none⟩)]] w14 (fun _:List Nat=>.tuple #[]) (fun O w'=>Vc.Mod (aBlk (some ⟨b8,0,none⟩)) w14 w'∧IntSl w' (some ⟨b8,0,none⟩) (O.map fun v=>((v:Nat):Int))∧OrdC (vals x.g.edges) N O):=fun w14 e14 hC=>by
    refine order31_spec x N hx.r (List.replicate N 0) wBB2.heap.size b1_2 b0_0 wBB0.heap.size (some ⟨b8,0,none⟩) N w14 (ho9.ext e14) fun w' m=>?_
    have e':Ext w1_2 w':=(E9.trans e14).ownA m fun q hq=>by have:=aBlk_some hq;omega
    exact ⟨hC.mod m fun q=>by have:=aBlk_some q;omega,⟨hx1.ext e',hb6.ext e'⟩,by rw [hx.g];exact hG0.ext e'⟩
   refine Vr<|Vo (R.mkFn rfl rfl)<|VL.allocSt (v:=.func (.func 68) #[] #[pA b1_2,pA b0_0]) zeroValue61 sizeOf61 rfl rfl rfl rfl rfl fun b14_1 w14_1 hb14_1 e14_1 hB14_1=>Vn<|Vs (?_)
   have hC:FcC w14_1 wBB2.heap.size b1_2 b0_0:=by rw [←hb14_1];exact hB14_1
   have hso:=hsort w14_1 e14_1 hC
   rw [←hb14_1] at hso
   have hB4':=hB4.ext e14_1
   refine Vr<|Vo (rla ag22 rfl (show _=some (Value.slice (some ⟨b8,0,none⟩) N N) from hB4'.cell 0))<|Vo (R.mkFn rfl rfl)<|VL.callY call69 rfl (hso) fun O w15 hO=>Vn<|Vs<|Vr<|VL.alloc zeroValue28 fun b16_0 w16_0 hb16_0 e16_0 hB16_0=>Vn<|Vs<|Vr<|VL.alloc zeroValue98 fun b17_0 w17_0 hb17_0 e17_0 hB17_0=>Vn<|Vs<|Vr<|Vo (R.mkFn rfl rfl)<|VL.store (v:=.func _ _ _) sizeOf98 rfl rfl rfl rfl hB17_0 rfl rfl fun w18 m18 hs18 hB18=>Vn<|Vs (?_)
   obtain ⟨mO,hOv,hOr⟩:=hO
   rw [hx.g] at hOr
   have t14:=e14_1.size;have t15:=mO.size;have t16:=e16_0.size;have t17:=e17_0.size;have t18:=m18.size
   have l16:=hB16_0.lt;have l17:=hB17_0.lt;have l14:=hC.lt
   have E15:Ext w1_2 w15:=(E9.trans e14_1).ownA mO fun q hq=>by have:=aBlk_some hq;omega
   have E17:Ext w1_2 w17_0:=E15.trans (e16_0.trans e17_0)
   have m18':Vc.Mod (Vc.one b17_0) w17_0 w18:=m18
   have E18:Ext w1_2 w18:=E17.ownA m18' fun q (hq:q=_)=>by omega
   obtain ⟨y,hy⟩:∃ y:ViX,y=⟨x,N,b16_0,b0_2,b8_3,b0_1,b1_2,b17_0,up,lim,some ⟨b8,0,none⟩,N,O,wa,wc,ws,w18.heap.size⟩:=⟨_,rfl⟩
   have hOl:O.length=N:=by rw [hOr.perm.length_eq,List.length_range]
   have hF:∀ q,y.F q↔q=x.tb∨q=b16_0∨w18.heap.size≤q:=fun q=>by rw [hy];exact Iff.rfl
   have hwa:∀ q,0<ws.length→aBlk wa q→q<w.heap.size:=fun q hp ⟨ad,ha,hq⟩=>by
    have:=TSl.lt hW hp
    rw [ha] at this
    rw [←hq];exact this
   have hS:ViS y:=by
    refine ⟨?_,?_,?_,?_,?_,?_,?_,?_,?_,?_,?_,?_,?_,?_,?_⟩
    ·rw [hy];dsimp only;omega
    ·rw [hF,hy];dsimp only;omega
    ·rw [hF,hy];dsimp only;omega
    ·rw [hF,hy];dsimp only;omega
    ·rw [hF,hy];dsimp only;omega
    ·rw [hF,hy];dsimp only;omega
    ·intro q _ hq
     rw [hy] at hq
     have hq:=aBlk_some hq
     rw [hF];omega
    ·intro q hp hq
     rw [hy] at hp hq
     have:=hwa q hp hq
     rw [hF];omega
    ·rw [hy];dsimp only;omega
    ·rw [hy];exact hx.r
    ·rw [hy];exact hwl
    ·rw [hy];exact hwb
    ·rw [hy];exact hOl
    ·rw [hy];exact hOr.perm.nodup_iff.2 List.nodup_range
    ·rw [hy];exact fun v hv=>List.mem_range.1 (hOr.perm.mem_iff.1 hv)
   have hgn:(grV g).n.toNat=N:=by show g.n.toNat=N;omega
   have hz:zerS (grV g)=List.replicate N 0:=by unfold zerS;rw [hgn]
   have hyc:y.c=⟨(grV g).n,(grV g).edges,ws,up,lim,[]⟩:=by rw [hy];unfold ViX.c;dsimp only;rw [hx.g];rfl
   obtain ⟨p1,p2,p3⟩:=ord_prov hv (n:=N) hN hall hOr
   rw [←hyc,hz] at p1 p2 p3
   have hyO:y.O=O:=by rw [hy]
   have hyN:y.N=N:=by rw [hy]
   have hsum:sumA up ws (List.replicate N 0) N=sm (ws.map (bestW up)):=by
    have:=sumA_zero (g:=grV g) (up:=up) (ws:=ws) (by rw [hwl,hgn])
    rwa [hgn,hz] at this
   have hV:ViOk y w18 (List.replicate N 0) [] none 0:=by
    have hxp:=hx.p
    have hxpl:=hx.ok.blk.lt
    have hzl:=hx.zl
    have hyT:∀ q,y.T q↔q=b16_0∨w18.heap.size≤q:=fun q=>by rw [hy];exact Iff.rfl
    have hyx:y.x=x:=by rw [hy]
    refine ⟨⟨by rw [hyx];exact hx1.ext E18,⟨w0_3,e13.trans E18,by rw [hyx];exact hxt,by rw [hyx,hx.g];exact hG.ext (((e0_0.trans e0_1).trans e0_2).trans e0_3),fun q hq=>?_⟩,?_,?_,?_,?_⟩,?_,?_,OwnT.nil _ _ _ _ _,?_⟩
    ·have:=(hyT q).1 hq;omega
    ·rw [hyT,hyx];omega
    ·rw [hyT,hyx];omega
    ·rw [hyT,hyx];omega
    ·intro u hu q hq
     rw [hyx] at hu
     have:=hx.zel u hu q hq
     rw [hyT];omega
    ·rw [hy]
     refine ⟨hb3.ext E18,?_,?_,hb5.ext E18,TSl.ext hW1 E18,hb6.ext E18,hB18⟩
     ·have h1:=(((hB4'.mod mO fun q=>hb83 (aBlk_some q)).ext e16_0).ext e17_0).mod m18' fun (q:_=_)=>by omega
      show Blk w18 b8_3 (.cells #[.slice (some ⟨b8,0,none⟩) (O.map fun v=>((v:Nat):Int)).length N] 22 (0,0))
      rw [List.length_map,hOl]
      exact h1
     ·exact modP ((TSl.ext hOv e16_0).ext e17_0) m18' fun q _ hq (e:_=_)=>by have:=aBlk_some hq;omega
    ·rw [hy]
     exact ((show Blk w16_0 b16_0 (.cells #[.slice none 0 0] 28 (0,0)) from hB16_0).ext e17_0).mod m18' fun (q:_=_)=>by omega
    ·rw [hy];exact Nat.le_refl _
   have hvis:=visit31_spec y hS N 0 (List.replicate N 0) [] none 0 (-1) w18 (by rw [hyN];exact Nat.zero_add _) hV (by rw [hyN];exact List.length_replicate) (Nat.zero_le _) (fun u _=>by rw [←hz];exact zerS_at _ _) (by rw [hyc,←hz];exact cf_zero ⟨hv,rfl,rfl⟩) (by rw [List.drop_zero,hyO];exact p1)
   rw [List.drop_zero,hyO] at hvis
   rw [show y.N=N from hyN] at hvis
   subst hy
   dsimp only at hvis
   rw [hsum] at hvis
   refine Vr<|Vo (rla isAgg98 rfl (show _=some (Value.func (.func 71) #[] [Value.pointer (some ⟨b16_0,0,none⟩),pA b0_2,pA b8_3,pA b0_1,pA b1_2,pA b17_0].toArray) from hB18.cell 0))<|oI rfl<|VL.callCY rfl (call71) rfl (hvis) fun z w19 hz=>Vn<|Vs (?_)
   obtain ⟨S,sa,sc⟩:=z
   obtain ⟨hVo,hVm,hVup,_,hVp,hVf⟩:=hz
   dsimp only at hVo hVup hVp hVf
   rw [List.length_nil] at hVup
   have hSl:S.length≤200000:=by omega
   have t19:=hVm.size
   have hP19:Blk w19 b0_3 (.cells #[.slice none 0 0] 30 (0,0)):=((show Blk w0_3 b0_3 (.cells #[.slice none 0 0] 30 (0,0)) from hB0_3).ext (e13.trans E18)).mod hVm fun q=>by have:=(hF _).1 q;omega
   have hb:=hVo.b
   have hst:(b16_0:Nat)≠b0_3:=by omega
   refine V.regionW mixed 6 5 (by kernel_rfl) rfl (fun w'=>Ext _ w') (fun w'=>PutC w19 b0_3 #[.slice sa S.length sc] 30 w') (Ext.drawn _)<|VW.op0 (fun wq eq=>rla ag28 rfl (show wq.cell? ⟨b16_0,0,none⟩=some (Value.slice sa S.length sc) from (hb.ext eq).cell 0))<|VW.op (fun wq eq=>R.build zeroValue30 ru30 pl30 rfl)<|VW.op (fun wq hq=>rla ag28 rfl (show wq.cell? ⟨b16_0,0,none⟩=some (Value.slice sa S.length sc) from hq.elim (fun h=>(hb.ext h).cell 0) (fun h=>(hb.mod h.1 hst).cell 0)))<|VW.op (fun wq eq=>R.lenS ru28 rfl)<|VW.op (fun wq eq=>R.leq rfl rfl)<|VW.wr0 (fun wq eq=>R.storeB (v:=.agg _) sz30 rfl rfl rfl rfl (hP19.ext eq) rfl rfl (fun w' m hB=>⟨eq.mod.then m fun _ _ h=>h,hB⟩))<|VW.nil fun w20 h20=>oA rfl<|Vn<|Vt (fretCT (v:=.bool _) rfl rfl rfl rfl rfl isAgg30 sz30 rfl (h20.2.rowAt 0 1) rfl (?_))
   have hle:(S.length:Int)≤100000↔S.length≤100000:=by omega
   refine ⟨(sa,sc,S,decide (S.length≤100000)),?_,⟨?_,⟨rfl,fun hk=>?_,fun hk=>?_,hSl⟩⟩,?_⟩
   ·rw [decide_eq_decide.2 hle];rfl
   ·have zz:=E1.size
    exact (hVo.s.mod h20.1 fun q hq (e:_=_)=>by have:=hVo.s.ge q hq;dsimp only at this;omega).weaken (by dsimp only;omega)
   ·have hk:=of_decide_eq_true hk
    cases hag:aggS (ViX.c ⟨x,N,b16_0,b0_2,b8_3,b0_1,b1_2,b17_0,up,lim,some ⟨b8,0,none⟩,N,O,wa,wc,ws,w18.heap.size⟩) 100000 O (-1) (List.replicate N 0) [] with
    | proof S2 =>
     have:=hVp S2 hag
     rw [this] at hk ⊢
     exact p2 S2 hag hk
    | full=>have:=hVf hag;omega
    | found s'=>exact absurd hag (p1 s')
   ·obtain ⟨S2,h1,h2⟩:=p3 hk
    have:=hVp S2 h1
    rw [this]
    exact decide_eq_true h2
   ·have zz:=E1.size
    exact ((E1.trans E18).ownA hVm fun q hq=>by have:=(hF q).1 hq;omega).ownA h20.1 fun q (hq:q=_)=>by omega
end Go.Proofs.YtdkhcipjenfcnaaGreatDoor

/- Aggregate: Sum: what it hands back. -/
namespace Go.Vc
set_option maxRecDepth 100000
set_option maxHeartbeats 16000000
theorem yieldsR_alloc {P:Program} {ρ:Env} {w:World} {d:Nat} {t ty:TypeId} {p:String} {af:Array Edge} {z:Value} (hz:∀ w,(zeroValue t).run P w=.ok z w) :
  yieldsR P ρ { dst:=some d,op:=.alloc t,type:=ty,pos:=p,after:=af,guard:=none } w fun u w'=>(∃ b,u=.pointer (some ⟨b,0,none⟩)∧w.heap.size≤b∧Blk w' b (.cells z.cells t (0,0)))∧Ext w w':=by
 have h:run1 P ρ (.alloc t) ty w=.ok (.value (.pointer (some ⟨w.heap.size,0,none⟩))) (w.alloc (.cells z.cells t)):=by
  simp [run1,execOp,Instr.alloc,go_sem,hz,newVar,newRow]
 unfold yieldsR
 rw [run1_eq,h]
 exact ⟨⟨_,rfl,Nat.le_refl _,Blk.alloc _ _⟩,Ext.alloc _ _⟩
theorem yieldsR_run {P:Program} {ρ:Env} {w:World} {d:Nat} {q:Op} {ty:TypeId} {p:String} {af:Array Edge} {v:Value} {K:Value→World→Prop} (hr:run1 P ρ q ty w=.ok (.value v) w) (h:K v w) :
  yieldsR P ρ { dst:=some d,op:=q,type:=ty,pos:=p,after:=af,guard:=none } w K:=by
 unfold yieldsR
 rw [run1_eq,hr]
 exact h
end Go.Vc
namespace Go.Proofs.YtdkhcipjenfcnaaGreatDoor
open Go.Proofs.Tryz
set_option maxRecDepth 100000
set_option maxHeartbeats 16000000
open Go.Vc
def negW (ws:List Int):List Int:=ws.map fun x=>-x
theorem wtF_neg (ws:List Int) (v:Int):wtF (negW ws) v=-wtF ws v:=by
 unfold wtF negW
 by_cases h:v.toNat<ws.length
 ·rw [List.getD,List.getD,List.getElem?_map,List.getElem?_eq_getElem h];rfl
 ·rw [List.getD,List.getD,List.getElem?_map,List.getElem?_eq_none (Nat.le_of_not_lt h)];rfl
theorem totW_neg (ws:List Int):∀ R:List Int,totW (negW ws) R=-totW ws R
 | []=>rfl
 | v :: R=>by
  have ih:=totW_neg ws R
  have e1:totW (negW ws) (v :: R)=wtF (negW ws) v+totW (negW ws) R:=rfl
  have e2:totW ws (v :: R)=wtF ws v+totW ws R:=rfl
  rw [e1,e2,ih,wtF_neg];omega
structure SpOk (B:Nat) (w:World) (x:SpX):Prop where
 lo:OwnT Vc.encI 1 3 B w x.lo.a x.lo.c x.lo.l
 hi:OwnT Vc.encI 1 3 B w x.hi.a x.hi.c x.hi.l
 p:OwnT encS4 4 100 B w x.pa x.pc x.P
 q:OwnT encS4 4 100 B w x.qa x.qc x.Q
def spZ:SpX:=⟨0,0,⟨none,0,[]⟩,⟨none,0,[]⟩,none,0,[],none,0,[]⟩
theorem SpOk.zero (B:Nat) (w:World):SpOk B w spZ:=⟨OwnT.nil _ _ _ _ _,OwnT.nil _ _ _ _ _,OwnT.nil _ _ _ _ _,OwnT.nil _ _ _ _ _⟩
structure SumR (g:Gr) (ws:List Int) (x:SpX) (er:Int):Prop where
 e:er=chkF g ws (-1000000000)
 no:er≠0→x=spZ
 lo:er=0→x.lo.l=extG ws g
 hi:er=0→x.hi.l=extG (negW ws) g
 fr:er=0→x.fr=totW ws x.lo.l
 to:er=0→x.to=totW ws x.hi.l
 p:er=0→provG g ws false x.fr x.P=true∧x.P.length≤100000
 q:er=0→provG g ws true x.to x.Q=true∧x.Q.length≤100000
theorem chk_zero {g:Gr} {ws:List Int} {least:Int} (h:chkF g ws least=0):validG g=true∧(ws.length:Int)=g.n∧(∀ x∈ws,least≤x∧x≤1000000000)∧g.n-((fixF g).1.length:Int)≤40:=by
 unfold chkF at h
 split at h
 ·rename_i h1
  split at h
  ·cases h
  ·unfold wtsB at h1
   obtain ⟨h2,h3⟩:=h1
   rw [Bool.and_eq_true,decide_eq_true_eq,List.all_eq_true] at h3
   exact ⟨h2,h3.1,fun x hx=>of_decide_eq_true (h3.2 x hx),by omega⟩
 ·cases h
theorem low_all {g:Gr} (hg:validG g=true) (ws:List Int):∀ R,IsRep g R→goodA false (totW ws (extG ws g)) (totW ws R)=true:=fun R hR=>by
 have:=(ext_least hg ws).le R hR
 unfold goodA
 rw [if_neg (by decide)]
 exact decide_eq_true this
theorem high_all {g:Gr} (hg:validG g=true) (ws:List Int):∀ R,IsRep g R→goodA true (totW ws (extG (negW ws) g)) (totW ws R)=true:=fun R hR=>by
 have:=(ext_least hg (negW ws)).le R hR
 rw [totW_neg,totW_neg] at this
 unfold goodA
 rw [if_pos rfl]
 exact decide_eq_true (by omega)
def GdP (B b j:Nat) (g:Gr) (n:Nat) (ws:List Int) (up:Bool) (lim:Int) (w:World):Prop:=∃ (a:Option Addr) (cp:Nat) (S:List St4) (c:Array Value),Blk w b (.cells c 32 (0,0))∧c[j]?=some (.slice a S.length cp)∧OwnT encS4 4 100 B w a cp S∧PvR g n ws up lim S true
structure TSp (B b j:Nat) (g:Gr) (n:Nat) (ws:List Int) (up:Bool) (lim:Int) (w w':World):Prop where
 m:Vc.Mod (Vc.one b) w w'
 k:∀ c,Blk w b (.cells c 32 (0,0))→∃ c',Blk w' b (.cells c' 32 (0,0))∧c'.size=c.size∧∀ i,i≠j→c'[i]?=c[i]?
 g:GdP B b j g n ws up lim w→GdP B b j g n ws up lim w'
instance {B b j:Nat} {g:Gr} {n:Nat} {ws:List Int} {up:Bool} {lim:Int}:Turn (TSp B b j g n ws up lim) where
 refl _w:=⟨Vc.Mod.refl _ _,fun c h=>⟨c,h,rfl,fun _ _=>rfl⟩,fun h=>h⟩
 trans h k:=⟨h.m.trans k.m,fun c hc=>by
  obtain ⟨c1,h1,h2,h3⟩:=h.k c hc
  obtain ⟨c2,k1,k2,k3⟩:=k.k c1 h1
  exact ⟨c2,k1,k2.trans h2,fun i hi=>(k3 i hi).trans (h3 i hi)⟩,fun x=>k.g (h.g x)⟩
 ext e:=⟨e.mod,fun c h=>⟨c,h.ext e,rfl,fun _ _=>rfl⟩,fun ⟨a,cp,S,c,h1,h2,h3,h4⟩=>⟨a,cp,S,c,h1.ext e,h2,h3.ext e,h4⟩⟩
def PrR (B:Nat) (g:Gr) (n:Nat) (ws:List Int) (up:Bool) (lim:Int) (F:Value→Value) (u:Value) (w:World):Prop:=∃ (a:Option Addr) (cp:Nat) (S:List St4),u=F (.agg #[.slice a S.length cp])∧OwnT encS4 4 100 B w a cp S∧PvR g n ws up lim S true
theorem PrR.turn {B b j:Nat} {g:Gr} {n:Nat} {ws:List Int} {up:Bool} {lim:Int} {F:Value→Value} {w0:World} (hb:b<B):MonoT (TSp B b j g n ws up lim) w0 (PrR B g n ws up lim F) :=
 fun _u _a _b _ ⟨x,cp,S,h1,h2,h3⟩ t=>⟨x,cp,S,h1,h2.mod t.m fun q hq (e:q=b)=>by have:=h2.ge q hq;omega,h3⟩
theorem TSp.put {B b j:Nat} {g:Gr} {n:Nat} {ws:List Int} {up:Bool} {lim:Int} {w w':World} {a:Option Addr} {cp:Nat} {S:List St4} {c:Array Value} (hb:b<B) (hB:Blk w b (.cells c 32 (0,0))) (hj:j+1≤c.size) (ho:OwnT encS4 4 100 B w a cp S) (hp:PvR g n ws up lim S true)
  (m:Vc.Mod (Vc.one b) w w') (hB2:Blk w' b (.cells (putCells c j [.slice a S.length cp]) 32 (0,0))):GdP B b j g n ws up lim w'∧TSp B b j g n ws up lim w w':=by
 have hg:GdP B b j g n ws up lim w':=⟨a,cp,S,_,hB2,by rw [putCells_get _ _ _ hj,if_neg (Nat.lt_irrefl _),if_pos (by simp),Nat.sub_self];rfl,ho.mod m fun q hq (e:q=b)=>by have:=ho.ge q hq;omega,hp⟩
 refine ⟨hg,m,fun c2 h2=>?_,fun _=>hg⟩
 have hcc:c2=c:=by
  have h3:=h2.symm.trans hB
  injection h3 with h3
  injection h3
 subst hcc
 refine ⟨_,hB2,putCells_size _ _ _ hj,fun i hi=>?_⟩
 rw [putCells_get _ _ _ hj]
 by_cases h:i<j
 ·rw [if_pos h]
 ·rw [if_neg h,if_neg (by simp;omega)]
theorem TSp.cell {B b j:Nat} {g:Gr} {n:Nat} {ws:List Int} {up:Bool} {lim:Int} {w w':World} (t:TSp B b j g n ws up lim w w') {c:Array Value} (hB:Blk w b (.cells c 32 (0,0))) (i:Nat) (hi:i≠j):∃ c',Blk w' b (.cells c' 32 (0,0))∧c'.size=c.size∧c'[i]?=c[i]?:=by
 obtain ⟨c',h1,h2,h3⟩:=t.k c hB
 exact ⟨c',h1,h2,h3 i hi⟩
theorem TSp.at {B b j:Nat} {g:Gr} {n:Nat} {ws:List Int} {up:Bool} {lim:Int} {w w':World} (t:TSp B b j g n ws up lim w w') {c:Array Value} (hB:Blk w b (.cells c 32 (0,0))) (i:Nat) (hi:i≠j):w'.cell? ⟨b,i,none⟩=c[i]?:=by
 obtain ⟨c',h1,_,h3⟩:=t.cell hB i hi
 rw [h1.cell i,h3]
theorem TSp.done {B b j:Nat} {g:Gr} {n:Nat} {ws:List Int} {up:Bool} {lim:Int} {w w':World} (t:TSp B b j g n ws up lim w w') {c:Array Value} (hB:Blk w b (.cells c 32 (0,0))) (hj:j<c.size) (hg:GdP B b j g n ws up lim w') :
  ∃ (a:Option Addr) (cp:Nat) (S:List St4),Blk w' b (.cells (c.setIfInBounds j (.slice a S.length cp)) 32 (0,0))∧OwnT encS4 4 100 B w' a cp S∧PvR g n ws up lim S true:=by
 obtain ⟨a,cp,S,c1,h1,h2,h3,h4⟩:=hg
 obtain ⟨c2,k1,k2,k3⟩:=t.k c hB
 have hcc:c2=c1:=by
  have h3:=k1.symm.trans h1
  injection h3 with h3
  injection h3
 subst hcc
 refine ⟨a,cp,S,?_,h3,h4⟩
 have:c2=c.setIfInBounds j (.slice a S.length cp):=by
  apply Array.ext_getElem?
  intro i
  rw [Array.getElem?_setIfInBounds]
  by_cases q:j=i
  ·rw [if_pos q,←q,h2,if_pos hj]
  ·rw [if_neg q];exact k3 i fun e=>q e.symm
 rw [←this];exact h1
theorem sum31_spec (g:GrW) (wa:Option Addr) (wc:Nat) (ws:List Int) (B:Nat) (w:World) (hG:GOk w g) (hl:GLen g) (hW:IntSl w wa ws) (hwl:ws.length≤1000000) (hB:B≤w.heap.size) (hT:TabW B w) (hcf:chkF (grV g) ws (-1000000000)=0→confI (grV g).edges g.n.toNat≤12) :
  RetsX prog 13 #[.agg (encGr g).toArray,.slice wa ws.length wc] w (fun z:SpX×Int=>.tuple #[.agg (encSp z.1).toArray,.int .i64 z.2])
   (fun z w'=>SpOk w.heap.size w' z.1∧SumR (grV g) ws z.1 z.2):=by
 refine eN (args:=[_,_]) func13 rfl ntmps13 ?_
 refine Vs<|Vr<|VL.box (v:=.agg _) rfl fun b0_0 w0_0 hb0_0 e0_0 hB0_0=>VL.alloc zv32 fun b0_1 w0_1 hb0_1 e0_1 hB0_1=>oJ rfl<|Vn<|Vs<|Vs<|Vr<|Vo (R.ldA ag25 sz25 rfl rfl (show RowAt _ _ _ (encGr g) from ((hB0_0.ext e0_1).rowAt 0 3)) rfl)<|oS rfl<|Vp call33 rfl (check31_spec g wa wc ws (-1000000000) B _ (hG.ext (e0_0.trans e0_1)) hl (hW.ext (e0_0.trans e0_1)) hwl (Nat.le_trans hB (e0_0.trans e0_1).size) (hT.ext hB (e0_0.trans e0_1))) fun w1_2 e1_2=>oJ rfl<|Vn<|Vs<|Vr<|oI rfl<|Vo (R.neq rfl rfl)<|Vn<|Vd rfl (fun c17=>Vs<|Vr<|Vo (R.build zv32 ru32 pl32 rfl)<|oI rfl<|VL.store (v:=.agg _) sz32 rfl rfl rfl rfl (hB0_1.ext e1_2) rfl rfl fun w3_2 m3_2 hs3_2 hB3_2=>oJ rfl<|Vn<|Vt (fretCT (v:=.int _ _) rfl rfl rfl rfl rfl ag32 sz32 rfl (hB3_2.rowAt 0 6) rfl (?_))) (fun c17=>Vk<|Vs (?_))
 ·have z0:=e0_0.size
  exact ⟨(spZ,chkF (grV g) ws (-1000000000)),rfl,⟨SpOk.zero _ _,⟨rfl,fun _=>rfl,fun h=>absurd h c17,fun h=>absurd h c17,fun h=>absurd h c17,fun h=>absurd h c17,fun h=>absurd h c17,fun h=>absurd h c17⟩⟩,((e0_0.trans e0_1).trans e1_2).own m3_2 (by dsimp only;omega)⟩
 have h0:chkF (grV g) ws (-1000000000)=0:=by omega
 obtain ⟨hv,hwn,hwb,hff⟩:=chk_zero h0
 have hcn:=costB_iff.1 (validG_iff.1 hv).1
 have hgn:(grV g).n=g.n:=rfl
 have hn4:g.n≤4000:=hcn.2.1
 obtain ⟨N,hN⟩:∃ N:Nat,g.n=(N:Int):=⟨ws.length,by omega⟩
 have hwN:ws.length=N:=by omega
 have hG1:GrB w1_2 b0_0 g:=(hB0_0.ext e0_1).ext e1_2
 have hS1:Blk w1_2 b0_1 (.cells (encSp spZ).toArray 32 (0,0)):=hB0_1.ext e1_2
 have E1:Ext w w1_2:=(e0_0.trans e0_1).trans e1_2
 have z1:=E1.size
 have z0:=e0_0.size
 have l0:=hB0_0.lt;have l1:=hB0_1.lt;have z01:=e0_1.size;have z12:=e1_2.size
 refine Vr<|Vo (R.fld' (o:=0) ru25 rfl rfl sz3 rfl rfl)<|Vo (rla ag3 rfl (show _=some (Value.int .i64 (N:Nat)) from by rw [←hN];exact hG1.cell 0))<|VL.makeSl (enc:=Vc.encI ) el22 ( (0:Int)) rfl rfl rfl (by omega) (by unfold maxLen;omega) (Nat.le_refl _) fun b4 w4 hb4 e4 ho4=>oT rfl<|Vn<|V.cut [0,1,2,4,5,7] (fun _:Unit=>[.agg (encGr g).toArray,.slice wa ws.length wc,pA b0_0,pA b0_1,.int .i64 0,.slice (some ⟨b4,0,none⟩) N N]) (fun _ w'=>Ext w1_2 w'∧OwnT Vc.encI 1 3 w1_2.heap.size w' (some ⟨b4,0,none⟩) N (negW ws)) (Vs<|Vr<|oS rfl<|Vo (R.lenS ru22 rfl)<|oI rfl<|Vn<|Vb (?_)) (fun rgB0 xB0 wBB0 hBB0=>Vs (?_))
 ·refine Vl [0,1,2,4,5,7,23,24,25] (fun z:Nat×List Int=>[.agg (encGr g).toArray,.slice wa ws.length wc,pA b0_0,pA b0_1,.int .i64 0,.slice (some ⟨b4,0,none⟩) N N,.slice wa ws.length wc,.int .i64 (ws.length:Nat),.int .i64 (z.1:Nat)])
   (fun z w'=>z.1≤N∧Vc.Mod (aBlk (some ⟨b4,0,none⟩)) w4 w'∧OwnT Vc.encI 1 3 w1_2.heap.size w' (some ⟨b4,0,none⟩) N z.2∧z.2.length=N∧∀ j,j<z.1→z.2.getD j default=-(ws.getD j default)) (fun z=>N-z.1) (0,List.replicate N 0) rfl ⟨Nat.zero_le _,Vc.Mod.refl _ _,ho4,List.length_replicate,fun j h=>absurd h (Nat.not_lt_zero _)⟩ ?_
  rintro ρ ⟨i,L⟩ w5 ⟨hi,m5,ho5,hl5,hg5⟩
  dsimp only at hi m5 ho5 hl5 hg5 ⊢
  have e5:Ext w1_2 w5:=e4.ownA m5 fun q hq=>ho5.ge q hq
  have hW5:=hW.ext (E1.trans e5)
  refine Vs<|Vr<|oL rfl rfl<|Vn<|Vs<|Vd rfl (fun c26=>Vk<|Vs<|Vb<|Vs (?_)) (fun c26=>Ve (?_))
  ·have hiN:i<N:=by omega
   have hwi:=hwb _ (gmem (show i<ws.length by omega))
   refine Vr<|oI rfl<|Vo (iX ru22 sz3 rfl rfl (hW5.some (i:=i) (by omega)))<|Vo (rla ag3 rfl ((hW5.row (i:=i) (by omega)).c0a rfl))<|oJ rfl<|oJ rfl<|Vn<|Vr<|oS rfl<|oI rfl<|oI rfl<|Vo (R.neg rfl (by omega) (by omega))<|Vo (iX ru22 sz3 rfl rfl (ho5.sl.some (i:=i) (by omega)))<|VL.ownSt eltI (v:=.int _ _) sz3 (ho5) i 0 (-(ws.getD i default)) rfl rfl (by omega) rfl rfl rfl rfl rfl fun w6 ho6 m6 hs6=>Vn<|Vr<|oD rfl rfl<|oI rfl<|Vn (?_)
   refine ⟨(i+1,L.set i (-(ws.getD i default))),rfl,⟨by dsimp only;omega,m5.trans m6,ho6,by dsimp only;rw [List.length_set];exact hl5,fun j hj=>?_⟩,by dsimp only;omega⟩
   dsimp only at hj ⊢
   by_cases q:j=i
   ·rw [q,List.getD,List.getElem?_set_self (by omega)];rfl
   ·rw [List.getD,List.getElem?_set_ne (fun e=>q e.symm)];exact hg5 j (by omega)
  ·have hiN:i=N:=by omega
   subst hiN
   have hL:L=negW ws:=by
    refine List.ext_getElem (by unfold negW;rw [List.length_map];omega) fun j h1 h2=>?_
    have:=hg5 j (by omega)
    have a1:L.getD j default=L[j]:=by rw [List.getD,List.getElem?_eq_getElem h1];rfl
    have a2:ws.getD j default=ws[j]'(by omega):=by rw [List.getD,List.getElem?_eq_getElem (by omega)];rfl
    rw [a1,a2] at this
    rw [this];exact (List.getElem_map _).symm
   rw [hL] at ho5
   exact ⟨(),rfl,e5,ho5⟩
 ·obtain ⟨e5,ho5⟩:=hBB0
  have hG5:=hG1.ext e5
  have hS5:=hS1.ext e5
  have E5:=E1.trans e5
  have z5:=e5.size
  have hnl:(negW ws).length=N:=by unfold negW;rw [List.length_map];exact hwN
  have hnb:∀ x∈negW ws,-1000000000≤x∧x≤1000000000:=fun x hx=>by
   obtain ⟨y,hy,rfl⟩:=List.mem_map.1 hx
   have:=hwb y hy
   omega
  refine V.regionS mixed 8 (by kernel_rfl) rfl (fun us=>VS.op (fun wq eq=>R.ldA ag25 sz25 rfl rfl (show RowAt _ _ _ (encGr g) from (hG5.ext eq).rowAt 0 3) rfl) (VS.op (fun wq eq=>R.mvS rfl) (VS.callX (fun u w'=>∃ x:Option Addr×Nat,u=.slice x.1 (extG ws (grV g)).length x.2∧OwnT Vc.encI 1 3 wBB0.heap.size w' x.1 x.2 (extG ws (grV g))) (fun u a b _ ⟨x,h1,h2⟩ eb=>⟨x,h1,h2.ext eb⟩) call34 rfl (fun wq eq hq=>Rets.mono (extreme31_spec g wa wc ws B wq (hG.ext (E5.trans eq)) hl hv (hW.ext (E5.trans eq)) hwn hwb (Nat.le_trans hB (E5.trans eq).size) (hT.ext hB (E5.trans eq))) fun u w' ⟨x,h1,h2,h3⟩=>⟨⟨x,h1,h2.weaken eq.size⟩,h3⟩) (VS.op (fun wq eq=>R.ldA ag25 sz25 rfl rfl (show RowAt _ _ _ (encGr g) from (hG5.ext eq).rowAt 0 3) rfl) (VS.op (fun wq eq=>R.mvS rfl) (VS.callX (fun u w'=>∃ x:Option Addr×Nat,u=.slice x.1 (extG (negW ws) (grV g)).length x.2∧OwnT Vc.encI 1 3 wBB0.heap.size w' x.1 x.2 (extG (negW ws) (grV g))) (fun u a b _ ⟨x,h1,h2⟩ eb=>⟨x,h1,h2.ext eb⟩) call34 rfl (fun wq eq hq=>by
    have hf:=extreme31_spec g (some ⟨b4,0,none⟩) N (negW ws) B wq (hG.ext (E5.trans eq)) hl hv (TSl.ext ho5.sl eq) (by rw [hnl];exact hN.symm) hnb (Nat.le_trans hB (E5.trans eq).size) (hT.ext hB (E5.trans eq))
    rw [hnl] at hf
    exact Rets.mono hf fun u w' ⟨x,h1,h2,h3⟩=>⟨⟨x,h1,h2.weaken eq.size⟩,h3⟩) (VS.spec (fun u w'=>∃ lo hi:SlI,u=.agg (encSp ⟨0,0,lo,hi,none,0,[],none,0,[]⟩).toArray∧OwnT Vc.encI 1 3 wBB0.heap.size w' lo.a lo.c lo.l∧OwnT Vc.encI 1 3 wBB0.heap.size w' hi.a hi.c hi.l∧lo.l=extG ws (grV g)∧hi.l=extG (negW ws) (grV g)) (fun u a b _ ⟨lo,hi,h1,h2,h3,h4⟩ eb=>⟨lo,hi,h1,h2.ext eb,h3.ext eb,h4⟩) rfl (fun wq eq hq=>by
    obtain ⟨x,hx,hx2⟩:=hq 2 (by kernel_rfl)
    obtain ⟨y,hy,hy2⟩:=hq 5 (by kernel_rfl)
    rw [hx,hy]
    exact yieldsR_run (R.build zv32 ru32 pl32 rfl) ⟨⟨⟨x.1,x.2,_⟩,⟨y.1,y.2,_⟩,rfl,hx2,hy2,rfl,rfl⟩,Vc.Mod.refl _ _⟩) (VS.spec (fun u w'=>∃ b,u=.pointer (some ⟨b,0,none⟩)∧wBB0.heap.size≤b∧Blk w' b (.cells (encSp spZ).toArray 32 (0,0))) (fun u a b _ ⟨x,h1,h2,h3⟩ eb=>⟨x,h1,h2,h3.ext eb⟩) rfl (fun wq eq hq=>yieldsR_mono (yieldsR_alloc zv32) fun u w' ⟨⟨b,h1,h2,h3⟩,h4⟩=>⟨⟨b,h1,Nat.le_trans eq.size h2,h3⟩,h4⟩) (VS.nil (fun w10 e10 h10=>?_)))))))))) rfl
  obtain ⟨lo,hi,hxs,hlo,hhi,hll,hhl⟩:=h10 6
  obtain ⟨b10,hbs,hbge,hbl⟩:=h10 7
  rw [hxs,hbs]
  have L1:=ext_least hv ws
  have L2:=ext_least hv (negW ws)
  have i1:=setB_iff.1 L1.rep.set
  have i2:=setB_iff.1 L2.rep.set
  have n1:=set_len i1.1 i1.2 (by omega)
  have n2:=set_len i2.1 i2.2 (by omega)
  rw [←hll] at i1 n1
  rw [←hhl] at i2 n2
  refine VL.store (v:=.agg _) sz32 rfl rfl rfl rfl hbl rfl rfl fun w8 m8 hs8 hB8=>Vn<|Vs (?_)
  have hB8':Blk w8 b10 (.cells (encSp ⟨0,0,lo,hi,none,0,[],none,0,[]⟩).toArray 32 (0,0)):=hB8
  have m8':Vc.Mod (Vc.one b10) w10 w8:=m8
  have E8:Ext wBB0 w8:=e10.own m8' hbge
  have hn10:∀ q,aBlk lo.a q∨aBlk hi.a q→q≠b10:=fun q hq h=>by
   rcases hq with h2 | h2
   ·obtain ⟨ad,had,e3⟩:=h2
    obtain ⟨cT,zT,bT⟩:=OwnT.tyA hlo ad had
    rw [e3,h] at bT
    have:=bT.symm.trans hbl
    injection this with this;injection this with _ h5 _;cases h5
   ·obtain ⟨ad,had,e3⟩:=h2
    obtain ⟨cT,zT,bT⟩:=OwnT.tyA hhi ad had
    rw [e3,h] at bT
    have:=bT.symm.trans hbl
    injection this with this;injection this with _ h5 _;cases h5
  have hlo8:=hlo.mod m8' fun q hq (e:q=_)=>hn10 q (Or.inl hq) e
  have hhi8:=hhi.mod m8' fun q hq (e:q=_)=>hn10 q (Or.inr hq) e
  have hW8:=hW.ext (E5.trans E8)
  refine rQ 9 (qS rfl<|Vq (fun wq eq=>R.fld' (o:=2) ru32 rfl rfl sz22 rfl rfl)<|Vq (fun wq eq=>rla ag22 rfl (show _=some (Value.slice lo.a lo.l.length lo.c) from (hB8'.ext eq).cell 2))<|VQ.callP (fun _ _ h k=>Mod.trans h k) call35 rfl (fun wq eq=>total31_spec wa wc ws lo.a lo.c lo.l wq (hW8.ext eq) hwl (TSl.ext hlo8.sl eq) (by omega) hwb (fun v hv=>by have:=i1.2 v hv;omega))<|qS rfl<|Vq (fun wq eq=>R.fld' (o:=3) ru32 rfl rfl sz22 rfl rfl)<|Vq (fun wq eq=>rla ag22 rfl (show _=some (Value.slice hi.a hi.l.length hi.c) from (hB8'.ext eq).cell 3))<|VQ.callP (fun _ _ h k=>Mod.trans h k) call35 rfl (fun wq eq=>total31_spec wa wc ws hi.a hi.c hi.l wq (hW8.ext eq) hwl (TSl.ext hhi8.sl eq) (by omega) hwb (fun v hv=>by have:=i2.2 v hv;omega))<|Vq (fun wq eq=>R.fld' (o:=0) ru32 rfl rfl sz3 rfl rfl)<|Vj fun w11q e11q=>VL.store (v:=.int _ _) sz3 rfl rfl rfl rfl (hB8'.ext e11q) rfl rfl fun w9 m9 hs9 hB9=>Vo (R.fld' (o:=1) ru32 rfl rfl sz3 rfl rfl)<|VL.store (v:=.int _ _) sz3 rfl rfl rfl rfl hB9 rfl rfl fun w11 m11 hs11 hB11=>Vn<|Vs<|Vr<|oA rfl<|oA rfl<|Vn<|Vs (?_))
  obtain ⟨fr,hfr⟩:∃ z,z=totW ws lo.l:=⟨_,rfl⟩
  obtain ⟨to,hto⟩:∃ z,z=totW ws hi.l:=⟨_,rfl⟩
  rw [←hfr] at hB9 hB11
  rw [←hto] at hB11
  rw [←hfr,←hto]
  have hB11':Blk w11 b10 (.cells (encSp ⟨fr,to,lo,hi,none,0,[],none,0,[]⟩).toArray 32 (0,0)):=hB11
  have m11':Vc.Mod (Vc.one b10) w8 w11:=(e11q.mod.trans m9).trans m11
  clear hB8 hB9 hB11 m9 m11
  have E11:Ext wBB0 w11:=E8.own m11' (by have:=E8.size;omega)
  have l10:=hB11'.lt
  have hbw:wBB0.heap.size≤b10:=hbge
  have hne0:¬Vc.one b10 b0_0:=fun (e:b0_0=b10)=>by omega
  have hne1:¬Vc.one b10 b0_1:=fun (e:b0_1=b10)=>by omega
  have hlo11:=hlo8.mod m11' fun q hq (e:q=_)=>hn10 q (Or.inl hq) e
  have hhi11:=hhi8.mod m11' fun q hq (e:q=_)=>hn10 q (Or.inr hq) e
  have hG11:=hG5.ext E11
  have hS11:=hS5.ext E11
  have E11w:=E5.trans E11
  have hwb10:w.heap.size≤b10:=by omega
  have hfew:confI (grV g).edges N≤12:=by have:=hcf h0;rw [hN] at this;exact this
  have prv:∀ (up:Bool) (lim:Int) (w0 wq:World),w11.heap.size≤w0.heap.size→Ext w wq→w0.heap.size≤wq.heap.size→(∀ R,IsRep (grV g) R→goodA up lim (totW ws R)=true)→Rets prog 36 #[.agg (encGr g).toArray,.slice wa ws.length wc,.agg (encBd up lim).toArray] wq fun u w'=>PrR w0.heap.size (grV g) N ws up lim (fun x=>.tuple #[x,.bool true]) u w'∧Ext wq w':=fun up lim w0 wq _ e hs hall =>
   Rets.mono (prove31_spec g N wa wc ws up lim wq (hG.ext e) hl hv hN (hW.ext e) hwN hwb hall) fun u w' ⟨x,h1,⟨h2,h3⟩,h4⟩=>by
    have hb:=h3.few hfew
    rw [hb] at h3
    have h1:u=_:=h1
    dsimp only at h1
    rw [hb] at h1
    exact ⟨⟨x.1,x.2.1,x.2.2.1,h1,h2.weaken hs,h3⟩,h4⟩
  refine V.regionT (T:=(TSp w11.heap.size b10 4 (grV g) N ws false fr)) mixed 11 (by kernel_rfl) rfl (fun us=>VT.op (fun wq eq=>R.ldA ag25 sz25 rfl rfl (show RowAt _ _ _ (encGr g) from (hG11.mod eq.m hne0).rowAt 0 3) rfl) (VT.op (fun wq eq=>R.mvS rfl) (VT.op (fun wq eq=>R.fld' (o:=0) ru32 rfl rfl sz3 rfl rfl) (VT.op (fun wq eq=>rla ag3 rfl (show wq.cell? ⟨b10,0+0,none⟩=some (Value.int .i64 fr) from eq.at hB11' 0 (by decide))) (VT.callP call37 rfl (fun wq eq=>lower31_spec fr wq) (VT.callX (PrR w11.heap.size (grV g) N ws false fr (fun x=>.tuple #[x,.bool true])) (PrR.turn l10) call36 rfl (fun wq eq hq=>prv false fr w11 wq (Nat.le_refl _) (E11w.own eq.m hwb10) eq.m.size (by rw [hfr,hll];exact low_all hv ws)) (VT.spec (PrR w11.heap.size (grV g) N ws false fr (fun x=>.tuple #[x,.bool true])) (PrR.turn l10) rfl (fun wq eq hq=>yieldsR_run (R.mv rfl) ⟨hq 5 (by kernel_rfl),Turn.refl _⟩) (VT.spec (PrR w11.heap.size (grV g) N ws false fr id) (PrR.turn l10) rfl (fun wq eq hq=>by
    obtain ⟨a,cp,S,hu,h2,h3⟩:=hq 6 (by kernel_rfl)
    exact yieldsR_run (R.extr hu rfl) ⟨⟨a,cp,S,rfl,h2,h3⟩,Turn.refl _⟩) (VT.spec (fun u _=>u=.bool true) (fun u a b _ h _=>h) rfl (fun wq eq hq=>by
    obtain ⟨a,cp,S,hu,h2,h3⟩:=hq 6 (by kernel_rfl)
    exact yieldsR_run (R.extr hu rfl) ⟨rfl,Turn.refl _⟩) (VT.op (fun wq eq=>R.fld' (o:=4) ru32 rfl rfl sz30 rfl rfl) (VT.spec (fun _ w=>GdP w11.heap.size b10 4 (grV g) N ws false fr w) (fun u a b _ h t=>t.g h) rfl (fun wq eq hq=>by
    obtain ⟨a,cp,S,hu,h2,h3⟩:=hq 7 (by kernel_rfl)
    obtain ⟨c',k1,k2,_⟩:=eq.cell hB11' 0 (by decide)
    refine yieldsR_store (ad:=⟨b10,0+4,none⟩) (v:=.agg #[.slice a S.length cp]) sz30 rfl rfl rfl ?_ k1 (by rw [k2];rfl) rfl fun w' m hs hB=>TSp.put l10 k1 (by rw [k2];exact Nat.le_of_ble_eq_true rfl) h2 h3 m hB
    exact hu) (VT.nil (fun w13 e13 h13=>?_))))))))))))) rfl
  obtain ⟨pa,pc,P,hB13,hoP,hpP⟩:=e13.done hB11' (Nat.lt_of_lt_of_le (by decide) (Nat.le_of_ble_eq_true rfl:6≤_)) (h13 10)
  have hb8:us 8=.bool true:=h13 8
  rw [hb8]
  have hB13':Blk w13 b10 (.cells (encSp ⟨fr,to,lo,hi,pa,pc,P,none,0,[]⟩).toArray 32 (0,0)):=hB13
  have l13:=hB13'.lt
  have z13:=e13.m.size
  have z11:=E11.size
  have hG13:=hG11.mod e13.m hne0
  have hS13:=hS11.mod e13.m hne1
  have hlo13:=hlo11.mod e13.m fun q hq (e:q=_)=>hn10 q (Or.inl hq) e
  have hhi13:=hhi11.mod e13.m fun q hq (e:q=_)=>hn10 q (Or.inr hq) e
  have E13:=E11w.own e13.m hwb10
  refine oA rfl<|Vn<|Vs (?_)
  refine V.regionT (T:=(TSp w13.heap.size b10 5 (grV g) N ws true to)) mixed 11 (by kernel_rfl) rfl (fun us=>VT.op (fun wq eq=>R.ldA ag25 sz25 rfl rfl (show RowAt _ _ _ (encGr g) from (hG13.mod eq.m hne0).rowAt 0 3) rfl) (VT.op (fun wq eq=>R.mvS rfl) (VT.op (fun wq eq=>R.fld' (o:=1) ru32 rfl rfl sz3 rfl rfl) (VT.op (fun wq eq=>rla ag3 rfl (show wq.cell? ⟨b10,0+1,none⟩=some (Value.int .i64 to) from eq.at hB13' 1 (by decide))) (VT.callP call38 rfl (fun wq eq=>upper31_spec to wq) (VT.callX (PrR w13.heap.size (grV g) N ws true to (fun x=>.tuple #[x,.bool true])) (PrR.turn l13) call36 rfl (fun wq eq hq=>prv true to w13 wq z13 (E13.own eq.m hwb10) eq.m.size (by rw [hto,hhl];exact high_all hv ws)) (VT.spec (PrR w13.heap.size (grV g) N ws true to (fun x=>.tuple #[x,.bool true])) (PrR.turn l13) rfl (fun wq eq hq=>yieldsR_run (R.mv rfl) ⟨hq 5 (by kernel_rfl),Turn.refl _⟩) (VT.spec (PrR w13.heap.size (grV g) N ws true to id) (PrR.turn l13) rfl (fun wq eq hq=>by
    obtain ⟨a,cp,S,hu,h2,h3⟩:=hq 6 (by kernel_rfl)
    exact yieldsR_run (R.extr hu rfl) ⟨⟨a,cp,S,rfl,h2,h3⟩,Turn.refl _⟩) (VT.spec (fun u _=>u=.bool true) (fun u a b _ h _=>h) rfl (fun wq eq hq=>by
    obtain ⟨a,cp,S,hu,h2,h3⟩:=hq 6 (by kernel_rfl)
    exact yieldsR_run (R.extr hu rfl) ⟨rfl,Turn.refl _⟩) (VT.op (fun wq eq=>R.fld' (o:=5) ru32 rfl rfl sz30 rfl rfl) (VT.spec (fun _ w=>GdP w13.heap.size b10 5 (grV g) N ws true to w) (fun u a b _ h t=>t.g h) rfl (fun wq eq hq=>by
    obtain ⟨a,cp,S,hu,h2,h3⟩:=hq 7 (by kernel_rfl)
    obtain ⟨c',k1,k2,_⟩:=eq.cell hB13' 0 (by decide)
    refine yieldsR_store (ad:=⟨b10,0+5,none⟩) (v:=.agg #[.slice a S.length cp]) sz30 rfl rfl rfl ?_ k1 (by rw [k2];rfl) rfl fun w' m hs hB=>TSp.put l13 k1 (by rw [k2];exact Nat.le_of_ble_eq_true rfl) h2 h3 m hB
    exact hu) (VT.nil (fun w14 e14 h14=>?_))))))))))))) rfl
  obtain ⟨qa,qc,Q,hB14,hoQ,hpQ⟩:=e14.done hB13' (Nat.lt_of_lt_of_le (by decide) (Nat.le_of_ble_eq_true rfl:6≤_)) (h14 10)
  have hc8:us 8=.bool true:=h14 8
  rw [hc8]
  have hB14':Blk w14 b10 (.cells (encSp ⟨fr,to,lo,hi,pa,pc,P,qa,qc,Q⟩).toArray 32 (0,0)):=hB14
  have z14:=e14.m.size
  have hS14:=hS13.mod e14.m hne1
  have hoP14:=hoP.mod e14.m fun q hq (e:q=_)=>by have:=hoP.ge q hq;omega
  have hlo14:=hlo13.mod e14.m fun q hq (e:q=_)=>hn10 q (Or.inl hq) e
  have hhi14:=hhi13.mod e14.m fun q hq (e:q=_)=>hn10 q (Or.inr hq) e
  have E14:=E13.own e14.m hwb10
  refine oA rfl<|Vn<|Vs<|Vs (?_)
  refine Vr<|oB rfl<|Vo (R.not rfl)<|oB rfl<|lT<|oB rfl<|lT<|Vo (R.not rfl)<|oQ rfl rfl<|Vn<|V.condF rfl<|Vk<|Vs<|Vr<|Vo (R.ldA ag32 sz32 rfl rfl (show RowAt _ _ _ (encSp ⟨fr,to,lo,hi,pa,pc,P,qa,qc,Q⟩) from hB14'.rowAt 0 6) rfl)<|VL.store (v:=.agg _) sz32 rfl rfl rfl rfl hS14 rfl rfl fun w17 m17 hs17 hB17=>oJ rfl<|Vn<|Vt (fretCT (v:=.int _ _) rfl rfl rfl rfl rfl ag32 sz32 rfl (hB17.rowAt 0 6) rfl (?_))
  have m17':Vc.Mod (Vc.one b0_1) w14 w17:=m17
  have zB:=E5.size
  have ln:∀ {up lim} {S:List St4},provG (grV g) ws up lim S=true→S.length≤100000:=fun h=>by
   unfold provG at h
   rw [Bool.and_eq_true] at h
   exact (of_decide_eq_true h.1).2
  refine ⟨(⟨fr,to,lo,hi,pa,pc,P,qa,qc,Q⟩,0),rfl,⟨⟨?_,?_,?_,?_⟩,⟨h0.symm,fun h=>absurd rfl h,fun _=>hll,fun _=>hhl,fun _=>hfr,fun _=>hto,fun _=>⟨hpP.r rfl,ln (hpP.r rfl)⟩,fun _=>⟨hpQ.r rfl,ln (hpQ.r rfl)⟩⟩⟩,E14.own m17' (by omega)⟩
  ·exact (hlo14.mod m17' fun q hq (e:q=_)=>by have:=hlo14.ge q hq;omega).weaken zB
  ·exact (hhi14.mod m17' fun q hq (e:q=_)=>by have:=hhi14.ge q hq;omega).weaken zB
  ·exact (hoP14.mod m17' fun q hq (e:q=_)=>by have:=hoP14.ge q hq;omega).weaken (by omega)
  ·exact (hoQ.mod m17' fun q hq (e:q=_)=>by have:=hoQ.ge q hq;omega).weaken (by omega)
end Go.Proofs.YtdkhcipjenfcnaaGreatDoor
