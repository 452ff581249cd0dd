/- Aggregate: the check of a proof's steps: where the parts lie; what an edge and a bound tell. -/
import Derived.Test.YtdkhcipjenfcnaaGreatDoorXA31
import Derived.Test.YtdkhcipjenfcnaaGreatDoorXR31
namespace Go.Proofs.YtdkhcipjenfcnaaGreatDoor
set_option maxRecDepth 100000
set_option maxHeartbeats 16000000
open Go.Vc Go.Proofs.Tryz
theorem modQ {α:Type} {enc:α→List Value} {s:Nat} {w w':World} {a:Option Addr} {l:List α} {S:Nat→Prop} (h:TSl enc s w a l) (m:Vc.Mod S w w') (hS:∀ q,0<l.length→aBlk a q→¬S q):TSl enc s w' a l:=by
 cases l with
 | nil=>exact TSl.nil _ _ _ _
 | cons x l=>exact TSl.mod h m fun ad e hs=>hS ad.block (Nat.succ_pos _) ⟨ad,e,rfl⟩ hs
def encBl (b:Bool):List Value:=[.bool b]
theorem eltBl:Elt encBl 1:=⟨fun _=>rfl,fun _=>rfl,by decide⟩
structure RiX where
 x:AgX
 N:Nat
 bp:Nat
 br:Nat
 rb:Nat
 bg:Nat
 bs:Nat
 bb:Nat
 bw:Nat
 bf:Nat
 up:Bool
 lim:Int
 wa:Option Addr
 wc:Nat
 ws:List Int
 sa:Option Addr
 sc:Nat
 S:List St4
def RiX.F (y:RiX) (q:Nat):Prop:=q=y.x.tb∨q=y.rb
def RiX.caps (y:RiX):List Value:=[.pointer (some ⟨y.bp,0,none⟩),.pointer (some ⟨y.br,0,none⟩),.pointer (some ⟨y.bg,0,none⟩),.pointer (some ⟨y.bs,0,none⟩),.pointer (some ⟨y.bb,0,none⟩),.pointer (some ⟨y.bw,0,none⟩),.pointer (some ⟨y.bf,0,none⟩)]
def RiX.c (y:RiX):AggC:=⟨y.x.g.n,vals y.x.g.edges,y.ws,y.up,y.lim,y.S⟩
structure RiR (y:RiX) (w:World):Prop where
 bp:Blk w y.bp (.cells #[.slice y.sa y.S.length y.sc] 30 (0,0))
 s:TSl encS4 4 w y.sa y.S
 br:Blk w y.br (.cells #[.slice (some ⟨y.rb,0,none⟩) y.S.length y.S.length] 79 (0,0))
 bg:GrB w y.bg y.x.g
 bs:PtG w y.bs y.x
 bb:Blk w y.bb (.cells #[.int .i64 y.lim,.func (.func (fnB y.up)) #[] #[],.func (.func (fnG y.up)) #[] #[]] 64 (0,0))
 bw:Blk w y.bw (.cells #[.slice y.wa y.ws.length y.wc] 22 (0,0))
 v:IntSl w y.wa y.ws
 bf:Blk w y.bf (.cells #[.func (.func 90) #[] y.caps.toArray] 62 (0,0))
structure RiS (y:RiX):Prop where
 bp:¬y.F y.bp
 br:¬y.F y.br
 bg:¬y.F y.bg
 bs:¬y.F y.bs
 bb:¬y.F y.bb
 bw:¬y.F y.bw
 bf:¬y.F y.bf
 s:∀ q,0<y.S.length→aBlk y.sa q→¬y.F q
 v:∀ q,0<y.ws.length→aBlk y.wa q→¬y.F q
 tr:y.x.tb≠y.rb
 R:AgR y.x y.N
 wl:y.ws.length=y.N
 wb:∀ x∈y.ws,-1000000000≤x∧x≤1000000000
 Sl:y.S.length≤100000
theorem RiR.mod {y:RiX} {w w':World} {S:Nat→Prop} (h:RiR y w) (hs:RiS y) (m:Vc.Mod S w w') (hS:∀ q,S q→y.F q):RiR y w' :=
 ⟨h.bp.mod m fun q=>hs.bp (hS _ q),modQ h.s m fun q hp hq k=>hs.s q hp hq (hS _ k),h.br.mod m fun q=>hs.br (hS _ q),h.bg.mod m fun q=>hs.bg (hS _ q),h.bs.mod m fun q=>hs.bs (hS _ q),h.bb.mod m fun q=>hs.bb (hS _ q),h.bw.mod m fun q=>hs.bw (hS _ q),modP h.v m fun q hp hq k=>hs.v q hp hq (hS _ k),h.bf.mod m fun q=>hs.bf (hS _ q)⟩
structure RiOk (y:RiX) (w:World) (st:List Int) (sn:List Bool):Prop where
 a:AgT y.x (fun q=>q=y.rb) w st
 r:RiR y w
 n:OwnT encBl 1 4 0 w (some ⟨y.rb,0,none⟩) y.S.length sn
theorem RiOk.ext {y:RiX} {w w':World} {st:List Int} {sn:List Bool} (h:RiOk y w st sn) (hs:RiS y) (e:Ext w w'):RiOk y w' st sn:=⟨h.a.ext e,h.r.mod hs e fun _ q=>q.elim,h.n.ext e⟩
theorem RiOk.turn {y:RiX} {w w':World} {st st':List Int} {sn:List Bool} (h:RiOk y w st sn) (hs:RiS y) (m:Vc.Mod (aBlk (some ⟨y.x.tb,0,none⟩)) w w') (ht:OwnT Vc.encI 1 3 0 w' (some ⟨y.x.tb,0,none⟩) st.length st') (hl:st'.length=st.length):RiOk y w' st' sn∧Vc.Mod y.F w w':=by
 have m1:Vc.Mod (Vc.one y.x.tb) w w':=m.weaken fun q _ hq=>aBlk_some hq
 exact ⟨⟨h.a.turn m1 ht hl,h.r.mod hs m1 fun q (hq:q=_)=>.inl hq,h.n.mod m1 fun q hq (e:q=_)=>hs.tr (e.symm.trans (aBlk_some hq))⟩,m1.weaken fun q _ (hq:q=_)=>.inl hq⟩
theorem RiOk.see {y:RiX} {w w':World} {st:List Int} {sn sn':List Bool} (h:RiOk y w st sn) (hs:RiS y) (m:Vc.Mod (aBlk (some ⟨y.rb,0,none⟩)) w w') (hn:OwnT encBl 1 4 0 w' (some ⟨y.rb,0,none⟩) y.S.length sn'):RiOk y w' st sn'∧Vc.Mod y.F w w':=by
 have m1:Vc.Mod (fun q=>q=y.rb) w w':=m.weaken fun q _ hq=>aBlk_some hq
 exact ⟨⟨h.a.modT m1,h.r.mod hs m1 fun q hq=>.inr hq,hn⟩,m1.weaken fun q _ hq=>.inr hq⟩
structure RiK (y:RiX) (st:List Int) (r:Option (List Bool)) (w:World) (sn:List Bool) (w':World):Prop where
 r:∀ s2,r=some s2→sn=s2
 l:sn.length=y.S.length
 ok:RiOk y w' st sn
 m:Vc.Mod y.F w w'
theorem RiK.weaken {y:RiX} {st:List Int} {r:Option (List Bool)} {w0 w:World} {sn:List Bool} {w':World} (h:RiK y st r w sn w') (m:Vc.Mod y.F w0 w):RiK y st r w0 sn w':=⟨h.r,h.l,h.ok,m.then h.m fun _ _ h=>h⟩
def rgT (c:AggC) (f:Nat) (q:Int) (st:List Int) (sn:List Bool):Option (List Bool):=if 0≤q∧q<(c.S.length:Int) then rightG c f q.toNat st sn else none
theorem ri1_spec (y:RiX) (st:List Int) (sn:List Bool) (v:Int) (w:World) (h:RiOk y w st sn) (h0:0≤v) (h1:v<(st.length:Int)) :
  RetsP prog 91 #[.int .i64 v,.pointer (some ⟨y.bs,0,none⟩)] w (.bool (!decide (stA st v=1))):=by
 refine eN (args:=[_,_]) func91 rfl ntmps91 ?_
 refine Vs<|Vr<|oA rfl<|Vn<|Vs<|Vr<|Vo (rla ag92 rfl (show _=some (Value.pointer (some ⟨y.x.p,0,none⟩)) from h.r.bs.cell 0))<|Vo (R.nilCheck rfl)<|Vo (R.fld' (o:=4) ru95 rfl rfl sz22 rfl rfl)<|Vo (rla ag22 rfl (show _=some (Value.slice (some ⟨y.x.tb,0,none⟩) st.length st.length) from h.a.ok.blk.cell 4))<|oI rfl<|Vo (iX ru22 sz3 rfl rfl (h.a.ok.t.sl.some (i:=v.toNat) (by omega)))<|Vo (rla ag3 rfl ((h.a.ok.t.sl.row (i:=v.toNat) (by omega)).c0a rfl))<|Vo (R.neq rfl rfl)<|oA rfl<|Vn<|Vt<|tB rfl rfl rfl (⟨?_,(Mod.refl _ _)⟩)
 refine congrArg Value.bool ?_
 rw [←decide_not]
 exact decide_eq_decide.2 Iff.rfl
theorem RiK.none_ {y:RiX} {st:List Int} {w w':World} {sn:List Bool} (hs:RiS y) (h:RiOk y w st sn) (hsn:sn.length=y.S.length) (e:Ext w w'):RiK y st none w sn w':=⟨(fun _ h=>nomatch h),hsn,h.ext hs e,e.weaken fun _ _ h=>h.elim⟩
theorem step31_spec (y:RiX) (hs:RiS y):∀ (f:Nat) (q:Int) (st:List Int) (sn:List Bool) (w:World),y.S.length≤q.toNat+f→RiOk y w st sn→st.length=y.N→sn.length=y.S.length →
  RetsY prog 90 #[.int .i64 q,.int .i64 (sumA y.up y.ws st y.N),.pointer (some ⟨y.bp,0,none⟩),.pointer (some ⟨y.br,0,none⟩),.pointer (some ⟨y.bg,0,none⟩),.pointer (some ⟨y.bs,0,none⟩),.pointer (some ⟨y.bb,0,none⟩),.pointer (some ⟨y.bw,0,none⟩),.pointer (some ⟨y.bf,0,none⟩)] w (fun _:List Bool=>.bool (rgT y.c f q st sn).isSome) (RiK y st (rgT y.c f q st sn) w):=by
 have hR:=hs.R
 have hN4:=hR.N4
 have hxn:=hR.n
 have hSl:=hs.Sl
 have hcS:y.c.S=y.S:=rfl
 intro f
 induction f with
 | zero =>
  intro q st sn w hf h hst hsn
  have hz:rgT y.c 0 q st sn=none:=by unfold rgT;rw [if_neg (by rw [hcS];omega)]
  rw [hz]
  refine eN (args:=[_,_,_,_,_,_,_,_,_]) func90 rfl ntmps90 ?_
  refine Vs<|Vr<|oA rfl<|Vn<|Vs<|Vs<|Vr<|oI rfl<|oL rfl rfl<|oB rfl<|VL.orP rfl rfl (fun g1_2=>oI rfl<|lT<|Vo (R.fld' (o:=0) ru30 rfl rfl sz28 rfl rfl)<|lT<|Vo (rla ag28 rfl (show _=some (Value.slice y.sa y.S.length y.sc) from h.r.bp.cell 0))<|lT<|Vo (R.lenS ru28 rfl)<|lT<|Vo (R.geq rfl rfl)<|oQ rfl rfl<|oB rfl<|VL.orP rfl rfl (fun g1_9=>Vo (rla isAgg79 rfl (show _=some (Value.slice (some ⟨y.rb,0,none⟩) y.S.length y.S.length) from h.r.br.cell 0))<|lT<|oI rfl<|lT<|Vo (iX ru79 sz4 rfl rfl (h.n.sl.some (i:=q.toNat) (by omega)))<|lT<|Vo (rla isAgg4 rfl ((h.n.sl.row (i:=q.toNat) (by omega)).c0a rfl))<|oQ rfl rfl<|Vn<|Vh rfl (fun c30=>Vs<|Vr<|oA rfl<|Vn<|Vt<|tB rfl rfl rfl (?_)) (fun c30=>Vk<|Vs (?_))) (fun g1_9=>lF<|lF<|lF<|oP rfl rfl<|Vn<|Vg rfl<|Vs<|Vr<|oA rfl<|Vn<|Vt<|tB rfl rfl rfl (?_))) (fun g1_2=>lF<|lF<|lF<|lF<|oP rfl rfl<|oB rfl<|lF<|lF<|lF<|lF<|oP rfl rfl<|Vn<|Vg rfl<|Vs<|Vr<|oA rfl<|Vn<|Vt<|tB rfl rfl rfl (?_))
  ·exact ⟨sn,rfl,RiK.none_ hs h hsn (Vc.Mod.refl _ _)⟩
  ·exfalso;omega
  ·exact ⟨sn,rfl,RiK.none_ hs h hsn (Vc.Mod.refl _ _)⟩
  ·exact ⟨sn,rfl,RiK.none_ hs h hsn (Vc.Mod.refl _ _)⟩
 | succ f ih =>
  intro q st sn w hf h hst hsn
  have hsb:=sumA_bnd (up:=y.up) (s:=st) hs.wb y.N
  refine eN (args:=[_,_,_,_,_,_,_,_,_]) func90 rfl ntmps90 ?_
  refine Vs<|Vr<|oA rfl<|Vn<|Vs<|Vs<|Vr<|oI rfl<|oL rfl rfl<|oB rfl<|VL.orP rfl rfl (fun g1_2=>oI rfl<|lT<|Vo (R.fld' (o:=0) ru30 rfl rfl sz28 rfl rfl)<|lT<|Vo (rla ag28 rfl (show _=some (Value.slice y.sa y.S.length y.sc) from h.r.bp.cell 0))<|lT<|Vo (R.lenS ru28 rfl)<|lT<|Vo (R.geq rfl rfl)<|oQ rfl rfl<|oB rfl<|VL.orP rfl rfl (fun g1_9=>Vo (rla isAgg79 rfl (show _=some (Value.slice (some ⟨y.rb,0,none⟩) y.S.length y.S.length) from h.r.br.cell 0))<|lT<|oI rfl<|lT<|Vo (iX ru79 sz4 rfl rfl (h.n.sl.some (i:=q.toNat) (by omega)))<|lT<|Vo (rla isAgg4 rfl ((h.n.sl.row (i:=q.toNat) (by omega)).c0a rfl))<|oQ rfl rfl<|Vn<|Vh rfl (fun c30=>Vs<|Vr<|oA rfl<|Vn<|Vt<|tB rfl rfl rfl (?_)) (fun c30=>Vk<|Vs (?_))) (fun g1_9=>lF<|lF<|lF<|oP rfl rfl<|Vn<|Vg rfl<|Vs<|Vr<|oA rfl<|Vn<|Vt<|tB rfl rfl rfl (?_))) (fun g1_2=>lF<|lF<|lF<|lF<|oP rfl rfl<|oB rfl<|lF<|lF<|lF<|lF<|oP rfl rfl<|Vn<|Vg rfl<|Vs<|Vr<|oA rfl<|Vn<|Vt<|tB rfl rfl rfl (?_))
  ·have hz:rgT y.c (f+1) q st sn=none:=by
    unfold rgT
    by_cases hq:0≤q∧q<(y.c.S.length:Int)
    ·rw [if_pos hq];unfold rightG;rw [if_pos c30]
    ·rw [if_neg hq]
   rw [hz]
   exact ⟨sn,rfl,RiK.none_ hs h hsn (Vc.Mod.refl _ _)⟩
  rotate_left
  ·have hz:rgT y.c (f+1) q st sn=none:=by unfold rgT;rw [if_neg (by rw [hcS];omega)]
   rw [hz]
   exact ⟨sn,rfl,RiK.none_ hs h hsn (Vc.Mod.refl _ _)⟩
  ·have hz:rgT y.c (f+1) q st sn=none:=by unfold rgT;rw [if_neg (by rw [hcS];omega)]
   rw [hz]
   exact ⟨sn,rfl,RiK.none_ hs h hsn (Vc.Mod.refl _ _)⟩
  obtain ⟨n,rfl⟩:∃ n:Nat,q=(n:Int):=⟨q.toNat,by omega⟩
  rw [Int.toNat_natCast] at hf c30
  have hn:n<y.S.length:=by omega
  have hz:rgT y.c (f+1) (n:Int) st sn=rightG y.c (f+1) n st sn:=by unfold rgT;rw [if_pos ⟨by omega,by rw [hcS];omega⟩,Int.toNat_natCast]
  rw [hz]
  clear hz
  refine Vr<|Vo (rla isAgg79 rfl (show _=some (Value.slice (some ⟨y.rb,0,none⟩) y.S.length y.S.length) from h.r.br.cell 0))<|oI rfl<|Vo (iX ru79 sz4 rfl rfl (h.n.sl.some (i:=n) (by omega)))<|VL.ownSt eltBl (v:=.bool _) sz4 (h.n) n 0 true rfl rfl (by omega) rfl rfl rfl rfl rfl fun w3 ho3 m3 hs3=>Vn<|Vs (?_)
  obtain ⟨h3,M3⟩:=h.see hs m3 ho3
  refine Vr<|Vo (R.fld' (o:=0) ru30 rfl rfl sz28 rfl rfl)<|Vo (rla ag28 rfl (show _=some (Value.slice y.sa y.S.length y.sc) from h3.r.bp.cell 0))<|oI rfl<|Vo (iX ru28 sz100 rfl rfl (h3.r.s.some (i:=n) hn))<|Vo (R.ldA isAgg100 sz100 rfl rfl (show RowAt _ _ _ (encS4 (y.S.getD n default)) from (h3.r.s.row (i:=n) hn)) rfl)<|VL.allocSt (v:=.agg (encS4 (y.S.getD n default)).toArray) zv100 sz100 rfl rfl rfl rfl rfl fun b4_5 w4_5 hb4_5 e4_5 hB4_5=>Vn<|Vs (?_)
  obtain ⟨s,hsx⟩:∃ s,s=y.S.getD n default:=⟨_,rfl⟩
  rw [←hsx] at hB4_5 
  obtain ⟨sn1,hsn1⟩:∃ z,z=sn.set n true:=⟨_,rfl⟩
  rw [←hsn1] at h3 ho3
  have hsnl:sn1.length=y.S.length:=by rw [hsn1,List.length_set];exact hsn
  have hrg:rightG y.c (f+1) n st sn=if s.k=1 then (if brG y.c st n s=true then (rightG y.c f s.i.toNat (st.set s.a.toNat 1) sn1).bind fun sn2=>rightG y.c f s.o.toNat (st.set s.a.toNat 2) sn2 else none) else if s.i=0∧s.o=0∧leafG y.c st s=true then some sn1 else none:=by
   rw [hsn1,hsx,←hcS]
   exact if_neg (by rw [c30];decide)
  rw [hrg]
  have h4:=h3.ext hs e4_5
  have M4:Vc.Mod y.F w w4_5:=M3.then e4_5 fun _ _ h=>h.elim
  have hb4:Blk w4_5 b4_5 (.cells (encS4 s).toArray 100 (0,0)):=hB4_5
  refine V.regionCut [13,39,40,41,42,43,44,45,46,47,48] 13 (.bool (decide (0≤s.a∧s.a<y.x.g.n))) (fun w'=>Ext _ w') rfl (Vo (R.fld' (o:=1) ru100 rfl rfl sz3 rfl rfl)<|Vo (rla ag3 rfl (show _=some (Value.int .i64 s.a) from hb4.cell 1))<|Vo (R.leq rfl rfl)<|oB rfl<|VL.andP rfl rfl (fun g5_3=>Vo (R.fld' (o:=1) ru100 rfl rfl sz3 rfl rfl)<|lT<|Vo (rla ag3 rfl (show _=some (Value.int .i64 s.a) from hb4.cell 1))<|lT<|Vo (R.fld' (o:=0) ru25 rfl rfl sz3 rfl rfl)<|lT<|Vo (rla ag3 rfl (show _=some (Value.int .i64 y.x.g.n) from h4.r.bg.cell 0))<|lT<|oL rfl rfl<|oP rfl rfl<|oA rfl<|VL.nil ⟨rfl,cutB rfl ?_,Mod.refl _ _⟩) (fun g5_3=>lF<|lF<|lF<|lF<|oQ rfl rfl<|oA rfl<|VL.nil ⟨rfl,cutB rfl ?_,Mod.refl _ _⟩)) (fun rg5 w5c e5c=>Vs<|Vb<|Vs (?_))
  ·exact decide_eq_decide.2 (by omega)
  ·exact (decide_eq_false (by omega)).symm
  have h5:=h4.ext hs e5c
  have hb5:Blk w5c b4_5 (.cells (encS4 s).toArray 100 (0,0)):=hb4.ext e5c
  have M5:Vc.Mod y.F w w5c:=M4.then e5c fun _ _ h=>h.elim
  have hbF:¬y.F b4_5:=fun hh=>by
   have k2:=h3.a.ok.t.lt y.x.tb ⟨_,rfl,rfl⟩
   have k3:=h3.n.lt y.rb ⟨_,rfl,rfl⟩
   rcases hh with hh | hh <;> omega
  have hres:∀ {w':World},Ext w5c w'→∃ sn':List Bool,Value.bool false=Value.bool (none:Option (List Bool)).isSome∧RiK y st none w sn' w':=fun e=>⟨sn1,rfl,(RiK.none_ hs h5 hsnl e).weaken M5⟩
  refine Vr<|Vo (R.fld' (o:=0) ru100 rfl rfl sz3 rfl rfl)<|Vo (rla ag3 rfl (show _=some (Value.int .i64 s.k) from hb5.cell 0))<|Vo (R.eql rfl rfl)<|oA rfl<|Vn<|Vd rfl (fun c49=>Vs<|Vs (?_)) (fun c49=>Vs (?_))
  ·have hk:s.k=1:=c49
   rw [if_pos hk]
   obtain ⟨lw,hlw⟩:∃ b:Bool,b=decide (0≤s.a∧s.a<y.x.g.n∧stA st s.a=0∧(n:Int)<s.i∧(n:Int)<s.o):=⟨_,rfl⟩
   have hvx:∀ {p:Prop} [Decidable p],(!decide p)=false→p:=fun h=>by simpa using h
   have hstA:0≤s.a→stA st s.a=st.getD s.a.toNat default:=fun _=>rfl
   refine V.regionQCut mixed 22 (by kernel_rfl) rfl (fun w'=>Ext _ w') (Ext.drawn _) [53,54,55,56,57,58,59,60,61,62,63,64,65,66,67,68,69,70,71,72,73,74] 74 (.bool (!lw)) rfl (Vq (fun wq eq=>R.mvB rfl)<|Vq (fun wq eq=>R.not rfl)<|Vq (fun wq eq=>R.mvB rfl)<|VQ.or rfl rfl (fun g7_2=>Vq (fun wq eq=>rla ag92 rfl (show _=some (Value.pointer (some ⟨y.x.p,0,none⟩)) from (h5.r.bs.ext eq).cell 0))<|qT<|Vq (fun wq eq=>R.nilCheck rfl)<|qT<|Vq (fun wq eq=>R.fld' (o:=4) ru95 rfl rfl sz22 rfl rfl)<|qT<|Vq (fun wq eq=>rla ag22 rfl (show _=some (Value.slice (some ⟨y.x.tb,0,none⟩) st.length st.length) from (h5.a.ok.blk.ext eq).cell 4))<|qT<|Vq (fun wq eq=>R.fld' (o:=1) ru100 rfl rfl sz3 rfl rfl)<|qT<|Vq (fun wq eq=>rla ag3 rfl (show _=some (Value.int .i64 s.a) from (hb5.ext eq).cell 1))<|qT<|Vq (fun wq eq=>R.ixS ru22 sz3 rfl rfl (by have:=hvx g7_2;omega) (by have:=hvx g7_2;omega) (h5.a.ok.t.sl.some (i:=s.a.toNat) (by have:=hvx g7_2;omega)))<|qT<|Vq (fun wq eq=>rla ag3 rfl (((h5.a.ok.t.sl.ext eq).row (i:=s.a.toNat) (by have:=hvx g7_2;omega)).c0a rfl))<|qT<|Vq (fun wq eq=>R.neq rfl rfl)<|Vq (fun wq eq=>R.pickFB rfl rfl)<|Vq (fun wq eq=>R.mvB rfl)<|VQ.orP rfl rfl (fun g7_13=>Vq (fun wq eq=>R.fld' (o:=2) ru100 rfl rfl sz3 rfl rfl)<|qT<|Vq (fun wq eq=>rla ag3 rfl (show _=some (Value.int .i64 s.i) from (hb5.ext eq).cell 2))<|qT<|Vq (fun wq eq=>R.fld' (o:=3) ru100 rfl rfl sz3 rfl rfl)<|qT<|Vq (fun wq eq=>rla ag3 rfl (show _=some (Value.int .i64 s.o) from (hb5.ext eq).cell 3))<|qT<|Vq (fun wq eq=>R.min rfl rfl)<|qT<|qI rfl<|qT<|Vq (fun wq eq=>R.leq rfl rfl)<|Vq (fun wq eq=>R.pickFB rfl rfl)<|Vj (cutB rfl ?_)) (fun g7_13=>qF<|qF<|qF<|qF<|qF<|qF<|Vq (fun wq eq=>R.pickTB rfl rfl)<|Vj (cutB rfl ?_))) (fun g7_2=>qF<|qF<|qF<|qF<|qF<|qF<|qF<|qF<|Vq (fun wq eq=>R.pickTB rfl rfl)<|Vq (fun wq eq=>R.mvB rfl)<|qF<|qF<|qF<|qF<|qF<|qF<|qF<|Vq (fun wq eq=>R.pickTB rfl rfl)<|Vj (cutB rfl ?_))) (fun rg7 w7c e7c=>Vh rfl (fun c74=>Vs<|Vr<|oA rfl<|Vn<|Vt<|tB rfl rfl rfl (?_)) (fun c74=>Vk<|Vs (?_)))
   ·rw [hlw,←decide_not]
    refine decide_eq_decide.2 ?_
    have h1:=hvx g7_2
    have h2:=hstA h1.1
    omega
   ·rw [hlw,decide_eq_false (by have h2:=hstA (hvx g7_2).1;omega)];rfl
   ·rw [hlw,decide_eq_false (fun hh=>by rw [decide_eq_true (⟨hh.1,hh.2.1⟩:0≤s.a∧s.a<y.x.g.n)] at g7_2;cases g7_2)];rfl
   ·have hb:brG y.c st n s=false:=by
     rw [Bool.not_eq_true'] at c74
     rw [c74] at hlw
     have:=of_decide_eq_false hlw.symm
     refine decide_eq_false fun hh=>this ⟨hh.1,hh.2.1,hh.2.2.1,hh.2.2.2.1,hh.2.2.2.2.1⟩
    rw [if_neg (by rw [hb];decide)]
    exact hres e7c
   have hl7:lw=true:=by simpa using c74
   rw [hl7] at hlw
   obtain ⟨a1,a2,a3,a4,a5⟩:=of_decide_eq_true hlw.symm
   obtain ⟨v,hv⟩:∃ v:Nat,s.a=(v:Int):=⟨s.a.toNat,by omega⟩
   rw [hv] at a1 a2 a3
   have hvN:v<y.N:=by omega
   have hwl:=hs.wl
   have h7:=h5.ext hs e7c
   have hb7:Blk w7c b4_5 (.cells (encS4 s).toArray 100 (0,0)):=hb5.ext e7c
   have hca:∀ {w':World},Blk w' b4_5 (.cells (encS4 s).toArray 100 (0,0))→w'.cell? ⟨b4_5,0+1,none⟩=some (Value.int .i64 (v:Nat)):=fun h=>by rw [←hv];exact h.cell 1
   have hwrow:∀ {w:World},RiR y w→w.cell? (eAddr y.wa 1 v)=some (Value.int .i64 (wtF y.ws (v:Int))):=fun h=>by
    have:=(h.v.row (i:=v) (by omega)).cell (i:=0) (v:=.int .i64 (y.ws.getD v default)) rfl
    unfold wtF;rw [Int.toNat_natCast];exact this
   have hws:-1000000000≤wtF y.ws (v:Int)∧wtF y.ws (v:Int)≤1000000000:=by
    unfold wtF;rw [Int.toNat_natCast];exact hs.wb _ (gmem (by omega))
   have hbw:-1000000000≤bestW y.up (wtF y.ws (v:Int))∧bestW y.up (wtF y.ws (v:Int))≤1000000000:=by
    unfold bestW;split <;> omega
   obtain ⟨base,hbase⟩:∃ base,base=sumA y.up y.ws st y.N-bestW y.up (wtF y.ws (v:Int)):=⟨_,rfl⟩
   refine rQ 9 (qI rfl<|Vq (fun wq eq=>R.fld' (o:=1) ru64 rfl rfl sizeOf61 rfl rfl)<|Vq (fun wq eq=>rla isAgg61 rfl (show _=some (Value.func (.func (fnB y.up)) #[] #[]) from (h7.r.bb.ext eq).cell 1))<|Vq (fun wq eq=>rla ag22 rfl (show _=some (Value.slice y.wa y.ws.length y.wc) from (h7.r.bw.ext eq).cell 0))<|Vq (fun wq eq=>R.fld' (o:=1) ru100 rfl rfl sz3 rfl rfl)<|Vq (fun wq eq=>rla ag3 rfl (hca (hb7.ext eq)))<|Vq (fun wq eq=>iX ru22 sz3 rfl rfl (h7.r.v.some (i:=v) (by omega)))<|Vq (fun wq eq=>rla ag3 rfl (hwrow (h7.r.mod hs eq fun _ h=>h.elim)))<|VQ.callCP (fun _ _ h k=>Mod.trans h k) rfl (fnB_is y.up) rfl (fun wq eq=>fnB_spec y.up (wtF y.ws (v:Int)) _)<|Vj fun w9q e9q=>Vo (R.sub rfl rfl (by omega) (by omega))<|oJ rfl<|Vn<|Vs (?_))
   rw [←hbase]
   have h9:=h7.ext hs e9q
   have hb9:Blk w9q b4_5 (.cells (encS4 s).toArray 100 (0,0)):=hb7.ext e9q
   have M9:Vc.Mod y.F w w9q:=(M5.then e7c fun _ _ h=>h.elim).then e9q fun _ _ h=>h.elim
   refine rQ 6 (Vq (fun wq eq=>rla ag92 rfl (show _=some (Value.pointer (some ⟨y.x.p,0,none⟩)) from (h9.r.bs.ext eq).cell 0))<|Vq (fun wq eq=>R.nilCheck rfl)<|Vq (fun wq eq=>R.fld' (o:=4) ru95 rfl rfl sz22 rfl rfl)<|Vq (fun wq eq=>rla ag22 rfl (show _=some (Value.slice (some ⟨y.x.tb,0,none⟩) st.length st.length) from (h9.a.ok.blk.ext eq).cell 4))<|Vq (fun wq eq=>R.fld' (o:=1) ru100 rfl rfl sz3 rfl rfl)<|Vq (fun wq eq=>rla ag3 rfl (hca (hb9.ext eq)))<|Vj fun w10q e10q=>Vo (iX ru22 sz3 rfl rfl (h9.a.ok.t.sl.some (i:=v) (by omega)))<|VL.ownSt eltI (v:=.int _ _) sz3 (h9.a.ok.t.ext ((Vc.Mod.refl Vc.nob w9q).trans e10q)) v 0 1 rfl rfl (by omega) rfl rfl rfl rfl rfl fun w10 ho10 m10 hs10=>Vn<|Vs (?_))
   obtain ⟨h10,M10'⟩:=(h9.ext hs e10q).turn hs m10 ho10 List.length_set
   have hbk:∀ {w1 w2:World},Blk w1 b4_5 (.cells (encS4 s).toArray 100 (0,0))→Vc.Mod y.F w1 w2→Blk w2 b4_5 (.cells (encS4 s).toArray 100 (0,0)):=fun h m=>h.mod m hbF
   have hb10:=hbk (hb9.ext e10q) M10'
   have M10:Vc.Mod y.F w w10:=(M9.then e10q fun _ _ h=>h.elim).then M10' fun _ _ h=>h
   have hgn:(grV y.x.g).n=y.x.g.n:=rfl
   have hsl:(st.length:Int)=(grV y.x.g).n:=by rw [hst,hgn];exact hxn.symm
   have hnN:(grV y.x.g).n.toNat=y.N:=by omega
   have hl1:(st.set v 1).length=y.N:=by rw [List.length_set];exact hst
   have hl2:(st.set v 2).length=y.N:=by rw [List.length_set];exact hst
   have hsum1:sumA y.up y.ws (st.set v 1) y.N=base+wtF y.ws (v:Int):=by
    have:=sumA_set (g:=grV y.x.g) (up:=y.up) (ws:=y.ws) hsl (v:=v) (by omega) a3 (x:=1) (.inl rfl)
    rw [hnN,if_pos rfl] at this
    rw [this,hbase]
   have hsum2:sumA y.up y.ws (st.set v 2) y.N=base:=by
    have:=sumA_set (g:=grV y.x.g) (up:=y.up) (ws:=y.ws) hsl (v:=v) (by omega) a3 (x:=2) (.inr rfl)
    rw [hnN,if_neg (by decide)] at this
    rw [this,hbase];omega
   have hva:s.a.toNat=v:=by omega
   have hback:∀ x,(st.set v x).set v 0=st:=fun x=>by
    rw [List.set_set]
    refine List.ext_getElem (List.length_set) fun j h1 h2=>?_
    rw [List.getElem_set]
    by_cases e:v=j
    ·rw [if_pos e]
     subst e
     unfold stA at a3
     rw [Int.toNat_natCast,List.getD,List.getElem?_eq_getElem h2] at a3
     exact a3.symm
    ·rw [if_neg e]
   have hbr:s.i<(y.c.S.length:Int)→s.o<(y.c.S.length:Int)→brG y.c st n s=true:=fun k1 k2=>decide_eq_true ⟨by omega,by rw [hv];exact a2,by rw [hv];exact a3,a4,a5,k1,k2⟩
   have hih1:=fun w' (h:RiOk y w' (st.set v 1) sn1)=>ih s.i (st.set v 1) sn1 w' (by omega) h hl1 hsnl
   rw [hsum1] at hih1
   refine rQ 10 (Vq (fun wq eq=>rla isAgg62 rfl (show _=some (Value.func (.func 90) #[] y.caps.toArray) from (h10.r.bf.ext eq).cell 0))<|Vq (fun wq eq=>R.fld' (o:=2) ru100 rfl rfl sz3 rfl rfl)<|Vq (fun wq eq=>rla ag3 rfl (show _=some (Value.int .i64 s.i) from (hb10.ext eq).cell 2))<|qI rfl<|Vq (fun wq eq=>rla ag22 rfl (show _=some (Value.slice y.wa y.ws.length y.wc) from (h10.r.bw.ext eq).cell 0))<|Vq (fun wq eq=>R.fld' (o:=1) ru100 rfl rfl sz3 rfl rfl)<|Vq (fun wq eq=>rla ag3 rfl (hca (hb10.ext eq)))<|Vq (fun wq eq=>iX ru22 sz3 rfl rfl (h10.r.v.some (i:=v) (by omega)))<|Vq (fun wq eq=>rla ag3 rfl (hwrow (h10.r.mod hs eq fun _ h=>h.elim)))<|Vq (fun wq eq=>R.add rfl rfl (by omega) (by omega))<|Vj fun w11q e11q=>VL.callCY rfl (call90) rfl (hih1 _ (h10.ext hs e11q)) fun sn2 w11 h11=>oA rfl<|Vn<|Vs (?_))
   have hok11:=h11.ok
   have hb11:=hbk (hb10.ext e11q) h11.m
   have M11:Vc.Mod y.F w w11:=(M10.then e11q fun _ _ h=>h.elim).then h11.m fun _ _ h=>h
   refine rQ 6 (Vq (fun wq eq=>rla ag92 rfl (show _=some (Value.pointer (some ⟨y.x.p,0,none⟩)) from (hok11.r.bs.ext eq).cell 0))<|Vq (fun wq eq=>R.nilCheck rfl)<|Vq (fun wq eq=>R.fld' (o:=4) ru95 rfl rfl sz22 rfl rfl)<|Vq (fun wq eq=>rla ag22 rfl (show _=some (Value.slice (some ⟨y.x.tb,0,none⟩) (st.set v 1).length (st.set v 1).length) from (hok11.a.ok.blk.ext eq).cell 4))<|Vq (fun wq eq=>R.fld' (o:=1) ru100 rfl rfl sz3 rfl rfl)<|Vq (fun wq eq=>rla ag3 rfl (hca (hb11.ext eq)))<|Vj fun w12q e12q=>Vo (iX ru22 sz3 rfl rfl (hok11.a.ok.t.sl.some (i:=v) (by omega)))<|VL.ownSt eltI (v:=.int _ _) sz3 (hok11.a.ok.t.ext ((Vc.Mod.refl Vc.nob w11).trans e12q)) v 0 2 rfl rfl (by omega) rfl rfl rfl rfl rfl fun w12 ho12 m12 hs12=>Vn<|Vs (?_))
   obtain ⟨h12,M12'⟩:=(hok11.ext hs e12q).turn hs m12 ho12 List.length_set
   have hset:(st.set v 1).set v 2=st.set v 2:=by simp
   rw [hset] at h12
   have hb12:=hbk (hb11.ext e12q) M12'
   have M12:Vc.Mod y.F w w12:=(M11.then e12q fun _ _ h=>h.elim).then M12' fun _ _ h=>h
   have hih2:=fun w' (h:RiOk y w' (st.set v 2) sn2)=>ih s.o (st.set v 2) sn2 w' (by omega) h hl2 h11.l
   rw [hsum2] at hih2
   refine Vr<|oB rfl<|oB rfl<|VL.and rfl rfl (fun g13_1=>Vo (rla isAgg62 rfl (show _=some (Value.func (.func 90) #[] y.caps.toArray) from h12.r.bf.cell 0))<|lT<|Vo (R.fld' (o:=3) ru100 rfl rfl sz3 rfl rfl)<|lT<|Vo (rla ag3 rfl (show _=some (Value.int .i64 s.o) from hb12.cell 3))<|lT<|oI rfl<|lT<|VL.callCY rfl (call90) rfl (hih2 _ h12) fun sn3 w13 h13=>oP rfl rfl<|oA rfl<|Vn<|Vs (?_)) (fun g13_1=>lF<|lF<|lF<|lF<|oQ rfl rfl<|oA rfl<|Vn<|Vs (?_))
   ·have h13k:=h13.ok
    have hb13:=hbk hb12 h13.m
    refine rQ 6 (Vq (fun wq eq=>rla ag92 rfl (show _=some (Value.pointer (some ⟨y.x.p,0,none⟩)) from (h13k.r.bs.ext eq).cell 0))<|Vq (fun wq eq=>R.nilCheck rfl)<|Vq (fun wq eq=>R.fld' (o:=4) ru95 rfl rfl sz22 rfl rfl)<|Vq (fun wq eq=>rla ag22 rfl (show _=some (Value.slice (some ⟨y.x.tb,0,none⟩) (st.set v 2).length (st.set v 2).length) from (h13k.a.ok.blk.ext eq).cell 4))<|Vq (fun wq eq=>R.fld' (o:=1) ru100 rfl rfl sz3 rfl rfl)<|Vq (fun wq eq=>rla ag3 rfl (hca (hb13.ext eq)))<|Vj fun w14q e14q=>Vo (iX ru22 sz3 rfl rfl (h13k.a.ok.t.sl.some (i:=v) (by omega)))<|VL.ownSt eltI (v:=.int _ _) sz3 (h13k.a.ok.t.ext ((Vc.Mod.refl Vc.nob w13).trans e14q)) v 0 0 rfl rfl (by omega) rfl rfl rfl rfl rfl fun w14 ho14 m14 hs14=>Vn<|Vs<|Vr<|oB rfl<|oA rfl<|Vn<|Vt<|tB rfl rfl rfl (?_))
    obtain ⟨h14,M14'⟩:=(h13k.ext hs e14q).turn hs m14 ho14 List.length_set
    rw [hback] at h14
    have hr:(if brG y.c st n s=true then (rightG y.c f s.i.toNat (st.set s.a.toNat 1) sn1).bind fun sn2=>rightG y.c f s.o.toNat (st.set s.a.toNat 2) sn2 else none)=rgT y.c f s.o (st.set v 2) sn2:=by
     obtain ⟨s2,hs2⟩:=Option.isSome_iff_exists.1 g13_1
     have hsn:=h11.r s2 hs2
     subst hsn
     unfold rgT at hs2 ⊢
     by_cases hi:0≤s.i∧s.i<(y.c.S.length:Int)
     ·rw [if_pos hi] at hs2
      by_cases ho:0≤s.o∧s.o<(y.c.S.length:Int)
      ·rw [if_pos ho,if_pos (hbr hi.2 ho.2),hva,hs2];rfl
      ·rw [if_neg ho,if_neg fun hh=>ho ⟨by omega,(of_decide_eq_true hh).2.2.2.2.2.2⟩]
     ·rw [if_neg hi] at hs2;cases hs2
    rw [hr]
    exact ⟨sn3,rfl,h13.r,h13.l,h14,((M12.then h13.m fun _ _ h=>h).then e14q fun _ _ h=>h.elim).then M14' fun _ _ h=>h⟩
   ·refine rQ 6 (Vq (fun wq eq=>rla ag92 rfl (show _=some (Value.pointer (some ⟨y.x.p,0,none⟩)) from (h12.r.bs.ext eq).cell 0))<|Vq (fun wq eq=>R.nilCheck rfl)<|Vq (fun wq eq=>R.fld' (o:=4) ru95 rfl rfl sz22 rfl rfl)<|Vq (fun wq eq=>rla ag22 rfl (show _=some (Value.slice (some ⟨y.x.tb,0,none⟩) (st.set v 2).length (st.set v 2).length) from (h12.a.ok.blk.ext eq).cell 4))<|Vq (fun wq eq=>R.fld' (o:=1) ru100 rfl rfl sz3 rfl rfl)<|Vq (fun wq eq=>rla ag3 rfl (hca (hb12.ext eq)))<|Vj fun w14q e14q=>Vo (iX ru22 sz3 rfl rfl (h12.a.ok.t.sl.some (i:=v) (by omega)))<|VL.ownSt eltI (v:=.int _ _) sz3 (h12.a.ok.t.ext ((Vc.Mod.refl Vc.nob w12).trans e14q)) v 0 0 rfl rfl (by omega) rfl rfl rfl rfl rfl fun w14 ho14 m14 hs14=>Vn<|Vs<|Vr<|oB rfl<|oA rfl<|Vn<|Vt<|tB rfl rfl rfl (?_))
    obtain ⟨h14,M14'⟩:=(h12.ext hs e14q).turn hs m14 ho14 List.length_set
    rw [hback] at h14
    have hr:(if brG y.c st n s=true then (rightG y.c f s.i.toNat (st.set s.a.toNat 1) sn1).bind fun sn2=>rightG y.c f s.o.toNat (st.set s.a.toNat 2) sn2 else none)=none:=by
     by_cases hb:brG y.c st n s=true
     ·have hh:=of_decide_eq_true hb
      rw [if_pos hb,hva]
      unfold rgT at g13_1
      rw [if_pos ⟨by omega,hh.2.2.2.2.2.1⟩] at g13_1
      cases hx:rightG y.c f s.i.toNat (st.set v 1) sn1 with
      | none=>rfl
      | some z=>rw [hx] at g13_1;cases g13_1
     ·rw [if_neg hb]
    rw [hr]
    exact ⟨sn2,rfl,(fun _ h=>nomatch h),h11.l,h14,(M12.then e14q fun _ _ h=>h.elim).then M14' fun _ _ h=>h⟩
  ·rw [if_neg c49]
   refine V.regionCut [126,127,128,129,130,131,132,133,134] 126 (.bool (!decide (s.i=0∧s.o=0))) (fun w'=>Ext _ w') rfl (Vo (R.fld' (o:=2) ru100 rfl rfl sz3 rfl rfl)<|Vo (rla ag3 rfl (show _=some (Value.int .i64 s.i) from hb5.cell 2))<|Vo (R.neq rfl rfl)<|oB rfl<|VL.orP rfl rfl (fun g16_3=>Vo (R.fld' (o:=3) ru100 rfl rfl sz3 rfl rfl)<|lT<|Vo (rla ag3 rfl (show _=some (Value.int .i64 s.o) from hb5.cell 3))<|lT<|Vo (R.neq rfl rfl)<|oQ rfl rfl<|oA rfl<|VL.nil ⟨rfl,cutB rfl ?_,Mod.refl _ _⟩) (fun g16_3=>lF<|lF<|oP rfl rfl<|oA rfl<|VL.nil ⟨rfl,cutB rfl ?_,Mod.refl _ _⟩)) (fun rg16 w16c e16c=>Vh rfl (fun c126=>Vs<|Vr<|oA rfl<|Vn<|Vt<|tB rfl rfl rfl (?_)) (fun c126=>Vs (?_)))
   ·rw [←decide_not];exact decide_eq_decide.2 (by omega)
   ·rw [decide_eq_false (by omega)];rfl
   ·have hno:¬(s.i=0∧s.o=0∧leafG y.c st s=true):=fun hh=>by
     rw [decide_eq_true (⟨hh.1,hh.2.1⟩:s.i=0∧s.o=0)] at c126;cases c126
    rw [if_neg hno]
    exact hres e16c
   have hio:s.i=0∧s.o=0:=by simpa using c126
   have h6:=h5.ext hs e16c
   have hb6:Blk w16c b4_5 (.cells (encS4 s).toArray 100 (0,0)):=hb5.ext e16c
   have M6:Vc.Mod y.F w w16c:=M5.then e16c fun _ _ h=>h.elim
   have hfin:∀ {w':World} {b:Bool},leafG y.c st s=b→Ext w16c w'→∃ sn':List Bool,Value.bool b=Value.bool (if s.i=0∧s.o=0∧leafG y.c st s=true then some sn1 else none).isSome∧RiK y st (if s.i=0∧s.o=0∧leafG y.c st s=true then some sn1 else none) w sn' w':=fun {w' b} hb e=>by
    cases b with
    | true =>
     rw [if_pos ⟨hio.1,hio.2,hb⟩]
     exact ⟨sn1,rfl,⟨fun _ h=>by injection h,hsnl,h6.ext hs e,M6.then e fun _ _ h=>h.elim⟩⟩
    | false =>
     rw [if_neg fun hh=>by rw [hb] at hh;exact nomatch hh.2.2]
     exact ⟨sn1,rfl,(RiK.none_ hs h6 hsnl e).weaken M6⟩
   have hcon:∀ {w':World} (i:Nat),i<y.x.g.edges.length→Ext w16c w'→RetsP prog 64 #[.slice (y.x.g.edges.getD i default).a (y.x.g.edges.getD i default).l.length (y.x.g.edges.getD i default).c,.func (.func 91) #[] #[.pointer (some ⟨y.bs,0,none⟩)]] w' (.bool ((y.x.g.edges.getD i default).l.any fun u=>!decide (stA st u=1))):=fun i hi e=>by
    obtain ⟨k1,k2,k3⟩:=hR.edge hi
    exact containsM31 91 [] [.pointer (some ⟨y.bs,0,none⟩)] (fun u=>!decide (stA st u=1)) (fun w=>RiOk y w st sn1) (y.x.g.edges.getD i default).a (y.x.g.edges.getD i default).c (y.x.g.edges.getD i default).l _ call91 (fun w u h hu=>ri1_spec y st sn1 u w h (k2 u hu).1 (by have:=(k2 u hu).2;omega)) (fun w w' h e=>h.ext hs e) (h6.ext hs e) ((h6.a.ok.g.e.at hi).ext e) k3
   have hlen:(vals y.x.g.edges).length=y.x.g.edges.length:=List.length_map _
   refine Vr<|Vo (R.fld' (o:=0) ru100 rfl rfl sz3 rfl rfl)<|Vo (rla ag3 rfl (show _=some (Value.int .i64 s.k) from hb6.cell 0))<|Vo (R.eql rfl rfl)<|oA rfl<|Vn<|Vd rfl (fun c135=>Vs (?_)) (fun c135=>Vs<|Vr<|Vo (R.fld' (o:=0) ru100 rfl rfl sz3 rfl rfl)<|Vo (rla ag3 rfl (show _=some (Value.int .i64 s.k) from hb6.cell 0))<|Vo (R.eql rfl rfl)<|oA rfl<|Vn<|Vd rfl (fun c161=>Vs (?_)) (fun c161=>Vs<|Vr<|Vo (R.fld' (o:=0) ru100 rfl rfl sz3 rfl rfl)<|Vo (rla ag3 rfl (show _=some (Value.int .i64 s.k) from hb6.cell 0))<|Vo (R.eql rfl rfl)<|oA rfl<|Vn<|Vd rfl (fun c184=>Vs (?_)) (fun c184=>Vk<|Vs (?_))))
   ·have hk:s.k=2:=by assumption
    have hlf:leafG y.c st s=(decide (0≤s.a∧s.a<((vals y.x.g.edges).length:Int))&&areA st ((vals y.x.g.edges).getD s.a.toNat default) 1):=by unfold leafG;rw [if_pos hk];rfl
    refine Vr<|Vo (R.fld' (o:=1) ru100 rfl rfl sz3 rfl rfl)<|Vo (rla ag3 rfl (show _=some (Value.int .i64 s.a) from hb6.cell 1))<|Vo (R.leq rfl rfl)<|oB rfl<|VL.andP rfl rfl (fun g19_3=>Vo (R.fld' (o:=1) ru100 rfl rfl sz3 rfl rfl)<|lT<|Vo (rla ag3 rfl (show _=some (Value.int .i64 s.a) from hb6.cell 1))<|lT<|Vo (R.fld' (o:=2) ru25 rfl rfl sz23 rfl rfl)<|lT<|Vo (rla ag23 rfl (show _=some (Value.slice y.x.g.ea y.x.g.edges.length y.x.g.ec) from h6.r.bg.cell 2))<|lT<|Vo (R.lenS ru23 rfl)<|lT<|oL rfl rfl<|oP rfl rfl<|oB rfl<|VL.andP rfl rfl (fun g19_11=>Vo (R.fld' (o:=2) ru25 rfl rfl sz23 rfl rfl)<|lT<|Vo (rla ag23 rfl (show _=some (Value.slice y.x.g.ea y.x.g.edges.length y.x.g.ec) from h6.r.bg.cell 2))<|lT<|Vo (R.fld' (o:=1) ru100 rfl rfl sz3 rfl rfl)<|lT<|Vo (rla ag3 rfl (show _=some (Value.int .i64 s.a) from hb6.cell 1))<|lT<|Vo (iX ru23 sz22 rfl rfl (h6.a.ok.g.e.sl.some (i:=s.a.toNat) (by omega)))<|lT<|Vo (rla ag22 rfl ((h6.a.ok.g.e.sl.row (i:=s.a.toNat) (by omega)).c0a rfl))<|lT<|Vo (R.mkFn rfl rfl)<|lT<|Vp call64 rfl (hcon s.a.toNat (by omega) (Mod.refl _ _)) fun w19_19 e19_19=>lT<|Vo (R.not rfl)<|oP rfl rfl<|oA rfl<|Vn<|Vt<|tB rfl rfl rfl (?_)) (fun g19_11=>lF<|lF<|lF<|lF<|lF<|lF<|lF<|lF<|oQ rfl rfl<|oA rfl<|Vn<|Vt<|tB rfl rfl rfl (?_))) (fun g19_3=>lF<|lF<|lF<|lF<|lF<|oQ rfl rfl<|oB rfl<|lF<|lF<|lF<|lF<|lF<|lF<|lF<|lF<|lF<|oQ rfl rfl<|oA rfl<|Vn<|Vt<|tB rfl rfl rfl (?_))
    ·refine hfin ?_ e19_19
     rw [hlf,decide_eq_true (by omega),(hR.edge (show s.a.toNat<_ by omega)).1,allI];rfl
    ·refine hfin ?_ (Vc.Mod.refl _ _)
     rw [hlf,decide_eq_false (by omega)];rfl
    ·refine hfin ?_ (Vc.Mod.refl _ _)
     rw [hlf,decide_eq_false (by omega)];rfl
   ·have hk:s.k=3:=by assumption
    have hlf:leafG y.c st s=(decide (0≤s.a∧s.a<y.x.g.n∧stA st s.a=2)&&frA (vals y.x.g.edges) st s.a):=by unfold leafG;rw [if_neg (by omega),if_pos hk];rfl
    refine rQ 16 (Vq (fun wq eq=>R.mvB rfl)<|Vq (fun wq eq=>R.mvB rfl)<|VQ.and rfl rfl (fun g21_1=>Vq (fun wq eq=>rla ag92 rfl (show _=some (Value.pointer (some ⟨y.x.p,0,none⟩)) from (h6.r.bs.ext eq).cell 0))<|qT<|Vq (fun wq eq=>R.nilCheck rfl)<|qT<|Vq (fun wq eq=>R.fld' (o:=4) ru95 rfl rfl sz22 rfl rfl)<|qT<|Vq (fun wq eq=>rla ag22 rfl (show _=some (Value.slice (some ⟨y.x.tb,0,none⟩) st.length st.length) from (h6.a.ok.blk.ext eq).cell 4))<|qT<|Vq (fun wq eq=>R.fld' (o:=1) ru100 rfl rfl sz3 rfl rfl)<|qT<|Vq (fun wq eq=>rla ag3 rfl (show _=some (Value.int .i64 s.a) from (hb6.ext eq).cell 1))<|qT<|Vq (fun wq eq=>R.ixS ru22 sz3 rfl rfl (by have:=of_decide_eq_true g21_1;omega) (by have:=of_decide_eq_true g21_1;omega) (h6.a.ok.t.sl.some (i:=s.a.toNat) (by have:=of_decide_eq_true g21_1;omega)))<|qT<|Vq (fun wq eq=>rla ag3 rfl (((h6.a.ok.t.sl.ext eq).row (i:=s.a.toNat) (by have:=of_decide_eq_true g21_1;omega)).c0a rfl))<|qT<|Vq (fun wq eq=>R.eql rfl rfl)<|Vq (fun wq eq=>R.pickTB rfl rfl)<|Vq (fun wq eq=>R.mvB rfl)<|VQ.andP rfl rfl (fun g21_12=>Vq (fun wq eq=>rla ag92 rfl (show _=some (Value.pointer (some ⟨y.x.p,0,none⟩)) from (h6.r.bs.ext eq).cell 0))<|qT<|Vq (fun wq eq=>R.fld' (o:=1) ru100 rfl rfl sz3 rfl rfl)<|qT<|Vq (fun wq eq=>rla ag3 rfl (show _=some (Value.int .i64 s.a) from (hb6.ext eq).cell 1))<|Vj fun w21q e21q=>lT<|Vp call92 rfl (exc_spec y.x y.N s.a st _ (h6.a.ok.ext e21q) hR hst (by have:=of_decide_eq_true g21_1;omega) (by have:=of_decide_eq_true g21_1;omega)) fun w21_16 e21_16=>lT<|Vo (R.not rfl)<|oP rfl rfl<|oA rfl<|Vn<|Vt<|tB rfl rfl rfl (?_)) (fun g21_12=>qF<|qF<|Vj fun w21q e21q=>lF<|lF<|oQ rfl rfl<|oA rfl<|Vn<|Vt<|tB rfl rfl rfl (?_))) (fun g21_1=>qF<|qF<|qF<|qF<|qF<|qF<|qF<|qF<|Vq (fun wq eq=>R.pickFB rfl rfl)<|Vq (fun wq eq=>R.mvB rfl)<|qF<|qF<|qF<|Vj fun w21q e21q=>lF<|lF<|oQ rfl rfl<|oA rfl<|Vn<|Vt<|tB rfl rfl rfl (?_)))
    ·refine hfin ?_ (e21q.trans e21_16)
     have:=of_decide_eq_true g21_1
     rw [hlf,decide_eq_true ⟨this.1,this.2,g21_12⟩,Bool.not_not];rfl
    ·refine hfin ?_ e21q
     rw [hlf,decide_eq_false (fun hh=>g21_12 hh.2.2)];rfl
    ·refine hfin ?_ e21q
     have:=of_decide_eq_false g21_1
     rw [hlf,decide_eq_false (fun hh=>this ⟨hh.1,hh.2.1⟩)];rfl
   ·have hk:s.k=6:=by assumption
    have hlf:leafG y.c st s=(decide (s.a=0)&&goodA y.up y.lim (sumA y.up y.ws st y.N)):=by
     unfold leafG;rw [if_neg (by omega),if_neg (by omega),if_pos hk]
     have hcn:y.c.n.toNat=y.N:=by show y.x.g.n.toNat=_;omega
     rw [hcn];rfl
    refine Vr<|Vo (R.fld' (o:=1) ru100 rfl rfl sz3 rfl rfl)<|Vo (rla ag3 rfl (show _=some (Value.int .i64 s.a) from hb6.cell 1))<|Vo (R.eql rfl rfl)<|oB rfl<|VL.andP rfl rfl (fun g23_3=>Vo (R.fld' (o:=2) ru64 rfl rfl sizeOf62 rfl rfl)<|lT<|Vo (rla isAgg62 rfl (show _=some (Value.func (.func (fnG y.up)) #[] #[]) from h6.r.bb.cell 2))<|lT<|oI rfl<|lT<|Vo (R.fld' (o:=0) ru64 rfl rfl sz3 rfl rfl)<|lT<|Vo (rla ag3 rfl (show _=some (Value.int .i64 y.lim) from h6.r.bb.cell 0))<|lT<|VL.callCP rfl (fnG_is y.up) rfl (fnG_spec y.up (sumA y.up y.ws st y.N) y.lim _) fun w23_9 e23_9=>oP rfl rfl<|oA rfl<|Vn<|Vt<|tB rfl rfl rfl (?_)) (fun g23_3=>lF<|lF<|lF<|lF<|lF<|oQ rfl rfl<|oA rfl<|Vn<|Vt<|tB rfl rfl rfl (?_))
    ·refine hfin ?_ e23_9
     rw [hlf,decide_eq_true (by assumption)];rfl
    ·refine hfin ?_ (Vc.Mod.refl _ _)
     rw [hlf,decide_eq_false (by assumption)];rfl
   ·have hlf:leafG y.c st s=false:=by unfold leafG;rw [if_neg (by assumption),if_neg (by assumption),if_neg (by assumption)]
    refine Vr<|oA rfl<|Vn<|Vt<|tB rfl rfl rfl (hfin hlf (Vc.Mod.refl _ _))
theorem right31_spec (g:GrW) (N:Nat) (wa:Option Addr) (wc:Nat) (ws:List Int) (sa:Option Addr) (sc:Nat) (S:List St4) (up:Bool) (lim:Int) (w:World) (hG:GOk w g) (hl:GLen g) (hv:validG (grV g)=true) (hN:g.n=(N:Int)) (hW:IntSl w wa ws) (hwl:ws.length=N) (hwb:∀ x∈ws,-1000000000≤x∧x≤1000000000) (hS:TSl encS4 4 w sa S) :
  RetsP prog 52 #[.agg (encGr g).toArray,.slice wa ws.length wc,.agg #[.slice sa S.length sc],.agg (encBd up lim).toArray] w (.bool (provG (grV g) ws up lim S)):=by
 have hcb:=costB_iff.1 (validG_iff.1 hv).1
 have hN4:N≤4000:=by have h0:g.n≤4000:=hcb.2.1;omega
 have hgn:(grV g).n.toNat=N:=by show g.n.toNat=N;omega
 rw [encBd_fn]
 refine eN (args:=[_,_,_,_]) func52 rfl ntmps52 ?_
 refine Vs<|Vr<|VL.box (v:=.agg _) rfl fun b0_0 w0_0 hb0_0 e0_0 hB0_0=>VL.box (v:=.slice _ _ _) rfl fun b0_1 w0_1 hb0_1 e0_1 hB0_1=>VL.box (v:=.agg _) rfl fun b0_2 w0_2 hb0_2 e0_2 hB0_2=>VL.box (v:=.agg _) rfl fun b0_3 w0_3 hb0_3 e0_3 hB0_3=>oA rfl<|Vn<|Vs<|Vs<|Vr<|Vo (R.fld' (o:=0) ru30 rfl rfl sz28 rfl rfl)<|Vo (rla ag28 rfl (show _=some (Value.slice sa S.length sc) from (hB0_2.ext e0_3).cell 0))<|Vo (R.lenS ru28 rfl)<|oL rfl rfl<|oB rfl<|VL.orP rfl rfl (fun g1_4=>Vo (R.fld' (o:=0) ru30 rfl rfl sz28 rfl rfl)<|lT<|Vo (rla ag28 rfl (show _=some (Value.slice sa S.length sc) from (hB0_2.ext e0_3).cell 0))<|lT<|Vo (R.lenS ru28 rfl)<|lT<|Vo (R.gtr rfl rfl)<|oQ rfl rfl<|Vn<|Vd rfl (fun c24=>Vs<|Vr<|oA rfl<|Vn<|Vt<|tB rfl rfl rfl (⟨?_,(((e0_0.trans e0_1).trans e0_2).trans e0_3)⟩)) (fun c24=>Vk<|Vs<|Vr<|Vo (R.ldA ag25 sz25 rfl rfl (show RowAt _ _ _ (encGr g) from ((((hB0_0.ext e0_1).ext e0_2).ext e0_3).rowAt 0 3)) rfl)<|VL.callX call67 rfl (begin31_spec g N _ (hG.ext (((e0_0.trans e0_1).trans e0_2).trans e0_3)) hl hv hN) fun x w1 hx e1=>VL.allocSt (v:=.pointer _) zeroValue92 sizeOf92 rfl rfl rfl rfl rfl fun b3_2 w3_2 hb3_2 e3_2 hB3_2=>Vn<|Vs (?_))) (fun g1_4=>lF<|lF<|lF<|oP rfl rfl<|Vn<|Vg rfl<|Vs<|Vr<|oA rfl<|Vn<|Vt<|tB rfl rfl rfl (⟨?_,(((e0_0.trans e0_1).trans e0_2).trans e0_3)⟩))
 ·exact congrArg Value.bool (show false=provG (grV g) ws up lim S from by unfold provG;rw [decide_eq_false (by omega)];rfl)
 rotate_left
 ·exact congrArg Value.bool (show false=provG (grV g) ws up lim S from by unfold provG;rw [decide_eq_false (by omega)];rfl)
 have hS1:1≤S.length∧S.length≤100000:=by omega
 have E1:Ext w w3_2:=((((e0_0.trans e0_1).trans e0_2).trans e0_3).trans e1).trans e3_2
 have z0:=e0_0.size;have z1:=e0_1.size;have z2:=e0_2.size;have z3:=e0_3.size;have z4:=e1.size;have z5:=e3_2.size
 have l0:=hB0_0.lt;have l1:=hB0_1.lt;have l2:=hB0_2.lt;have l3:=hB0_3.lt;have l4:=hB3_2.lt
 have hxt:=hx.t
 have hxlt:=hx.ok.t.lt x.tb ⟨_,rfl,rfl⟩
 have e13:Ext w0_3 w3_2:=e1.trans e3_2
 have hG0:GrB w3_2 b0_0 g:=((hB0_0.ext (e0_1.trans e0_2)).ext e0_3).ext e13
 have hb5:Blk w3_2 b0_1 (.cells #[.slice wa ws.length wc] 22 (0,0)):=((hB0_1.ext e0_2).ext e0_3).ext e13
 have hbP:Blk w3_2 b0_2 (.cells #[.slice sa S.length sc] 30 (0,0)):=(hB0_2.ext e0_3).ext e13
 have hb3:Blk w3_2 b0_3 (.cells #[.int .i64 lim,.func (.func (fnB up)) #[] #[],.func (.func (fnG up)) #[] #[]] 64 (0,0)):=hB0_3.ext e13
 have hb6:PtG w3_2 b3_2 x:=hB3_2
 have hW1:=hW.ext E1
 have hSs:=TSl.ext hS E1
 have hx1:=hx.ok.ext e3_2
 refine Vr<|Vo (R.fld' (o:=0) ru30 rfl rfl sz28 rfl rfl)<|Vo (rla ag28 rfl (show _=some (Value.slice sa S.length sc) from hbP.cell 0))<|Vo (R.lenS ru28 rfl)<|VL.makeSl (enc:=encBl ) el79 ( false) rfl rfl rfl (by omega) (by unfold maxLen;omega) (Nat.le_refl _) fun b4 w4 hb4 e4 ho4=>VL.allocSt (v:=.slice _ _ _) zeroValue79 sizeOf79 rfl rfl rfl rfl rfl fun b4_4 w4_4 hb4_4 e4_4 hB4_4=>Vn<|Vs (?_)
 have hR4:Blk w4_4 b4_4 (.cells #[.slice (some ⟨b4,0,none⟩) S.length S.length] 79 (0,0)):=hB4_4
 have E4:Ext w3_2 w4_4:=e4.trans e4_4
 have ho4':=ho4.ext e4_4
 have z6:=e4.size;have z7:=e4_4.size;have l5:=hR4.lt
 have l6:=ho4.lt b4 ⟨_,rfl,rfl⟩
 have g6:=ho4.ge b4 ⟨_,rfl,rfl⟩
 refine Vr<|oJ rfl<|Vn<|V.cut [4,5,6,7,9,10,11] (fun _:Unit=>[pA b0_0,pA b0_1,pA b0_2,pA b0_3,pA b3_2,pA b4_4,.int .i64 (sm (ws.map (bestW up)))]) (fun _ w'=>Ext w4_4 w') (Vs<|Vr<|Vo (rla ag22 rfl (show _=some (Value.slice wa ws.length wc) from (hb5.ext E4).cell 0))<|Vo (R.lenS ru22 rfl)<|oI rfl<|Vn<|Vb (?_)) (fun rgB0 xB0 wBB0 hBB0=>Vs (?_))
 ·refine Vl [4,5,6,7,9,10,11,31,32,33] (fun i:Nat=>[pA b0_0,pA b0_1,pA b0_2,pA b0_3,pA b3_2,pA b4_4,.int .i64 (sm ((ws.take i).map (bestW up))),.slice wa ws.length wc,.int .i64 (ws.length:Nat),.int .i64 (i:Nat)])
   (fun i w'=>i≤ws.length∧Ext w4_4 w') (fun i=>ws.length-i) 0 rfl ⟨Nat.zero_le _,Vc.Mod.refl _ _⟩ ?_
  rintro ρ i w5 ⟨hi,e5⟩
  have hbn:=bst_bnd (up:=up) hwb i hi
  have hbi:i<ws.length→-1000000000≤bestW up (ws.getD i default)∧bestW up (ws.getD i default)≤1000000000:=fun h=>by
   have:=hwb _ (gmem h)
   unfold bestW;split <;> omega
  have hW4:=TSl.ext hW1 E4
  refine Vs<|Vr<|oL rfl rfl<|Vn<|Vs<|Vd rfl (fun c34=>Vk<|Vs<|Vb<|Vs<|Vr<|Vo (iX ru22 sz3 rfl rfl ((hW4).some (i:=i) (by omega)))<|Vo (rla ag3 rfl ((((hW4).ext e5).row (i:=i) (by omega)).c0a rfl))<|oJ rfl<|Vn<|Vr<|oI rfl<|Vo (R.fld' (o:=1) ru64 rfl rfl sizeOf61 rfl rfl)<|Vo (rla isAgg61 rfl (show _=some (Value.func (.func (fnB up)) #[] #[]) from ((hb3.ext E4).ext e5).cell 1))<|oI rfl<|VL.callCP rfl (fnB_is up) rfl (fnB_spec up (ws.getD i default) _) fun w9_4 e9_4=>Vo (R.add rfl rfl (by have:=hbi;omega) (by have:=hbi;omega))<|oJ rfl<|Vn<|Vr<|oD rfl rfl<|oI rfl<|Vn (⟨i+1,?_,⟨by omega,(e5.trans e9_4)⟩,by omega⟩)) (fun c34=>Ve (?_))
  ·rw [List.take_succ_eq_append_getElem (by omega),List.map_append,List.map_singleton,sm_snoc,gget (l:=ws) (by omega)];rfl
  ·have hil:i=ws.length:=by omega
   subst hil
   rw [List.take_length]
   exact ⟨(),rfl,e5⟩
 refine Vr<|VL.alloc zeroValue62 fun b11_0 w11_0 hb11_0 e11_0 hB11_0=>Vn<|Vs<|Vr<|Vo (R.mkFn rfl rfl)<|VL.store (v:=.func _ _ _) sizeOf62 rfl rfl rfl rfl hB11_0 rfl rfl fun w12 m12 hs12 hB12=>Vn<|Vs (?_)
 have m12':Vc.Mod (Vc.one b11_0) w11_0 w12:=m12
 have hbF:Blk w12 b11_0 (.cells #[.func (.func 90) #[] #[pA b0_2,pA b4_4,pA b0_0,pA b3_2,pA b0_3,pA b0_1,pA b11_0]] 62 (0,0)):=hB12
 clear hB12 m12
 have zB:=hBB0.size
 have l11:=hB11_0.lt
 have E11:Ext w4_4 w11_0:=hBB0.trans e11_0
 have E12:Ext w4_4 w12:=E11.own m12' (by omega)
 have E12':Ext w3_2 w12:=E4.trans E12
 obtain ⟨y,hy⟩:∃ y:RiX,y=⟨x,N,b0_2,b4_4,b4,b0_0,b3_2,b0_3,b0_1,b11_0,up,lim,wa,wc,ws,sa,sc,S⟩:=⟨_,rfl⟩
 have hF:∀ q,y.F q↔q=x.tb∨q=b4:=fun q=>by rw [hy];exact Iff.rfl
 have hwa:∀ q,0<ws.length→aBlk wa q→q<w.heap.size:=fun q hp ⟨ad,ha,hq⟩=>by
  have:=TSl.lt hW hp
  rw [ha] at this
  rw [←hq];exact this
 have hsaq:∀ q,0<S.length→aBlk sa q→q<w.heap.size:=fun q hp ⟨ad,ha,hq⟩=>by
  have:=TSl.lt hS hp
  rw [ha] at this
  rw [←hq];exact this
 have hRS:RiS y:=by
  refine ⟨?_,?_,?_,?_,?_,?_,?_,?_,?_,?_,?_,?_,?_,?_⟩
  ·rw [hF,hy];dsimp only;omega
  ·rw [hF,hy];dsimp only;omega
  ·rw [hF,hy];dsimp only;omega
  ·rw [hF,hy];dsimp only;omega
  ·rw [hF,hy];dsimp only;omega
  ·rw [hF,hy];dsimp only;omega
  ·rw [hF,hy];dsimp only;omega
  ·intro q hp hq
   rw [hy] at hp hq
   have:=hsaq q hp hq
   rw [hF];omega
  ·intro q hp hq
   rw [hy] at hp hq
   have:=hwa q hp hq
   rw [hF];omega
  ·rw [hy];dsimp only;omega
  ·rw [hy];exact hx.r
  ·rw [hy];exact hwl
  ·rw [hy];exact hwb
  ·rw [hy];exact hS1.2
 have hz:zerS (grV g)=List.replicate N 0:=by unfold zerS;rw [hgn]
 have hyc:y.c=⟨(grV g).n,(grV g).edges,ws,up,lim,S⟩:=by rw [hy];unfold RiX.c;dsimp only;rw [hx.g];rfl
 have hsum:sumA up ws (List.replicate N 0) N=sm (ws.map (bestW up)):=by
  have:=sumA_zero (g:=grV g) (up:=up) (ws:=ws) (by rw [hwl,hgn])
  rwa [hgn,hz] at this
 have hOk:RiOk y w12 (List.replicate N 0) (List.replicate S.length false):=by
  have hxp:=hx.p
  have hxpl:=hx.ok.blk.lt
  have hzl:=hx.zl
  have hyx:y.x=x:=by rw [hy]
  have hyr:y.rb=b4:=by rw [hy]
  refine ⟨⟨by rw [hyx];exact hx1.ext E12',⟨w0_3,e13.trans E12',by rw [hyx];exact hxt,by rw [hyx,hx.g];exact hG.ext (((e0_0.trans e0_1).trans e0_2).trans e0_3),fun q (hq:q=_)=>by rw [hyr] at hq;omega⟩,?_,?_,?_,?_⟩,?_,?_⟩
  ·rw [hyx,hyr];omega
  ·rw [hyx,hyr];omega
  ·rw [hyx,hyr];omega
  ·intro u hu q hq
   rw [hyx] at hu
   have:=hx.zel u hu q hq
   rw [hyr];omega
  ·rw [hy]
   exact ⟨hbP.ext E12',TSl.ext hSs E12',hR4.ext E12,by show GrB w12 b0_0 x.g;rw [hx.g];exact hG0.ext E12',hb6.ext E12',hb3.ext E12',hb5.ext E12',TSl.ext hW1 E12',hbF⟩
  ·rw [hy];exact (ho4'.ext E12).weaken (Nat.zero_le _)
 have hst:=step31_spec y hRS S.length 0 (List.replicate N 0) (List.replicate S.length false) w12 (by rw [hy];exact Nat.le_add_left _ _) hOk (by rw [hy];exact List.length_replicate) (by rw [hy];exact List.length_replicate)
 have hyS:y.c.S=S:=by rw [hyc]
 have hrg:rgT y.c S.length 0 (List.replicate N 0) (List.replicate S.length false)=rightG ⟨(grV g).n,(grV g).edges,ws,up,lim,S⟩ S.length 0 (List.replicate N 0) (List.replicate S.length false):=by
  unfold rgT;rw [if_pos ⟨Int.le_refl _,by rw [hyS];omega⟩,hyc];rfl
 rw [hrg] at hst
 subst hy
 dsimp only at hst
 rw [hsum] at hst
 refine Vr<|Vo (rla isAgg62 rfl (show _=some (Value.func (.func 90) #[] [Value.pointer (some ⟨b0_2,0,none⟩),pA b4_4,pA b0_0,pA b3_2,pA b0_3,pA b0_1,pA b11_0].toArray) from hbF.cell 0))<|oI rfl<|VL.callCY rfl (call90) rfl (hst) fun z w13 hz=>oA rfl<|Vn<|Vt<|tB rfl rfl rfl (⟨?_,?_⟩)
 ·exact congrArg Value.bool (show _=provG (grV g) ws up lim S from by unfold provG;rw [decide_eq_true (⟨by omega,hS1.2⟩:0<S.length∧S.length≤100000),hgn];rfl)
 ·exact (E1.trans E12').ownA hz.m fun q hq=>by have:=(hF q).1 hq;omega
def checkG (g:Gr) (ws:List Int) (x:SpX):Bool:=(validG g&&wtsB g ws (-1000000000))&&(isB g x.lo.l&&(isB g x.hi.l&&(decide (totW ws x.lo.l=x.fr)&&(decide (totW ws x.hi.l=x.to)&&(provG g ws false x.fr x.P&&provG g ws true x.to x.Q)))))
structure SpIn (w:World) (x:SpX):Prop where
 lo:IntSl w x.lo.a x.lo.l
 hi:IntSl w x.hi.a x.hi.l
 p:TSl encS4 4 w x.pa x.P
 q:TSl encS4 4 w x.qa x.Q
theorem SpIn.ext {w w':World} {x:SpX} (h:SpIn w x) (e:Ext w w'):SpIn w' x:=⟨TSl.ext h.lo e,TSl.ext h.hi e,TSl.ext h.p e,TSl.ext h.q e⟩
theorem SpOk.in {B:Nat} {w:World} {x:SpX} (h:SpOk B w x):SpIn w x:=⟨h.lo.sl,h.hi.sl,h.p.sl,h.q.sl⟩
theorem chk_one {g:Gr} {ws:List Int} {least:Int}:chkF g ws least=1↔(validG g&&wtsB g ws least)=false:=by
 unfold chkF
 by_cases h:validG g=true∧wtsB g ws least=true
 ·rw [if_pos h,h.1,h.2]
  split <;> simp
 ·rw [if_neg h]
  rw [←Bool.and_eq_true] at h
  simpa using h
theorem check20_spec (g:GrW) (wa:Option Addr) (wc:Nat) (ws:List Int) (x:SpX) (B:Nat) (w:World) (hG:GOk w g) (hl:GLen g) (hW:IntSl w wa ws) (hwl:ws.length≤1000000) (hX:SpIn w x) (h1:x.lo.l.length≤1000000) (h2:x.hi.l.length≤1000000) (hB:B≤w.heap.size) (hT:TabW B w) :
  RetsP prog 20 #[.agg (encGr g).toArray,.slice wa ws.length wc,.agg (encSp x).toArray] w (.bool (checkG (grV g) ws x)):=by
 refine eN (args:=[_,_,_]) func20 rfl ntmps20 ?_
 refine Vs<|Vr<|VL.box (v:=.agg _) rfl fun b0_0 w0_0 hb0_0 e0_0 hB0_0=>VL.box (v:=.agg _) rfl fun b0_1 w0_1 hb0_1 e0_1 hB0_1=>oA rfl<|Vn<|Vs<|Vs<|Vr<|Vo (R.ldA ag25 sz25 rfl rfl (show RowAt _ _ _ (encGr g) from (hB0_0.ext e0_1).rowAt 0 3) rfl)<|oS rfl<|Vp call33 rfl (check31_spec g wa wc ws (-1000000000) B _ (hG.ext (e0_0.trans e0_1)) hl (hW.ext (e0_0.trans e0_1)) hwl (Nat.le_trans hB (e0_0.trans e0_1).size) (hT.ext hB (e0_0.trans e0_1))) fun w1_2 e1_2=>oJ rfl<|Vn<|Vs (?_)
 have hG1:GrB w1_2 b0_0 g:=(hB0_0.ext e0_1).ext e1_2
 have hx1:Blk w1_2 b0_1 (.cells (encSp x).toArray 32 (0,0)):=hB0_1.ext e1_2
 have E1:Ext w w1_2:=(e0_0.trans e0_1).trans e1_2
 have his:∀ (a:Option Addr) (c:Nat) (S:List Int) (w':World),Ext w1_2 w'→IntSl w' a S→S.length≤1000000→RetsP prog 28 #[.agg (encGr g).toArray,.slice a S.length c] w' (.bool (isB (grV g) S)):=fun a c S w' e hS hm=>is_spec28 g a c S B w' (hG.ext (E1.trans e)) hl hS hm (Nat.le_trans hB (E1.trans e).size) (hT.ext hB (E1.trans e))
 have hX1:=hX.ext E1
 refine Vr<|oI rfl<|Vo (R.eql rfl rfl)<|oB rfl<|VL.orP rfl rfl (fun g2_2=>Vo (R.ldA ag25 sz25 rfl rfl (show RowAt _ _ _ (encGr g) from hG1.rowAt 0 3) rfl)<|lT<|Vo (R.fld' (o:=2) ru32 rfl rfl sz22 rfl rfl)<|lT<|Vo (rla ag22 rfl (show _=some (Value.slice x.lo.a x.lo.l.length x.lo.c) from hx1.cell 2))<|lT<|Vp call28 rfl (his x.lo.a x.lo.c x.lo.l _ (Mod.refl _ _) (hX1.ext (Mod.refl _ _)).lo h1) fun w2_6 e2_6=>lT<|Vo (R.not rfl)<|oQ rfl rfl<|oB rfl<|VL.or rfl rfl (fun g2_9=>Vo (R.ldA ag25 sz25 rfl rfl (show RowAt _ _ _ (encGr g) from (hG1.ext e2_6).rowAt 0 3) rfl)<|lT<|Vo (R.fld' (o:=3) ru32 rfl rfl sz22 rfl rfl)<|lT<|Vo (rla ag22 rfl (show _=some (Value.slice x.hi.a x.hi.l.length x.hi.c) from (hx1.ext e2_6).cell 3))<|lT<|Vp call28 rfl (his x.hi.a x.hi.c x.hi.l _ e2_6 (hX1.ext e2_6).hi h2) fun w2_13 e2_13=>lT<|Vo (R.not rfl)<|oQ rfl rfl<|Vn<|Vh rfl (fun c26=>Vs<|Vr<|oA rfl<|Vn<|Vt<|tB rfl rfl rfl (⟨?_,E1.trans (e2_6.trans e2_13)⟩)) (fun c26=>Vk<|Vs<|Vs (?_))) (fun g2_9=>lF<|lF<|lF<|lF<|oP rfl rfl<|Vn<|Vg rfl<|Vs<|Vr<|oA rfl<|Vn<|Vt<|tB rfl rfl rfl (⟨?_,E1.trans e2_6⟩))) (fun g2_2=>lF<|lF<|lF<|lF<|oP rfl rfl<|oB rfl<|lF<|lF<|lF<|lF<|lF<|oP rfl rfl<|Vn<|Vg rfl<|Vs<|Vr<|oA rfl<|Vn<|Vt<|tB rfl rfl rfl (⟨?_,E1.trans (Mod.refl _ _)⟩))
 ·refine congrArg Value.bool (show false=checkG (grV g) ws x from ?_)
  rw [Bool.not_eq_true'] at c26
  unfold checkG;rw [c26];simp
 rotate_left
 ·refine congrArg Value.bool (show false=checkG (grV g) ws x from ?_)
  rw [Bool.not_eq_true'] at g2_9
  unfold checkG;rw [g2_9];simp
 ·refine congrArg Value.bool (show false=checkG (grV g) ws x from ?_)
  unfold checkG;rw [chk_one.1 g2_2];simp
 have hvw:(validG (grV g)&&wtsB (grV g) ws (-1000000000))=true:=by
  cases hh:(validG (grV g)&&wtsB (grV g) ws (-1000000000)) with
  | true=>rfl
  | false=>exact absurd (chk_one.2 hh) g2_2
 have hlo:isB (grV g) x.lo.l=true:=by simpa using g2_9
 have hhi:isB (grV g) x.hi.l=true:=by simpa using c26
 rw [Bool.and_eq_true] at hvw
 obtain ⟨hv,hwt⟩:=hvw
 have hwt2:=hwt
 unfold wtsB at hwt2
 rw [Bool.and_eq_true,decide_eq_true_eq,List.all_eq_true] at hwt2
 obtain ⟨hwn,hwb⟩:=hwt2
 have hwb:∀ y∈ws,-1000000000≤y∧y≤1000000000:=fun y hy=>of_decide_eq_true (hwb y hy)
 have hcn:=costB_iff.1 (validG_iff.1 hv).1
 have hgn:(grV g).n=g.n:=rfl
 have hn4:g.n≤4000:=hcn.2.1
 have i1:=(setB_iff.1 ((isB_iff hv).1 hlo).set).2
 have i2:=(setB_iff.1 ((isB_iff hv).1 hhi).set).2
 have hck:checkG (grV g) ws x=(decide (totW ws x.lo.l=x.fr)&&(decide (totW ws x.hi.l=x.to)&&(provG (grV g) ws false x.fr x.P&&provG (grV g) ws true x.to x.Q))):=by
  unfold checkG;rw [hv,hwt,hlo,hhi];rfl
 have E2:Ext w w2_13:=E1.trans (e2_6.trans e2_13)
 have hG2:=hG1.ext (e2_6.trans e2_13)
 have hx2:=hx1.ext (e2_6.trans e2_13)
 have hX2:=hX.ext E2
 have hW2:=TSl.ext hW E2
 refine rQ 16 (qS rfl<|Vq (fun wq eq=>R.fld' (o:=2) ru32 rfl rfl sz22 rfl rfl)<|Vq (fun wq eq=>rla ag22 rfl (show _=some (Value.slice x.lo.a x.lo.l.length x.lo.c) from (hx2.ext eq).cell 2))<|VQ.callP (fun _ _ h k=>Mod.trans h k) call35 rfl (fun wq eq=>total31_spec wa wc ws x.lo.a x.lo.c x.lo.l wq (TSl.ext hW2 eq) hwl (hX2.ext eq).lo h1 hwb (fun v hv=>by have:=i1 v hv;omega))<|Vq (fun wq eq=>R.fld' (o:=0) ru32 rfl rfl sz3 rfl rfl)<|Vq (fun wq eq=>rla ag3 rfl (show _=some (Value.int .i64 x.fr) from (hx2.ext eq).cell 0))<|Vq (fun wq eq=>R.neq rfl rfl)<|Vq (fun wq eq=>R.mvB rfl)<|VQ.orP rfl rfl (fun g4_7=>qS rfl<|qT<|Vq (fun wq eq=>R.fld' (o:=3) ru32 rfl rfl sz22 rfl rfl)<|qT<|Vq (fun wq eq=>rla ag22 rfl (show _=some (Value.slice x.hi.a x.hi.l.length x.hi.c) from (hx2.ext eq).cell 3))<|qT<|VQ.callP (fun _ _ h k=>Mod.trans h k) call35 rfl (fun wq eq=>total31_spec wa wc ws x.hi.a x.hi.c x.hi.l wq (TSl.ext hW2 eq) hwl (hX2.ext eq).hi h2 hwb (fun v hv=>by have:=i2 v hv;omega))<|qT<|Vq (fun wq eq=>R.fld' (o:=1) ru32 rfl rfl sz3 rfl rfl)<|qT<|Vq (fun wq eq=>rla ag3 rfl (show _=some (Value.int .i64 x.to) from (hx2.ext eq).cell 1))<|qT<|Vq (fun wq eq=>R.neq rfl rfl)<|Vq (fun wq eq=>R.pickFB rfl rfl)<|Vj fun w4q e4q=>Vn<|Vd rfl (fun c42=>Vs<|Vr<|oA rfl<|Vn<|Vt<|tB rfl rfl rfl (⟨?_,E2.trans e4q⟩)) (fun c42=>Vk<|Vs (?_))) (fun g4_7=>qF<|qF<|qF<|qF<|qF<|qF<|Vq (fun wq eq=>R.pickTB rfl rfl)<|Vj fun w4q e4q=>Vn<|Vg rfl<|Vs<|Vr<|oA rfl<|Vn<|Vt<|tB rfl rfl rfl (⟨?_,E2.trans e4q⟩)))
 ·refine congrArg Value.bool (show false=checkG (grV g) ws x from ?_)
  rw [hck,decide_eq_false c42];simp
 rotate_left
 ·refine congrArg Value.bool (show false=checkG (grV g) ws x from ?_)
  rw [hck,decide_eq_false g4_7];simp
 have d1:totW ws x.lo.l=x.fr:=Classical.not_not.1 g4_7
 have d2:totW ws x.hi.l=x.to:=Classical.not_not.1 c42
 rw [decide_eq_true d1,decide_eq_true d2,Bool.true_and,Bool.true_and] at hck
 obtain ⟨N,hN⟩:∃ N:Nat,g.n=(N:Int):=⟨ws.length,by omega⟩
 have hwN:ws.length=N:=by omega
 have E4:Ext w w4q:=E2.trans e4q
 have hG4:=hG2.ext e4q
 have hx4:=hx2.ext e4q
 have hX4:=hX.ext E4
 have hW4:=TSl.ext hW E4
 have hri:∀ (a:Option Addr) (c:Nat) (S:List St4) (up:Bool) (lim:Int) (w':World),Ext w4q w'→TSl encS4 4 w' a S→RetsP prog 52 #[.agg (encGr g).toArray,.slice wa ws.length wc,.agg #[.slice a S.length c],.agg (encBd up lim).toArray] w' (.bool (provG (grV g) ws up lim S)):=fun a c S up lim w' e hS=>right31_spec g N wa wc ws a c S up lim w' (hG.ext (E4.trans e)) hl hv hN (TSl.ext hW4 e) hwN hwb hS
 refine rQ 16 (Vq (fun wq eq=>R.ldA ag25 sz25 rfl rfl (show RowAt _ _ _ (encGr g) from (hG4.ext eq).rowAt 0 3) rfl)<|qS rfl<|Vq (fun wq eq=>R.fld' (o:=4) ru32 rfl rfl sz30 rfl rfl)<|Vq (fun wq eq=>R.ldA isAgg30 sz30 rfl rfl (show RowAt _ _ _ [Value.slice x.pa x.P.length x.pc] from (hx4.ext eq).rowAt 4 1) rfl)<|Vq (fun wq eq=>R.fld' (o:=0) ru32 rfl rfl sz3 rfl rfl)<|Vq (fun wq eq=>rla ag3 rfl (show _=some (Value.int .i64 x.fr) from (hx4.ext eq).cell 0))<|VQ.callP (fun _ _ h k=>Mod.trans h k) call37 rfl (fun wq eq=>lower31_spec x.fr wq)<|VQ.callP (fun _ _ h k=>Mod.trans h k) call52 rfl (fun wq eq=>hri x.pa x.pc x.P false x.fr wq eq (hX4.ext eq).p)<|Vq (fun wq eq=>R.mvB rfl)<|VQ.and rfl rfl (fun g6_8=>Vq (fun wq eq=>R.ldA ag25 sz25 rfl rfl (show RowAt _ _ _ (encGr g) from (hG4.ext eq).rowAt 0 3) rfl)<|qT<|qS rfl<|qT<|Vq (fun wq eq=>R.fld' (o:=5) ru32 rfl rfl sz30 rfl rfl)<|qT<|Vq (fun wq eq=>R.ldA isAgg30 sz30 rfl rfl (show RowAt _ _ _ [Value.slice x.qa x.Q.length x.qc] from (hx4.ext eq).rowAt 5 1) rfl)<|qT<|Vq (fun wq eq=>R.fld' (o:=1) ru32 rfl rfl sz3 rfl rfl)<|qT<|Vq (fun wq eq=>rla ag3 rfl (show _=some (Value.int .i64 x.to) from (hx4.ext eq).cell 1))<|qT<|VQ.callP (fun _ _ h k=>Mod.trans h k) call38 rfl (fun wq eq=>upper31_spec x.to wq)<|Vj fun w6q e6q=>lT<|Vp call52 rfl (hri x.qa x.qc x.Q true x.to _ e6q (hX4.ext e6q).q) fun w6_16 e6_16=>oP rfl rfl<|oA rfl<|Vn<|Vt<|tB rfl rfl rfl (⟨?_,E4.trans (e6q.trans e6_16)⟩)) (fun g6_8=>qF<|qF<|qF<|qF<|qF<|qF<|Vj fun w6q e6q=>lF<|oQ rfl rfl<|oA rfl<|Vn<|Vt<|tB rfl rfl rfl (⟨?_,E4.trans e6q⟩)))
 ·rw [hck,g6_8,Bool.true_and]
 ·rw [hck,g6_8,Bool.false_and]
def WkX.c (x:WkX):AggC:=⟨x.g.n,vals x.g.edges,x.ws,x.up,x.lim,x.S⟩
end Go.Proofs.YtdkhcipjenfcnaaGreatDoor
