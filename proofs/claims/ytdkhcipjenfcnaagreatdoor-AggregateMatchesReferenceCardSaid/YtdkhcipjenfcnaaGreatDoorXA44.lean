/- Aggregate: the first least one of a list (plain). -/
import Derived.Test.YtdkhcipjenfcnaaGreatDoorXA39
namespace Go.Proofs.YtdkhcipjenfcnaaGreatDoor
set_option maxRecDepth 100000
set_option maxHeartbeats 16000000
open Go.Vc Go.Proofs.Tryz
def loI (F:List Int→Int) (L:List (List Int)):Nat→Nat
 | 0=>0
 | k+1=>if k=0∨F (L.getD k default)<F (L.getD (loI F L k) default) then k else loI F L k
theorem loI_spec (F:List Int→Int) (L:List (List Int)):∀ k,(0<k→loI F L k<k)∧(∀ j,j<k→F (L.getD (loI F L k) default)≤F (L.getD j default))∧∀ j,j<loI F L k→F (L.getD (loI F L k) default)<F (L.getD j default)
 | 0=>⟨fun h=>absurd h (Nat.lt_irrefl _),fun j h=>absurd h (Nat.not_lt_zero _),fun j h=>absurd h (Nat.not_lt_zero _)⟩
 | k+1=>by
  obtain ⟨h1,h2,h3⟩:=loI_spec F L k
  unfold loI
  by_cases h:k=0∨F (L.getD k default)<F (L.getD (loI F L k) default)
  ·rw [if_pos h]
   refine ⟨fun _=>Nat.lt_succ_self _,fun j hj=>?_,fun j hj=>?_⟩
   ·by_cases e:j=k
    ·rw [e];exact Int.le_refl _
    ·have:=h2 j (by omega)
     rcases h with h | h <;> omega
   ·have:=h2 j hj
    rcases h with h | h <;> omega
  ·rw [if_neg h]
   rw [not_or] at h
   refine ⟨fun _=>by have:=h1 (by omega);omega,fun j hj=>?_,h3⟩
   by_cases e:j=k
   ·rw [e];omega
   ·exact h2 j (by omega)
theorem least_at {g:Gr} (hg:validG g=true) (ws:List Int) (F:List Int→Int) (hF:∀ R,F R=totW ws R):Least g ws ((repsG g).getD (loI F (repsG g) (repsG g).length) default):=by
 obtain ⟨h1,h2,h3⟩:=loI_spec F (repsG g) (repsG g).length
 have hne:=reps_ne hg
 have hlen:0<(repsG g).length:=List.length_pos_iff.2 hne
 have h1:=h1 hlen
 have hup:=reps_up hg
 obtain ⟨i,hi⟩:∃ i,i=loI F (repsG g) (repsG g).length:=⟨_,rfl⟩
 rw [←hi] at h1 h2 h3 ⊢
 have hgi:(repsG g).getD i default=(repsG g)[i]:=by rw [List.getD,List.getElem?_eq_getElem h1];rfl
 refine ⟨(reps_mem hg).1 (gmem h1),fun R hR=>?_,fun R hR he=>?_⟩
 ·obtain ⟨j,hj,rfl⟩:=List.getElem_of_mem ((reps_mem hg).2 hR)
  have:=h2 j hj
  rw [hF,hF] at this
  rw [show (repsG g).getD j default=(repsG g)[j] by rw [List.getD,List.getElem?_eq_getElem hj];rfl] at this
  exact this
 ·obtain ⟨j,hj,rfl⟩:=List.getElem_of_mem ((reps_mem hg).2 hR)
  have hgj:(repsG g).getD j default=(repsG g)[j]:=by rw [List.getD,List.getElem?_eq_getElem hj];rfl
  rw [hgi] at he ⊢
  have hij:i≤j:=Nat.le_of_not_lt fun h=>by
   have:=h3 j h
   rw [hF,hF,hgi,hgj,he] at this
   exact absurd this (Int.lt_irrefl _)
  by_cases e:i=j
  ·subst e;exact lexB_sto.irr _
  ·have:=List.pairwise_iff_getElem.1 hup i j h1 hj (by omega)
   cases hb:lexB (repsG g)[j] (repsG g)[i] with
   | false=>rfl
   | true=>exact absurd (lexB_sto.trans _ _ _ this hb) (by rw [lexB_sto.irr];decide)
theorem low_is {g:Gr} (hg:validG g=true) (ws:List Int):(repsG g).getD (loI (totW ws) (repsG g) (repsG g).length) default=extG ws g:=(least_at hg ws (totW ws) fun _=>rfl).unique (ext_least hg ws)
theorem high_is {g:Gr} (hg:validG g=true) (ws:List Int):(repsG g).getD (loI (fun R=>-totW ws R) (repsG g) (repsG g).length) default=extG (negW ws) g:=(least_at hg (negW ws) (fun R=>-totW ws R) fun R=>(totW_neg ws R).symm).unique (ext_least hg (negW ws))
structure PkW (bw bs:Nat) (wa:Option Addr) (wc:Nat) (ws:List Int) (x:SpX) (w:World):Prop where
 wb:Blk w bw (.cells #[.slice wa ws.length wc] 22 (0,0))
 v:IntSl w wa ws
 sp:Blk w bs (.cells (encSp x).toArray 32 (0,0))
theorem PkW.ext {bw bs:Nat} {wa:Option Addr} {wc:Nat} {ws:List Int} {x:SpX} {w w':World} (h:PkW bw bs wa wc ws x w) (e:Ext w w'):PkW bw bs wa wc ws x w':=⟨h.wb.ext e,TSl.ext h.v e,h.sp.ext e⟩
theorem peak2_spec (bw bs:Nat) (wa:Option Addr) (wc:Nat) (ws:List Int) (x:SpX) (a:Option Addr) (c:Nat) (Z:List Int) (w:World) (h:PkW bw bs wa wc ws x w) (hwl:ws.length≤1000000) (hZ:IntSl w a Z) (hZl:Z.length≤1000000) (hr:∀ v∈Z,0≤v∧v<(ws.length:Int)) :
  RetsP prog 46 #[.slice a Z.length c,pA bw,pA bs] w (.bool (decide (gmx ws Z≤x.fr))):=by
 refine eN (args:=[_,_,_]) func46 rfl ntmps46 ?_
 refine Vs<|Vr<|oA rfl<|Vn<|Vs<|rQ 7 (Vq (fun wq eq=>rla ag22 rfl (show _=some (Value.slice wa ws.length wc) from (h.ext eq).wb.cell 0))<|qS rfl<|VQ.callP (fun _ _ h k=>Mod.trans h k) call45 rfl (fun wq eq=>greatest31_spec wa wc ws a c Z wq (h.ext eq).v hwl (TSl.ext hZ eq) hZl hr)<|Vq (fun wq eq=>R.fld' (o:=0) ru32 rfl rfl sz3 rfl rfl)<|Vq (fun wq eq=>rla ag3 rfl (show _=some (Value.int .i64 x.fr) from (h.ext eq).sp.cell 0))<|Vq (fun wq eq=>R.leq rfl rfl)<|Vq (fun wq eq=>R.asB rfl)<|Vj fun w1q e1q=>Vn<|Vt<|tB rfl rfl rfl (⟨?_,e1q⟩))
 all_goals rfl
theorem peak4_spec (bw bs:Nat) (wa:Option Addr) (wc:Nat) (ws:List Int) (x:SpX) (a:Option Addr) (c:Nat) (Z:List Int) (w:World) (h:PkW bw bs wa wc ws x w) (hwl:ws.length≤1000000) (hZ:IntSl w a Z) (hZl:Z.length≤1000000) (hr:∀ v∈Z,0≤v∧v<(ws.length:Int)) :
  RetsP prog 49 #[.slice a Z.length c,pA bw,pA bs] w (.bool (decide (gmx ws Z=x.to))):=by
 refine eN (args:=[_,_,_]) func49 rfl ntmps49 ?_
 refine Vs<|Vr<|oA rfl<|Vn<|Vs<|rQ 7 (Vq (fun wq eq=>rla ag22 rfl (show _=some (Value.slice wa ws.length wc) from (h.ext eq).wb.cell 0))<|qS rfl<|VQ.callP (fun _ _ h k=>Mod.trans h k) call45 rfl (fun wq eq=>greatest31_spec wa wc ws a c Z wq (h.ext eq).v hwl (TSl.ext hZ eq) hZl hr)<|Vq (fun wq eq=>R.fld' (o:=1) ru32 rfl rfl sz3 rfl rfl)<|Vq (fun wq eq=>rla ag3 rfl (show _=some (Value.int .i64 x.to) from (h.ext eq).sp.cell 1))<|Vq (fun wq eq=>R.eql rfl rfl)<|Vq (fun wq eq=>R.asB rfl)<|Vj fun w1q e1q=>Vn<|Vt<|tB rfl rfl rfl (⟨?_,e1q⟩))
 all_goals rfl
theorem peak3_spec (v:Value) (w:World):RetsP prog 48 #[v] w (.bool true):=by
 refine eN (args:=[_]) func48 rfl ntmps48 ?_
 refine Vs<|Vr<|oA rfl<|Vn<|Vs<|Vr<|oA rfl<|Vn<|Vt<|tB rfl rfl rfl (⟨rfl,(Mod.refl _ _)⟩)
structure PkM (bw bn bs:Nat) (wa:Option Addr) (wc:Nat) (ws:List Int) (m:Int) (x:SpX) (w:World):Prop where
 k:PkW bw bs wa wc ws x w
 n:Blk w bn (.cells #[.int .i64 m] 3 (0,0))
 ne:bn≠bs
 nw:bn≠bw
 sw:bs≠bw
 vn:∀ q,0<ws.length→aBlk wa q→q≠bn∧q≠bs
def lsM (m n:Int):Int:=if m<0∨n<m then n else m
theorem peak1_spec (bw bn bs:Nat) (wa:Option Addr) (wc:Nat) (ws:List Int) (m:Int) (x:SpX) (a:Option Addr) (c:Nat) (Z:List Int) (w:World) (h:PkM bw bn bs wa wc ws m x w) (hwl:ws.length≤1000000) (hZ:IntSl w a Z) (hZl:Z.length≤1000000) (hr:∀ v∈Z,0≤v∧v<(ws.length:Int)) :
  RetsY prog 44 #[.slice a Z.length c,pA bw,pA bn,pA bs] w (fun _:Unit=>.bool false) (fun _ w'=>PkM bw bn bs wa wc ws (lsM m (gmx ws Z)) { x with to:=max x.to (gmx ws Z) } w'∧Vc.Mod (fun q=>q=bn∨q=bs) w w'):=by
 have hmod:∀ {w1 w2:World} {m:Int} {x:SpX} {y:Nat},PkM bw bn bs wa wc ws m x w1→Vc.Mod (Vc.one y) w1 w2→(y=bn∨y=bs)→Blk w2 bw (.cells #[.slice wa ws.length wc] 22 (0,0))∧IntSl w2 wa ws:=fun h m hy=>by
  have h1:=h.nw;have h2:=h.sw
  refine ⟨h.k.wb.mod m fun (e:bw=_)=>by rcases hy with hy | hy <;> omega,modP h.k.v m fun q hp hk (e:q=_)=>?_⟩
  have:=h.vn q hp hk
  rcases hy with hy | hy
  ·exact this.1 (e.trans hy)
  ·exact this.2 (e.trans hy)
 refine eN (args:=[_,_,_,_]) func44 rfl ntmps44 ?_
 refine Vs<|Vr<|oA rfl<|Vn<|Vs<|Vr<|Vo (rla ag22 rfl (show _=some (Value.slice wa ws.length wc) from h.k.wb.cell 0))<|oS rfl<|Vp call45 rfl (greatest31_spec wa wc ws a c Z w h.k.v hwl hZ hZl hr) fun w1_2 e1_2=>oJ rfl<|Vn<|V.cut [3,6] (fun _:Unit=>[pA bs,.int .i64 (gmx ws Z)]) (fun _ w'=>PkM bw bn bs wa wc ws (lsM m (gmx ws Z)) x w'∧Vc.Mod (fun q=>q=bn∨q=bs) w w') (Vs<|Vr<|Vo (rla ag3 rfl (show _=some (Value.int .i64 m) from (h.n.ext e1_2).cell 0))<|oL rfl rfl<|oB rfl<|VL.orP rfl rfl (fun g2_2=>oI rfl<|lT<|Vo (rla ag3 rfl (show _=some (Value.int .i64 m) from (h.n.ext e1_2).cell 0))<|lT<|oL rfl rfl<|oQ rfl rfl<|Vn<|Vd rfl (fun c16=>Vr<|oI rfl<|VL.store (v:=.int _ _) sz3 rfl rfl rfl rfl (h.n.ext e1_2) rfl rfl fun w3 m3 hs3 hB3=>Vn (?_)) (fun c16=>Vk (?_))) (fun g2_2=>lF<|lF<|oP rfl rfl<|Vn<|Vg rfl<|Vr<|oI rfl<|VL.store (v:=.int _ _) sz3 rfl rfl rfl rfl (h.n.ext e1_2) rfl rfl fun w3 m3 hs3 hB3=>Vn (?_))) (fun rgC16 xC16 wBC16 hBC16=>Vs (?_))
 ·have h1:=hmod h ((e1_2.mod (S:=Vc.one bn)).trans m3) (.inl rfl)
  have hls:lsM m (gmx ws Z)=gmx ws Z:=if_pos (.inr c16)
  rw [hls]
  exact ⟨(),rfl,⟨⟨h1.1,h1.2,(h.k.sp.ext e1_2).mod m3 fun (e:bs=_)=>h.ne e.symm⟩,hB3,h.ne,h.nw,h.sw,h.vn⟩,(e1_2.weaken fun _ _ h=>h.elim).then m3 fun _ _ h=>.inl h⟩
 ·have hls:lsM m (gmx ws Z)=m:=if_neg (by omega)
  rw [hls]
  exact ⟨(),rfl,⟨h.k.ext e1_2,h.n.ext e1_2,h.ne,h.nw,h.sw,h.vn⟩,e1_2.weaken fun _ _ h=>h.elim⟩
 ·have h1:=hmod h ((e1_2.mod (S:=Vc.one bn)).trans m3) (.inl rfl)
  have hls:lsM m (gmx ws Z)=gmx ws Z:=if_pos (.inl g2_2)
  rw [hls]
  exact ⟨(),rfl,⟨⟨h1.1,h1.2,(h.k.sp.ext e1_2).mod m3 fun (e:bs=_)=>h.ne e.symm⟩,hB3,h.ne,h.nw,h.sw,h.vn⟩,(e1_2.weaken fun _ _ h=>h.elim).then m3 fun _ _ h=>.inl h⟩
 obtain ⟨h4,M4⟩:=hBC16
 refine Vr<|Vo (R.fld' (o:=1) ru32 rfl rfl sz3 rfl rfl)<|Vo (rla ag3 rfl (show _=some (Value.int .i64 x.to) from h4.k.sp.cell 1))<|oI rfl<|Vo (R.max rfl rfl)<|Vo (R.fld' (o:=1) ru32 rfl rfl sz3 rfl rfl)<|VL.store (v:=.int _ _) sz3 rfl rfl rfl rfl h4.k.sp rfl rfl fun w5 m5 hs5 hB5=>Vn<|Vs<|Vr<|oA rfl<|Vn<|Vt<|tB rfl rfl rfl (?_)
 have m5':Vc.Mod (Vc.one bs) wBC16 w5:=m5
 have h1:=hmod h4 m5' (.inr rfl)
 exact ⟨(),rfl,⟨⟨h1.1,h1.2,hB5⟩,h4.n.mod m5' fun (e:bn=_)=>h4.ne e,h4.ne,h4.nw,h4.sw,h4.vn⟩,M4.then m5' fun _ _ h=>.inr h⟩
def pk1F (ws:List Int) (s:Int×SpX) (Z:List Int):(Int×SpX)×Bool:=((lsM s.1 (gmx ws Z),{ s.2 with to:=max s.2.to (gmx ws Z) }),false)
def pk2F (ws:List Int) (x:SpX) (_:Unit) (Z:List Int):Unit×Bool:=((),decide (gmx ws Z≤x.fr))
def pk4F (ws:List Int) (x:SpX) (_:Unit) (Z:List Int):Unit×Bool:=((),decide (gmx ws Z=x.to))
def pk3F (_:Unit) (_:List Int):Unit×Bool:=((),true)
theorem PkW.turn {bw bs:Nat} {wa:Option Addr} {wc:Nat} {ws:List Int} {x:SpX} {w w':World} {B t:Nat} (h:PkW bw bs wa wc ws x w) (hw:bw<B) (hs:bs<B) (hv:∀ q,0<ws.length→aBlk wa q→q<B) (ht:B≤t) (m:Vc.Mod (Vc.one t) w w'):PkW bw bs wa wc ws x w' :=
 ⟨h.wb.mod m fun (e:bw=t)=>by omega,modP h.v m fun q hp hk (e:q=t)=>by have:=hv q hp hk;omega,h.sp.mod m fun (e:bs=t)=>by omega⟩
theorem pk1_hd {bw bn bs:Nat} {wa:Option Addr} {wc:Nat} {ws vs:List Int} {B:Nat} (hwl:ws.length≤4000) (hw:bw<B) (hn:bn<B) (hs:bs<B) (hv:∀ q,0<ws.length→aBlk wa q→q<B) (hvl:vs.length≤4000) (hvs:∀ v∈vs,0≤v∧v<(ws.length:Int)) :
  HdC (pk1F ws) 44 [pA bw,pA bn,pA bs] vs (fun _ s w=>PkM bw bn bs wa wc ws s.1 s.2 w) (fun q=>q=bn∨q=bs) B:=by
 refine ⟨call44,fun t s w a c S hBt hJ ha hS hq hl hm=>?_,fun t s w w' hBt hJ m=>?_,fun q hq=>by rcases hq with hq | hq <;> omega⟩
 ·exact peak1_spec bw bn bs wa wc ws s.1 s.2 a c S w hJ (by omega) hS (by omega) (fun v hv=>hvs v (hm v hv))
 ·exact ⟨hJ.k.turn hw hs hv hBt m,hJ.n.mod m fun (e:bn=t)=>by omega,hJ.ne,hJ.nw,hJ.sw,hJ.vn⟩
theorem toY31 {g:FuncId} {args:Array Value} {w:World} {b:Bool} {J:World→Prop} {T:Nat→Prop} (h:RetsP prog g args w (.bool b)) (hJ:∀ w',Ext w w'→J w'):RetsY prog g args w (fun _:Unit=>.bool b) (fun _ w'=>J w'∧Vc.Mod T w w') :=
 h.mono fun _u w2 ⟨hu,e⟩=>⟨(),hu,hJ w2 e,e.weaken fun _ _ h=>h.elim⟩
theorem pk2_hd {bw bs:Nat} {wa:Option Addr} {wc:Nat} {ws vs:List Int} {x:SpX} {B:Nat} (hwl:ws.length≤4000) (hw:bw<B) (hs:bs<B) (hv:∀ q,0<ws.length→aBlk wa q→q<B) (hvl:vs.length≤4000) (hvs:∀ v∈vs,0≤v∧v<(ws.length:Int)) :
  HdC (pk2F ws x) 46 [pA bw,pA bs] vs (fun _ _ w=>PkW bw bs wa wc ws x w) (fun _=>False) B:=by
 refine ⟨call46,fun t s w a c S hBt hJ ha hS hq hl hm=>?_,fun t s w w' hBt hJ m=>hJ.turn hw hs hv hBt m,fun q hq=>hq.elim⟩
 exact toY31 (peak2_spec bw bs wa wc ws x a c S w hJ (by omega) hS (by omega) (fun v hv=>hvs v (hm v hv))) fun w' e=>hJ.ext e
theorem pk4_hd {bw bs:Nat} {wa:Option Addr} {wc:Nat} {ws vs:List Int} {x:SpX} {B:Nat} (hwl:ws.length≤4000) (hw:bw<B) (hs:bs<B) (hv:∀ q,0<ws.length→aBlk wa q→q<B) (hvl:vs.length≤4000) (hvs:∀ v∈vs,0≤v∧v<(ws.length:Int)) :
  HdC (pk4F ws x) 49 [pA bw,pA bs] vs (fun _ _ w=>PkW bw bs wa wc ws x w) (fun _=>False) B:=by
 refine ⟨call49,fun t s w a c S hBt hJ ha hS hq hl hm=>?_,fun t s w w' hBt hJ m=>hJ.turn hw hs hv hBt m,fun q hq=>hq.elim⟩
 exact toY31 (peak4_spec bw bs wa wc ws x a c S w hJ (by omega) hS (by omega) (fun v hv=>hvs v (hm v hv))) fun w' e=>hJ.ext e
theorem pk3_hd {vs:List Int} {B:Nat} {J:World→Prop} (hJe:∀ w w',J w→Ext w w'→J w') (hJt:∀ t w w',B≤t→J w→Vc.Mod (Vc.one t) w w'→J w') :
  HdC pk3F 48 [] vs (fun _ _ w=>J w) (fun _=>False) B:=by
 refine ⟨call48,fun t s w a c S hBt hJ ha hS hq hl hm=>?_,fun t s w w' hBt hJ m=>hJt t w w' hBt hJ m,fun q hq=>hq.elim⟩
 exact toY31 (peak3_spec _ w) fun w' e=>hJe w w' hJ e
theorem gmx_snoc (ws:List Int) (S:List Int) (v:Int):gmx ws (S++[v])=max (gmx ws S) (wtF ws v):=by
 unfold gmx;rw [List.foldl_append];rfl
theorem gmx_iff (ws:List Int):∀ (n:Nat) (S:List Int),S.length=n→∀ m:Int,gmx ws S≤m↔0≤m∧∀ v∈S,wtF ws v≤m:=by
 intro n
 induction n with
 | zero =>
  intro S h m
  have:S=[]:=List.length_eq_zero_iff.1 h
  subst this
  exact ⟨fun h=>⟨h,fun v hv=>nomatch hv⟩,fun h=>h.1⟩
 | succ n ih =>
  intro S h m
  have hne:S≠[]:=fun e=>by subst e;cases h
  obtain ⟨T,v,rfl⟩:∃ T v,S=T++[v]:=⟨S.dropLast,S.getLast hne,(List.dropLast_concat_getLast hne).symm⟩
  have hT:T.length=n:=by simpa using h
  rw [gmx_snoc]
  have:=ih T hT m
  constructor
  ·intro hm
   have h1:=this.1 (by omega)
   refine ⟨h1.1,fun u hu=>?_⟩
   rcases List.mem_append.1 hu with hu | hu
   ·exact h1.2 u hu
   ·rw [List.mem_singleton.1 hu];omega
  ·intro hm
   have h1:=this.2 ⟨hm.1,fun u hu=>hm.2 u (List.mem_append_left _ hu)⟩
   have h2:=hm.2 v (List.mem_append_right _ (List.mem_singleton.2 rfl))
   omega
end Go.Proofs.YtdkhcipjenfcnaaGreatDoor
