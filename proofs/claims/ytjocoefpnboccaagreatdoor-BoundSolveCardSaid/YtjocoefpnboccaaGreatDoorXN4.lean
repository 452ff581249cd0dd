/- Bound: ways as they lie; closures that turn memory; lists that are formed. -/
import Derived.Test.YtjocoefpnboccaaGreatDoorXH22a
import Derived.Test.YtjocoefpnboccaaGreatDoorXVcBlk
namespace Go.Proofs.YtjocoefpnboccaaGreatDoor
set_option maxHeartbeats 16000000
open Go.Vc
structure WyI where
 p:SlI
 n:SlI
instance:Inhabited WyI:=⟨⟨default,default⟩⟩
def encWy (x:WyI):List Value:=[.slice x.p.a x.p.l.length x.p.c,.slice x.n.a x.n.l.length x.n.c]
def wyV (x:WyI):Wy:=⟨x.p.l,x.n.l⟩
structure WyOk (w:World) (x:WyI):Prop where
 p:IntSl w x.p.a x.p.l
 n:IntSl w x.n.a x.n.l
structure WL (w:World) (a:Option Addr) (W:List WyI):Prop where
 sl:TSl encWy 2 w a W
 each:∀ x∈W,WyOk w x
theorem WyOk.ext {w w':World} {x:WyI} (h:WyOk w x) (e:Ext w w'):WyOk w' x:=⟨h.p.ext e,h.n.ext e⟩
theorem WL.ext {w w':World} {a:Option Addr} {W:List WyI} (h:WL w a W) (e:Ext w w'):WL w' a W:=⟨h.sl.ext e,fun x hx=>(h.each x hx).ext e⟩
theorem WL.at {w:World} {a:Option Addr} {W:List WyI} (h:WL w a W) {i:Nat} (hi:i<W.length):WyOk w (W.getD i default):=h.each _ (gmem hi)
structure WLen (x:WyI):Prop where
 p:x.p.l.length≤1000000
 n:x.n.l.length≤1000000
theorem range_any {n k:Nat} {f:Nat→Bool} (hk:k<n) (h:f k=true):(List.range n).any f=true:=List.any_eq_true.2 ⟨k,List.mem_range.2 hk,h⟩
theorem range_none {n:Nat} {f:Nat→Bool} (h:∀ i,i<n→f i=false):(List.range n).any f=false:=by
 rw [List.any_eq_false];intro x hx;rw [h x (List.mem_range.1 hx)];decide
theorem indexK (g:FuncId) (Fv Cv:List Value) (f:Nat→Bool) (I:Nat→World→Prop) (a:Option Addr) (c:Nat) (l:List Int) (w:World) (hfn:IsFn Tryz.prog g)
  (hdo:∀ k w',k<l.length→I k w'→RetsY Tryz.prog g (Fv++[Value.int .i64 (l.getD k default)]++Cv).toArray w' (fun _:Unit=>.bool (f k)) (fun _ w2=>I (k+1) w2))
  (hL:∀ k w',I k w'→IntSl w' a l) (h0:I 0 w) (hm:l.length≤1000000) :
  RetsY Tryz.prog 47 #[.slice a l.length c,.func (.func g) Fv.toArray Cv.toArray] w (fun i:Int=>.int .i64 i) (fun i w'=>decide (0≤i)=(List.range l.length).any f∧∃ k,I k w'):=by
 refine enter (args:=[_,_]) Tryz.func47 rfl Tryz.ntmps47 (by kernel_rfl) rfl ?_
 refine V.seq (V.region (VL.op (R.asI rfl) (VL.nil (V.seq (V.seq (V.region (VL.op (R.mvS rfl) (VL.op (R.lenS Tryz.runUnderlying22 rfl) (VL.op (R.mvI rfl) (VL.nil (V.block (?_))))))))))))
 refine V.loop [0,1,7,8] (fun k:Nat=>[.slice a l.length c,.func (.func g) Fv.toArray Cv.toArray,.int .i64 l.length,.int .i64 (k:Nat)])
  (fun k w'=>k≤l.length∧I k w'∧∀ i,i<k→f i=false) (fun k=>l.length-k) 0 rfl ⟨Nat.zero_le _,h0,fun i h=>absurd h (Nat.not_lt_zero i)⟩ ?_
 rintro ρ k w2 ⟨hk,hI,hf⟩
 have hL2:=hL k w2 hI
 refine V.seq (V.region (VL.op (R.lss rfl rfl) (VL.nil (V.seq (V.condP rfl (fun c9=>V.skip (V.seq (V.block (V.seq (V.region (VL.op (R.mvI rfl) (VL.op (R.asI rfl) (VL.nil (V.seq (?_)))))))))) (fun c9=>V.exit (V.seq (?_))))))))
 ·have hkn:k<l.length:=by omega
  refine V.region (VL.op (R.mvF rfl) (VL.op (R.mvS rfl) (VL.op (R.mvI rfl) (VL.op (R.ixS Tryz.runUnderlying22 Tryz.sizeOf3 rfl rfl (by omega) (by omega) (hL2.some (i:=k) hkn)) (VL.op (R.ld1 Tryz.isAgg3 rfl (((hL2.row (i:=k) hkn).cell (i:=0) rfl))) (VL.callCY rfl (hfn) rfl (hdo k w2 hkn hI) fun i4 w4 hI4=>VL.nil (V.cond rfl (fun c16=>V.seq (V.region (VL.op (R.mvI rfl) (VL.op (R.asI rfl) (VL.nil (V.ret (fret1 (v:=.int _ _) rfl rfl rfl (?_)))))))) (fun c16=>V.skip (V.region (VL.op (R.add rfl rfl (by omega) (by omega)) (VL.op (R.mvI rfl) (VL.nil (?_)))))))))))))
  ·exact ⟨(k:Int),rfl,by rw [range_any hkn (by assumption)];exact decide_eq_true (by omega),_,hI4⟩
  ·refine ⟨k+1,rfl,⟨by omega,hI4,fun i hi=>?_⟩,by omega⟩
   by_cases h:i=k
   ·subst h;assumption
   ·exact hf i (by omega)
 ·have hkn:k=l.length:=by omega
  subst hkn
  refine V.region (VL.op (R.asI rfl) (VL.nil (V.ret (fret1 (v:=.int _ _) rfl rfl rfl (?_)))))
  exact ⟨-1,rfl,by rw [range_none hf];rfl,_,hI⟩
theorem containsK (g:FuncId) (Fv Cv:List Value) (f:Nat→Bool) (I:Nat→World→Prop) (a:Option Addr) (c:Nat) (l:List Int) (w:World) (hfn:IsFn Tryz.prog g)
  (hdo:∀ k w',k<l.length→I k w'→RetsY Tryz.prog g (Fv++[Value.int .i64 (l.getD k default)]++Cv).toArray w' (fun _:Unit=>.bool (f k)) (fun _ w2=>I (k+1) w2))
  (hL:∀ k w',I k w'→IntSl w' a l) (h0:I 0 w) (hm:l.length≤1000000) :
  RetsY Tryz.prog 34 #[.slice a l.length c,.func (.func g) Fv.toArray Cv.toArray] w (fun _:Unit=>.bool ((List.range l.length).any f)) (fun _ w'=>∃ k,I k w'):=by
 refine enter (args:=[_,_]) Tryz.func34 rfl Tryz.ntmps34 (by kernel_rfl) rfl ?_
 refine V.seq (V.region (VL.op (R.asB rfl) (VL.nil (V.seq (V.region (VL.op (R.mvS rfl) (VL.op (R.mvF rfl) (VL.callY Tryz.call47 rfl (indexK g Fv Cv f I a c l _ hfn hdo hL h0 hm) fun i1 w1 h1=>VL.op (R.geq rfl rfl) (VL.op (R.asB rfl) (VL.nil (V.ret (fret1 (v:=.bool _) rfl rfl rfl (⟨(),by rw [←h1.1],h1.2⟩)))))))))))))
theorem all1_spec (g:FuncId) (Fv Cv:List Value) (b:Nat) (x:Int) (f:Bool) (w:World) (K:World→Prop) (hb:Blk w b (.cells #[.func (.func g) Fv.toArray Cv.toArray] 58 (0,0))) (hfn:IsFn Tryz.prog g)
  (hdo:RetsY Tryz.prog g (Fv++[Value.int .i64 x]++Cv).toArray w (fun _:Unit=>.bool f) (fun _ w2=>K w2)) :
  RetsY Tryz.prog 39 #[.int .i64 x,.pointer (some ⟨b,0,none⟩)] w (fun _:Unit=>.bool (!f)) (fun _ w2=>K w2):=by
 refine enter (args:=[_,_]) Tryz.func39 rfl Tryz.ntmps39 (by kernel_rfl) rfl ?_
 refine V.seq (V.region (VL.op (R.asB rfl) (VL.nil (V.seq (V.region (VL.op (R.ld1 Tryz.isAgg58 rfl ((hb.cell _))) (VL.op (R.mvI rfl) (VL.callCY rfl (hfn) rfl (hdo) fun i1 w1 h1=>VL.op (R.not rfl) (VL.op (R.asB rfl) (VL.nil (V.ret (fret1 (v:=.bool _) rfl rfl rfl (⟨(),rfl,h1⟩)))))))))))))
theorem allK (g:FuncId) (Fv Cv:List Value) (f:Nat→Bool) (I:Nat→World→Prop) (T:Nat→Prop) (a:Option Addr) (c:Nat) (l:List Int) (w:World) (hfn:IsFn Tryz.prog g) (hT:∀ q,T q→q<w.heap.size) (hIe:∀ w',I 0 w→Ext w w'→I 0 w')
  (hdo:∀ k w',k<l.length→I k w'→RetsY Tryz.prog g (Fv++[Value.int .i64 (l.getD k default)]++Cv).toArray w' (fun _:Unit=>.bool (f k)) (fun _ w2=>I (k+1) w2∧Vc.Mod T w' w2))
  (hL:∀ k w',I k w'→IntSl w' a l) (h0:I 0 w) (hm:l.length≤1000000) :
  RetsY Tryz.prog 20 #[.slice a l.length c,.func (.func g) Fv.toArray Cv.toArray] w (fun _:Unit=>.bool ((List.range l.length).all f)) (fun _ w'=>∃ k,I k w'):=by
 refine enter (args:=[_,_]) Tryz.func20 rfl Tryz.ntmps20 (by kernel_rfl) rfl ?_
 refine V.seq (V.region (VL.box (v:=.func _ _ _) rfl fun b0_0 w0_0 hb0_0 e0_0 hB0_0=>VL.op (R.asB rfl) (VL.nil (V.seq (V.region (VL.op (R.mvS rfl) (VL.op (R.mkFn rfl rfl) (VL.callY Tryz.call34 rfl (containsK 39 [] [.pointer (some ⟨b0_0,0,none⟩)] (fun k=>!f k) (fun k w'=>I k w'∧Blk w' b0_0 (.cells #[.func (.func g) Fv.toArray Cv.toArray] 58 (0,0))) a c l _ Tryz.call39 (fun k w' hk hI=>all1_spec g Fv Cv b0_0 _ _ w' _ hI.2 hfn ((hdo k w' hk hI.1).mono fun u w2 ⟨i,hu,hI2,hM⟩=>⟨i,hu,hI2,hI.2.mod hM fun h=>by have:=hT _ h;omega⟩)) (fun k w' h=>hL k w' h.1) ⟨hIe _ h0 e0_0,hB0_0⟩ hm) fun i1 w1 h1=>VL.op (R.not rfl) (VL.op (R.asB rfl) (VL.nil (V.ret (fret1 (v:=.bool _) rfl rfl rfl (?_)))))))))))))
 obtain ⟨k,hk,_⟩:=h1
 refine ⟨(),?_,k,hk⟩
 rw [List.not_any_eq_all_not]
 simp
theorem all_spec (g:FuncId) (Fv Cv:List Value) (f:Int→Bool) (S:World→Prop) (a:Option Addr) (c:Nat) (l:List Int) (w:World) (hfn:IsFn Tryz.prog g) (hdo:∀ w x,S w→RetsP Tryz.prog g (Fv++[Value.int .i64 x]++Cv).toArray w (.bool (f x)))
  (hSe:∀ w w',S w→Ext w w'→S w') (h0:S w) (hL:IntSl w a l) (hm:l.length≤1000000) :
  RetsP Tryz.prog 20 #[.slice a l.length c,.func (.func g) Fv.toArray Cv.toArray] w (.bool (l.all f)):=by
 refine (allK g Fv Cv (fun k=>f (l.getD k default)) (fun _ w'=>S w'∧Ext w w') (fun _=>False) a c l w hfn (fun _ h=>h.elim) (fun w' h e=>⟨hSe _ _ h.1 e,h.2.trans e⟩) (fun k w' hk h=>(hdo w' _ h.1).mono fun u w2 ⟨hu,e⟩=>⟨(),hu,⟨hSe _ _ h.1 e,h.2.trans e⟩,e⟩) (fun _ w' h=>hL.ext h.2) ⟨h0,Vc.Mod.refl _ _⟩ hm).mono fun u w2 ⟨_,hu,k,_,e⟩=>⟨?_,e⟩
 rw [hu]
 show Value.bool _=Value.bool _
 congr 1
 rw [Bool.eq_iff_iff,List.all_eq_true,List.all_eq_true]
 constructor
 ·intro h x hx
  obtain ⟨i,hi,rfl⟩:=List.getElem_of_mem hx
  rw [←gget hi];exact h i (List.mem_range.2 hi)
 ·intro h i hi
  exact h _ (gmem (List.mem_range.1 hi))
end Go.Proofs.YtjocoefpnboccaaGreatDoor
/- Bound: a graph with its degrees and barred vertices. -/
namespace Go.Proofs.YtjocoefpnboccaaGreatDoor
open Go.Vc
set_option maxRecDepth 100000
set_option maxHeartbeats 16000000
def vBo (b:Bool):Value:=.bool b
def encGB (g:GrW) (r1 r2:Nat):List Value:=[.int .i64 g.n,.slice g.ca g.cost.length g.cc,.slice g.ea g.edges.length g.ec,.map (some r1),.map (some r2)]
structure RtJ (w0:World) (r1 r2:Nat) (l lb:List Int) (m1:List (Int×Nat)) (m2:List (Int×Bool)) (w:World):Prop where
 d:MapIs w r1 kI (tenc vN m1)
 dm:DegM l m1
 b:MapIs w r2 kI (tenc vBo m2)
 bm:BarM lb m2
 e:Vc.Mod (fun k=>k=r1∨k=r2) w0 w
structure GbOk (w:World) (g:GrW) (r1 r2:Nat):Prop where
 ok:GOk w g
 d:∃ m,MapIs w r1 kI (tenc vN m)∧DegM (vals g.edges).flatten m
 b:∃ m,MapIs w r2 kI (tenc vBo m)∧BarM (aloneE (vals g.edges)) m
theorem GbOk.ext {w w':World} {g:GrW} {r1 r2:Nat} (h:GbOk w g r1 r2) (e:Ext w w'):GbOk w' g r1 r2 :=
 ⟨h.ok.ext e,h.d.imp fun _m hm=>⟨hm.1.ext e,hm.2⟩,h.b.imp fun _m hm=>⟨hm.1.ext e,hm.2⟩⟩
theorem mget_deg (m:List (Int×Nat)) (v:Int):(mget (tenc vN m) v).getD (.int .i64 0)=.int .i64 (((tget m v).getD 0:Nat):Int):=by
 rw [tget_enc];cases tget m v <;> rfl
theorem mget_bar (m:List (Int×Bool)) (v:Int):(mget (tenc vBo m) v).getD (.bool false)=.bool ((tget m v).getD false):=by
 rw [tget_enc];cases tget m v <;> rfl
theorem alone_snoc (E:List (List Int)) (e:List Int):aloneE (E++[e])=aloneE E++if e.length=1 then [e.getD 0 default] else []:=by
 unfold aloneE
 rw [List.filterMap_append]
 congr 1
 by_cases h:e.length=1 <;> simp [h]
theorem right_spec (g:GrW) (B:Nat) (w:World) (hG:GOk w g) (hl:GLen g) (hB:B≤w.heap.size) (hT:TabW B w) :
  RetsX Tryz.prog 12 #[.agg (encGr g).toArray] w (fun x:Nat×Nat=>.tuple #[.agg (encGB g x.1 x.2).toArray,.bool (validG (grV g))]) (fun x w'=>(validG (grV g)=true→GbOk w' g x.1 x.2)∧w.heap.size≤x.1∧w.heap.size≤x.2):=by
 refine enter (args:=[_]) Tryz.func12 rfl Tryz.ntmps12 (by kernel_rfl) rfl ?_
 refine V.seq (V.region (VL.box (v:=.agg _) rfl fun b0_0 w0_0 hb0_0 e0_0 hB0_0=>VL.alloc Tryz.zeroValue49 fun b0_1 w0_1 hb0_1 e0_1 hB0_1=>VL.op (R.asB rfl) (VL.nil (V.seq (V.region (VL.op (R.ldA Tryz.isAgg25 Tryz.sizeOf25 rfl rfl ((show RowAt _ _ _ (encGr g) from ((hB0_0.ext e0_1).rowAt 0 3))) rfl) (VL.makeMap fun r1_1 w1_1 hr1_1 e1_1 hM1_1=>VL.makeMap fun r1_2 w1_2 hr1_2 e1_2 hM1_2=>VL.op (R.build Tryz.zeroValue49 Tryz.runUnderlying49 pl49 rfl) (VL.allocSt (v:=.agg (encGB g r1_1 r1_2).toArray) Tryz.zeroValue49 Tryz.sizeOf49 rfl rfl rfl rfl rfl fun b1_4 w1_4 hb1_4 e1_4 hB1_4=>VL.nil (V.seq (V.seq (V.region (VL.op (R.ldA Tryz.isAgg25 Tryz.sizeOf25 rfl rfl ((show RowAt _ _ _ (encGr g) from (((((hB0_0.ext e0_1).ext e1_1).ext e1_2).ext e1_4).rowAt 0 3))) rfl) (VL.callP Tryz.call26 rfl (valid_spec g B _ (hG.ext ((((e0_0.trans e0_1).trans e1_1).trans e1_2).trans e1_4)) hl (Nat.le_trans hB (((((e0_0.trans e0_1).trans e1_1).trans e1_2).trans e1_4)).size) (hT.ext hB ((((e0_0.trans e0_1).trans e1_1).trans e1_2).trans e1_4))) fun w2_1 e2_1=>VL.op (R.not rfl) (VL.nil (V.cond rfl (fun c15=>V.seq (V.region (VL.op (R.ldA Tryz.isAgg49 Tryz.sizeOf49 rfl rfl ((show RowAt _ _ _ (encGB g r1_1 r1_2) from ((hB1_4.ext e2_1).rowAt 0 5))) rfl) (VL.store (v:=.agg _) Tryz.sizeOf49 rfl rfl rfl rfl ((((hB0_1.ext e1_1).ext e1_2).ext e1_4).ext e2_1) rfl rfl fun w3_1 m3_1 hs3_1 hB3_1=>VL.op (R.asB rfl) (VL.nil (V.ret (fretCT (v:=.bool _) rfl rfl rfl rfl rfl Tryz.isAgg49 Tryz.sizeOf49 rfl (hB3_1.rowAt 0 5) rfl (⟨(r1_1,r1_2),?_,?_,(Mod.own (((((e0_0.trans e0_1).trans e1_1).trans e1_2).trans e1_4).trans e2_1) m3_1 (by rw [hb0_1];exact (e0_0).size))⟩)))))))) (fun c15=>V.skip (V.seq (V.seq (?_)))))))))))))))))))
 ·have hv:validG (grV g)=false:=by simpa using c15
  rw [hv];rfl
 ·have hv:validG (grV g)=false:=by simpa using c15
  have:=e0_0.size
  have:=e0_1.size
  refine ⟨fun h=>?_,by dsimp only;omega,by dsimp only;have:=e1_1.size;omega⟩
  rw [hv] at h;cases h
 ·have hv:validG (grV g)=true:=by simpa using c15
  have hn:=costB_iff.1 (validG_iff.1 hv).1
  have hE20:g.edges.length≤20000:=by have:=(validG_iff.1 hv).2.1;simpa [grV,vals] using this
  have hX0:Blk w2_1 b0_0 (.cells (Value.agg (encGr g).toArray).cells 25 (0,0)):=((((hB0_0.ext e0_1).ext e1_1).ext e1_2).ext e1_4).ext e2_1
  have hX1:=((((hB0_1.ext e1_1).ext e1_2).ext e1_4).ext e2_1)
  have hX4:=hB1_4.ext e2_1
  have hw2:Ext w w2_1:=((((e0_0.trans e0_1).trans e1_1).trans e1_2).trans e1_4).trans e2_1
  have hG2:=hG.ext hw2
  have hM1:=(MapIs.empty (enc:=kI) hM1_1).ext ((e1_2.trans e1_4).trans e2_1)
  have hM2:=(MapIs.empty (enc:=kI) hM1_2).ext (e1_4.trans e2_1)
  have hr12:r1_1<r1_2:=by have:=hM1_1.lt;omega
  have hne:∀ q,q<r1_1→¬(q=r1_1∨q=r1_2):=fun q h1 h2=>by omega
  have hne4:¬(b1_4=r1_1∨b1_4=r1_2):=by have:=hM1_2.lt;omega
  have hxe:∀ x∈g.edges,x.l.length≤4000:=fun x hx=>by
   have h1:=(validG_iff.1 hv).2.2.1 x.l (List.mem_map_of_mem hx)
   have h2:=set_len h1.2.1 h1.2.2 hn.1
   have h3:(grV g).n≤4000:=hn.2.1
   omega
  refine V.region (VL.op (R.fld' (o:=2) Tryz.runUnderlying25 rfl rfl Tryz.sizeOf23 rfl rfl) (VL.op (R.ld1 Tryz.isAgg23 rfl ((show w2_1.cell? ⟨b0_0,2,none⟩=some (Value.slice g.ea g.edges.length g.ec) from hX0.cell 2))) (VL.op (R.lenS Tryz.runUnderlying23 rfl) (VL.op (R.mvI rfl) (VL.nil (V.block (?_)))))))
  refine V.loop [2,4,18,19,20] (fun x:Nat×List (Int×Nat)×List (Int×Bool)=>[.pointer (some ⟨b0_1,0,none⟩),.pointer (some ⟨b1_4,0,none⟩),.slice g.ea g.edges.length g.ec,.int .i64 (g.edges.length:Nat),.int .i64 (x.1:Nat)])
   (fun x w'=>x.1≤g.edges.length∧RtJ w2_1 r1_1 r1_2 (vals (g.edges.take x.1)).flatten (aloneE (vals (g.edges.take x.1))) x.2.1 x.2.2 w') (fun x=>g.edges.length-x.1) (0,[],[]) rfl ⟨Nat.zero_le _,hM1,DegM.nil,hM2,BarM.nil,Vc.Mod.refl _ _⟩ ?_
  rintro ρ ⟨k,m1,m2⟩ w4 ⟨hk,hJ⟩
  dsimp only at hk hJ ⊢
  have hown:∀ q,(q=r1_1∨q=r1_2)→w.heap.size≤q:=fun q hq=>by
   have:=e0_0.size;have:=e0_1.size;omega
  have e4:Ext w w4:=hw2.ownA hJ.e hown
  have hE4:=(hG.ext e4).e
  have hX14:=hX1.mod hJ.e fun h=>by have:=hB0_1.lt;omega
  have hX44:=hX4.mod hJ.e hne4
  refine V.seq (V.region (VL.op (R.lss rfl rfl) (VL.nil (V.seq (V.condP rfl (fun c21=>V.skip (V.seq (V.block (V.seq (?_))))) (fun c21=>V.exit (V.seq (?_))))))))
  ·have hkl:k<g.edges.length:=by omega
   have hxl:=hxe _ (gmem hkl)
   have hvt:vals (g.edges.take (k+1))=vals (g.edges.take k)++[(g.edges.getD k default).l]:=by
    rw [List.take_succ_eq_append_getElem hkl,gget hkl];unfold vals;rw [List.map_append];rfl
   have hfl:(vals (g.edges.take k)).flatten.length≤20000*4000:=by
    refine Nat.le_trans (flat_len (M:=4000) fun x hx=>?_) ?_
    ·obtain ⟨y,hy,rfl⟩:=List.mem_map.1 hx
     exact hxe y (List.mem_of_mem_take hy)
    ·refine Nat.mul_le_mul_right _ ?_
     rw [List.length_map,List.length_take];omega
   have hxp:0<(g.edges.getD k default).l.length:=List.length_pos_iff.2 ((validG_iff.1 hv).2.2.1 _ (List.mem_map_of_mem (gmem hkl))).1
   refine V.region (VL.op (R.ixS Tryz.runUnderlying23 Tryz.sizeOf22 rfl rfl (by omega) (by omega) ((hE4.sl).some (i:=k) (by omega))) (VL.op (R.ld1 Tryz.isAgg22 rfl (((((hE4.sl).ext (Mod.refl _ _)).row (i:=k) (by omega)).cell (i:=0) rfl))) (VL.op (R.asS rfl) (VL.nil (V.cut [2,4,6,18,19,20] (fun m1:List (Int×Nat)=>[.pointer (some ⟨b0_1,0,none⟩),.pointer (some ⟨b1_4,0,none⟩),.slice (g.edges.getD k default).a (g.edges.getD k default).l.length (g.edges.getD k default).c,.slice g.ea g.edges.length g.ec,.int .i64 (g.edges.length:Nat),.int .i64 (k:Nat)]) (fun m1 w'=>RtJ w2_1 r1_1 r1_2 (vals (g.edges.take (k+1))).flatten (aloneE (vals (g.edges.take k))) m1 m2 w') (V.seq (V.region (VL.op (R.mvS rfl) (VL.op (R.lenS Tryz.runUnderlying22 rfl) (VL.op (R.mvI rfl) (VL.nil (V.block (?_)))))))) (fun rgB2 xB2 wBB2 hBB2=>V.seq (?_)))))))
   ·refine V.loop [2,4,6,18,19,20,24,25,26] (fun x:Nat×List (Int×Nat)=>[.pointer (some ⟨b0_1,0,none⟩),.pointer (some ⟨b1_4,0,none⟩),.slice (g.edges.getD k default).a (g.edges.getD k default).l.length (g.edges.getD k default).c,.slice g.ea g.edges.length g.ec,.int .i64 (g.edges.length:Nat),.int .i64 (k:Nat),.slice (g.edges.getD k default).a (g.edges.getD k default).l.length (g.edges.getD k default).c,.int .i64 ((g.edges.getD k default).l.length:Nat),.int .i64 (x.1:Nat)])
     (fun x w'=>x.1≤(g.edges.getD k default).l.length∧RtJ w2_1 r1_1 r1_2 ((vals (g.edges.take k)).flatten++(g.edges.getD k default).l.take x.1) (aloneE (vals (g.edges.take k))) x.2 m2 w') (fun x=>(g.edges.getD k default).l.length-x.1) (0,m1) rfl ⟨Nat.zero_le _,by rw [List.take_zero,List.append_nil];exact hJ⟩ ?_
    rintro ρ ⟨i,m3⟩ w5 ⟨hi,hJ2⟩
    dsimp only at hi hJ2 ⊢
    have hx5:IntSl w5 (g.edges.getD k default).a (g.edges.getD k default).l:=((hG.ext (hw2.ownA hJ2.e hown)).e).at hkl
    have hX45:=hX4.mod hJ2.e hne4
    refine V.seq (V.region (VL.op (R.lss rfl rfl) (VL.nil (V.seq (V.condP rfl (fun c27=>V.skip (V.seq (V.block (V.seq (?_))))) (fun c27=>V.exit (?_)))))))
    ·have hil:i<(g.edges.getD k default).l.length:=by omega
     obtain ⟨v,hvd⟩:∃ v,v=(g.edges.getD k default).l.getD i default:=⟨_,rfl⟩
     have hcl:((vals (g.edges.take k)).flatten++(g.edges.getD k default).l.take i).count v≤20000*4000+4000:=by
      refine Nat.le_trans List.count_le_length ?_
      rw [List.length_append,List.length_take];omega
     refine V.region (VL.op (R.ixS Tryz.runUnderlying22 Tryz.sizeOf3 rfl rfl (by omega) (by omega) ((hx5).some (i:=i) (by omega))) (VL.op (R.ld1 Tryz.isAgg3 rfl (((((hx5).ext (Mod.refl _ _)).row (i:=i) (by omega)).cell (i:=0) rfl))) (VL.op (R.asI rfl) (VL.nil (?_)))))
     rw [←hvd]
     refine V.region (VL.op (R.fld' (o:=3) Tryz.runUnderlying49 rfl rfl Tryz.sizeOf46 rfl rfl) (VL.op (R.ld1 Tryz.isAgg46 rfl ((show w5.cell? ⟨b1_4,3,none⟩=some (Value.map (some r1_1)) from hX45.cell 3))) (VL.op (R.mvI rfl) (VL.op (R.lookupV key3 Tryz.runUnderlying46 Tryz.zeroValue3 hJ2.d ((mget_deg m3 v).trans (by rw [hJ2.dm v])) rfl rfl) (VL.op (R.add rfl rfl (by omega) (by omega)) (VL.mapUpdate key3 Tryz.runUnderlying46 rfl (k:=v) rfl rfl (hJ2.d) fun w10 hm10 m10=>VL.nil (V.region (VL.op (R.add rfl rfl (by omega) (by omega)) (VL.op (R.mvI rfl) (VL.nil (?_)))))))))))
     have ht:(g.edges.getD k default).l.take (i+1)=(g.edges.getD k default).l.take i++[v]:=by rw [List.take_succ_eq_append_getElem hil,hvd,gget hil]
     refine ⟨(i+1,tset m3 v (((vals (g.edges.take k)).flatten++(g.edges.getD k default).l.take i).count v+1)),rfl,⟨by dsimp only;omega,?_⟩,by dsimp only;omega⟩
     dsimp only
     rw [ht,←List.append_assoc]
     refine ⟨?_,hJ2.dm.inc v,hJ2.b.mod m10 fun (h:r1_2=r1_1)=>by omega,hJ2.bm,hJ2.e.then m10 fun q _ (hq:q=r1_1)=>.inl hq⟩
     rw [tset_enc];exact hm10
    ·have hie:i=(g.edges.getD k default).l.length:=by omega
     subst hie
     rw [List.take_length] at hJ2
     refine ⟨m3,rfl,?_⟩
     rw [hvt,List.flatten_append]
     simpa using hJ2
   ·have e6:Ext w wBB2:=hw2.ownA hBB2.e hown
    have hx6:IntSl wBB2 (g.edges.getD k default).a (g.edges.getD k default).l:=((hG.ext e6).e).at hkl
    have hX46:=hX4.mod hBB2.e hne4
    have ha:aloneE (vals (g.edges.take (k+1)))=aloneE (vals (g.edges.take k))++if (g.edges.getD k default).l.length=1 then [(g.edges.getD k default).l.getD 0 default] else []:=by
     rw [hvt];exact alone_snoc _ _
    refine V.region (VL.op (R.mvS rfl) (VL.op (R.lenS Tryz.runUnderlying22 rfl) (VL.op (R.eql rfl rfl) (VL.nil (V.condP rfl (fun c38=>?_) (fun c38=>V.skip (V.region (VL.op (R.add rfl rfl (by omega) (by omega)) (VL.op (R.mvI rfl) (VL.nil (?_)))))))))))
    ·have h1:(g.edges.getD k default).l.length=1:=by omega
     obtain ⟨v,hvd⟩:∃ v,v=(g.edges.getD k default).l.getD 0 default:=⟨_,rfl⟩
     refine V.regionQ mixed 5 (by kernel_rfl) rfl (fun w'=>Ext _ w') (Ext.drawn _) (VQ.op (fun wq eq=>R.fld' (o:=4) Tryz.runUnderlying49 rfl rfl Tryz.sizeOf47 rfl rfl) (VQ.op (fun wq eq=>R.ld1 Tryz.isAgg47 rfl ((show wq.cell? ⟨b1_4,4,none⟩=some (Value.map (some r1_2)) from (hX46.ext eq).cell 4))) (VQ.op (fun wq eq=>R.mvS rfl) (VQ.op (fun wq eq=>R.ixS Tryz.runUnderlying22 Tryz.sizeOf3 rfl rfl (by omega) (by omega) ((hx6.ext eq).some (i:=0) hxp)) (VQ.op (fun wq eq=>R.ld1 Tryz.isAgg3 rfl ((((hx6.ext eq).row (i:=0) hxp).cell (i:=0) rfl))) (VQ.nil fun w13q e13q=>VL.mapUpdate key3 Tryz.runUnderlying47 rfl (k:=((g.edges.getD k default).l.getD 0 default)) rfl rfl ((hBB2.b.ext e13q)) fun w13 hm13 m13=>VL.nil (V.region (VL.op (R.add rfl rfl (by omega) (by omega)) (VL.op (R.mvI rfl) (VL.nil (?_)))))))))))
     rw [if_pos h1] at ha
     refine ⟨(k+1,xB2,tset m2 ((g.edges.getD k default).l.getD 0 default) true),rfl,⟨by dsimp only;omega,?_⟩,by dsimp only;omega⟩
     dsimp only
     rw [ha]
     refine ⟨(hBB2.d.ext e13q).mod m13 fun (h:r1_1=r1_2)=>by omega,hBB2.dm,?_,hBB2.bm.set _,(hBB2.e.ext e13q).then m13 fun q _ (hq:q=r1_2)=>.inr hq⟩
     rw [tset_enc];exact hm13
    ·have h1:¬(g.edges.getD k default).l.length=1:=by omega
     rw [if_neg h1,List.append_nil] at ha
     refine ⟨(k+1,xB2,m2),rfl,⟨by dsimp only;omega,?_⟩,by dsimp only;omega⟩
     dsimp only
     rw [ha];exact hBB2
  ·have hke:k=g.edges.length:=by omega
   subst hke
   rw [List.take_length] at hJ
   refine V.region (VL.op (R.ldA Tryz.isAgg49 Tryz.sizeOf49 rfl rfl ((show RowAt w4 b1_4 0 (encGB g r1_1 r1_2) from hX44.rowAt 0 5)) rfl) (VL.store (v:=.agg _) Tryz.sizeOf49 rfl rfl rfl rfl hX14 rfl rfl fun w15 m15 hs15 hB15=>VL.op (R.asB rfl) (VL.nil (V.ret (fretCT (v:=.bool _) rfl rfl rfl rfl rfl Tryz.isAgg49 Tryz.sizeOf49 rfl (show RowAt _ _ _ (encGB g r1_1 r1_2) from hB15.rowAt 0 5) rfl (?_))))))
   have hb01:b0_1<r1_1:=by have:=hB0_1.lt;omega
   have hx1:¬Vc.one b0_1 r1_1:=fun (h:r1_1=b0_1)=>by omega
   have hx2:¬Vc.one b0_1 r1_2:=fun (h:r1_2=b0_1)=>by omega
   have e15:Ext w w15:=e4.ownA m15 fun q (hq:q=b0_1)=>by have:=e0_0.size;omega
   refine ⟨(r1_1,r1_2),by rw [hv],⟨fun _=>⟨hG.ext e15,⟨m1,hJ.d.mod m15 hx1,hJ.dm⟩,⟨m2,hJ.b.mod m15 hx2,hJ.bm⟩⟩,hown _ (.inl rfl),hown _ (.inr rfl)⟩,e15⟩
end Go.Proofs.YtjocoefpnboccaaGreatDoor
/- Bound: what is formed, certain or never; Quick. -/
namespace Go.Proofs.YtjocoefpnboccaaGreatDoor
open Go.Vc
theorem sindex_spec (a:Option Addr) (c:Nat) (l:List Int) (x:Int) (w:World) (hL:IntSl w a l) (hm:l.length≤1000000) :
  RetsX Tryz.prog 46 #[.slice a l.length c,.int .i64 x] w (fun i:Int=>.int .i64 i) (fun i _=>decide (0≤i)=decide (x∈l)):=by
 refine enter (args:=[_,_]) Tryz.func46 rfl Tryz.ntmps46 (by kernel_rfl) rfl ?_
 refine V.seq (V.region (VL.op (R.asI rfl) (VL.nil (V.seq (V.seq (V.region (VL.op (R.mvS rfl) (VL.op (R.lenS Tryz.runUnderlying22 rfl) (VL.op (R.mvI rfl) (VL.nil (V.block (?_))))))))))))
 refine V.loop [0,1,7,8] (fun k:Nat=>[.slice a l.length c,.int .i64 x,.int .i64 l.length,.int .i64 (k:Nat)])
  (fun k w'=>k≤l.length∧Ext w w'∧∀ i,i<k→l.getD i default≠x) (fun k=>l.length-k) 0 rfl ⟨Nat.zero_le _,Vc.Mod.refl _ _,fun i h=>absurd h (Nat.not_lt_zero i)⟩ ?_
 rintro ρ k w2 ⟨hk,e,hf⟩
 have hL2:=hL.ext e
 refine V.seq (V.region (VL.op (R.lss rfl rfl) (VL.nil (V.seq (V.condP rfl (fun c9=>V.skip (V.seq (V.block (V.seq (V.region (VL.op (R.mvI rfl) (VL.op (R.asI rfl) (VL.nil (V.seq (?_)))))))))) (fun c9=>V.exit (V.seq (?_))))))))
 ·have hkn:k<l.length:=by omega
  refine V.region (VL.op (R.mvI rfl) (VL.op (R.mvS rfl) (VL.op (R.mvI rfl) (VL.op (R.ixS Tryz.runUnderlying22 Tryz.sizeOf3 rfl rfl (by omega) (by omega) (hL2.some (i:=k) hkn)) (VL.op (R.ld1 Tryz.isAgg3 rfl (((hL2.row (i:=k) hkn).cell (i:=0) rfl))) (VL.op (R.eql rfl rfl) (VL.nil (V.condP rfl (fun c16=>V.seq (V.region (VL.op (R.mvI rfl) (VL.op (R.asI rfl) (VL.nil (V.ret (fret1 (v:=.int _ _) rfl rfl rfl (?_)))))))) (fun c16=>V.skip (V.region (VL.op (R.add rfl rfl (by omega) (by omega)) (VL.op (R.mvI rfl) (VL.nil (?_))))))))))))))
  ·refine ⟨(k:Int),rfl,?_,e⟩
   show decide (0≤((k:Nat):Int))=decide (x∈l)
   rw [decide_eq_true (show (0:Int)≤(k:Nat) by omega),decide_eq_true (show x∈l from ?_)]
   rw [c16];exact gmem hkn
  ·refine ⟨k+1,rfl,⟨by omega,e,fun i hi=>?_⟩,by omega⟩
   by_cases h:i=k
   ·subst h;exact fun h2=>c16 h2.symm
   ·exact hf i (by omega)
 ·have hkn:k=l.length:=by omega
  subst hkn
  refine V.region (VL.op (R.asI rfl) (VL.nil (V.ret (fret1 (v:=.int _ _) rfl rfl rfl (?_)))))
  refine ⟨-1,rfl,?_,e⟩
  rw [decide_eq_false (show ¬x∈l from fun h=>?_)]
  ·rfl
  ·obtain ⟨i,hi,hx⟩:=List.getElem_of_mem h
   exact hf i hi (by rw [gget hi];exact hx)
theorem scont_spec (a:Option Addr) (c:Nat) (l:List Int) (x:Int) (w:World) (hL:IntSl w a l) (hm:l.length≤1000000) :
  RetsP Tryz.prog 32 #[.slice a l.length c,.int .i64 x] w (.bool (decide (x∈l))):=by
 refine enter (args:=[_,_]) Tryz.func32 rfl Tryz.ntmps32 (by kernel_rfl) rfl ?_
 refine V.seq (V.region (VL.op (R.asB rfl) (VL.nil (V.seq (V.region (VL.op (R.mvS rfl) (VL.op (R.mvI rfl) (VL.callX Tryz.call46 rfl (sindex_spec a c l x _ hL hm) fun i w1 h1 e1=>VL.op (R.geq rfl rfl) (VL.op (R.asB rfl) (VL.nil (V.ret (fret1 (v:=.bool _) rfl rfl rfl (⟨by rw [←h1],e1⟩)))))))))))))
theorem indexW_spec (g:FuncId) (Fv Cv:List Value) (f:WyI→Bool) (S:World→Prop) (a:Option Addr) (c:Nat) (L:List WyI) (w:World) (hfn:IsFn Tryz.prog g) (hdo:∀ w x,S w→x∈L→WyOk w x→RetsP Tryz.prog g (Fv++[Value.agg (encWy x).toArray]++Cv).toArray w (.bool (f x)))
  (hSe:∀ w w',S w→Ext w w'→S w') (h0:S w) (hL:WL w a L) (hm:L.length≤1000000) :
  RetsX Tryz.prog 27 #[.slice a L.length c,.func (.func g) Fv.toArray Cv.toArray] w (fun i:Int=>.int .i64 i) (fun i _=>decide (0≤i)=L.any f):=by
 refine enter (args:=[_,_]) Tryz.func27 rfl Tryz.ntmps27 (by kernel_rfl) rfl ?_
 refine V.seq (V.region (VL.op (R.asI rfl) (VL.nil (V.seq (V.seq (V.region (VL.op (R.mvS rfl) (VL.op (R.lenS Tryz.runUnderlying26 rfl) (VL.op (R.mvI rfl) (VL.nil (V.block (?_))))))))))))
 refine V.loop [0,1,7,8] (fun k:Nat=>[.slice a L.length c,.func (.func g) Fv.toArray Cv.toArray,.int .i64 L.length,.int .i64 (k:Nat)])
  (fun k w'=>k≤L.length∧Ext w w'∧∀ i,i<k→f (L.getD i default)=false) (fun k=>L.length-k) 0 rfl ⟨Nat.zero_le _,Vc.Mod.refl _ _,fun i h=>absurd h (Nat.not_lt_zero i)⟩ ?_
 rintro ρ k w2 ⟨hk,e,hf⟩
 have hL2:=hL.ext e
 refine V.seq (V.region (VL.op (R.lss rfl rfl) (VL.nil (V.seq (V.condP rfl (fun c9=>V.skip (V.seq (V.block (V.seq (V.region (VL.op (R.mvI rfl) (VL.op (R.asI rfl) (VL.nil (V.seq (?_)))))))))) (fun c9=>V.exit (V.seq (?_))))))))
 ·have hkn:k<L.length:=by omega
  refine V.region (VL.op (R.mvF rfl) (VL.op (R.mvS rfl) (VL.op (R.mvI rfl) (VL.op (R.ixS Tryz.runUnderlying26 Tryz.sizeOf43 rfl rfl (by omega) (by omega) (hL2.sl.some (i:=k) hkn)) (VL.op (R.ldA Tryz.isAgg43 Tryz.sizeOf43 rfl rfl ((show RowAt _ _ _ (encWy (L.getD k default)) from (hL2.sl.row (i:=k) hkn))) rfl) (VL.callCP rfl (hfn) rfl (hdo w2 (L.getD k default) (hSe _ _ h0 e) (gmem hkn) (hL2.at hkn)) fun w4_5 e4_5=>VL.nil (V.cond rfl (fun c16=>V.seq (V.region (VL.op (R.mvI rfl) (VL.op (R.asI rfl) (VL.nil (V.ret (fret1 (v:=.int _ _) rfl rfl rfl (?_)))))))) (fun c16=>V.skip (V.region (VL.op (R.add rfl rfl (by omega) (by omega)) (VL.op (R.mvI rfl) (VL.nil (?_)))))))))))))
  ·exact ⟨(k:Int),rfl,by rw [findI_at f L k hkn hf (by assumption)];exact decide_eq_true (by omega),e.trans e4_5⟩
  ·refine ⟨k+1,rfl,⟨by omega,e.trans e4_5,fun i hi=>?_⟩,by omega⟩
   by_cases h:i=k
   ·subst h;assumption
   ·exact hf i (by omega)
 ·have hkn:k=L.length:=by omega
  subst hkn
  refine V.region (VL.op (R.asI rfl) (VL.nil (V.ret (fret1 (v:=.int _ _) rfl rfl rfl (?_)))))
  exact ⟨-1,rfl,by rw [findI_none f L hf];rfl,e⟩
theorem containsW_spec (g:FuncId) (Fv Cv:List Value) (f:WyI→Bool) (S:World→Prop) (a:Option Addr) (c:Nat) (L:List WyI) (w:World) (hfn:IsFn Tryz.prog g) (hdo:∀ w x,S w→x∈L→WyOk w x→RetsP Tryz.prog g (Fv++[Value.agg (encWy x).toArray]++Cv).toArray w (.bool (f x)))
  (hSe:∀ w w',S w→Ext w w'→S w') (h0:S w) (hL:WL w a L) (hm:L.length≤1000000) :
  RetsP Tryz.prog 13 #[.slice a L.length c,.func (.func g) Fv.toArray Cv.toArray] w (.bool (L.any f)):=by
 refine enter (args:=[_,_]) Tryz.func13 rfl Tryz.ntmps13 (by kernel_rfl) rfl ?_
 refine V.seq (V.region (VL.op (R.asB rfl) (VL.nil (V.seq (V.region (VL.op (R.mvS rfl) (VL.op (R.mvF rfl) (VL.callX Tryz.call27 rfl (indexW_spec g Fv Cv f S a c L _ hfn hdo hSe h0 hL hm) fun i w1 h1 e1=>VL.op (R.geq rfl rfl) (VL.op (R.asB rfl) (VL.nil (V.ret (fret1 (v:=.bool _) rfl rfl rfl (⟨by rw [←h1],e1⟩)))))))))))))
abbrev GbB (w:World) (b:Nat) (g:GrW) (r1 r2:Nat):Prop:=Blk w b (.cells (Value.agg (encGB g r1 r2).toArray).cells 49 (0,0))
theorem formed1_spec (x y:Int) (bl bg:Nat) (g:GrW) (r1 r2:Nat) (w:World) (hb:Blk w bl (.cells #[.int .i64 y] 3 (0,0))) (hg:GbB w bg g r1 r2) :
  RetsY Tryz.prog 28 #[.int .i64 x,.pointer (some ⟨bl,0,none⟩),.pointer (some ⟨bg,0,none⟩)] w (fun _:Unit=>.bool (decide (y<x)&&decide (x<g.n))) (fun _ w'=>Blk w' bl (.cells #[.int .i64 x] 3 (0,0))∧Vc.Mod (Vc.one bl) w w'):=by
 refine enter (args:=[_,_,_]) Tryz.func28 rfl Tryz.ntmps28 (by kernel_rfl) rfl ?_
 refine V.seq (V.region (VL.op (R.asB rfl) (VL.nil (V.seq (V.region (VL.op (R.mvI rfl) (VL.op (R.ld1 Tryz.isAgg3 rfl ((hb.cell _))) (VL.op (R.gtr rfl rfl) (VL.op (R.mvB rfl) (VL.andP rfl rfl (fun g1_3=>VL.op (R.mvI rfl) (VL.gT rfl rfl (VL.op (R.fld' (o:=0) Tryz.runUnderlying49 rfl rfl Tryz.sizeOf25 rfl rfl) (VL.gT rfl rfl (VL.op (R.fld' (o:=0) Tryz.runUnderlying25 rfl rfl Tryz.sizeOf3 rfl rfl) (VL.gT rfl rfl (VL.op (R.ld1 Tryz.isAgg3 rfl ((show w.cell? ⟨bg,0,none⟩=some (Value.int .i64 g.n) from hg.cell 0))) (VL.gT rfl rfl (VL.op (R.lss rfl rfl) (VL.op (R.pickTB rfl rfl) (VL.op (R.asB rfl) (VL.nil (V.seq (V.region (VL.op (R.mvI rfl) (VL.store (v:=.int _ _) Tryz.sizeOf3 rfl rfl rfl rfl hb rfl rfl fun w2 m2 hs2 hB2=>VL.nil (V.seq (V.region (VL.op (R.mvB rfl) (VL.op (R.asB rfl) (VL.nil (V.ret (fret1 (v:=.bool _) rfl rfl rfl (⟨(),?_,hB2,m2⟩)))))))))))))))))))))))) (fun g1_3=>VL.gF rfl rfl (VL.gF rfl rfl (VL.gF rfl rfl (VL.gF rfl rfl (VL.op (R.pickFB rfl rfl) (VL.op (R.asB rfl) (VL.nil (V.seq (V.region (VL.op (R.mvI rfl) (VL.store (v:=.int _ _) Tryz.sizeOf3 rfl rfl rfl rfl hb rfl rfl fun w2 m2 hs2 hB2=>VL.nil (V.seq (V.region (VL.op (R.mvB rfl) (VL.op (R.asB rfl) (VL.nil (V.ret (fret1 (v:=.bool _) rfl rfl rfl (⟨(),?_,hB2,m2⟩)))))))))))))))))))))))))))))
 ·rw [decide_eq_true g1_3,Bool.true_and]
 ·rw [decide_eq_false g1_3,Bool.false_and]
def lastI (l:List Int) (k:Nat):Int:=if k=0 then -1 else l.getD (k-1) default
theorem formed_eq (l:List Int) (n:Int):((List.range l.length).all fun k=>decide (lastI l k<l.getD k default)&&decide (l.getD k default<n))=setB l n:=by
 rw [Bool.eq_iff_iff,List.all_eq_true]
 constructor
 ·intro h
  have hk:∀ i,i<l.length→lastI l i<l.getD i default∧l.getD i default<n:=fun i hi=>by simpa using h i (List.mem_range.2 hi)
  have h0:∀ i,i<l.length→0≤l.getD i default:=by
   intro i
   induction i with
   | zero=>intro hi;have:=(hk 0 hi).1;unfold lastI at this;rw [if_pos rfl] at this;omega
   | succ i ih =>
    intro hi
    have h1:=ih (by omega)
    have h2:=(hk _ hi).1
    unfold lastI at h2
    rw [if_neg (by omega),Nat.add_sub_cancel] at h2
    omega
  refine setB_step fun i hi=>⟨h0 i hi,(hk i hi).2,fun hp=>?_⟩
  have:=(hk i hi).1
  unfold lastI at this
  rwa [if_neg (by omega)] at this
 ·intro h k hk
  rw [List.mem_range] at hk
  obtain ⟨h1,h2⟩:=setB_iff.1 h
  have h3:=h2 _ (gmem hk)
  rw [Bool.and_eq_true,decide_eq_true_eq,decide_eq_true_eq]
  refine ⟨?_,h3.2⟩
  unfold lastI
  split
  ·omega
  ·exact inc_at h1 (by omega) hk
theorem formed_spec (g:GrW) (r1 r2:Nat) (a:Option Addr) (c:Nat) (l:List Int) (w:World) (hL:IntSl w a l) (hm:l.length≤1000000) :
  RetsP Tryz.prog 15 #[.agg (encGB g r1 r2).toArray,.slice a l.length c] w (.bool (setB l g.n)):=by
 refine enter (args:=[_,_]) Tryz.func15 rfl Tryz.ntmps15 (by kernel_rfl) rfl ?_
 refine V.seq (V.region (VL.box (v:=.agg _) rfl fun b0_0 w0_0 hb0_0 e0_0 hB0_0=>VL.op (R.asB rfl) (VL.nil (V.seq (V.region (VL.allocSt (v:=.int _ _) Tryz.zeroValue3 Tryz.sizeOf3 rfl rfl rfl rfl rfl fun b1_0 w1_0 hb1_0 e1_0 hB1_0=>VL.nil (V.seq (V.region (VL.op (R.mvS rfl) (VL.op (R.mkFn rfl rfl) (VL.callY Tryz.call20 rfl (allK 28 [] [.pointer (some ⟨b1_0,0,none⟩),.pointer (some ⟨b0_0,0,none⟩)] (fun k=>decide (lastI l k<l.getD k default)&&decide (l.getD k default<g.n))
  (fun k w'=>Ext w w'∧Blk w' b1_0 (.cells #[.int .i64 (lastI l k)] 3 (0,0))∧GbB w' b0_0 g r1 r2) (Vc.one b1_0) a c l _ Tryz.call28 (fun q (hq:q=b1_0)=>by have:=hB1_0.lt;omega) (fun w' h e=>⟨h.1.trans e,h.2.1.ext e,h.2.2.ext e⟩)
  (fun k w' hk h=>(formed1_spec _ _ b1_0 b0_0 g r1 r2 w' h.2.1 h.2.2).mono fun v w3 ⟨u,hv,hB,hM⟩=>⟨u,hv,⟨h.1.ownA hM fun q (hq:q=b1_0)=>by have:=e0_0.size;omega,by rw [show lastI l (k+1)=l.getD k default by unfold lastI;rw [if_neg (by omega),Nat.add_sub_cancel]];exact hB,h.2.2.mod hM fun (h:b0_0=b1_0)=>by have:=hB0_0.lt;omega⟩,hM⟩)
  (fun k w' h=>hL.ext h.1) ⟨(e0_0.trans e1_0),hB1_0,hB0_0.ext e1_0⟩ hm) fun u2 w2 h2=>VL.op (R.asB rfl) (VL.nil (V.ret (fret1 (v:=.bool _) rfl rfl rfl (?_)))))))))))))))
 obtain ⟨k,e2,_⟩:=h2
 exact ⟨by rw [formed_eq],e2⟩
theorem gfree_spec (g:GrW) (r1 r2:Nat) (v:Int) (w:World) (hG:GbOk w g r1 r2) :
  RetsP Tryz.prog 29 #[.agg (encGB g r1 r2).toArray,.int .i64 v] w (.bool (!inE (vals g.edges) v)):=by
 obtain ⟨m,hm,hd⟩:=hG.d
 refine enter (args:=[_,_]) Tryz.func29 rfl Tryz.ntmps29 (by kernel_rfl) rfl ?_
 refine V.seq (V.region (VL.box (v:=.agg _) rfl fun b0_0 w0_0 hb0_0 e0_0 hB0_0=>VL.op (R.asB rfl) (VL.nil (V.seq (V.region (VL.op (R.fld' (o:=3) Tryz.runUnderlying49 rfl rfl Tryz.sizeOf46 rfl rfl) (VL.op (R.ld1 Tryz.isAgg46 rfl ((hB0_0.cell _))) (VL.op (R.mvI rfl) (VL.op (R.lookupV key3 Tryz.runUnderlying46 Tryz.zeroValue3 (hm.ext e0_0) ((mget_deg m v).trans (by rw [hd v])) rfl rfl) (VL.op (R.eql rfl rfl) (VL.op (R.asB rfl) (VL.nil (V.ret (fret1 (v:=.bool _) rfl rfl rfl (⟨?_,e0_0⟩)))))))))))))))
 congr 1
 rw [inE_flat]
 by_cases h:v∈(vals g.edges).flatten
 ·rw [decide_eq_true h,decide_eq_false]
  ·rfl
  ·have:=List.count_pos_iff.2 h
   omega
 ·rw [decide_eq_false h,decide_eq_true]
  ·rfl
  ·rw [List.count_eq_zero.2 h];rfl
theorem cert1_spec (g:GrW) (r1 r2 bg:Nat) (v:Int) (w:World) (hG:GbOk w g r1 r2) (hg:GbB w bg g r1 r2) :
  RetsP Tryz.prog 30 #[.int .i64 v,.pointer (some ⟨bg,0,none⟩)] w (.bool (barE (vals g.edges) v)):=by
 obtain ⟨m,hm,hd⟩:=hG.b
 refine enter (args:=[_,_]) Tryz.func30 rfl Tryz.ntmps30 (by kernel_rfl) rfl ?_
 refine V.seq (V.region (VL.op (R.asB rfl) (VL.nil (V.seq (V.region (VL.op (R.fld' (o:=4) Tryz.runUnderlying49 rfl rfl Tryz.sizeOf47 rfl rfl) (VL.op (R.ld1 Tryz.isAgg47 rfl ((show w.cell? ⟨bg,4,none⟩=some (Value.map (some r2)) from hg.cell 4))) (VL.op (R.mvI rfl) (VL.op (R.lookupV key3 Tryz.runUnderlying47 Tryz.zeroValue4 hm ((mget_bar m v).trans (by rw [hd v])) rfl rfl) (VL.op (R.asB rfl) (VL.nil (V.ret (fret1 (v:=.bool _) rfl rfl rfl (⟨?_,Vc.Mod.refl _ _⟩))))))))))))))
 congr 1
 unfold barE
 exact decide_eq_decide.2 aloneE_mem
end Go.Proofs.YtjocoefpnboccaaGreatDoor
/- Bound: Quick. -/
namespace Go.Proofs.YtjocoefpnboccaaGreatDoor
open Go.Vc
set_option maxRecDepth 100000
set_option maxHeartbeats 16000000
theorem certain_spec (g:GrW) (r1 r2:Nat) (x:WyI) (w:World) (hG:GbOk w g r1 r2) (hx:WyOk w x) (hl:WLen x) :
  RetsP Tryz.prog 16 #[.agg (encGB g r1 r2).toArray,.agg (encWy x).toArray] w (.bool (certW (vals g.edges) (wyV x))):=by
 refine enter (args:=[_,_]) Tryz.func16 rfl Tryz.ntmps16 (by kernel_rfl) rfl ?_
 refine V.seq (V.region (VL.box (v:=.agg _) rfl fun b0_0 w0_0 hb0_0 e0_0 hB0_0=>VL.box (v:=.agg _) rfl fun b0_1 w0_1 hb0_1 e0_1 hB0_1=>VL.op (R.asB rfl) (VL.nil (V.seq (V.region (VL.op (R.fld' (o:=0) Tryz.runUnderlying43 rfl rfl Tryz.sizeOf22 rfl rfl) (VL.op (R.ld1 Tryz.isAgg22 rfl ((hB0_1.cell _))) (VL.op (R.ldA Tryz.isAgg49 Tryz.sizeOf49 rfl rfl ((show RowAt _ _ _ (encGB g r1 r2) from ((hB0_0.ext e0_1).rowAt 0 5))) rfl) (VL.op (R.mkFn rfl rfl) (VL.callP Tryz.call20 rfl (all_spec 29 [.agg (encGB g r1 r2).toArray] [] (fun v=>!inE (vals g.edges) v) (fun w'=>GbOk w' g r1 r2) x.p.a x.p.c x.p.l _ Tryz.call29 (fun w' v h=>gfree_spec g r1 r2 v w' h) (fun _ _ h e=>h.ext e) (hG.ext (e0_0.trans e0_1)) (hx.p.ext (e0_0.trans e0_1)) hl.p) fun w1_4 e1_4=>VL.op (R.mvB rfl) (VL.and rfl rfl (fun g1_5=>VL.op (R.fld' (o:=1) Tryz.runUnderlying43 rfl rfl Tryz.sizeOf22 rfl rfl) (VL.gT rfl rfl (VL.op (R.ld1 Tryz.isAgg22 rfl (((hB0_1.ext e1_4).cell _))) (VL.gT rfl rfl (VL.op (R.mkFn rfl rfl) (VL.gT rfl rfl (VL.callP Tryz.call20 rfl (all_spec 30 [] [.pointer (some ⟨b0_0,0,none⟩)] (fun v=>barE (vals g.edges) v) (fun w'=>GbOk w' g r1 r2∧GbB w' b0_0 g r1 r2) x.n.a x.n.c x.n.l _ Tryz.call30 (fun w' v h=>cert1_spec g r1 r2 b0_0 v w' h.1 h.2) (fun _ _ h e=>⟨h.1.ext e,h.2.ext e⟩) ⟨hG.ext ((e0_0.trans e0_1).trans e1_4),(hB0_0.ext e0_1).ext e1_4⟩ (hx.n.ext ((e0_0.trans e0_1).trans e1_4)) hl.n) fun w1_9 e1_9=>VL.op (R.pickTB rfl rfl) (VL.op (R.asB rfl) (VL.nil (V.ret (fret1 (v:=.bool _) rfl rfl rfl (⟨?_,(((e0_0.trans e0_1).trans e1_4).trans e1_9)⟩)))))))))))) (fun g1_5=>VL.gF rfl rfl (VL.gF rfl rfl (VL.gF rfl rfl (VL.op (R.pickFB rfl rfl) (VL.op (R.asB rfl) (VL.nil (V.ret (fret1 (v:=.bool _) rfl rfl rfl (⟨?_,((e0_0.trans e0_1).trans e1_4)⟩))))))))))))))))))))
 ·have h:(x.p.l.all fun v=>!inE (vals g.edges) v)=true:=g1_5
  unfold certW wyV;dsimp only;rw [h,Bool.true_and]
 ·have h:(x.p.l.all fun v=>!inE (vals g.edges) v)=false:=g1_5
  unfold certW wyV;dsimp only;rw [h,Bool.false_and]
abbrev WyB (w:World) (b:Nat) (x:WyI):Prop:=Blk w b (.cells (Value.agg (encWy x).toArray).cells 43 (0,0))
theorem nev1_spec (bw:Nat) (x:WyI) (v:Int) (w:World) (hb:WyB w bw x) (hx:WyOk w x) (hl:WLen x) :
  RetsP Tryz.prog 31 #[.int .i64 v,.pointer (some ⟨bw,0,none⟩)] w (.bool (decide (v∈x.p.l))):=by
 refine enter (args:=[_,_]) Tryz.func31 rfl Tryz.ntmps31 (by kernel_rfl) rfl ?_
 refine V.seq (V.region (VL.op (R.asB rfl) (VL.nil (V.seq (V.region (VL.op (R.fld' (o:=0) Tryz.runUnderlying43 rfl rfl Tryz.sizeOf22 rfl rfl) (VL.op (R.ld1 Tryz.isAgg22 rfl ((show w.cell? ⟨bw,0,none⟩=some (Value.slice x.p.a x.p.l.length x.p.c) from hb.cell 0))) (VL.op (R.mvI rfl) (VL.callP Tryz.call32 rfl (scont_spec x.p.a x.p.c x.p.l v _ hx.p hl.p) fun w1_3 e1_3=>VL.op (R.asB rfl) (VL.nil (V.ret (fret1 (v:=.bool _) rfl rfl rfl (⟨rfl,e1_3⟩)))))))))))))
abbrev FnB (w:World) (b:Nat) (f:FuncId) (F C:List Value):Prop:=Blk w b (.cells #[.func (.func f) F.toArray C.toArray] 58 (0,0))
theorem nev2_spec (bf bw:Nat) (x:WyI) (e:SlI) (w:World) (hf:FnB w bf 31 [] [.pointer (some ⟨bw,0,none⟩)]) (hb:WyB w bw x) (hx:WyOk w x) (hl:WLen x) (he:IntSl w e.a e.l) (hm:e.l.length≤1000000) :
  RetsP Tryz.prog 33 #[.slice e.a e.l.length e.c,.pointer (some ⟨bf,0,none⟩)] w (.bool (subB e.l x.p.l)):=by
 refine enter (args:=[_,_]) Tryz.func33 rfl Tryz.ntmps33 (by kernel_rfl) rfl ?_
 refine V.seq (V.region (VL.op (R.asB rfl) (VL.nil (V.seq (V.region (VL.op (R.mvS rfl) (VL.op (R.ld1 Tryz.isAgg58 rfl ((hf.cell _))) (VL.callP Tryz.call20 rfl (all_spec 31 [] [.pointer (some ⟨bw,0,none⟩)] (fun v=>decide (v∈x.p.l)) (fun w'=>WyB w' bw x∧WyOk w' x) e.a e.c e.l _ Tryz.call31 (fun w' v h=>nev1_spec bw x v w' h.1 h.2 hl) (fun _ _ h e=>⟨h.1.ext e,h.2.ext e⟩) ⟨hb,hx⟩ he hm) fun w1_2 e1_2=>VL.op (R.asB rfl) (VL.nil (V.ret (fret1 (v:=.bool _) rfl rfl rfl (⟨rfl,e1_2⟩))))))))))))
theorem never_spec (g:GrW) (r1 r2:Nat) (x:WyI) (w:World) (hG:GbOk w g r1 r2) (hx:WyOk w x) (hl:WLen x) (hE:g.edges.length≤1000000) (he:∀ e∈g.edges,e.l.length≤1000000) :
  RetsP Tryz.prog 18 #[.agg (encGB g r1 r2).toArray,.agg (encWy x).toArray] w (.bool (neverW (vals g.edges) (wyV x))):=by
 refine enter (args:=[_,_]) Tryz.func18 rfl Tryz.ntmps18 (by kernel_rfl) rfl ?_
 refine V.seq (V.region (VL.box (v:=.agg _) rfl fun b0_0 w0_0 hb0_0 e0_0 hB0_0=>VL.box (v:=.agg _) rfl fun b0_1 w0_1 hb0_1 e0_1 hB0_1=>VL.op (R.asB rfl) (VL.nil (V.seq (V.region (VL.op (R.mkFn rfl rfl) (VL.allocSt (v:=.func _ _ _) Tryz.zeroValue58 Tryz.sizeOf58 rfl rfl rfl rfl rfl fun b1_1 w1_1 hb1_1 e1_1 hB1_1=>VL.nil (V.seq (V.region (VL.op (R.mkFn rfl rfl) (VL.op (R.asF rfl) (VL.nil (V.seq (V.region (VL.op (R.fld' (o:=1) Tryz.runUnderlying43 rfl rfl Tryz.sizeOf22 rfl rfl) (VL.op (R.ld1 Tryz.isAgg22 rfl (((hB0_1.ext e1_1).cell _))) (VL.op (R.ldA Tryz.isAgg49 Tryz.sizeOf49 rfl rfl ((show RowAt _ _ _ (encGB g r1 r2) from (((hB0_0.ext e0_1).ext e1_1).rowAt 0 5))) rfl) (VL.op (R.mkFn rfl rfl) (VL.callP Tryz.call34 rfl (containsI_spec 29 [.agg (encGB g r1 r2).toArray] [] (fun v=>!inE (vals g.edges) v) (fun w'=>GbOk w' g r1 r2) x.n.a x.n.c x.n.l _ Tryz.call29 (fun w' v h=>gfree_spec g r1 r2 v w' h) (fun _ _ h e=>h.ext e) (hG.ext ((e0_0.trans e0_1).trans e1_1)) (hx.n.ext ((e0_0.trans e0_1).trans e1_1)) hl.n) fun w3_4 e3_4=>VL.op (R.mvB rfl) (VL.or rfl rfl (fun g3_5=>VL.op (R.fld' (o:=1) Tryz.runUnderlying43 rfl rfl Tryz.sizeOf22 rfl rfl) (VL.gT rfl rfl (VL.op (R.ld1 Tryz.isAgg22 rfl ((((hB0_1.ext e1_1).ext e3_4).cell _))) (VL.gT rfl rfl (VL.op (R.ld1 Tryz.isAgg58 rfl (((hB1_1.ext e3_4).cell _))) (VL.gT rfl rfl (VL.callP Tryz.call34 rfl (containsI_spec 31 [] [.pointer (some ⟨b0_1,0,none⟩)] (fun v=>decide (v∈x.p.l)) (fun w'=>WyB w' b0_1 x∧WyOk w' x) x.n.a x.n.c x.n.l _ Tryz.call31 (fun w' v h=>nev1_spec b0_1 x v w' h.1 h.2 hl) (fun _ _ h e=>⟨h.1.ext e,h.2.ext e⟩) ⟨(hB0_1.ext e1_1).ext e3_4,hx.ext (((e0_0.trans e0_1).trans e1_1).trans e3_4)⟩ (hx.n.ext (((e0_0.trans e0_1).trans e1_1).trans e3_4)) hl.n) fun w3_9 e3_9=>VL.op (R.pickFB rfl rfl) (VL.op (R.mvB rfl) (VL.or rfl rfl (fun g3_11=>VL.op (R.fld' (o:=0) Tryz.runUnderlying49 rfl rfl Tryz.sizeOf25 rfl rfl) (VL.gT rfl rfl (VL.op (R.fld' (o:=2) Tryz.runUnderlying25 rfl rfl Tryz.sizeOf23 rfl rfl) (VL.gT rfl rfl (VL.op (R.ld1 Tryz.isAgg23 rfl ((((((hB0_0.ext e0_1).ext e1_1).ext e3_4).ext e3_9).cell _))) (VL.gT rfl rfl (VL.op (R.mvF rfl) (VL.gT rfl rfl (VL.callP Tryz.call35 rfl (containsL_spec 33 [] [.pointer (some ⟨b1_1,0,none⟩)] (fun e=>subB e x.p.l) (fun w'=>FnB w' b1_1 31 [] [.pointer (some ⟨b0_1,0,none⟩)]∧WyB w' b0_1 x∧WyOk w' x) g.ea g.ec g.edges _ Tryz.call33 (fun w' e h hm he2=>nev2_spec b1_1 b0_1 x e w' h.1 h.2.1 h.2.2 hl he2 (he e hm)) (fun _ _ h e=>⟨h.1.ext e,h.2.1.ext e,h.2.2.ext e⟩) ⟨(hB1_1.ext e3_4).ext e3_9,((hB0_1.ext e1_1).ext e3_4).ext e3_9,hx.ext ((((e0_0.trans e0_1).trans e1_1).trans e3_4).trans e3_9)⟩ (hG.ok.e.ext ((((e0_0.trans e0_1).trans e1_1).trans e3_4).trans e3_9)) hE) fun w3_16 e3_16=>VL.op (R.pickFB rfl rfl) (VL.op (R.asB rfl) (VL.nil (V.ret (fret1 (v:=.bool _) rfl rfl rfl (⟨?_,(((((e0_0.trans e0_1).trans e1_1).trans e3_4).trans e3_9).trans e3_16)⟩)))))))))))))) (fun g3_11=>VL.gF rfl rfl (VL.gF rfl rfl (VL.gF rfl rfl (VL.gF rfl rfl (VL.op (R.pickTB rfl rfl) (VL.op (R.asB rfl) (VL.nil (V.ret (fret1 (v:=.bool _) rfl rfl rfl (⟨?_,((((e0_0.trans e0_1).trans e1_1).trans e3_4).trans e3_9)⟩))))))))))))))))))) (fun g3_5=>VL.gF rfl rfl (VL.gF rfl rfl (VL.gF rfl rfl (VL.op (R.pickTB rfl rfl) (VL.op (R.mvB rfl) (VL.gF rfl rfl (VL.gF rfl rfl (VL.gF rfl rfl (VL.gF rfl rfl (VL.gF rfl rfl (VL.op (R.pickTB rfl rfl) (VL.op (R.asB rfl) (VL.nil (V.ret (fret1 (v:=.bool _) rfl rfl rfl (⟨?_,(((e0_0.trans e0_1).trans e1_1).trans e3_4)⟩))))))))))))))))))))))))))))))))))))
 ·have h1:(x.n.l.any fun v=>!inE (vals g.edges) v)=false:=g3_5
  have h2:(x.n.l.any fun v=>decide (v∈x.p.l))=false:=g3_11
  unfold neverW wyV;dsimp only;rw [h1,h2,Bool.false_or,Bool.false_or,List.any_map];rfl
 ·have h1:(x.n.l.any fun v=>!inE (vals g.edges) v)=false:=g3_5
  have h2:(x.n.l.any fun v=>decide (v∈x.p.l))=true:=g3_11
  unfold neverW wyV;dsimp only;rw [h1,h2,Bool.false_or,Bool.true_or]
 ·have h1:(x.n.l.any fun v=>!inE (vals g.edges) v)=true:=g3_5
  unfold neverW wyV;dsimp only;rw [h1,Bool.true_or]
theorem quick1_spec (g:GrW) (r1 r2 bg:Nat) (x:WyI) (w:World) (hg:GbB w bg g r1 r2) (hx:WyOk w x) (hl:WLen x) :
  RetsP Tryz.prog 14 #[.agg (encWy x).toArray,.pointer (some ⟨bg,0,none⟩)] w (.bool (!wyB g.n (wyV x))):=by
 refine enter (args:=[_,_]) Tryz.func14 rfl Tryz.ntmps14 (by kernel_rfl) rfl ?_
 refine V.seq (V.region (VL.box (v:=.agg _) rfl fun b0_0 w0_0 hb0_0 e0_0 hB0_0=>VL.op (R.asB rfl) (VL.nil (V.seq (V.region (VL.op (R.ldA Tryz.isAgg49 Tryz.sizeOf49 rfl rfl ((show RowAt _ bg 0 (encGB g r1 r2) from (hg.ext e0_0).rowAt 0 5)) rfl) (VL.op (R.fld' (o:=0) Tryz.runUnderlying43 rfl rfl Tryz.sizeOf22 rfl rfl) (VL.op (R.ld1 Tryz.isAgg22 rfl ((hB0_0.cell _))) (VL.callP Tryz.call15 rfl (formed_spec g r1 r2 x.p.a x.p.c x.p.l _ (hx.p.ext e0_0) hl.p) fun w1_3 e1_3=>VL.op (R.not rfl) (VL.op (R.mvB rfl) (VL.or rfl rfl (fun g1_5=>VL.op (R.ldA Tryz.isAgg49 Tryz.sizeOf49 rfl rfl ((show RowAt _ bg 0 (encGB g r1 r2) from (hg.ext (e0_0.trans e1_3)).rowAt 0 5)) rfl) (VL.gT rfl rfl (VL.op (R.fld' (o:=1) Tryz.runUnderlying43 rfl rfl Tryz.sizeOf22 rfl rfl) (VL.gT rfl rfl (VL.op (R.ld1 Tryz.isAgg22 rfl (((hB0_0.ext e1_3).cell _))) (VL.gT rfl rfl (VL.callP Tryz.call15 rfl (formed_spec g r1 r2 x.n.a x.n.c x.n.l _ (hx.n.ext (e0_0.trans e1_3)) hl.n) fun w1_9 e1_9=>VL.gT rfl rfl (VL.op (R.not rfl) (VL.op (R.pickFB rfl rfl) (VL.op (R.asB rfl) (VL.nil (V.ret (fret1 (v:=.bool _) rfl rfl rfl (⟨?_,((e0_0.trans e1_3).trans e1_9)⟩)))))))))))))) (fun g1_5=>VL.gF rfl rfl (VL.gF rfl rfl (VL.gF rfl rfl (VL.gF rfl rfl (VL.op (R.pickTB rfl rfl) (VL.op (R.asB rfl) (VL.nil (V.ret (fret1 (v:=.bool _) rfl rfl rfl (⟨?_,(e0_0.trans e1_3)⟩)))))))))))))))))))))
 all_goals
  congr 1
  unfold wyB wyV
  dsimp only
  simp_all
theorem quick2_spec (g:GrW) (r1 r2 bg:Nat) (x:WyI) (w:World) (hg:GbB w bg g r1 r2) (hG:GbOk w g r1 r2) (hx:WyOk w x) (hl:WLen x) (hE:g.edges.length≤1000000) (he:∀ e∈g.edges,e.l.length≤1000000) :
  RetsP Tryz.prog 17 #[.agg (encWy x).toArray,.pointer (some ⟨bg,0,none⟩)] w (.bool (!neverW (vals g.edges) (wyV x))):=by
 refine enter (args:=[_,_]) Tryz.func17 rfl Tryz.ntmps17 (by kernel_rfl) rfl ?_
 refine V.seq (V.region (VL.box (v:=.agg _) rfl fun b0_0 w0_0 hb0_0 e0_0 hB0_0=>VL.op (R.asB rfl) (VL.nil (V.seq (V.region (VL.op (R.ldA Tryz.isAgg49 Tryz.sizeOf49 rfl rfl ((show RowAt _ bg 0 (encGB g r1 r2) from (hg.ext e0_0).rowAt 0 5)) rfl) (VL.op (R.ldA Tryz.isAgg43 Tryz.sizeOf43 rfl rfl ((show RowAt _ _ _ (encWy x) from (hB0_0.rowAt 0 2))) rfl) (VL.callP Tryz.call18 rfl (never_spec g r1 r2 x _ (hG.ext e0_0) (hx.ext e0_0) hl hE he) fun w1_2 e1_2=>VL.op (R.not rfl) (VL.op (R.asB rfl) (VL.nil (V.ret (fret1 (v:=.bool _) rfl rfl rfl (⟨rfl,(e0_0.trans e1_2)⟩)))))))))))))
theorem quick_spec (g:GrW) (a:Option Addr) (c:Nat) (W:List WyI) (B:Nat) (w:World) (hG:GOk w g) (hl:GLen g) (hW:WL w a W) (hm:W.length≤1000000) (hw:∀ x∈W,WLen x) (hB:B≤w.heap.size) (hT:TabW B w) :
  RetsP Tryz.prog 6 #[.agg (encGr g).toArray,.slice a W.length c] w (.int .i64 (quickF (grV g) (W.map wyV))):=by
 refine enter (args:=[_,_]) Tryz.func6 rfl Tryz.ntmps6 (by kernel_rfl) rfl ?_
 refine V.seq (V.region (VL.box (v:=.agg _) rfl fun b0_0 w0_0 hb0_0 e0_0 hB0_0=>VL.op (R.asI rfl) (VL.nil (V.seq (V.region (VL.op (R.ldA Tryz.isAgg25 Tryz.sizeOf25 rfl rfl ((show RowAt _ _ _ (encGr g) from (hB0_0.rowAt 0 3))) rfl) (VL.callX Tryz.call12 rfl (right_spec g B _ (hG.ext e0_0) hl (Nat.le_trans hB (e0_0).size) (hT.ext hB e0_0)) fun x1 w1 h1 e1=>VL.op (R.mvT rfl) (VL.op (R.extr rfl rfl) (VL.op (R.extr rfl rfl) (VL.allocSt (v:=.agg (encGB g x1.1 x1.2).toArray) Tryz.zeroValue49 Tryz.sizeOf49 rfl rfl rfl rfl rfl fun b1_5 w1_5 hb1_5 e1_5 hB1_5=>VL.op (R.asB rfl) (VL.nil (V.seq (V.seq (V.region (VL.op (R.mvB rfl) (VL.op (R.not rfl) (VL.op (R.mvB rfl) (VL.or rfl rfl (fun g2_2=>VL.op (R.mvS rfl) (VL.gT rfl rfl (VL.op (R.lenS Tryz.runUnderlying26 rfl) (VL.gT rfl rfl (VL.op (R.gtr rfl rfl) (VL.op (R.pickFB rfl rfl) (VL.op (R.mvB rfl) (VL.orP rfl rfl (fun g2_7=>VL.op (R.mvS rfl) (VL.gT rfl rfl (VL.op (R.mkFn rfl rfl) (VL.gT rfl rfl (VL.callP Tryz.call13 rfl (containsW_spec 14 [] [.pointer (some ⟨b1_5,0,none⟩)] (fun x=>!wyB g.n (wyV x)) (fun w'=>GbB w' b1_5 g x1.1 x1.2) a c W _ Tryz.call14 (fun w' x h hx hk=>quick1_spec g x1.1 x1.2 b1_5 x w' h hk (hw x hx)) (fun _ _ h e=>h.ext e) hB1_5 (hW.ext ((e0_0.trans e1).trans e1_5)) hm) fun w2_10 e2_10=>VL.op (R.pickFB rfl rfl) (VL.nil (V.cond rfl (fun c23=>V.seq (V.region (VL.op (R.asI rfl) (VL.nil (V.ret (fret1 (v:=.int _ _) rfl rfl rfl (⟨?_,(((e0_0.trans e1).trans e1_5).trans e2_10)⟩))))))) (fun c23=>V.skip (V.seq (V.block (V.seq (?_)))))))))))) (fun g2_7=>VL.gF rfl rfl (VL.gF rfl rfl (VL.op (R.pickTB rfl rfl) (VL.nil (V.condT rfl (V.seq (V.region (VL.op (R.asI rfl) (VL.nil (V.ret (fret1 (v:=.int _ _) rfl rfl rfl (⟨?_,((e0_0.trans e1).trans e1_5)⟩)))))))))))))))))))) (fun g2_2=>VL.gF rfl rfl (VL.gF rfl rfl (VL.op (R.pickTB rfl rfl) (VL.op (R.mvB rfl) (VL.gF rfl rfl (VL.gF rfl rfl (VL.gF rfl rfl (VL.op (R.pickTB rfl rfl) (VL.nil (V.condT rfl (V.seq (V.region (VL.op (R.asI rfl) (VL.nil (V.ret (fret1 (v:=.int _ _) rfl rfl rfl (⟨?_,((e0_0.trans e1).trans e1_5)⟩)))))))))))))))))))))))))))))))))))
 ·have h:¬readyG (grV g) (W.map wyV)=true:=fun hr=>by
   unfold readyG at hr
   rw [Bool.and_eq_true] at hr
   obtain ⟨x,hx,hf⟩:=List.any_eq_true.1 c23
   have:=List.all_eq_true.1 hr.2 _ (List.mem_map_of_mem hx)
   rw [show (grV g).n=g.n from rfl] at this
   rw [this] at hf;cases hf
  unfold quickF;rw [if_neg h]
 ·have hv:validG (grV g)=true:=by simpa using g2_2
  have hE20:g.edges.length≤20000:=by have:=(validG_iff.1 hv).2.1;simpa [grV,vals] using this
  have hr:readyG (grV g) (W.map wyV)=true:=by
   unfold readyG
   rw [hv,decide_eq_true (show (W.map wyV).length≤400 by rw [List.length_map];omega),Bool.true_and,Bool.true_and,List.all_eq_true]
   intro y hy
   obtain ⟨x,hx,rfl⟩:=List.mem_map.1 hy
   have:=List.any_eq_false.1 c23 x hx
   show wyB g.n (wyV x)=true
   simpa using this
  have hGb:=h1.1 hv
  have E2:Ext w w2_10:=((e0_0.trans e1).trans e1_5).trans e2_10
  have E3:Ext w1 w2_10:=e1_5.trans e2_10
  have hB5:=hB1_5.ext e2_10
  refine V.region (VL.op (R.mvS rfl) (VL.op (R.ldA Tryz.isAgg49 Tryz.sizeOf49 rfl rfl ((show RowAt _ b1_5 0 (encGB g x1.1 x1.2) from hB5.rowAt 0 5)) rfl) (VL.op (R.mkFn rfl rfl) (VL.callP Tryz.call13 rfl (containsW_spec 16 [.agg (encGB g x1.1 x1.2).toArray] [] (fun x=>certW (vals g.edges) (wyV x)) (fun w'=>GbOk w' g x1.1 x1.2) a c W _ Tryz.call16 (fun w' x h hx hk=>certain_spec g x1.1 x1.2 x w' h hk (hw x hx)) (fun _ _ h e=>h.ext e) (hGb.ext E3) (hW.ext E2) hm) fun w4_3 e4_3=>VL.op (R.asB rfl) (VL.nil (V.cond rfl (fun c24=>V.seq (V.region (VL.op (R.asI rfl) (VL.nil (V.ret (fret1 (v:=.int _ _) rfl rfl rfl (⟨?_,E2.trans e4_3⟩))))))) (fun c24=>V.seq (V.region (VL.op (R.mvS rfl) (VL.op (R.mkFn rfl rfl) (VL.callP Tryz.call13 rfl (containsW_spec 17 [] [.pointer (some ⟨b1_5,0,none⟩)] (fun x=>!neverW (vals g.edges) (wyV x)) (fun w'=>GbB w' b1_5 g x1.1 x1.2∧GbOk w' g x1.1 x1.2) a c W _ Tryz.call17 (fun w' x h hx hk=>quick2_spec g x1.1 x1.2 b1_5 x w' h.1 h.2 hk (hw x hx) (by omega) (fun e he=>(hl.each e he).1)) (fun _ _ h e=>⟨h.1.ext e,h.2.ext e⟩) ⟨hB5.ext e4_3,(hGb.ext E3).ext e4_3⟩ ((hW.ext E2).ext e4_3) hm) fun w6_2 e6_2=>VL.op (R.not rfl) (VL.op (R.asB rfl) (VL.nil (V.cond rfl (fun c29=>V.seq (V.region (VL.op (R.asI rfl) (VL.nil (V.ret (fret1 (v:=.int _ _) rfl rfl rfl (⟨?_,E2.trans (e4_3.trans e6_2)⟩))))))) (fun c29=>V.skip (V.seq (V.region (VL.op (R.asI rfl) (VL.nil (V.ret (fret1 (v:=.int _ _) rfl rfl rfl (⟨?_,E2.trans (e4_3.trans e6_2)⟩))))))))))))))))))))))
  ·unfold quickF;rw [if_pos hr,if_pos]
   rw [List.any_map];exact c24
  ·have hno:¬(W.map wyV).any (certW (grV g).edges)=true:=by
    rw [List.any_map];intro h
    have h:(W.any fun x=>certW (vals g.edges) (wyV x))=true:=h
    rw [c24] at h;cases h
   unfold quickF;rw [if_pos hr,if_neg hno,if_pos]
   show (W.map wyV).all (neverW (vals g.edges))=true
   rw [List.all_map]
   rw [List.not_any_eq_all_not] at c29
   simpa using c29
  ·have hno:¬(W.map wyV).any (certW (grV g).edges)=true:=by
    rw [List.any_map];intro h
    have h:(W.any fun x=>certW (vals g.edges) (wyV x))=true:=h
    rw [c24] at h;cases h
   unfold quickF;rw [if_pos hr,if_neg hno,if_neg]
   show ¬(W.map wyV).all (neverW (vals g.edges))=true
   rw [List.all_map]
   intro h
   rw [List.not_any_eq_all_not] at c29
   simp at c29 h
   obtain ⟨x,hx,hn⟩:=c29
   rw [h x hx] at hn;cases hn
 all_goals
  have h:¬readyG (grV g) (W.map wyV)=true:=fun hr=>by
   unfold readyG at hr
   simp only [Bool.and_eq_true,decide_eq_true_eq,List.length_map] at hr
   first
    | omega
    | (have h2:=hr.1.1;rw [g2_2] at h2;cases h2)
    | (have h2:=hr.1.1;simp [h2] at g2_2)
  unfold quickF;rw [if_neg h]
end Go.Proofs.YtjocoefpnboccaaGreatDoor
