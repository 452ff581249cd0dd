/- Solve: the reference: a step is right. -/
import Derived.Test.YtdbcfpcicjgghaaGreatDoorXS17
import Derived.Test.YtdbcfpcicjgghaaGreatDoorXR30
namespace Go.Proofs.YtdbcfpcicjgghaaGreatDoor
set_option maxHeartbeats 16000000
open Go.Vc
set_option maxRecDepth 100000
set_option maxHeartbeats 16000000
abbrev StB (w:World) (b:Nat) (s:St4):Prop:=Blk w b (.cells (Value.agg (encS4 s).toArray).cells 106 (0,0))
theorem all_map30 {W:List WyI} {st:List Int}:((W.map wyV).all fun w=>somA st w.pos 2||somA st w.neg 1)=W.all fun y=>somA st y.p.l 2||somA st y.n.l 1:=by
 rw [List.all_map];rfl
theorem getD_wy {W:List WyI} {i:Nat} (h:i<W.length):(W.map wyV).getD i default=wyV (W.getD i default):=by
 rw [List.getD,List.getD,List.getElem?_map,List.getElem?_eq_getElem h];rfl
structure RrR (g:GrW) (W:List WyI) (N:Nat):Prop where
 n:g.n=(N:Int)
 N4:N≤4000
 E:∀ e∈vals g.edges,∀ v∈e,0≤v∧v<(N:Int)
 El:g.edges.length≤20000
 gl:GLen g
 wr:∀ y∈W,(∀ v∈y.p.l,0≤v∧v<(N:Int))∧∀ v∈y.n.l,0≤v∧v<(N:Int)
 Wl:W.length≤400
 wl:∀ y∈W,WLen y
theorem ready_rr {g:GrW} {W:List WyI} (hr:readyG (grV g) (W.map wyV)=true) (hl:GLen g) (hWl:∀ y∈W,WLen y):RrR g W g.n.toNat:=by
 have hr2:=hr
 unfold readyG at hr2
 rw [Bool.and_eq_true,Bool.and_eq_true,decide_eq_true_eq,List.all_eq_true,List.length_map] at hr2
 obtain ⟨⟨hv,hWm⟩,hall⟩:=hr2
 have hn:=costB_iff.1 (validG_iff.1 hv).1
 have hn0:0≤g.n:=hn.1
 have hn4:g.n≤4000:=hn.2.1
 have hE:=(validG_iff.1 hv).2.2.1
 have hE20:g.edges.length≤20000:=by have:=(validG_iff.1 hv).2.1;simpa [grV,vals] using this
 refine ⟨by omega,by omega,fun e he v hv=>?_,hE20,hl,fun y hy=>?_,hWm,hWl⟩
 ·have h1:=(hE e he).2.2 v hv
  have h2:(grV g).n=g.n:=rfl
  omega
 ·have:=wy_rng (hall _ (List.mem_map_of_mem hy))
  rw [show (grV g).n=g.n from rfl,show g.n=((g.n.toNat:Nat):Int) by omega] at this
  exact this
structure RrK (w0:World) (nb tb N:Nat) (s:List Int) (L:Nat) (r:Option (List Bool)) (w:World) (sn:List Bool) (w':World):Prop where
 r:∀ x,r=some x→sn=x
 l:sn.length=L
 o:OwnT encBo 1 4 w0.heap.size w' (some ⟨nb,0,none⟩) L sn
 t:OwnT Vc.encI 1 3 w0.heap.size w' (some ⟨tb,0,none⟩) N s
 m:Vc.Mod (fun q=>q=nb∨q=tb) w w'
theorem right_out {c:PrfC} {f q:Nat} {s:List Int} {sn:List Bool} (h:c.S.length≤q):rightO c f q s sn=none:=by
 cases f with
 | zero=>rfl
 | succ f =>
  unfold rightO
  have hd:c.S.getD q default=default:=by simp [List.getD,List.getElem?_eq_none h]
  rw [hd]
  split
  ·rfl
  ·rw [if_neg (show ¬(default:St4).k=1 by decide),if_neg]
   intro h2
   have h3:leafA c s default=false:=by unfold leafA;rw [if_neg (by decide),if_neg (by decide),if_neg (by decide),if_neg (by decide)]
   rw [h3] at h2
   cases h2.2.2
theorem rright29_spec (g:GrW) (wa:Option Addr) (wc:Nat) (W:List WyI) (h:Bool) (sa:Option Addr) (sc:Nat) (S:List St4) (N:Nat) (hR:RrR g W N) (hSl:S.length≤100000) (w0:World) (hG0:GOk w0 g) (hW0:WL w0 wa W) (hS0:TSl encS4 4 w0 sa S) :
  ∀ (f q:Nat) (s:List Int) (tb:Nat) (sn:List Bool) (nb:Nat) (w:World),S.length≤q+f→Ext w0 w→OwnT Vc.encI 1 3 w0.heap.size w (some ⟨tb,0,none⟩) N s→s.length=N→OwnT encBo 1 4 w0.heap.size w (some ⟨nb,0,none⟩) S.length sn→sn.length=S.length→tb≠nb →
   RetsY Tryz.prog 39 #[.agg (encGr g).toArray,.slice wa W.length wc,.bool h,.agg #[.slice sa S.length sc],.int .i64 (q:Nat),.slice (some ⟨tb,0,none⟩) N N,.slice (some ⟨nb,0,none⟩) S.length S.length] w (fun _:List Bool=>.bool (rightO ⟨g.n,vals g.edges,W.map wyV,h,S⟩ f q s sn).isSome) (RrK w0 nb tb N s S.length (rightO ⟨g.n,vals g.edges,W.map wyV,h,S⟩ f q s sn) w):=by
 intro f
 induction f with
 | zero =>
  intro q s tb sn nb w hf e0 hT hs ho hsn hne
  refine enter (args:=[_,_,_,_,_,_,_]) Tryz.func39 rfl Tryz.ntmps39 (by kernel_rfl) rfl ?_
  refine V.seq (V.region (VL.box (v:=.agg _) rfl fun b0_0 w0_0 hb0_0 e0_0 hB0_0=>VL.box (v:=.agg _) rfl fun b0_1 w0_1 hb0_1 e0_1 hB0_1=>VL.op (R.asB rfl) (VL.nil (V.seq (V.seq (V.region (VL.op (R.mvI rfl) (VL.op (R.lit (R.lss rfl rfl) ((decide_eq_false (by omega)))) (VL.op (R.mvB rfl) (VL.gT rfl rfl (VL.op (R.mvI rfl) (VL.gT rfl rfl (VL.op (R.fld' (o:=0) Tryz.runUnderlying31 rfl rfl Tryz.sizeOf29 rfl rfl) (VL.gT rfl rfl (VL.op (R.ld1 Tryz.isAgg29 rfl ((show _=some (Value.slice sa S.length sc) from hB0_1.cell 0))) (VL.gT rfl rfl (VL.op (R.lenS Tryz.runUnderlying29 rfl) (VL.gT rfl rfl (VL.op (R.lit (R.geq rfl rfl) ((decide_eq_true (by omega)))) (VL.op (R.pickFB rfl rfl) (VL.op (R.mvB rfl) (VL.gF rfl rfl (VL.gF rfl rfl (VL.gF rfl rfl (VL.gF rfl rfl (VL.op (R.pickTB rfl rfl) (VL.nil (V.condT rfl (V.seq (V.region (VL.op (R.asB rfl) (VL.nil (V.ret (fret1 (v:=.bool _) rfl rfl rfl (?_)))))))))))))))))))))))))))))))))))
  exact ⟨sn,rfl,(fun s2 h=>nomatch h),hsn,ho.ext (e0_0.trans e0_1),hT.ext (e0_0.trans e0_1),(e0_0.trans e0_1).weaken fun _ _ h=>h.elim⟩
 | succ f ih =>
  intro q s tb sn nb w hf e0 hT hs ho hsn hne
  have hn:=hR.n
  have hN4:=hR.N4
  have hW400:=hR.Wl
  have hnl:nb<w.heap.size:=ho.lt nb ⟨_,rfl,rfl⟩
  have htl:tb<w.heap.size:=hT.lt tb ⟨_,rfl,rfl⟩
  have hnB:=ho.ge nb ⟨_,rfl,rfl⟩
  have htB:=hT.ge tb ⟨_,rfl,rfl⟩
  refine enter (args:=[_,_,_,_,_,_,_]) Tryz.func39 rfl Tryz.ntmps39 (by kernel_rfl) rfl ?_
  by_cases hq:S.length≤q
  ·rw [right_out (c:=⟨g.n,vals g.edges,W.map wyV,h,S⟩) hq]
   refine V.seq (V.region (VL.box (v:=.agg _) rfl fun b0_0 w0_0 hb0_0 e0_0 hB0_0=>VL.box (v:=.agg _) rfl fun b0_1 w0_1 hb0_1 e0_1 hB0_1=>VL.op (R.asB rfl) (VL.nil (V.seq (V.seq (V.region (VL.op (R.mvI rfl) (VL.op (R.lit (R.lss rfl rfl) ((decide_eq_false (by omega)))) (VL.op (R.mvB rfl) (VL.gT rfl rfl (VL.op (R.mvI rfl) (VL.gT rfl rfl (VL.op (R.fld' (o:=0) Tryz.runUnderlying31 rfl rfl Tryz.sizeOf29 rfl rfl) (VL.gT rfl rfl (VL.op (R.ld1 Tryz.isAgg29 rfl ((show _=some (Value.slice sa S.length sc) from hB0_1.cell 0))) (VL.gT rfl rfl (VL.op (R.lenS Tryz.runUnderlying29 rfl) (VL.gT rfl rfl (VL.op (R.lit (R.geq rfl rfl) ((decide_eq_true (by omega)))) (VL.op (R.pickFB rfl rfl) (VL.op (R.mvB rfl) (VL.gF rfl rfl (VL.gF rfl rfl (VL.gF rfl rfl (VL.gF rfl rfl (VL.op (R.pickTB rfl rfl) (VL.nil (V.condT rfl (V.seq (V.region (VL.op (R.asB rfl) (VL.nil (V.ret (fret1 (v:=.bool _) rfl rfl rfl (?_)))))))))))))))))))))))))))))))))))
   exact ⟨sn,rfl,(fun s2 h=>nomatch h),hsn,ho.ext (e0_0.trans e0_1),hT.ext (e0_0.trans e0_1),(e0_0.trans e0_1).weaken fun _ _ h=>h.elim⟩
  replace hq:q<S.length:=by omega
  refine V.seq (V.region (VL.box (v:=.agg _) rfl fun b0_0 w0_0 hb0_0 e0_0 hB0_0=>VL.box (v:=.agg _) rfl fun b0_1 w0_1 hb0_1 e0_1 hB0_1=>VL.op (R.asB rfl) (VL.nil (V.seq (V.seq (V.region (VL.op (R.mvI rfl) (VL.op (R.lit (R.lss rfl rfl) ((decide_eq_false (by omega)))) (VL.op (R.mvB rfl) (VL.gT rfl rfl (VL.op (R.mvI rfl) (VL.gT rfl rfl (VL.op (R.fld' (o:=0) Tryz.runUnderlying31 rfl rfl Tryz.sizeOf29 rfl rfl) (VL.gT rfl rfl (VL.op (R.ld1 Tryz.isAgg29 rfl ((show _=some (Value.slice sa S.length sc) from hB0_1.cell 0))) (VL.gT rfl rfl (VL.op (R.lenS Tryz.runUnderlying29 rfl) (VL.gT rfl rfl (VL.op (R.lit (R.geq rfl rfl) ((decide_eq_false (by omega)))) (VL.op (R.pickFB rfl rfl) (VL.op (R.mvB rfl) (VL.gT rfl rfl (VL.op (R.mvS rfl) (VL.gT rfl rfl (VL.op (R.mvI rfl) (VL.gT rfl rfl (VL.op (R.ixS Tryz.runUnderlying77 Tryz.sizeOf4 rfl rfl (by omega) (by omega) (ho.sl.some (i:=q) (by omega))) (VL.gT rfl rfl (VL.op (R.ld1 Tryz.isAgg4 rfl ((((ho.sl.ext (e0_0.trans e0_1)).row (i:=q) (by omega)).cell (i:=0) rfl))) (VL.op (R.pickFB rfl rfl) (VL.nil (V.cond rfl (fun c33=>V.seq (V.region (VL.op (R.asB rfl) (VL.nil (V.ret (fret1 (v:=.bool _) rfl rfl rfl (?_))))))) (fun c33=>V.skip (V.seq (?_)))))))))))))))))))))))))))))))))))
  ·have hn:rightO ⟨g.n,vals g.edges,W.map wyV,h,S⟩ (f+1) q s sn=none:=by unfold rightO;rw [if_pos (by assumption)]
   rw [hn]
   exact ⟨sn,rfl,(fun s2 h=>nomatch h),hsn,ho.ext (e0_0.trans e0_1),hT.ext (e0_0.trans e0_1),(e0_0.trans e0_1).weaken fun _ _ h=>h.elim⟩
  have ho1:=ho.ext (e0_0.trans e0_1)
  have hsnq:sn.getD q default=false:=by simpa using c33
  refine V.region (VL.op (R.mvS rfl) (VL.op (R.mvI rfl) (VL.op (R.ixS Tryz.runUnderlying77 Tryz.sizeOf4 rfl rfl (by omega) (by omega) (ho1.sl.some (i:=q) (by omega))) (VL.ownSt eltBo (v:=.bool _) Tryz.sizeOf4 (ho1) q 0 true rfl rfl (by omega) rfl rfl rfl rfl rfl fun w5 ho5 m5 hs5=>VL.nil (V.seq (?_))))))
  obtain ⟨y,hy⟩:∃ y,y=S.getD q default:=⟨_,rfl⟩
  have E0:Ext w w0_1:=e0_0.trans e0_1
  obtain ⟨T,hTd⟩:∃ T:Nat→Prop,T=fun q=>q=nb∨q=tb:=⟨_,rfl⟩
  have hTn:∀ x,T x→x<w.heap.size:=fun x hx=>by rw [hTd] at hx;rcases hx with h | h <;> omega
  have hTg:∀ x,T x→w0.heap.size≤x:=fun x hx=>by rw [hTd] at hx;rcases hx with h | h <;> omega
  have hM5:Vc.Mod T w w5:=(E0.weaken fun _ _ h=>h.elim).then m5 fun _ _ h=>by rw [hTd];exact .inl (aBlk_some h)
  have e5:Ext w0 w5:=e0.ownA hM5 hTg
  have hT5:=(hT.ext E0).mod m5 fun x h1 h2=>by have:=aBlk_some h1;have:=aBlk_some h2;omega
  have X0:=hB0_0.ext e0_1
  have X0:=X0.mod m5 fun h=>by have:=aBlk_some h;omega
  have X1:=hB0_1.mod m5 fun h=>by have:=aBlk_some h;have:=e0_0.size;omega
  have hS5:=hS0.ext e5
  refine V.region (VL.op (R.fld' (o:=0) Tryz.runUnderlying31 rfl rfl Tryz.sizeOf29 rfl rfl) (VL.op (R.ld1 Tryz.isAgg29 rfl ((show _=some (Value.slice sa S.length sc) from X1.cell 0))) (VL.op (R.mvI rfl) (VL.op (R.ixS Tryz.runUnderlying29 Tryz.sizeOf106 rfl rfl (by omega) (by omega) (hS5.some (i:=q) hq)) (VL.op (R.ldA Tryz.isAgg106 Tryz.sizeOf106 rfl rfl ((show RowAt _ _ _ (encS4 (S.getD q default)) from (hS5.row (i:=q) hq))) rfl) (VL.allocSt (v:=.agg (encS4 (S.getD q default)).toArray) Tryz.zeroValue106 Tryz.sizeOf106 rfl rfl rfl rfl rfl fun b4_5 w4_5 hb4_5 e4_5 hB4_5=>VL.nil (V.seq (V.seq (?_)))))))))
  have hb:StB w4_5 b4_5 y:=by rw [hy];exact hB4_5
  clear hB4_5
  have hbl:b4_5=w5.heap.size:=hb4_5
  have X0:=X0.ext e4_5
  have X1:=X1.ext e4_5
  have hM6:Vc.Mod T w w4_5:=hM5.then e4_5 fun _ _ h=>h.elim
  have e6:Ext w0 w4_5:=e5.trans e4_5
  have ho6:=ho5.ext e4_5
  have hT6o:=hT5.ext e4_5
  have hT6:=hT6o.sl
  have hsn6:(sn.set q true).length=S.length:=by rw [List.length_set];exact hsn
  have hK:∀ {w':World},Ext w4_5 w'→∀ r:Option (List Bool),(∀ x,r=some x→sn.set q true=x)→RrK w0 nb tb N s S.length r w (sn.set q true) w':=fun e r hr=>⟨hr,hsn6,ho6.ext e,hT6o.ext e,by rw [←hTd];exact hM6.then e fun _ _ h=>h.elim⟩
  have hro:rightO ⟨g.n,vals g.edges,W.map wyV,h,S⟩ (f+1) q s sn=if y.k=1 then (if brA ⟨g.n,vals g.edges,W.map wyV,h,S⟩ s q y=true then (rightO ⟨g.n,vals g.edges,W.map wyV,h,S⟩ f y.i.toNat (s.set y.a.toNat 1) (sn.set q true)).bind fun sn2=>rightO ⟨g.n,vals g.edges,W.map wyV,h,S⟩ f y.o.toNat (s.set y.a.toNat 2) sn2 else none) else if y.i=0∧y.o=0∧leafA ⟨g.n,vals g.edges,W.map wyV,h,S⟩ s y=true then some (sn.set q true) else none:=by
   rw [hy]
   show rightO _ _ _ _ _=_
   rw [rightO,hsnq,if_neg Bool.false_ne_true]
  rw [hro]
  clear hro hy
  obtain ⟨yk,ya,yi,yo⟩:=y
  dsimp only
  obtain ⟨C,hC⟩:∃ C:PrfC,C=⟨g.n,vals g.edges,W.map wyV,h,S⟩:=⟨_,rfl⟩
  rw [←hC] at ih ⊢
  obtain ⟨Zr,hRq⟩:∃ Zr,Zr=(if yk=1 then (if brA C s q ⟨yk,ya,yi,yo⟩=true then (rightO C f yi.toNat (s.set ya.toNat 1) (sn.set q true)).bind fun sn2=>rightO C f yo.toNat (s.set ya.toNat 2) sn2 else none) else if yi=0∧yo=0∧leafA C s ⟨yk,ya,yi,yo⟩=true then some (sn.set q true) else none):=⟨_,rfl⟩
  rw [←hRq]
  have hleaf:∀ (X:Bool) {w':World},Zr=(if X=true then some (sn.set q true) else none)→Ext w4_5 w'→∃ i:List Bool,Value.bool X=Value.bool Zr.isSome∧RrK w0 nb tb N s S.length Zr w i w':=fun X w' hX e=>by
   refine ⟨sn.set q true,?_,hK e Zr fun x hx=>?_⟩
   ·rw [hX];cases X <;> rfl
   ·rw [hX] at hx
    cases X with
    | true=>injection hx
    | false=>cases hx
  have hck:∀ {w':World},Ext w4_5 w'→w'.cell? ⟨b4_5,0,none⟩=some (Value.int .i64 yk):=fun e=>(hb.ext e).cell 0
  have hca:∀ {w':World},Ext w4_5 w'→w'.cell? ⟨b4_5,1,none⟩=some (Value.int .i64 ya):=fun e=>(hb.ext e).cell 1
  have hci:∀ {w':World},Ext w4_5 w'→w'.cell? ⟨b4_5,2,none⟩=some (Value.int .i64 yi):=fun e=>(hb.ext e).cell 2
  have hco:∀ {w':World},Ext w4_5 w'→w'.cell? ⟨b4_5,3,none⟩=some (Value.int .i64 yo):=fun e=>(hb.ext e).cell 3
  have hcn:∀ {w':World},Ext w4_5 w'→w'.cell? ⟨b0_0,0,none⟩=some (Value.int .i64 ((N:Nat):Int)):=fun e=>by rw [←hn];exact (X0.ext e).cell 0
  have hce:∀ {w':World},Ext w4_5 w'→w'.cell? ⟨b0_0,2,none⟩=some (Value.slice g.ea g.edges.length g.ec):=fun e=>(X0.ext e).cell 2
  refine V.region (VL.op (R.fld' (o:=0) Tryz.runUnderlying106 rfl rfl Tryz.sizeOf3 rfl rfl) (VL.op (R.ld1 Tryz.isAgg3 rfl ((hck (Vc.Mod.refl _ _)))) (VL.op (R.eql rfl rfl) (VL.nil (V.condP rfl (fun c44=>V.seq (V.seq (?_))) (fun c44=>V.skip (V.seq (V.seq (?_)))))))))
  ·have hbr:∀ X:Bool,X=decide (0≤ya∧ya<(N:Int)∧s.getD ya.toNat default=0∧(q:Int)<yi∧(q:Int)<yo)→Zr=if X=true then (rightO C f yi.toNat (s.set ya.toNat 1) (sn.set q true)).bind fun sn2=>rightO C f yo.toNat (s.set ya.toNat 2) sn2 else none:=fun X hX=>by
    have hbA:brA C s q ⟨yk,ya,yi,yo⟩=decide (0≤ya∧ya<(N:Int)∧s.getD ya.toNat default=0∧(q:Int)<yi∧(q:Int)<yo∧yi<(S.length:Int)∧yo<(S.length:Int)):=by rw [←hn,hC];rfl
    rw [hRq,if_pos c44,hbA,hX]
    by_cases hl1:yi<(S.length:Int)
    ·by_cases hl2:yo<(S.length:Int)
     ·congr 1
      rw [decide_eq_true_eq,decide_eq_true_eq]
      exact propext ⟨fun h=>⟨h.1,h.2.1,h.2.2.1,h.2.2.2.1,h.2.2.2.2.1⟩,fun h=>⟨h.1,h.2.1,h.2.2.1,h.2.2.2.1,h.2.2.2.2,hl1,hl2⟩⟩
     ·rw [decide_eq_false fun h=>hl2 h.2.2.2.2.2.2,if_neg Bool.false_ne_true]
      split
      ·have h3:∀ sn2,rightO C f yo.toNat (s.set ya.toNat 2) sn2=none:=fun sn2=>right_out (by rw [hC];dsimp only;omega)
       cases rightO C f yi.toNat (s.set ya.toNat 1) (sn.set q true) with
       | none=>rfl
       | some x=>rw [Option.bind_some,h3]
      ·rfl
    ·rw [decide_eq_false fun h=>hl1 h.2.2.2.2.2.1,if_neg Bool.false_ne_true]
     split
     ·rw [right_out (c:=C) (by rw [hC];dsimp only;omega)];rfl
     ·rfl
   obtain ⟨X,hX⟩:∃ X,X=decide (0≤ya∧ya<(N:Int)∧s.getD ya.toNat default=0∧(q:Int)<yi∧(q:Int)<yo):=⟨_,rfl⟩
   have hZ:=hbr X hX
   refine V.regionCut [45,46,47,48,49,50,51,52,53,54,55,56,57,58,59,60,61,62,63,64,65,66,67,68,69,70,71,72,73,74] 74 (.bool (!X)) (fun w'=>Ext _ w') rfl (VL.op (R.fld' (o:=1) Tryz.runUnderlying106 rfl rfl Tryz.sizeOf3 rfl rfl) (VL.op (R.ld1 Tryz.isAgg3 rfl ((hca (Vc.Mod.refl _ _)))) (VL.op (R.lss rfl rfl) (VL.op (R.mvB rfl) (VL.orP rfl rfl (fun g6_3=>VL.op (R.fld' (o:=1) Tryz.runUnderlying106 rfl rfl Tryz.sizeOf3 rfl rfl) (VL.gT rfl rfl (VL.op (R.ld1 Tryz.isAgg3 rfl ((hca (Vc.Mod.refl _ _)))) (VL.gT rfl rfl (VL.op (R.fld' (o:=0) Tryz.runUnderlying25 rfl rfl Tryz.sizeOf3 rfl rfl) (VL.gT rfl rfl (VL.op (R.ld1 Tryz.isAgg3 rfl ((hcn (Vc.Mod.refl _ _)))) (VL.gT rfl rfl (VL.op (R.geq rfl rfl) (VL.op (R.pickFB rfl rfl) (VL.op (R.mvB rfl) (VL.orP rfl rfl (fun g6_10=>VL.op (R.mvS rfl) (VL.gT rfl rfl (VL.op (R.fld' (o:=1) Tryz.runUnderlying106 rfl rfl Tryz.sizeOf3 rfl rfl) (VL.gT rfl rfl (VL.op (R.ld1 Tryz.isAgg3 rfl ((hca (Vc.Mod.refl _ _)))) (VL.gT rfl rfl (VL.op (R.ixS Tryz.runUnderlying22 Tryz.sizeOf3 rfl rfl (by omega) (by omega) (hT6.some (i:=ya.toNat) (by omega))) (VL.gT rfl rfl (VL.op (R.ld1 Tryz.isAgg3 rfl (((hT6.row (i:=ya.toNat) (by omega)).cell (i:=0) rfl))) (VL.gT rfl rfl (VL.op (R.neq rfl rfl) (VL.op (R.pickFB rfl rfl) (VL.op (R.mvB rfl) (VL.orP rfl rfl (fun g6_18=>VL.op (R.fld' (o:=2) Tryz.runUnderlying106 rfl rfl Tryz.sizeOf3 rfl rfl) (VL.gT rfl rfl (VL.op (R.ld1 Tryz.isAgg3 rfl ((hci (Vc.Mod.refl _ _)))) (VL.gT rfl rfl (VL.op (R.mvI rfl) (VL.gT rfl rfl (VL.op (R.leq rfl rfl) (VL.op (R.pickFB rfl rfl) (VL.op (R.mvB rfl) (VL.orP rfl rfl (fun g6_24=>VL.op (R.fld' (o:=3) Tryz.runUnderlying106 rfl rfl Tryz.sizeOf3 rfl rfl) (VL.gT rfl rfl (VL.op (R.ld1 Tryz.isAgg3 rfl ((hco (Vc.Mod.refl _ _)))) (VL.gT rfl rfl (VL.op (R.mvI rfl) (VL.gT rfl rfl (VL.op (R.leq rfl rfl) (VL.op (R.pickFB rfl rfl) (VL.nil ⟨rfl,cutB rfl ?_,Mod.refl _ _⟩))))))))) (fun g6_24=>VL.gF rfl rfl (VL.gF rfl rfl (VL.gF rfl rfl (VL.op (R.pickTB rfl rfl) (VL.nil ⟨rfl,cutB rfl ?_,Mod.refl _ _⟩))))))))))))))) (fun g6_18=>VL.gF rfl rfl (VL.gF rfl rfl (VL.gF rfl rfl (VL.op (R.pickTB rfl rfl) (VL.op (R.mvB rfl) (VL.gF rfl rfl (VL.gF rfl rfl (VL.gF rfl rfl (VL.gF rfl rfl (VL.op (R.pickTB rfl rfl) (VL.nil ⟨rfl,cutB rfl ?_,Mod.refl _ _⟩))))))))))))))))))))))))) (fun g6_10=>VL.gF rfl rfl (VL.gF rfl rfl (VL.gF rfl rfl (VL.gF rfl rfl (VL.gF rfl rfl (VL.op (R.pickTB rfl rfl) (VL.op (R.mvB rfl) (VL.gF rfl rfl (VL.gF rfl rfl (VL.gF rfl rfl (VL.gF rfl rfl (VL.op (R.pickTB rfl rfl) (VL.op (R.mvB rfl) (VL.gF rfl rfl (VL.gF rfl rfl (VL.gF rfl rfl (VL.gF rfl rfl (VL.op (R.pickTB rfl rfl) (VL.nil ⟨rfl,cutB rfl ?_,Mod.refl _ _⟩))))))))))))))))))))))))))))))) (fun g6_3=>VL.gF rfl rfl (VL.gF rfl rfl (VL.gF rfl rfl (VL.gF rfl rfl (VL.op (R.pickTB rfl rfl) (VL.op (R.mvB rfl) (VL.gF rfl rfl (VL.gF rfl rfl (VL.gF rfl rfl (VL.gF rfl rfl (VL.gF rfl rfl (VL.gF rfl rfl (VL.op (R.pickTB rfl rfl) (VL.op (R.mvB rfl) (VL.gF rfl rfl (VL.gF rfl rfl (VL.gF rfl rfl (VL.gF rfl rfl (VL.op (R.pickTB rfl rfl) (VL.op (R.mvB rfl) (VL.gF rfl rfl (VL.gF rfl rfl (VL.gF rfl rfl (VL.gF rfl rfl (VL.op (R.pickTB rfl rfl) (VL.nil ⟨rfl,cutB rfl ?_,Mod.refl _ _⟩))))))))))))))))))))))))))))))) (fun rg6 w6c e6c=>V.cond rfl (fun c74=>V.seq (V.region (VL.op (R.asB rfl) (VL.nil (V.ret (fret1 (v:=.bool _) rfl rfl rfl (?_))))))) (fun c74=>V.skip (V.seq (?_))))
   ·rw [hX,←decide_not];exact decide_eq_decide.2 (by omega)
   ·rw [hX,decide_eq_false (by omega)];rfl
   ·rw [hX,decide_eq_false (by omega)];rfl
   ·rw [hX,decide_eq_false (by omega)];rfl
   ·rw [hX,decide_eq_false (by omega)];rfl
   ·have hX0:X=false:=by simpa using c74
    exact hleaf false (by rw [hZ,hX0];rfl) e6c
   have hX1:X=true:=by simpa using c74
   rw [hX1,if_pos rfl] at hZ
   rw [hX1] at hX
   have hX:=of_decide_eq_true hX.symm
   clear hbr hRq hleaf hK
   obtain ⟨b1,b2,b3,b4,b5⟩:=hX
   obtain ⟨v,rfl⟩:∃ v:Nat,ya=(v:Int):=⟨ya.toNat,by omega⟩
   obtain ⟨ki,rfl⟩:∃ k:Nat,yi=(k:Int):=⟨yi.toNat,by omega⟩
   obtain ⟨ko,rfl⟩:∃ k:Nat,yo=(k:Int):=⟨yo.toNat,by omega⟩
   rw [Int.toNat_natCast] at b3
   rw [Int.toNat_natCast,Int.toNat_natCast,Int.toNat_natCast] at hZ
   have hvN:v<N:=by omega
   have hTnb:T nb:=by rw [hTd];exact .inl rfl
   have hTtb:T tb:=by rw [hTd];exact .inr rfl
   have hTo:∀ {x:Nat},T x→x<w.heap.size:=fun hx=>hTn _ hx
   have hs5z:=hM5.size
   have z00:=e0_0.size
   have hkb:∀ {w':World},Vc.Mod T w4_5 w'→StB w' b4_5 ⟨yk,(v:Int),(ki:Int),(ko:Int)⟩:=fun m=>hb.mod m fun hx=>by have:=hTo hx;omega
   have hkX:∀ {w':World},Vc.Mod T w4_5 w'→Blk w' b0_0 (.cells (Value.agg (encGr g).toArray).cells 25 (0,0)):=fun m=>X0.mod m fun hx=>by have:=hTo hx;omega
   have hkP:∀ {w':World},Vc.Mod T w4_5 w'→Blk w' b0_1 (.cells (Value.agg #[.slice sa S.length sc]).cells 31 (0,0)):=fun m=>X1.mod m fun hx=>by have:=hTo hx;omega
   have hT6c:=hT6o.ext e6c
   refine V.region (VL.op (R.mvS rfl) (VL.op (R.fld' (o:=1) Tryz.runUnderlying106 rfl rfl Tryz.sizeOf3 rfl rfl) (VL.op (R.ld1 Tryz.isAgg3 rfl ((hca e6c))) (VL.op (R.ixS Tryz.runUnderlying22 Tryz.sizeOf3 rfl rfl (by omega) (by omega) (hT6c.sl.some (i:=v) (by omega))) (VL.ownSt eltI (v:=.int _ _) Tryz.sizeOf3 (hT6c) v 0 1 rfl rfl (by omega) rfl rfl rfl rfl rfl fun w8 ho8 m8 hs8=>VL.nil (V.seq (?_)))))))
   have M8:Vc.Mod T w4_5 w8:=(e6c.weaken fun _ _ h=>h.elim).then m8 fun x _ hx=>by rw [aBlk_some hx];exact hTtb
   have E8:Ext w0 w8:=e6.ownA M8 hTg
   have on8:=(ho6.ext e6c).mod m8 fun x h1 h2=>by have:=aBlk_some h1;have:=aBlk_some h2;omega
   refine V.region (VL.op (R.ldA Tryz.isAgg25 Tryz.sizeOf25 rfl rfl ((show RowAt _ _ _ (encGr g) from (hkX M8).rowAt 0 3)) rfl) (VL.op (R.mvS rfl) (VL.op (R.mvB rfl) (VL.op (R.ldA Tryz.isAgg31 Tryz.sizeOf31 rfl rfl ((show RowAt _ _ _ [Value.slice sa S.length sc] from (hkP M8).rowAt 0 1)) rfl) (VL.op (R.fld' (o:=2) Tryz.runUnderlying106 rfl rfl Tryz.sizeOf3 rfl rfl) (VL.op (R.ld1 Tryz.isAgg3 rfl (((hkb M8).cell 2))) (VL.op (R.mvS rfl) (VL.op (R.mvS rfl) (VL.callY Tryz.call39 rfl (ih ki (s.set v 1) tb (sn.set q true) nb w8 (by omega) E8 ho8 (by rw [List.length_set];exact hs) on8 hsn6 hne) fun sn1 w9 h9=>VL.op (R.asB rfl) (VL.nil (V.seq (?_))))))))))))
   obtain ⟨hr9,hl9,ho9,ht9,hm9⟩:=h9
   have hm9:Vc.Mod T w8 w9:=by rw [hTd];exact hm9
   have M9:Vc.Mod T w4_5 w9:=M8.then hm9 fun _ _ h=>h
   refine V.region (VL.op (R.mvS rfl) (VL.op (R.fld' (o:=1) Tryz.runUnderlying106 rfl rfl Tryz.sizeOf3 rfl rfl) (VL.op (R.ld1 Tryz.isAgg3 rfl (((hkb M9).cell 1))) (VL.op (R.ixS Tryz.runUnderlying22 Tryz.sizeOf3 rfl rfl (by omega) (by omega) (ht9.sl.some (i:=v) (by rw [List.length_set];omega))) (VL.ownSt eltI (v:=.int _ _) Tryz.sizeOf3 (ht9) v 0 2 rfl rfl (by rw [List.length_set];omega) rfl rfl rfl rfl rfl fun w10 ho10 m10 hs10=>VL.nil (V.seq (?_)))))))
   rw [List.set_set] at ho10
   have M10:Vc.Mod T w4_5 w10:=M9.then m10 fun x _ hx=>by rw [aBlk_some hx];exact hTtb
   have E10:Ext w0 w10:=e6.ownA M10 hTg
   have on10:=ho9.mod m10 fun x h1 h2=>by have:=aBlk_some h1;have:=aBlk_some h2;omega
   obtain ⟨R1,hR1⟩:∃ R1,R1=rightO C f ki (s.set v 1) (sn.set q true):=⟨_,rfl⟩
   rw [←hR1] at hr9 hZ ⊢
   have hfin:∀ (R2:Option (List Bool)) (sn2:List Bool) (w11 w12:World),Vc.Mod T w4_5 w11→Vc.Mod (aBlk (some ⟨tb,0,none⟩:Option Addr)) w11 w12→OwnT Vc.encI 1 3 w0.heap.size w12 (some ⟨tb,0,none⟩) N ((s.set v 2).set v 0)→OwnT encBo 1 4 w0.heap.size w11 (some ⟨nb,0,none⟩) S.length sn2→sn2.length=S.length→(∀ x,R2=some x→sn2=x)→Zr=R2→∃ i:List Bool,Value.bool R2.isSome=Value.bool Zr.isSome∧RrK w0 nb tb N s S.length Zr w i w12:=fun R2 sn2 w11 w12 m11 m12 ht hno hnl hr2 hz=>by
    refine ⟨sn2,by rw [hz],⟨fun x hx=>hr2 x (hz▸hx),hnl,hno.mod m12 fun x h1 h2=>by have:=aBlk_some h1;have:=aBlk_some h2;omega,?_,?_⟩⟩
    ·have hst0:(s.set v 2).set v 0=s:=by
      rw [List.set_set]
      refine List.ext_getElem (by simp) fun i hi1 hi2=>?_
      rw [List.getElem_set]
      split
      ·rename_i e
       subst e
       rw [gget hi2] at b3
       exact b3.symm
      ·rfl
     rw [hst0] at ht
     exact ht
    ·rw [←hTd]
     exact (hM6.then m11 fun _ _ h=>h).then m12 fun x _ hx=>by rw [aBlk_some hx];exact hTtb
   cases hRs:R1.isSome with
   | true =>
    obtain ⟨x1,hx1⟩:=Option.isSome_iff_exists.1 hRs
    have hxx:=hr9 x1 hx1
    subst hxx
    rw [hx1,Option.bind_some] at hZ
    refine V.region (VL.op (R.mvB rfl) (VL.op (R.mvB rfl) (VL.gT rfl rfl (VL.op (R.ldA Tryz.isAgg25 Tryz.sizeOf25 rfl rfl ((show RowAt _ _ _ (encGr g) from (hkX M10).rowAt 0 3)) rfl) (VL.gT rfl rfl (VL.op (R.mvS rfl) (VL.gT rfl rfl (VL.op (R.mvB rfl) (VL.gT rfl rfl (VL.op (R.ldA Tryz.isAgg31 Tryz.sizeOf31 rfl rfl ((show RowAt _ _ _ [Value.slice sa S.length sc] from (hkP M10).rowAt 0 1)) rfl) (VL.gT rfl rfl (VL.op (R.fld' (o:=3) Tryz.runUnderlying106 rfl rfl Tryz.sizeOf3 rfl rfl) (VL.gT rfl rfl (VL.op (R.ld1 Tryz.isAgg3 rfl (((hkb M10).cell 3))) (VL.gT rfl rfl (VL.op (R.mvS rfl) (VL.gT rfl rfl (VL.op (R.mvS rfl) (VL.gT rfl rfl (VL.callY Tryz.call39 rfl (ih ko (s.set v 2) tb sn1 nb w10 (by omega) E10 ho10 (by rw [List.length_set];exact hs) on10 hl9 hne) fun sn2 w11 h11=>VL.op (R.pickTB rfl rfl) (VL.op (R.asB rfl) (VL.nil (V.seq (?_))))))))))))))))))))))))
    obtain ⟨hr11,hl11,ho11,ht11,hm11⟩:=h11
    have hm11:Vc.Mod T w10 w11:=by rw [hTd];exact hm11
    have M11:Vc.Mod T w4_5 w11:=M10.then hm11 fun _ _ h=>h
    refine V.region (VL.op (R.mvS rfl) (VL.op (R.fld' (o:=1) Tryz.runUnderlying106 rfl rfl Tryz.sizeOf3 rfl rfl) (VL.op (R.ld1 Tryz.isAgg3 rfl (((hkb M11).cell 1))) (VL.op (R.ixS Tryz.runUnderlying22 Tryz.sizeOf3 rfl rfl (by omega) (by omega) (ht11.sl.some (i:=v) (by rw [List.length_set];omega))) (VL.ownSt eltI (v:=.int _ _) Tryz.sizeOf3 (ht11) v 0 0 rfl rfl (by rw [List.length_set];omega) rfl rfl rfl rfl rfl fun w12 ho12 m12 hs12=>VL.nil (V.seq (V.region (VL.op (R.mvB rfl) (VL.op (R.asB rfl) (VL.nil (V.ret (fret1 (v:=.bool _) rfl rfl rfl (?_)))))))))))))
    exact hfin _ sn2 w11 w12 M11 m12 ho12 ho11 hl11 hr11 hZ
   | false =>
    have hx1:R1=none:=by cases h8:R1 with
     | none=>rfl
     | some s2=>rw [h8] at hRs;cases hRs
    rw [hx1,Option.bind_none] at hZ
    refine V.region (VL.op (R.mvB rfl) (VL.op (R.mvB rfl) (VL.gF rfl rfl (VL.gF rfl rfl (VL.gF rfl rfl (VL.gF rfl rfl (VL.gF rfl rfl (VL.gF rfl rfl (VL.gF rfl rfl (VL.gF rfl rfl (VL.gF rfl rfl (VL.op (R.pickFB rfl rfl) (VL.op (R.asB rfl) (VL.nil (V.seq (?_))))))))))))))))
    refine V.region (VL.op (R.mvS rfl) (VL.op (R.fld' (o:=1) Tryz.runUnderlying106 rfl rfl Tryz.sizeOf3 rfl rfl) (VL.op (R.ld1 Tryz.isAgg3 rfl (((hkb M10).cell 1))) (VL.op (R.ixS Tryz.runUnderlying22 Tryz.sizeOf3 rfl rfl (by omega) (by omega) (ho10.sl.some (i:=v) (by rw [List.length_set];omega))) (VL.ownSt eltI (v:=.int _ _) Tryz.sizeOf3 (ho10) v 0 0 rfl rfl (by rw [List.length_set];omega) rfl rfl rfl rfl rfl fun w12 ho12 m12 hs12=>VL.nil (V.seq (V.region (VL.op (R.mvB rfl) (VL.op (R.asB rfl) (VL.nil (V.ret (fret1 (v:=.bool _) rfl rfl rfl (?_)))))))))))))
    exact hfin none sn1 w10 w12 M10 m12 ho12 on10 hl9 (fun x h=>nomatch h) hZ
  ·refine V.regionCut [109,110,111,112,113,114,115,116] 116 (.bool (!decide (yi=0∧yo=0))) (fun w'=>Ext _ w') rfl (VL.op (R.fld' (o:=2) Tryz.runUnderlying106 rfl rfl Tryz.sizeOf3 rfl rfl) (VL.op (R.ld1 Tryz.isAgg3 rfl ((hci (Vc.Mod.refl _ _)))) (VL.op (R.neq rfl rfl) (VL.op (R.mvB rfl) (VL.orP rfl rfl (fun g14_3=>VL.op (R.fld' (o:=3) Tryz.runUnderlying106 rfl rfl Tryz.sizeOf3 rfl rfl) (VL.gT rfl rfl (VL.op (R.ld1 Tryz.isAgg3 rfl ((hco (Vc.Mod.refl _ _)))) (VL.gT rfl rfl (VL.op (R.neq rfl rfl) (VL.op (R.pickFB rfl rfl) (VL.nil ⟨rfl,cutB rfl ?_,Mod.refl _ _⟩))))))) (fun g14_3=>VL.gF rfl rfl (VL.gF rfl rfl (VL.op (R.pickTB rfl rfl) (VL.nil ⟨rfl,cutB rfl ?_,Mod.refl _ _⟩))))))))) (fun rg14 w14c e14c=>V.cond rfl (fun c116=>V.seq (V.region (VL.op (R.asB rfl) (VL.nil (V.ret (fret1 (v:=.bool _) rfl rfl rfl (?_))))))) (fun c116=>V.skip (V.seq (V.seq (?_)))))
   ·rw [←decide_not];exact decide_eq_decide.2 (by omega)
   ·rw [decide_eq_false (by omega)];rfl
   ·have h1:¬(yi=0∧yo=0):=fun hh=>by rw [decide_eq_true hh] at c116;cases c116
    exact hleaf false (by rw [hRq,if_neg c44,if_neg fun h=>h1 ⟨h.1,h.2.1⟩];rfl) e14c
   have h1:yi=0∧yo=0:=by simpa using c116
   have hRl:yk≠1→Zr=if leafA C s ⟨yk,ya,yi,yo⟩=true then some (sn.set q true) else none:=fun hk=>by
    rw [hRq,if_neg hk]
    by_cases h3:leafA C s ⟨yk,ya,yi,yo⟩=true
    ·rw [if_pos ⟨h1.1,h1.2,h3⟩,if_pos h3]
    ·rw [if_neg fun h=>h3 h.2.2,if_neg h3]
   have E7:Ext w4_5 w14c:=e14c
   have hT7:∀ {w':World},Ext w14c w'→IntSl w' (some ⟨tb,0,none⟩) s:=fun e=>hT6.ext (E7.trans e)
   have hW7:∀ {w':World},Ext w14c w'→WL w' wa W:=fun e=>hW0.ext (e6.trans (E7.trans e))
   have hG7:=hG0.ext (e6.trans E7)
   have hE7:=hG7.e
   have hall:∀ {w':World},Ext w14c w'→∀ (a:Option Addr) (c:Nat) (l:List Int) (x:Int),IntSl w' a l→(∀ v∈l,0≤v∧v<(N:Int))→l.length≤1000000→RetsP Tryz.prog 69 #[.slice (some ⟨tb,0,none⟩) N N,.slice a l.length c,.int .i64 x] w' (.bool (areA s l x)):=fun e a c l x h1 h2 h3=>by
    have:=rall29_spec (some ⟨tb,0,none⟩) N s a c l x _ (hT7 e) h1 (by rw [hs];exact h2) (by omega) h3
    rw [hs] at this;exact this
   have hsm:∀ {w':World},Ext w14c w'→∀ (a:Option Addr) (c:Nat) (l:List Int) (x:Int),IntSl w' a l→(∀ v∈l,0≤v∧v<(N:Int))→l.length≤1000000→RetsP Tryz.prog 71 #[.slice (some ⟨tb,0,none⟩) N N,.slice a l.length c,.int .i64 x] w' (.bool (somA s l x)):=fun e a c l x h1 h2 h3=>by
    have:=rsm29_spec (some ⟨tb,0,none⟩) N s a c l x _ (hT7 e) h1 (by rw [hs];exact h2) (by omega) h3
    rw [hs] at this;exact this
   have hfr:∀ {w':World},Ext w14c w'→∀ (v:Int),RetsP Tryz.prog 70 #[.agg (encGr g).toArray,.slice (some ⟨tb,0,none⟩) N N,.int .i64 v] w' (.bool (decide (0≤v∧v<g.n∧stA s v=2)&&frA (vals g.edges) s v)):=fun e v=>by
    have:=rfree29_spec g (some ⟨tb,0,none⟩) N s v _ (hG7.ext e) hR.gl (hT7 e) (by rw [hs];exact hR.E) (by omega) (by omega)
    rw [hs] at this;exact this
   have hrG:∀ {w':World},Ext w4_5 w'→RowAt w' b0_0 0 (encGr g):=fun e=>(X0.ext e).rowAt 0 3
   refine V.region (VL.op (R.fld' (o:=0) Tryz.runUnderlying106 rfl rfl Tryz.sizeOf3 rfl rfl) (VL.op (R.ld1 Tryz.isAgg3 rfl ((hck E7))) (VL.nil (V.block (V.seq (V.region (VL.op (R.eql rfl rfl) (VL.op (R.asB rfl) (VL.nil (V.condP rfl (fun c119=>V.seq (?_)) (fun c119=>V.seq (V.region (VL.op (R.eql rfl rfl) (VL.op (R.asB rfl) (VL.nil (V.condP rfl (fun c142=>V.seq (?_)) (fun c142=>V.seq (V.region (VL.op (R.eql rfl rfl) (VL.op (R.asB rfl) (VL.nil (V.condP rfl (fun c149=>V.seq (?_)) (fun c149=>V.seq (V.region (VL.op (R.eql rfl rfl) (VL.op (R.asB rfl) (VL.nil (V.condP rfl (fun c185=>V.seq (V.seq (?_))) (fun c185=>V.skip (V.seq (V.region (VL.op (R.asB rfl) (VL.nil (V.ret (fret1 (v:=.bool _) rfl rfl rfl (?_))))))))))))))))))))))))))))))))))))
   ·have hlA:leafA C s ⟨yk,ya,yi,yo⟩=(decide (0≤ya∧ya<(g.edges.length:Int))&&areA s ((vals g.edges).getD ya.toNat default) 1):=by
     rw [hC];unfold leafA;rw [if_pos c119,show (vals g.edges).length=g.edges.length from List.length_map _]
    have hZ:=hRl c44
    rw [hlA] at hZ
    refine V.region (VL.op (R.fld' (o:=1) Tryz.runUnderlying106 rfl rfl Tryz.sizeOf3 rfl rfl) (VL.op (R.ld1 Tryz.isAgg3 rfl ((hca E7))) (VL.op (R.geq rfl rfl) (VL.op (R.mvB rfl) (VL.andP rfl rfl (fun g18_3=>VL.op (R.fld' (o:=1) Tryz.runUnderlying106 rfl rfl Tryz.sizeOf3 rfl rfl) (VL.gT rfl rfl (VL.op (R.ld1 Tryz.isAgg3 rfl ((hca E7))) (VL.gT rfl rfl (VL.op (R.fld' (o:=2) Tryz.runUnderlying25 rfl rfl Tryz.sizeOf23 rfl rfl) (VL.gT rfl rfl (VL.op (R.ld1 Tryz.isAgg23 rfl ((hce E7))) (VL.gT rfl rfl (VL.op (R.lenS Tryz.runUnderlying23 rfl) (VL.gT rfl rfl (VL.op (R.lss rfl rfl) (VL.op (R.pickTB rfl rfl) (VL.op (R.mvB rfl) (VL.andP rfl rfl (fun g18_11=>VL.op (R.mvS rfl) (VL.gT rfl rfl (VL.op (R.fld' (o:=2) Tryz.runUnderlying25 rfl rfl Tryz.sizeOf23 rfl rfl) (VL.gT rfl rfl (VL.op (R.ld1 Tryz.isAgg23 rfl ((hce E7))) (VL.gT rfl rfl (VL.op (R.fld' (o:=1) Tryz.runUnderlying106 rfl rfl Tryz.sizeOf3 rfl rfl) (VL.gT rfl rfl (VL.op (R.ld1 Tryz.isAgg3 rfl ((hca E7))) (VL.gT rfl rfl (VL.op (R.ixS Tryz.runUnderlying23 Tryz.sizeOf22 rfl rfl (by omega) (by omega) (hE7.sl.some (i:=ya.toNat) (by omega))) (VL.gT rfl rfl (VL.op (R.ld1 Tryz.isAgg22 rfl (((hE7.sl.row (i:=ya.toNat) (by omega)).cell (i:=0) rfl))) (VL.gT rfl rfl (VL.callP Tryz.call69 rfl (hall (Vc.Mod.refl _ _) (g.edges.getD ya.toNat default).a (g.edges.getD ya.toNat default).c (g.edges.getD ya.toNat default).l 1 (hE7.at (i:=ya.toNat) (by omega)) (hR.E _ (List.mem_map_of_mem (gmem (by omega)))) (hR.gl.each _ (gmem (by omega))).1) fun w18_19 e18_19=>VL.op (R.pickTB rfl rfl) (VL.op (R.asB rfl) (VL.nil (V.ret (fret1 (v:=.bool _) rfl rfl rfl (?_)))))))))))))))))))) (fun g18_11=>VL.gF rfl rfl (VL.gF rfl rfl (VL.gF rfl rfl (VL.gF rfl rfl (VL.gF rfl rfl (VL.gF rfl rfl (VL.gF rfl rfl (VL.op (R.pickFB rfl rfl) (VL.op (R.asB rfl) (VL.nil (V.ret (fret1 (v:=.bool _) rfl rfl rfl (?_))))))))))))))))))))))))))) (fun g18_3=>VL.gF rfl rfl (VL.gF rfl rfl (VL.gF rfl rfl (VL.gF rfl rfl (VL.gF rfl rfl (VL.op (R.pickFB rfl rfl) (VL.op (R.mvB rfl) (VL.gF rfl rfl (VL.gF rfl rfl (VL.gF rfl rfl (VL.gF rfl rfl (VL.gF rfl rfl (VL.gF rfl rfl (VL.gF rfl rfl (VL.gF rfl rfl (VL.op (R.pickFB rfl rfl) (VL.op (R.asB rfl) (VL.nil (V.ret (fret1 (v:=.bool _) rfl rfl rfl (?_))))))))))))))))))))))))))
    ·refine hleaf _ ?_ (E7.trans e18_19)
     rw [hZ,decide_eq_true ⟨g18_3,g18_11⟩,Bool.true_and,gmap SlI.l g.edges default (by omega)]
    ·refine hleaf false ?_ E7
     rw [hZ,decide_eq_false (by omega),Bool.false_and]
    ·refine hleaf false ?_ E7
     rw [hZ,decide_eq_false (by omega),Bool.false_and]
   ·have hlA:leafA C s ⟨yk,ya,yi,yo⟩=(decide (0≤ya∧ya<g.n∧stA s ya=2)&&frA (vals g.edges) s ya):=by
     rw [hC];unfold leafA;rw [if_neg c119,if_pos c142]
    have hZ:=hRl c44
    rw [hlA] at hZ
    refine V.region (VL.op (R.ldA Tryz.isAgg25 Tryz.sizeOf25 rfl rfl ((show RowAt _ _ _ (encGr g) from (hrG E7))) rfl) (VL.op (R.mvS rfl) (VL.op (R.fld' (o:=1) Tryz.runUnderlying106 rfl rfl Tryz.sizeOf3 rfl rfl) (VL.op (R.ld1 Tryz.isAgg3 rfl ((hca E7))) (VL.callP Tryz.call70 rfl (hfr (Vc.Mod.refl _ _) ya) fun w20_4 e20_4=>VL.op (R.asB rfl) (VL.nil (V.ret (fret1 (v:=.bool _) rfl rfl rfl (?_)))))))))
    refine hleaf _ ?_ (E7.trans e20_4)
    rw [hZ]
   ·have hlA:leafA C s ⟨yk,ya,yi,yo⟩=(!h&&(decide (0≤ya∧ya<(W.length:Int))&&(areA s ((W.map wyV).getD ya.toNat default).pos 1&&areA s ((W.map wyV).getD ya.toNat default).neg 2))):=by
     rw [hC];unfold leafA;rw [if_neg c119,if_neg c142,if_pos c149];dsimp only;rw [List.length_map]
    have hZ:=hRl c44
    rw [hlA] at hZ
    have hym:0≤ya→ya<(W.length:Int)→W.getD ya.toNat default∈W:=fun h0 h1=>gmem (by omega)
    refine V.region (VL.op (R.mvB rfl) (VL.op (R.not rfl) (VL.op (R.mvB rfl) (VL.and rfl rfl (fun g22_2=>VL.op (R.fld' (o:=1) Tryz.runUnderlying106 rfl rfl Tryz.sizeOf3 rfl rfl) (VL.gT rfl rfl (VL.op (R.ld1 Tryz.isAgg3 rfl ((hca E7))) (VL.gT rfl rfl (VL.op (R.geq rfl rfl) (VL.op (R.pickTB rfl rfl) (VL.op (R.mvB rfl) (VL.andP rfl rfl (fun g22_7=>VL.op (R.fld' (o:=1) Tryz.runUnderlying106 rfl rfl Tryz.sizeOf3 rfl rfl) (VL.gT rfl rfl (VL.op (R.ld1 Tryz.isAgg3 rfl ((hca E7))) (VL.gT rfl rfl (VL.op (R.mvS rfl) (VL.gT rfl rfl (VL.op (R.lenS Tryz.runUnderlying26 rfl) (VL.gT rfl rfl (VL.op (R.lss rfl rfl) (VL.op (R.pickTB rfl rfl) (VL.op (R.mvB rfl) (VL.andP rfl rfl (fun g22_14=>VL.op (R.mvS rfl) (VL.gT rfl rfl (VL.op (R.mvS rfl) (VL.gT rfl rfl (VL.op (R.fld' (o:=1) Tryz.runUnderlying106 rfl rfl Tryz.sizeOf3 rfl rfl) (VL.gT rfl rfl (VL.op (R.ld1 Tryz.isAgg3 rfl ((hca E7))) (VL.gT rfl rfl (VL.op (R.ixS Tryz.runUnderlying26 Tryz.sizeOf53 rfl rfl (by omega) (by omega) ((hW7 (Vc.Mod.refl _ _)).sl.some (i:=ya.toNat) (by omega))) (VL.gT rfl rfl (VL.op (R.fld' (o:=0) Tryz.runUnderlying53 rfl rfl Tryz.sizeOf22 rfl rfl) (VL.gT rfl rfl (VL.op (R.ld1 Tryz.isAgg22 rfl ((((hW7 (Vc.Mod.refl _ _)).sl.row (i:=ya.toNat) (by omega)).cell (i:=0) rfl))) (VL.gT rfl rfl (VL.callP Tryz.call69 rfl (hall (Vc.Mod.refl _ _) (W.getD ya.toNat default).p.a (W.getD ya.toNat default).p.c (W.getD ya.toNat default).p.l 1 ((hW7 (Vc.Mod.refl _ _)).at (i:=ya.toNat) (by omega)).p (hR.wr _ (gmem (by omega))).1 (hR.wl _ (gmem (by omega))).p) fun w22_22 e22_22=>VL.op (R.pickTB rfl rfl) (VL.op (R.mvB rfl) (VL.and rfl rfl (fun g22_24=>VL.op (R.mvS rfl) (VL.gT rfl rfl (VL.op (R.mvS rfl) (VL.gT rfl rfl (VL.op (R.fld' (o:=1) Tryz.runUnderlying106 rfl rfl Tryz.sizeOf3 rfl rfl) (VL.gT rfl rfl (VL.op (R.ld1 Tryz.isAgg3 rfl ((hca (E7.trans e22_22)))) (VL.gT rfl rfl (VL.op (R.ixS Tryz.runUnderlying26 Tryz.sizeOf53 rfl rfl (by omega) (by omega) ((hW7 e22_22).sl.some (i:=ya.toNat) (by omega))) (VL.gT rfl rfl (VL.op (R.fld' (o:=1) Tryz.runUnderlying53 rfl rfl Tryz.sizeOf22 rfl rfl) (VL.gT rfl rfl (VL.op (R.ld1 Tryz.isAgg22 rfl ((((hW7 e22_22).sl.row (i:=ya.toNat) (by omega)).cell (i:=1) rfl))) (VL.gT rfl rfl (VL.callP Tryz.call69 rfl (hall e22_22 (W.getD ya.toNat default).n.a (W.getD ya.toNat default).n.c (W.getD ya.toNat default).n.l 2 ((hW7 e22_22).at (i:=ya.toNat) (by omega)).n (hR.wr _ (gmem (by omega))).2 (hR.wl _ (gmem (by omega))).n) fun w22_32 e22_32=>VL.op (R.pickTB rfl rfl) (VL.op (R.asB rfl) (VL.nil (V.ret (fret1 (v:=.bool _) rfl rfl rfl (?_)))))))))))))))))))) (fun g22_24=>VL.gF rfl rfl (VL.gF rfl rfl (VL.gF rfl rfl (VL.gF rfl rfl (VL.gF rfl rfl (VL.gF rfl rfl (VL.gF rfl rfl (VL.op (R.pickFB rfl rfl) (VL.op (R.asB rfl) (VL.nil (V.ret (fret1 (v:=.bool _) rfl rfl rfl (?_)))))))))))))))))))))))))))))) (fun g22_14=>VL.gF rfl rfl (VL.gF rfl rfl (VL.gF rfl rfl (VL.gF rfl rfl (VL.gF rfl rfl (VL.gF rfl rfl (VL.gF rfl rfl (VL.op (R.pickFB rfl rfl) (VL.op (R.mvB rfl) (VL.gF rfl rfl (VL.gF rfl rfl (VL.gF rfl rfl (VL.gF rfl rfl (VL.gF rfl rfl (VL.gF rfl rfl (VL.gF rfl rfl (VL.gF rfl rfl (VL.op (R.pickFB rfl rfl) (VL.op (R.asB rfl) (VL.nil (V.ret (fret1 (v:=.bool _) rfl rfl rfl (?_))))))))))))))))))))))))))))))))))) (fun g22_7=>VL.gF rfl rfl (VL.gF rfl rfl (VL.gF rfl rfl (VL.gF rfl rfl (VL.op (R.pickFB rfl rfl) (VL.op (R.mvB rfl) (VL.gF rfl rfl (VL.gF rfl rfl (VL.gF rfl rfl (VL.gF rfl rfl (VL.gF rfl rfl (VL.gF rfl rfl (VL.gF rfl rfl (VL.gF rfl rfl (VL.op (R.pickFB rfl rfl) (VL.op (R.mvB rfl) (VL.gF rfl rfl (VL.gF rfl rfl (VL.gF rfl rfl (VL.gF rfl rfl (VL.gF rfl rfl (VL.gF rfl rfl (VL.gF rfl rfl (VL.gF rfl rfl (VL.op (R.pickFB rfl rfl) (VL.op (R.asB rfl) (VL.nil (V.ret (fret1 (v:=.bool _) rfl rfl rfl (?_)))))))))))))))))))))))))))))))))))))) (fun g22_2=>VL.gF rfl rfl (VL.gF rfl rfl (VL.op (R.pickFB rfl rfl) (VL.op (R.mvB rfl) (VL.gF rfl rfl (VL.gF rfl rfl (VL.gF rfl rfl (VL.gF rfl rfl (VL.gF rfl rfl (VL.op (R.pickFB rfl rfl) (VL.op (R.mvB rfl) (VL.gF rfl rfl (VL.gF rfl rfl (VL.gF rfl rfl (VL.gF rfl rfl (VL.gF rfl rfl (VL.gF rfl rfl (VL.gF rfl rfl (VL.gF rfl rfl (VL.op (R.pickFB rfl rfl) (VL.op (R.mvB rfl) (VL.gF rfl rfl (VL.gF rfl rfl (VL.gF rfl rfl (VL.gF rfl rfl (VL.gF rfl rfl (VL.gF rfl rfl (VL.gF rfl rfl (VL.gF rfl rfl (VL.op (R.pickFB rfl rfl) (VL.op (R.asB rfl) (VL.nil (V.ret (fret1 (v:=.bool _) rfl rfl rfl (?_)))))))))))))))))))))))))))))))))))))))
    ·refine hleaf _ ?_ (E7.trans (e22_22.trans e22_32))
     rw [hZ,g22_2,decide_eq_true ⟨g22_7,g22_14⟩,Bool.true_and,Bool.true_and,getD_wy (by omega),show (wyV (W.getD ya.toNat default)).pos=(W.getD ya.toNat default).p.l from rfl,g22_24,Bool.true_and];rfl
    ·refine hleaf false ?_ (E7.trans e22_22)
     rw [hZ,getD_wy (by omega),show (wyV (W.getD ya.toNat default)).pos=(W.getD ya.toNat default).p.l from rfl,g22_24,Bool.false_and,Bool.and_false,Bool.and_false]
    ·refine hleaf false ?_ E7
     rw [hZ,decide_eq_false (by omega),Bool.false_and,Bool.and_false]
    ·refine hleaf false ?_ E7
     rw [hZ,decide_eq_false (by omega),Bool.false_and,Bool.and_false]
    ·refine hleaf false ?_ E7
     rw [hZ,g22_2,Bool.false_and]
   ·have hlA:leafA C s ⟨yk,ya,yi,yo⟩=(h&&(decide (ya=0)&&W.all fun y=>somA s y.p.l 2||somA s y.n.l 1)):=by
     rw [hC];unfold leafA;rw [if_neg c119,if_neg c142,if_neg c149,if_pos c185]
     exact congrArg (fun z=>h&&(decide (ya=0)&&z)) all_map30
    have hZ:=hRl c44
    rw [hlA] at hZ
    refine V.region (VL.op (R.mvB rfl) (VL.op (R.not rfl) (VL.op (R.mvB rfl) (VL.or rfl rfl (fun g24_2=>VL.op (R.fld' (o:=1) Tryz.runUnderlying106 rfl rfl Tryz.sizeOf3 rfl rfl) (VL.gT rfl rfl (VL.op (R.ld1 Tryz.isAgg3 rfl ((hca E7))) (VL.gT rfl rfl (VL.op (R.neq rfl rfl) (VL.op (R.pickFB rfl rfl) (VL.nil (V.condP rfl (fun c193=>V.seq (V.region (VL.op (R.asB rfl) (VL.nil (V.ret (fret1 (v:=.bool _) rfl rfl rfl (?_))))))) (fun c193=>V.skip (V.seq (V.seq (?_)))))))))))) (fun g24_2=>VL.gF rfl rfl (VL.gF rfl rfl (VL.op (R.pickTB rfl rfl) (VL.nil (V.condT rfl (V.seq (V.region (VL.op (R.asB rfl) (VL.nil (V.ret (fret1 (v:=.bool _) rfl rfl rfl (?_))))))))))))))))
    ·refine hleaf false ?_ E7
     rw [hZ,decide_eq_false c193,Bool.false_and,Bool.and_false]
    ·have hh:h=true:=by simpa using g24_2
     have ha0:ya=0:=by omega
     refine V.region (VL.op (R.asI rfl) (VL.nil (V.block (?_))))
     refine V.loop [1,5,18] (fun k:Nat=>[.slice wa W.length wc,.slice (some ⟨tb,0,none⟩) N N,.int .i64 (k:Nat)]) (fun k w'=>k≤W.length∧(∀ i,i<k→(somA s (W.getD i default).p.l 2||somA s (W.getD i default).n.l 1)=true)∧Ext w14c w') (fun k=>W.length-k) 0 rfl ⟨Nat.zero_le _,fun i h=>absurd h (Nat.not_lt_zero i),Vc.Mod.refl _ _⟩ ?_
     rintro ρ k w8 ⟨hk,hf8,e8⟩
     refine V.seq (V.seq (V.region (VL.op (R.mvI rfl) (VL.op (R.mvS rfl) (VL.op (R.lenS Tryz.runUnderlying26 rfl) (VL.op (R.lss rfl rfl) (VL.nil (V.condP rfl (fun c197=>V.skip (V.seq (V.block (V.seq (?_))))) (fun c197=>V.exit (V.seq (V.region (VL.op (R.asB rfl) (VL.nil (V.ret (fret1 (v:=.bool _) rfl rfl rfl (?_))))))))))))))))
     ·have hkn:k<W.length:=by omega
      refine V.region (VL.op (R.mvS rfl) (VL.op (R.mvS rfl) (VL.op (R.mvI rfl) (VL.op (R.ixS Tryz.runUnderlying26 Tryz.sizeOf53 rfl rfl (by omega) (by omega) ((hW7 e8).sl.some (i:=k) hkn)) (VL.op (R.fld' (o:=0) Tryz.runUnderlying53 rfl rfl Tryz.sizeOf22 rfl rfl) (VL.op (R.ld1 Tryz.isAgg22 rfl ((((hW7 e8).sl.row (i:=k) hkn).cell (i:=0) rfl))) (VL.callP Tryz.call71 rfl (hsm e8 (W.getD k default).p.a (W.getD k default).p.c (W.getD k default).p.l 2 ((hW7 e8).at hkn).p (hR.wr _ (gmem hkn)).1 (hR.wl _ (gmem hkn)).p) fun w29_6 e29_6=>VL.op (R.not rfl) (VL.op (R.mvB rfl) (VL.and rfl rfl (fun g29_8=>VL.op (R.mvS rfl) (VL.gT rfl rfl (VL.op (R.mvS rfl) (VL.gT rfl rfl (VL.op (R.mvI rfl) (VL.gT rfl rfl (VL.op (R.ixS Tryz.runUnderlying26 Tryz.sizeOf53 rfl rfl (by omega) (by omega) ((hW7 (e8.trans e29_6)).sl.some (i:=k) hkn)) (VL.gT rfl rfl (VL.op (R.fld' (o:=1) Tryz.runUnderlying53 rfl rfl Tryz.sizeOf22 rfl rfl) (VL.gT rfl rfl (VL.op (R.ld1 Tryz.isAgg22 rfl ((((hW7 (e8.trans e29_6)).sl.row (i:=k) hkn).cell (i:=1) rfl))) (VL.gT rfl rfl (VL.callP Tryz.call71 rfl (hsm (e8.trans e29_6) (W.getD k default).n.a (W.getD k default).n.c (W.getD k default).n.l 1 ((hW7 (e8.trans e29_6)).at hkn).n (hR.wr _ (gmem hkn)).2 (hR.wl _ (gmem hkn)).n) fun w29_15 e29_15=>VL.gT rfl rfl (VL.op (R.not rfl) (VL.op (R.pickTB rfl rfl) (VL.nil (V.cond rfl (fun c217=>V.seq (V.region (VL.op (R.asB rfl) (VL.nil (V.ret (fret1 (v:=.bool _) rfl rfl rfl (?_))))))) (fun c217=>V.skip (V.region (VL.op (R.mvI rfl) (VL.op (R.add rfl rfl (by omega) (by omega)) (VL.op (R.asI rfl) (VL.nil (⟨k+1,rfl,⟨by omega,fun i hi=>?_,e8.trans (e29_6.trans e29_15)⟩,by omega⟩)))))))))))))))))))))))) (fun g29_8=>VL.gF rfl rfl (VL.gF rfl rfl (VL.gF rfl rfl (VL.gF rfl rfl (VL.gF rfl rfl (VL.gF rfl rfl (VL.gF rfl rfl (VL.op (R.pickFB rfl rfl) (VL.nil (V.condF rfl (V.skip (V.region (VL.op (R.mvI rfl) (VL.op (R.add rfl rfl (by omega) (by omega)) (VL.op (R.asI rfl) (VL.nil (⟨k+1,rfl,⟨by omega,fun i hi=>?_,e8.trans e29_6⟩,by omega⟩))))))))))))))))))))))))))
      ·refine hleaf false ?_ (E7.trans (e8.trans (e29_6.trans e29_15)))
       have h3:(W.all fun y=>somA s y.p.l 2||somA s y.n.l 1)=false:=List.all_eq_false.2 ⟨_,gmem hkn,by
        have h1:somA s (W.getD k default).p.l 2=false:=by simpa using g29_8
        have h2:somA s (W.getD k default).n.l 1=false:=by simpa using c217
        rw [h1,h2];decide⟩
       rw [hZ,h3,Bool.and_false,Bool.and_false]
      ·by_cases hik:i=k
       ·subst hik
        have h2:somA s (W.getD i default).n.l 1=true:=by simpa using c217
        rw [h2,Bool.or_true]
       ·exact hf8 i (by omega)
      ·by_cases hik:i=k
       ·subst hik
        have h2:somA s (W.getD i default).p.l 2=true:=by simpa using g29_8
        rw [h2,Bool.true_or]
       ·exact hf8 i (by omega)
     ·have hkn:k=W.length:=by omega
      subst hkn
      refine hleaf true ?_ (E7.trans e8)
      have:(W.all fun y=>somA s y.p.l 2||somA s y.n.l 1)=true:=List.all_eq_true.2 fun y hy=>by
       obtain ⟨i,hi,rfl⟩:=List.getElem_of_mem hy
       have:=hf8 i hi
       rwa [gget hi] at this
      rw [hZ,hh,decide_eq_true ha0,this];rfl
    ·refine hleaf false ?_ E7
     have hh:h=false:=by simpa using g24_2
     rw [hZ,hh,Bool.false_and]
   ·refine hleaf false ?_ E7
    rw [hRl c44,show leafA C s ⟨yk,ya,yi,yo⟩=false by unfold leafA;rw [if_neg c119,if_neg c142,if_neg c149,if_neg c185]]
end Go.Proofs.YtdbcfpcicjgghaaGreatDoor

/- Solve: the reference: Shows. -/
namespace Go.Proofs.YtdbcfpcicjgghaaGreatDoor
open Go.Vc
set_option maxRecDepth 100000
set_option maxHeartbeats 16000000
theorem rshows29_spec (g:GrW) (wa:Option Addr) (wc:Nat) (W:List WyI) (h:Bool) (sa:Option Addr) (sc:Nat) (S:List St4) (w:World) (hG:GOk w g) (hl:GLen g) (hW:WL w wa W) (hWl:∀ y∈W,WLen y) (hWm:W.length≤1000000) (hS:TSl encS4 4 w sa S) (hSl:S.length≤9223372036854775807) :
  RetsP Tryz.prog 18 #[.agg (encGr g).toArray,.slice wa W.length wc,.bool h,.agg #[.slice sa S.length sc]] w (.bool (checkA (grV g) (W.map wyV) h S)):=by
 refine enter (args:=[_,_,_,_]) Tryz.func18 rfl Tryz.ntmps18 (by kernel_rfl) rfl ?_
 refine V.seq (V.region (VL.box (v:=.agg _) rfl fun b0_0 w0_0 hb0_0 e0_0 hB0_0=>VL.box (v:=.agg _) rfl fun b0_1 w0_1 hb0_1 e0_1 hB0_1=>VL.op (R.asB rfl) (VL.nil (V.seq (V.seq (V.region (VL.op (R.ldA Tryz.isAgg25 Tryz.sizeOf25 rfl rfl ((show RowAt _ _ _ (encGr g) from (hB0_0.ext e0_1).rowAt 0 3)) rfl) (VL.op (R.mvS rfl) (VL.callP Tryz.call38 rfl (rready29_spec g wa wc W _ (hG.ext (e0_0.trans e0_1)) hl (hW.ext (e0_0.trans e0_1)) hWl hWm) fun w1_2 e1_2=>VL.op (R.not rfl) (VL.op (R.mvB rfl) (VL.or rfl rfl (fun g1_4=>VL.op (R.fld' (o:=0) Tryz.runUnderlying31 rfl rfl Tryz.sizeOf29 rfl rfl) (VL.gT rfl rfl (VL.op (R.ld1 Tryz.isAgg29 rfl ((show _=some (Value.slice sa S.length sc) from (hB0_1.ext e1_2).cell 0))) (VL.gT rfl rfl (VL.op (R.lenS Tryz.runUnderlying29 rfl) (VL.gT rfl rfl (VL.op (R.lss rfl rfl) (VL.op (R.pickFB rfl rfl) (VL.op (R.mvB rfl) (VL.orP rfl rfl (fun g1_10=>VL.op (R.fld' (o:=0) Tryz.runUnderlying31 rfl rfl Tryz.sizeOf29 rfl rfl) (VL.gT rfl rfl (VL.op (R.ld1 Tryz.isAgg29 rfl ((show _=some (Value.slice sa S.length sc) from (hB0_1.ext e1_2).cell 0))) (VL.gT rfl rfl (VL.op (R.lenS Tryz.runUnderlying29 rfl) (VL.gT rfl rfl (VL.op (R.gtr rfl rfl) (VL.op (R.pickFB rfl rfl) (VL.nil (V.condP rfl (fun c24=>V.seq (V.region (VL.op (R.asB rfl) (VL.nil (V.ret (fret1 (v:=.bool _) rfl rfl rfl (⟨?_,((e0_0.trans e0_1).trans e1_2)⟩))))))) (fun c24=>V.skip (V.seq (?_))))))))))))) (fun g1_10=>VL.gF rfl rfl (VL.gF rfl rfl (VL.gF rfl rfl (VL.op (R.pickTB rfl rfl) (VL.nil (V.condT rfl (V.seq (V.region (VL.op (R.asB rfl) (VL.nil (V.ret (fret1 (v:=.bool _) rfl rfl rfl (⟨?_,((e0_0.trans e0_1).trans e1_2)⟩))))))))))))))))))))))) (fun g1_4=>VL.gF rfl rfl (VL.gF rfl rfl (VL.gF rfl rfl (VL.op (R.pickTB rfl rfl) (VL.op (R.mvB rfl) (VL.gF rfl rfl (VL.gF rfl rfl (VL.gF rfl rfl (VL.gF rfl rfl (VL.op (R.pickTB rfl rfl) (VL.nil (V.condT rfl (V.seq (V.region (VL.op (R.asB rfl) (VL.nil (V.ret (fret1 (v:=.bool _) rfl rfl rfl (⟨?_,((e0_0.trans e0_1).trans e1_2)⟩))))))))))))))))))))))))))))))
 ·refine congrArg Value.bool ?_
  unfold checkA
  rw [decide_eq_false (by omega),Bool.false_and,Bool.and_false]
 ·have hr:readyG (grV g) (W.map wyV)=true:=by simpa using g1_4
  have hR:=ready_rr hr hl hWl
  obtain ⟨N,hN⟩:∃ N,N=g.n.toNat:=⟨_,rfl⟩
  rw [←hN] at hR
  have hn:=hR.n
  have hN4:=hR.N4
  have E2:Ext w w1_2:=(e0_0.trans e0_1).trans e1_2
  have hX0:=(hB0_0.ext e0_1).ext e1_2
  have hX1:=hB0_1.ext e1_2
  refine V.regionS mixed 11 (by kernel_rfl) rfl (fun us=>VS.op (fun wq eq=>R.ldA Tryz.isAgg25 Tryz.sizeOf25 rfl rfl ((show RowAt _ _ _ (encGr g) from (hX0.ext eq).rowAt 0 3)) rfl) (VS.op (fun wq eq=>R.mvS rfl) (VS.op (fun wq eq=>R.mvB rfl) (VS.op (fun wq eq=>R.ldA Tryz.isAgg31 Tryz.sizeOf31 rfl rfl ((show RowAt _ _ _ [Value.slice sa S.length sc] from (hX1.ext eq).rowAt 0 1)) rfl) (VS.op (fun wq eq=>R.fld' (o:=0) Tryz.runUnderlying25 rfl rfl Tryz.sizeOf3 rfl rfl) (VS.op (fun wq eq=>R.ld1 Tryz.isAgg3 rfl ((show wq.cell? ⟨b0_0,0,none⟩=some (Value.int .i64 ((N:Nat):Int)) from by rw [←hn];exact (hX0.ext eq).cell 0))) (VS.spec (fun u w'=>∃ b,u=.slice (some ⟨b,0,none⟩) N N∧OwnT Vc.encI 1 3 w1_2.heap.size w' (some ⟨b,0,none⟩) N (List.replicate N (0:Int))) (fun u a b _ ⟨c,hc,h1⟩ eb=>⟨c,hc,h1.ext eb⟩) rfl (fun wq eq hq=>yieldsR_make el22 (0:Int) rfl rfl rfl (by omega) (by unfold maxLen;omega) eq.size fun b w' hb he hO=>⟨⟨b,rfl,hO⟩,he⟩) (VS.op (fun wq eq=>R.fld' (o:=0) Tryz.runUnderlying31 rfl rfl Tryz.sizeOf29 rfl rfl) (VS.op (fun wq eq=>R.ld1 Tryz.isAgg29 rfl ((show wq.cell? ⟨b0_1,0,none⟩=some (Value.slice sa S.length sc) from (hX1.ext eq).cell 0))) (VS.op (fun wq eq=>R.lenS Tryz.runUnderlying29 rfl) (VS.spec (fun u w'=>∃ b,u=.slice (some ⟨b,0,none⟩) S.length S.length∧OwnT encBo 1 4 w1_2.heap.size w' (some ⟨b,0,none⟩) S.length (List.replicate S.length false)) (fun u a b _ ⟨c,hc,h1⟩ eb=>⟨c,hc,h1.ext eb⟩) rfl (fun wq eq hq=>yieldsR_make el77 false rfl rfl rfl (by omega) (by unfold maxLen;omega) eq.size fun b w' hb he hO=>⟨⟨b,rfl,hO⟩,he⟩) (VS.nil (fun w3 e3 h3=>?_))))))))))))) rfl
  obtain ⟨tb,ht,hto⟩:=h3 6
  obtain ⟨nb,hnb,hno⟩:=h3 10
  rw [ht,hnb]
  have hne:tb≠nb:=fun h=>by
   obtain ⟨cT,zT,bT⟩:=OwnT.tyA hno _ rfl
   exact (OwnT.tyA hto).apart bT (by decide) ⟨_,rfl,h⟩
  have hrs:=rright29_spec g wa wc W h sa sc S N hR (by omega) w1_2 (hG.ext E2) (hW.ext E2) (hS.ext E2) S.length 0 (List.replicate N 0) tb (List.replicate S.length false) nb w3 (by omega) e3 hto (by simp) hno (by simp) hne
  refine VL.callY Tryz.call39 rfl (hrs) fun sn4 w4 h4=>VL.op (R.asB rfl) (VL.nil (V.ret (fret1 (v:=.bool _) rfl rfl rfl (⟨?_,?_⟩))))
  ·refine congrArg Value.bool ?_
   unfold checkA
   rw [hr,Bool.true_and,decide_eq_true (by omega),Bool.true_and,show (grV g).n.toNat=N from hN.symm]
   rfl
  ·refine (E2.trans e3).ownA h4.m fun q hq=>?_
   have h6:=hno.ge nb ⟨_,rfl,rfl⟩
   have h7:=hto.ge tb ⟨_,rfl,rfl⟩
   have h8:=E2.size
   rcases hq with h5 | h5 <;> omega
 ·refine congrArg Value.bool ?_
  unfold checkA
  rw [decide_eq_false (by omega),Bool.false_and,Bool.and_false]
 ·have hr:readyG (grV g) (W.map wyV)=false:=by simpa using g1_4
  refine congrArg Value.bool ?_
  unfold checkA
  rw [hr,Bool.false_and]
end Go.Proofs.YtdbcfpcicjgghaaGreatDoor

/- Solve: the reference: Proves. -/
namespace Go.Proofs.YtdbcfpcicjgghaaGreatDoor
open Go.Vc
end Go.Proofs.YtdbcfpcicjgghaaGreatDoor
