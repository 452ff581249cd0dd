/- Solve: deciding vertices in order. -/
import Derived.Test.YtjocoefpnboccaaGreatDoorXS5
import Derived.Test.YtjocoefpnboccaaGreatDoorXVcApp2
namespace Go.Proofs.YtjocoefpnboccaaGreatDoor
set_option maxHeartbeats 16000000
open Go.Vc
theorem eltS4:Elt encS4 4:=⟨fun _=>rfl,fun _=>rfl,by decide⟩
theorem srchF_full {c:PrfC} {M:Nat} {O:List Nat} {l:Int} {s:List Int} {S:List St4} (h:M≤S.length):srchF c M O l s S=.full:=by
 cases O <;> (unfold srchF;rw [if_pos h])
theorem srchF_close {c:PrfC} {M:Nat} {O:List Nat} {l:Int} {s:List Int} {S:List St4} {y:St4} (h:¬M≤S.length) (hc:closeS c s l=some y):srchF c M O l s S=.proof (S++[y]):=by
 cases O <;> (unfold srchF;rw [if_neg h,hc])
theorem srchF_nil {c:PrfC} {M:Nat} {l:Int} {s:List Int} {S:List St4} (h:¬M≤S.length) (hc:closeS c s l=none):srchF c M [] l s S=.found s:=by
 unfold srchF;rw [if_neg h,hc]
theorem srchF_cons {c:PrfC} {M:Nat} {v:Nat} {O:List Nat} {l:Int} {s:List Int} {S:List St4} (h:¬M≤S.length) (hc:closeS c s l=none):srchF c M (v :: O) l s S=(match srchF c M O (v:Int) (s.set v 1) (S++[⟨1,(v:Int),(S.length:Int)+1,0⟩]) with
    | .proof S1=>srchF c M O (v:Int) (s.set v 2) (S1.set S.length { S1.getD S.length default with o:=(S1.length:Int) })
    | r=>r):=by
 conv=>lhs;unfold srchF
 rw [if_neg h,hc]
 rfl
def rsV (b:Bool):Value:=.iface 76 (.agg #[.bool b])
theorem mkRes {ρ:Env} {x:Operand} {ty:TypeId} {b:Bool} {w:World} (hx:tm ρ x=.agg #[.bool b]):run1 Tryz.prog ρ (.makeInterface 76 x) ty w=.ok (.value (rsV b)) w:=by
 simp [run1,execOp,Instr.makeInterface,hx,go_sem,Tryz.runUnderlying76,rsV]
abbrev DcB (w:World) (b b1:Nat):Prop:=Blk w b (.cells #[.func (.func 81) #[] #[.pointer (some ⟨b1,0,none⟩),.pointer (some ⟨b,0,none⟩)]] 113 (0,0))
def clF (k:Nat):FuncId:=[53,54,55,56].getD k 0
def clO (x:SvX) (st:List Int) (l:Int) (k:Nat):Option St4:=[clashS x.ctx st l,freeS x.ctx st l,wayS x.ctx st,noneS x.ctx st].getD k none
theorem clos_at {p k:Nat} (h:k<4):(closL p).getD k default=.func (.func (clF k)) [Value.pointer (some ⟨p,0,none⟩)].toArray ([]:List Value).toArray:=by
 match k,h with
 | 0,_=>rfl
 | 1,_=>rfl
 | 2,_=>rfl
 | 3,_=>rfl
theorem clF_is {k:Nat} (h:k<4):IsFn Tryz.prog (clF k):=by
 match k,h with
 | 0,_=>exact Tryz.call53
 | 1,_=>exact Tryz.call54
 | 2,_=>exact Tryz.call55
 | 3,_=>exact Tryz.call56
theorem clos_spec (x:SvX) (N:Nat) (l:Int) (st:List Int) (sa:Option Addr) (sc:Nat) (S:List St4) (w:World) (h:SvOk x w st sa sc S) (hR:SvR x N) (hst:st.length=N) (hl:l<(N:Int)) {k:Nat} (hk:k<4) :
  RetsX Tryz.prog (clF k) #[.pointer (some ⟨x.p,0,none⟩),.int .i64 l] w (clV (clO x st l k)) (fun z _=>ClK (clO x st l k) z):=by
 match k,hk with
 | 0,_=>exact clash_spec x N l st sa sc S w h hR hst hl
 | 1,_=>exact sfree_spec x N l st sa sc S w h hR hst hl
 | 2,_=>exact way_spec x N l st sa sc S w h hR hst
 | 3,_=>exact none_spec x N l st sa sc S w h hR hst
theorem clO_some {x:SvX} {st:List Int} {l:Int} {k:Nat} (hk:k<4) (hb:∀ j,j<k→clO x st l j=none) {y:St4} (h:clO x st l k=some y):closeS x.ctx st l=some y:=by
 unfold closeS
 match k,hk with
 | 0,_=>rw [show clashS x.ctx st l=some y from h];rfl
 | 1,_=>rw [show clashS x.ctx st l=none from hb 0 (by omega),show freeS x.ctx st l=some y from h];rfl
 | 2,_=>rw [show clashS x.ctx st l=none from hb 0 (by omega),show freeS x.ctx st l=none from hb 1 (by omega),show wayS x.ctx st=some y from h];rfl
 | 3,_=>rw [show clashS x.ctx st l=none from hb 0 (by omega),show freeS x.ctx st l=none from hb 1 (by omega),show wayS x.ctx st=none from hb 2 (by omega),show noneS x.ctx st=some y from h];rfl
theorem clO_none {x:SvX} {st:List Int} {l:Int} (hb:∀ j,j<4→clO x st l j=none):closeS x.ctx st l=none:=by
 unfold closeS
 rw [show clashS x.ctx st l=none from hb 0 (by omega),show freeS x.ctx st l=none from hb 1 (by omega),show wayS x.ctx st=none from hb 2 (by omega),show noneS x.ctx st=none from hb 3 (by omega)];rfl
end Go.Proofs.YtjocoefpnboccaaGreatDoor

/- Solve: deciding vertices in order: the walk. -/
namespace Go.Proofs.YtjocoefpnboccaaGreatDoor
open Go.Vc
set_option maxRecDepth 100000
set_option maxHeartbeats 16000000
structure SvE (x:SvX) (w:World) (st:List Int) (S:List St4) (w':World):Prop where
 ok:∃ sa sc,SvOk x w' st sa sc S
 m:Vc.Mod x.T w w'
structure SvP (x:SvX) (w:World) (N:Nat) (r:Srch) (ch:List PanicEntry) (w':World):Prop where
 r:∃ b st S,ch=[{ v:=rsV b,recovered:=false }]∧(b=false→r=.full)∧(b=true→r=.found st)∧st.length=N∧SvE x w st S w'
theorem SvE.weaken {x:SvX} {w0 w:World} {st:List Int} {S:List St4} {w':World} (h:SvE x w st S w') (m:Vc.Mod x.T w0 w):SvE x w0 st S w':=⟨h.ok,m.then h.m fun _ _ h=>h⟩
theorem SvP.weaken {x:SvX} {w0 w:World} {N:Nat} {r r':Srch} {ch:List PanicEntry} {w':World} (h:SvP x w N r ch w') (m:Vc.Mod x.T w0 w) (hr:∀ s,r=.full∨r=.found s→r'=r):SvP x w0 N r' ch w':=by
 obtain ⟨b,st,S,h1,h2,h3,h4,h5⟩:=h.r
 exact ⟨b,st,S,h1,fun hb=>(hr [] (.inl (h2 hb))).trans (h2 hb),fun hb=>(hr st (.inr (h3 hb))).trans (h3 hb),h4,h5.weaken m⟩
theorem SvOk.sT {x:SvX} {w:World} {st:List Int} {sa:Option Addr} {sc:Nat} {S:List St4} (h:SvOk x w st sa sc S) {q:Nat} (hq:aBlk sa q):x.T q:=.inr (.inr (h.s.ge q hq))
theorem SvOk.app {x:SvX} {w w8 w10:World} {st:List Int} {sa a':Option Addr} {sc c':Nat} {S S':List St4} {Sx:Nat→Prop} (h:SvOk x w st sa sc S) (m8:Vc.Mod (aBlk sa) w w8) (hO:OwnT encS4 4 112 x.U w8 a' c' S') (m10:Vc.Mod Sx w8 w10) (hSx:∀ q,Sx q→q=x.p)
  (hB:Blk w10 x.p (.cells (Value.agg (encSv x st.length a' S'.length c').toArray).cells 74 (0,0))):SvOk x w10 st a' c' S'∧Vc.Mod x.T w w10:=by
 have m:Vc.Mod x.T w w10:=(m8.weaken fun q _ hq=>h.sT hq).then m10 fun q _ hq=>.inr (.inl (hSx q hq))
 refine ⟨h.turn m hB ?_ (hO.mod m10 fun q hq hs=>by have:=hO.ge q hq;have:=h.pU;have:=hSx q hs;omega) rfl,m⟩
 refine (h.t.mod m8 fun q hq hs=>?_).mod m10 fun q hq hs=>h.tp ((aBlk_some hq).symm.trans (hSx q hs))
 have:=aBlk_some hq;have:=h.s.ge q hs;have:=h.tU;omega
theorem SvOk.put {x:SvX} {w w':World} {st:List Int} {sa:Option Addr} {sc:Nat} {S:List St4} {v:Nat} {k:Int} (h:SvOk x w st sa sc S) (ho:OwnT Vc.encI 1 3 0 w' (some ⟨x.tb,0,none⟩) st.length (st.set v k)) (m:Vc.Mod (aBlk (some ⟨x.tb,0,none⟩)) w w'):SvOk x w' (st.set v k) sa sc S∧Vc.Mod x.T w w':=by
 have m2:Vc.Mod x.T w w':=m.weaken fun q _ hq=>.inl (aBlk_some hq)
 refine ⟨h.turn m2 (by rw [List.length_set];exact h.blk.mod m fun hq=>h.tp (aBlk_some hq).symm) ho (h.s.mod m fun q hq hs=>by have:=aBlk_some hs;have:=h.s.ge q hq;have:=h.tU;omega) (List.length_set),m2⟩
theorem SvOk.over {x:SvX} {w w':World} {st:List Int} {sa:Option Addr} {sc:Nat} {S S':List St4} (h:SvOk x w st sa sc S) (ho:OwnT encS4 4 112 x.U w' sa sc S') (hl:S'.length=S.length) (m:Vc.Mod (aBlk sa) w w'):SvOk x w' st sa sc S'∧Vc.Mod x.T w w':=by
 have m2:Vc.Mod x.T w w':=m.weaken fun q _ hq=>h.sT hq
 refine ⟨h.turn m2 (by rw [hl];exact h.blk.mod m fun hq=>by have:=h.s.ge _ hq;have:=h.pU;omega) (h.t.mod m fun q hq hs=>by have:=aBlk_some hq;have:=h.s.ge q hs;have:=h.tU;omega) ho rfl,m2⟩
theorem decide_spec (x:SvX) (N:Nat) (hR:SvR x N) (b1 b2:Nat) (hb1:¬x.T b1) (hb2:¬x.T b2) (hO1:x.O.length≤1000000) :
  ∀ (n:Nat) (O A:List Nat),O.length=n→∀ (l:Int) (st:List Int) (sa:Option Addr) (sc:Nat) (S:List St4) (w:World),x.O=(A++O).map (fun v:Nat=>(v:Int))→(∀ v∈O,v<N∧stA st (v:Int)=0)→O.Nodup→l<(N:Int)→st.length=N→SvOk x w st sa sc S→PtV w b1 x→DcB w b2 b1 →
   Vc.Ends Tryz.prog 81 #[.int .i64 (A.length:Nat),.int .i64 l,.pointer (some ⟨b1,0,none⟩),.pointer (some ⟨b2,0,none⟩)] w
    (fun _ w'=>∃ S',srchF x.ctx 100000 O l st S=.proof S'∧SvE x w st S' w') (SvP x w N (srchF x.ctx 100000 O l st S)):=by
 have hn:=hR.n
 have hN4:=hR.N4
 intro n
 induction n using Nat.strongRecOn with
 | ind n ih =>
  intro O A hOn l st sa sc S w hO ho hnd hl hst h hp hd
  have hOl:x.O.length=A.length+O.length:=by rw [hO,List.length_map,List.length_append]
  refine enterE (args:=[_,_,_,_]) Tryz.func81 rfl Tryz.ntmps81 (by kernel_rfl) rfl ?_
  have hSc:=h.s.cap
  by_cases hM:100000≤S.length
  ·rw [srchF_full hM]
   refine V.seq (V.seq (V.region (VL.op (R.ld1 Tryz.isAgg67 rfl ((hp.cell 0))) (VL.op (R.nilCheck rfl) (VL.op (R.fld' (o:=8) Tryz.runUnderlying74 rfl rfl Tryz.sizeOf30 rfl rfl) (VL.op (R.ld1 Tryz.isAgg30 rfl ((show _=some (Value.slice sa S.length sc) from h.blk.cell 8))) (VL.op (R.lenS Tryz.runUnderlying30 rfl) (VL.op (R.lit (R.geq rfl rfl) ((decide_eq_true (by omega)))) (VL.nil (V.condT rfl (V.region (VL.op (R.build Tryz.zeroValue76 Tryz.runUnderlying76 pl76 rfl) (VL.op (mkRes rfl) (VL.halts (R.panic rfl) (?_)))))))))))))))
   exact ⟨false,st,S,rfl,fun _=>rfl,(fun h=>nomatch h),hst,⟨_,_,h⟩,Vc.Mod.refl _ _⟩
  ·refine V.seq (V.seq (V.region (VL.op (R.ld1 Tryz.isAgg67 rfl ((hp.cell 0))) (VL.op (R.nilCheck rfl) (VL.op (R.fld' (o:=8) Tryz.runUnderlying74 rfl rfl Tryz.sizeOf30 rfl rfl) (VL.op (R.ld1 Tryz.isAgg30 rfl ((show _=some (Value.slice sa S.length sc) from h.blk.cell 8))) (VL.op (R.lenS Tryz.runUnderlying30 rfl) (VL.op (R.lit (R.geq rfl rfl) ((decide_eq_false (by omega)))) (VL.nil (V.condF rfl (V.skip (V.seq (?_)))))))))))))
   refine V.region (VL.op (R.ld1 Tryz.isAgg67 rfl ((hp.cell 0))) (VL.op (R.nilCheck rfl) (VL.op (R.fld' (o:=8) Tryz.runUnderlying74 rfl rfl Tryz.sizeOf30 rfl rfl) (VL.op (R.ld1 Tryz.isAgg30 rfl ((show _=some (Value.slice sa S.length sc) from h.blk.cell 8))) (VL.op (R.lenS Tryz.runUnderlying30 rfl) (VL.op (R.asI rfl) (VL.nil (V.seq (V.seq (V.region (VL.op (R.ld1 Tryz.isAgg67 rfl ((hp.cell 0))) (VL.op (R.nilCheck rfl) (VL.op (R.fld' (o:=9) Tryz.runUnderlying74 rfl rfl Tryz.sizeOf72 rfl rfl) (VL.op (R.ld1 Tryz.isAgg72 rfl ((show _=some (Value.slice (some ⟨x.cb,0,none⟩) 4 4) from h.blk.cell 9))) (VL.op (R.lenS Tryz.runUnderlying72 rfl) (VL.op (R.mvI rfl) (VL.nil (V.block (?_)))))))))))))))))))
   refine V.loop [0,1,2,3,6,28,29,30] (fun k:Nat=>[.int .i64 (A.length:Nat),.int .i64 l,.pointer (some ⟨b1,0,none⟩),.pointer (some ⟨b2,0,none⟩),.int .i64 (S.length:Nat),.slice (some ⟨x.cb,0,none⟩) 4 4,.int .i64 ((4:Nat):Int),.int .i64 (k:Nat)])
    (fun k w'=>k≤4∧(∀ j,j<k→clO x st l j=none)∧Ext w w') (fun k=>4-k) 0 rfl ⟨Nat.zero_le _,fun j hj=>absurd hj (Nat.not_lt_zero j),Vc.Mod.refl _ _⟩ ?_
   rintro ρ k w1 ⟨hk,hcl,e⟩
   have h1:=h.ext e
   have hp1:=hp.ext e
   have hd1:=hd.ext e
   refine V.seq (V.region (VL.op (R.lss rfl rfl) (VL.nil (V.seq (V.condP rfl (fun c31=>V.skip (V.seq (V.block (V.seq (?_))))) (fun c31=>V.exit (V.seq (V.seq (?_)))))))))
   ·have hk4:k<4:=by omega
    refine V.region (VL.op (R.ixS Tryz.runUnderlying72 Tryz.sizeOf91 rfl rfl (by omega) (by omega) (h1.c.some (i:=k) (show k<(closL x.p).length from hk4))) (VL.op (R.ld1 Tryz.isAgg91 rfl (((h1.c.row (i:=k) (show k<(closL x.p).length from hk4)).cell (i:=0) rfl))) (VL.op (R.asF (clos_at hk4)) (VL.nil (V.seq (?_))))))
    refine V.region (VL.op (R.mvF rfl) (VL.op (R.mvI rfl) (VL.callCY rfl (clF_is hk4) rfl (clos_spec x N l st sa sc S _ h1 hR hst hl hk4) fun z w6 h6=>VL.op (R.mvT rfl) (VL.op (R.extr rfl rfl) (VL.op (R.extr rfl rfl) (VL.allocSt (v:=.agg _) Tryz.zeroValue112 Tryz.sizeOf112 rfl rfl rfl rfl rfl fun b6_6 w6_6 hb6_6 e6_6 hB6_6=>VL.op (R.asB rfl) (VL.nil (V.seq (?_)))))))))
    obtain ⟨hz,e6⟩:=h6
    have e66:Ext w w6_6:=(e.trans e6).trans e6_6
    have h66:=h.ext e66
    have hp66:=hp.ext e66
    cases hck:clO x st l k with
    | none =>
     refine V.region (VL.op (R.mvB rfl) (VL.nil (V.condF rfl (V.skip (V.region (VL.op (R.add rfl rfl (by omega) (by omega)) (VL.op (R.mvI rfl) (VL.nil (⟨k+1,rfl,⟨by omega,fun j hj=>?_,e66⟩,by omega⟩)))))))))
     by_cases e2:j=k
     ·subst e2;exact hck
     ·exact hcl j (by omega)
    | some y =>
     have hzy:z=y:=hz y hck
     subst hzy
     rw [srchF_close hM (clO_some hk4 hcl hck)]
     have hX:Blk w6_6 b6_6 (.cells (Value.agg (encS4 z).toArray).cells 112 (0,0)):=hB6_6
     have hpq:∀ {wq:World},TA encS4 4 112 x.U sa sc S z w6_6 wq→PtV wq b1 x:=fun tt=>hp66.mod tt.m fun hq=>hb1 (h66.sT hq)
     have hbq:∀ {wq:World},TA encS4 4 112 x.U sa sc S z w6_6 wq→Blk wq x.p (.cells (Value.agg (encSv x st.length sa S.length sc).toArray).cells 74 (0,0)):=fun tt=>h66.blk.mod tt.m fun hq=>by have:=h66.s.ge _ hq;have:=h.pU;omega
     have hXq:∀ {wq:World},TA encS4 4 112 x.U sa sc S z w6_6 wq→Blk wq b6_6 (.cells (Value.agg (encS4 z).toArray).cells 112 (0,0)):=fun tt=>hX.mod tt.m fun hq=>by have:=h.s.lt _ hq;have:=(e.trans e6).size;omega
     refine V.region (VL.op (R.mvB rfl) (VL.nil (V.condT rfl (V.seq (V.regionT (T:=(TA encS4 4 112 x.U sa sc S z)) mixed 8 (by kernel_rfl) rfl (fun us=>VT.op (fun wq eq=>R.ld1 Tryz.isAgg67 rfl ((show wq.cell? ⟨b1,0,none⟩=some (Value.pointer (some ⟨x.p,0,none⟩)) from (hpq eq).cell 0))) (VT.op (fun wq eq=>R.ld1 Tryz.isAgg67 rfl ((show wq.cell? ⟨b1,0,none⟩=some (Value.pointer (some ⟨x.p,0,none⟩)) from (hpq eq).cell 0))) (VT.op (fun wq eq=>R.nilCheck rfl) (VT.op (fun wq eq=>R.fld' (o:=8) Tryz.runUnderlying74 rfl rfl Tryz.sizeOf30 rfl rfl) (VT.op (fun wq eq=>R.ld1 Tryz.isAgg30 rfl ((show wq.cell? ⟨x.p,8,none⟩=some (Value.slice sa S.length sc) from (hbq eq).cell 8))) (VT.op (fun wq eq=>R.ldA Tryz.isAgg112 Tryz.sizeOf112 rfl rfl ((show RowAt wq _ _ (encS4 z) from (hXq eq).rowAt 0 4)) rfl) (VT.spec (SB1 encS4 4 112 w6_6.heap.size z) (fun u x y _ ⟨bb,q1,q2⟩ eb=>⟨bb,q1,q2.mod eb.m fun k hk hs=>by have:=OwnT.ge q2 k hk;have:=h66.s.lt k hs;omega⟩) rfl (fun wq eq hq=>yieldsR_build1 Tryz.runUnderlying30 Tryz.sizeOf112 Tryz.zeroValue112 rfl rfl rfl z rfl rfl rfl eq.m.size fun b w2 ho he=>⟨⟨b,rfl,ho⟩,Turn.ext he⟩) (VT.spec (SA encS4 4 112 x.U w6_6.heap.size sa sc S z) (SA.mono h66.s) rfl (fun wq eq hq=>by
       obtain ⟨bb,hb,hB⟩:=hq 6 (by kernel_rfl)
       refine yieldsR_app1 (a:=sa) (cap:=sc) (b:=bb) (l:=S) (u:=z) el30 (fun _=>rfl) h66.s eq ?_ ?_ hB.sl (by omega) (by unfold maxLen;omega) h66.sz
       ·rfl
       ·exact hb) (VT.nil (fun w8 e8 h8=>?_)))))))))) rfl)))))
     obtain ⟨a',c',hu,hO,hd⟩:=h8 7
     have hm8:=e8.m
     rw [hu]
     refine VL.op (R.nilCheck rfl) (VL.op (R.fld' (o:=8) Tryz.runUnderlying74 rfl rfl Tryz.sizeOf30 rfl rfl) (VL.store (v:=.slice _ _ _) Tryz.sizeOf30 rfl rfl rfl rfl (hbq e8) rfl rfl fun w10 m10 hs10 hB10=>VL.nil (V.ret (fret0 rfl (?_)))))
     obtain ⟨k1,k2⟩:=h66.app hm8 hO m10 (fun q hq=>hq) (by rw [List.length_append];exact hB10)
     exact ⟨_,rfl,⟨_,_,k1⟩,e66.mod.then k2 fun _ _ h=>h⟩
   ·have hk4:k=4:=by omega
    subst hk4
    have hc:=clO_none hcl
    cases O with
    | nil =>
     rw [srchF_nil hM hc]
     rw [List.length_nil] at hOl
     refine V.region (VL.op (R.mvI rfl) (VL.op (R.ld1 Tryz.isAgg67 rfl ((show _=some (Value.pointer (some ⟨x.p,0,none⟩)) from hp1.cell 0))) (VL.op (R.nilCheck rfl) (VL.op (R.fld' (o:=5) Tryz.runUnderlying74 rfl rfl Tryz.sizeOf22 rfl rfl) (VL.op (R.ld1 Tryz.isAgg22 rfl ((show _=some (Value.slice x.oa x.O.length x.oc) from h1.blk.cell 5))) (VL.op (R.lenS Tryz.runUnderlying22 rfl) (VL.op (R.lit (R.eql rfl rfl) ((decide_eq_true (by omega)))) (VL.nil (V.condT rfl (V.region (VL.op (R.build Tryz.zeroValue76 Tryz.runUnderlying76 pl76 rfl) (VL.op (mkRes rfl) (VL.halts (R.panic rfl) (?_))))))))))))))
     exact ⟨true,st,S,rfl,(fun h=>nomatch h),fun _=>rfl,hst,⟨_,_,h1⟩,e.mod⟩
    | cons v O =>
     rw [List.length_cons] at hOl hOn
     obtain ⟨hv,hv0⟩:=ho v List.mem_cons_self
     obtain ⟨hnv,hnd'⟩:=List.nodup_cons.1 hnd
     have hxv:x.O.getD A.length default=(v:Int):=by
      rw [hO,List.map_append,List.getD,List.getElem?_append_right (by rw [List.length_map];exact Nat.le_refl _),List.length_map,Nat.sub_self];rfl
     have hA1:(A++[v]).length=A.length+1:=by simp
     have hO2:x.O=((A++[v])++O).map (fun v:Nat=>(v:Int)):=by rw [hO,List.append_assoc];rfl
     refine V.region (VL.op (R.mvI rfl) (VL.op (R.ld1 Tryz.isAgg67 rfl ((show _=some (Value.pointer (some ⟨x.p,0,none⟩)) from hp1.cell 0))) (VL.op (R.nilCheck rfl) (VL.op (R.fld' (o:=5) Tryz.runUnderlying74 rfl rfl Tryz.sizeOf22 rfl rfl) (VL.op (R.ld1 Tryz.isAgg22 rfl ((show _=some (Value.slice x.oa x.O.length x.oc) from h1.blk.cell 5))) (VL.op (R.lenS Tryz.runUnderlying22 rfl) (VL.op (R.lit (R.eql rfl rfl) ((decide_eq_false (by omega)))) (VL.nil (V.condF rfl (V.skip (V.seq (V.region (VL.op (R.ld1 Tryz.isAgg67 rfl ((show _=some (Value.pointer (some ⟨x.p,0,none⟩)) from hp1.cell 0))) (VL.op (R.nilCheck rfl) (VL.op (R.fld' (o:=5) Tryz.runUnderlying74 rfl rfl Tryz.sizeOf22 rfl rfl) (VL.op (R.ld1 Tryz.isAgg22 rfl ((show _=some (Value.slice x.oa x.O.length x.oc) from h1.blk.cell 5))) (VL.op (R.mvI rfl) (VL.op (R.ixS Tryz.runUnderlying22 Tryz.sizeOf3 rfl rfl (by omega) (by omega) (h1.o.some (i:=A.length) (by omega))) (VL.op (R.ld1 Tryz.isAgg3 rfl (((h1.o.row (i:=A.length) (by omega)).cell (i:=0) rfl))) (VL.op (R.asI rfl) (VL.nil (V.seq (?_)))))))))))))))))))))))
     rw [hxv]
     have hpq:∀ {wq:World},TA encS4 4 112 x.U sa sc S (⟨1,(v:Int),(S.length:Int)+1,0⟩:St4) w1 wq→PtV wq b1 x:=fun tt=>hp1.mod tt.m fun hq=>hb1 (h1.sT hq)
     have hbq:∀ {wq:World},TA encS4 4 112 x.U sa sc S (⟨1,(v:Int),(S.length:Int)+1,0⟩:St4) w1 wq→Blk wq x.p (.cells (Value.agg (encSv x st.length sa S.length sc).toArray).cells 74 (0,0)):=fun tt=>h1.blk.mod tt.m fun hq=>by have:=h1.s.ge _ hq;have:=h.pU;omega
     refine V.regionT (T:=(TA encS4 4 112 x.U sa sc S (⟨1,(v:Int),(S.length:Int)+1,0⟩:St4))) mixed 11 (by kernel_rfl) rfl (fun us=>VT.op (fun wq eq=>R.ld1 Tryz.isAgg67 rfl ((show wq.cell? ⟨b1,0,none⟩=some (Value.pointer (some ⟨x.p,0,none⟩)) from (hpq eq).cell 0))) (VT.op (fun wq eq=>R.ld1 Tryz.isAgg67 rfl ((show wq.cell? ⟨b1,0,none⟩=some (Value.pointer (some ⟨x.p,0,none⟩)) from (hpq eq).cell 0))) (VT.op (fun wq eq=>R.nilCheck rfl) (VT.op (fun wq eq=>R.fld' (o:=8) Tryz.runUnderlying74 rfl rfl Tryz.sizeOf30 rfl rfl) (VT.op (fun wq eq=>R.ld1 Tryz.isAgg30 rfl ((show wq.cell? ⟨x.p,8,none⟩=some (Value.slice sa S.length sc) from (hbq eq).cell 8))) (VT.op (fun wq eq=>R.mvI rfl) (VT.op (fun wq eq=>R.mvI rfl) (VT.op (fun wq eq=>R.add rfl rfl (by omega) (by omega)) (VT.op (fun wq eq=>R.build Tryz.zeroValue112 Tryz.runUnderlying112 pl112 rfl) (VT.spec (SB1 encS4 4 112 w1.heap.size (⟨1,(v:Int),(S.length:Int)+1,0⟩:St4)) (fun u x y _ ⟨bb,q1,q2⟩ eb=>⟨bb,q1,q2.mod eb.m fun k hk hs=>by have:=OwnT.ge q2 k hk;have:=h1.s.lt k hs;omega⟩) rfl (fun wq eq hq=>yieldsR_build1 Tryz.runUnderlying30 Tryz.sizeOf112 Tryz.zeroValue112 rfl rfl rfl (⟨1,(v:Int),(S.length:Int)+1,0⟩:St4) rfl rfl rfl eq.m.size fun b w2 ho he=>⟨⟨b,rfl,ho⟩,Turn.ext he⟩) (VT.spec (SA encS4 4 112 x.U w1.heap.size sa sc S (⟨1,(v:Int),(S.length:Int)+1,0⟩:St4)) (SA.mono h1.s) rfl (fun wq eq hq=>by
       obtain ⟨bb,hb,hB⟩:=hq 9 (by kernel_rfl)
       refine yieldsR_app1 (a:=sa) (cap:=sc) (b:=bb) (l:=S) (u:=(⟨1,(v:Int),(S.length:Int)+1,0⟩:St4)) el30 (fun _=>rfl) h1.s eq ?_ ?_ hB.sl (by omega) (by unfold maxLen;omega) h1.sz
       ·rfl
       ·exact hb) (VT.nil (fun w8 e8 h8=>?_))))))))))))) rfl
     obtain ⟨a',c',hu,hO',hd'⟩:=h8 10
     have hm8:=e8.m
     rw [hu]
     refine VL.op (R.nilCheck rfl) (VL.op (R.fld' (o:=8) Tryz.runUnderlying74 rfl rfl Tryz.sizeOf30 rfl rfl) (VL.store (v:=.slice _ _ _) Tryz.sizeOf30 rfl rfl rfl rfl (hbq e8) rfl rfl fun w10 m10 hs10 hB10=>VL.nil (V.seq (?_))))
     obtain ⟨h2,m2⟩:=h1.app hm8 hO' m10 (fun q hq=>hq) (by rw [List.length_append];exact hB10)
     have hp2:=hp1.mod m2 hb1
     have hd2:=hd1.mod m2 hb2
     have hop:∀ k,∀ u∈O,u<N∧stA (st.set v k) (u:Int)=0:=fun k u hu=>by
      refine ⟨(ho u (List.mem_cons_of_mem _ hu)).1,?_⟩
      rw [stA_nat,setD_ne _ (show ¬u=v from fun e=>hnv (e▸hu)),←stA_nat]
      exact (ho u (List.mem_cons_of_mem _ hu)).2
     have M2:Vc.Mod x.T w w10:=e.mod.then m2 fun _ _ h=>h
     refine V.region (VL.op (R.ld1 Tryz.isAgg67 rfl ((show _=some (Value.pointer (some ⟨x.p,0,none⟩)) from hp2.cell 0))) (VL.op (R.nilCheck rfl) (VL.op (R.fld' (o:=7) Tryz.runUnderlying74 rfl rfl Tryz.sizeOf22 rfl rfl) (VL.op (R.ld1 Tryz.isAgg22 rfl ((show _=some (Value.slice (some ⟨x.tb,0,none⟩) st.length st.length) from h2.blk.cell 7))) (VL.op (R.mvI rfl) (VL.op (R.ixS Tryz.runUnderlying22 Tryz.sizeOf3 rfl rfl (by omega) (by omega) (h2.t.sl.some (i:=v) (by omega))) (VL.ownSt eltI (v:=.int _ _) Tryz.sizeOf3 (h2.t) v 0 1 rfl rfl (by omega) rfl rfl rfl rfl rfl fun w14 ho14 m14 hs14=>VL.nil (V.seq (?_)))))))))
     obtain ⟨h3,m3⟩:=h2.put ho14 m14
     have hp3:=hp2.mod m3 hb1
     have hd3:=hd2.mod m3 hb2
     have M3:Vc.Mod x.T w w14:=M2.then m3 fun _ _ h=>h
     have hP1:∀ ch w',SvP x w14 N (srchF x.ctx 100000 O (v:Int) (st.set v 1) (S++[(⟨1,(v:Int),(S.length:Int)+1,0⟩:St4)])) ch w'→SvP x w N (srchF x.ctx 100000 (v :: O) l st S) ch w':=fun ch w' hP=>hP.weaken M3 fun s hs=>by
      rw [srchF_cons hM hc];rcases hs with hs | hs <;> rw [hs]
     refine V.region (VL.op (R.ld1 Tryz.isAgg113 rfl ((show _=some (Value.func (.func 81) #[] #[.pointer (some ⟨b1,0,none⟩),.pointer (some ⟨b2,0,none⟩)]) from hd3.cell 0))) (VL.op (R.mvI rfl) (VL.op (R.addE (z:=(((A++[v]).length:Nat):Int)) rfl rfl (by omega) (by omega) (by omega)) (VL.op (R.mvI rfl) (VL.callCE rfl (Tryz.call81) rfl (ih O.length (by omega) O (A++[v]) rfl (v:Int) (st.set v 1) a' c' (S++[(⟨1,(v:Int),(S.length:Int)+1,0⟩:St4)]) w14 hO2 (hop 1) hnd' (by omega) (by rw [List.length_set];exact hst) h3 hp3 hd3) (hP1) fun u15 w15 h15=>VL.nil (V.seq (?_)))))))
     obtain ⟨S1,hr1,⟨sa1,sc1,h4⟩,m4⟩:=h15
     have hp4:=hp3.mod m4 hb1
     have hd4:=hd3.mod m4 hb2
     have M4:Vc.Mod x.T w w15:=M3.then m4 fun _ _ h=>h
     have k1:=srch_pfx _ _ _ _ _ hr1
     have l1:=k1.lt
     have l1':=k1.le
     rw [List.length_append,List.length_singleton] at l1
     refine V.regionQ mixed 10 (by kernel_rfl) rfl (fun w'=>Ext _ w') (Ext.drawn _) (VQ.op (fun wq eq=>R.ld1 Tryz.isAgg67 rfl ((show wq.cell? ⟨b1,0,none⟩=some (Value.pointer (some ⟨x.p,0,none⟩)) from (hp4.ext eq).cell 0))) (VQ.op (fun wq eq=>R.nilCheck rfl) (VQ.op (fun wq eq=>R.fld' (o:=8) Tryz.runUnderlying74 rfl rfl Tryz.sizeOf30 rfl rfl) (VQ.op (fun wq eq=>R.ld1 Tryz.isAgg30 rfl ((show wq.cell? ⟨x.p,8,none⟩=some (Value.slice sa1 S1.length sc1) from (h4.blk.ext eq).cell 8))) (VQ.op (fun wq eq=>R.mvI rfl) (VQ.op (fun wq eq=>R.ld1 Tryz.isAgg67 rfl ((show wq.cell? ⟨b1,0,none⟩=some (Value.pointer (some ⟨x.p,0,none⟩)) from (hp4.ext eq).cell 0))) (VQ.op (fun wq eq=>R.nilCheck rfl) (VQ.op (fun wq eq=>R.fld' (o:=8) Tryz.runUnderlying74 rfl rfl Tryz.sizeOf30 rfl rfl) (VQ.op (fun wq eq=>R.ld1 Tryz.isAgg30 rfl ((show wq.cell? ⟨x.p,8,none⟩=some (Value.slice sa1 S1.length sc1) from (h4.blk.ext eq).cell 8))) (VQ.op (fun wq eq=>R.lenS Tryz.runUnderlying30 rfl) (VQ.nil fun w16q e16q=>VL.op (R.ixS Tryz.runUnderlying30 Tryz.sizeOf112 rfl rfl (by omega) (by omega) (h4.s.sl.some (i:=S.length) (by omega))) (VL.op (R.fld' (o:=3) Tryz.runUnderlying112 rfl rfl Tryz.sizeOf3 rfl rfl) (VL.ownSt eltS4 (v:=.int _ _) Tryz.sizeOf3 ((h4.s.ext e16q)) S.length 3 ({ S1.getD S.length default with o:=((S1.length:Nat):Int) }:St4) rfl rfl (by omega) rfl rfl rfl rfl rfl fun w16 ho16 m16 hs16=>VL.nil (V.seq (?_)))))))))))))))
     obtain ⟨h5,m5⟩:=(h4.ext e16q).over ho16 (List.length_set) m16
     have hp5:=(hp4.ext e16q).mod m5 hb1
     have hd5:=(hd4.ext e16q).mod m5 hb2
     have M5:Vc.Mod x.T w w16:=(M4.then e16q.mod fun _ _ h=>h).then m5 fun _ _ h=>h
     refine V.region (VL.op (R.ld1 Tryz.isAgg67 rfl ((show _=some (Value.pointer (some ⟨x.p,0,none⟩)) from hp5.cell 0))) (VL.op (R.nilCheck rfl) (VL.op (R.fld' (o:=7) Tryz.runUnderlying74 rfl rfl Tryz.sizeOf22 rfl rfl) (VL.op (R.ld1 Tryz.isAgg22 rfl ((show _=some (Value.slice (some ⟨x.tb,0,none⟩) (st.set v 1).length (st.set v 1).length) from h5.blk.cell 7))) (VL.op (R.mvI rfl) (VL.op (R.ixS Tryz.runUnderlying22 Tryz.sizeOf3 rfl rfl (by omega) (by rw [List.length_set];omega) (h5.t.sl.some (i:=v) (by rw [List.length_set];omega))) (VL.ownSt eltI (v:=.int _ _) Tryz.sizeOf3 (h5.t) v 0 2 rfl rfl (by rw [List.length_set];omega) rfl rfl rfl rfl rfl fun w17 ho17 m17 hs17=>VL.nil (V.seq (?_)))))))))
     obtain ⟨h6,m6⟩:=h5.put ho17 m17
     rw [List.set_set] at h6
     have hp6:=hp5.mod m6 hb1
     have hd6:=hd5.mod m6 hb2
     have M6:Vc.Mod x.T w w17:=M5.then m6 fun _ _ h=>h
     have hcs:srchF x.ctx 100000 (v :: O) l st S=srchF x.ctx 100000 O (v:Int) (st.set v 2) (S1.set S.length { S1.getD S.length default with o:=((S1.length:Nat):Int) }):=by
      rw [srchF_cons hM hc,hr1]
     have hP2:∀ ch w',SvP x w17 N (srchF x.ctx 100000 O (v:Int) (st.set v 2) (S1.set S.length { S1.getD S.length default with o:=((S1.length:Nat):Int) })) ch w'→SvP x w N (srchF x.ctx 100000 (v :: O) l st S) ch w':=fun ch w' hP=>hP.weaken M6 fun s hs=>hcs
     refine V.region (VL.op (R.ld1 Tryz.isAgg113 rfl ((show _=some (Value.func (.func 81) #[] #[.pointer (some ⟨b1,0,none⟩),.pointer (some ⟨b2,0,none⟩)]) from hd6.cell 0))) (VL.op (R.mvI rfl) (VL.op (R.addE (z:=(((A++[v]).length:Nat):Int)) rfl rfl (by omega) (by omega) (by omega)) (VL.op (R.mvI rfl) (VL.callCE rfl (Tryz.call81) rfl (ih O.length (by omega) O (A++[v]) rfl (v:Int) (st.set v 2) sa1 sc1 _ w17 hO2 (hop 2) hnd' (by omega) (by rw [List.length_set];exact hst) h6 hp6 hd6) (hP2) fun u18 w18 h18=>VL.nil (?_))))))
     obtain ⟨S2,hr2,⟨sa2,sc2,h7⟩,m7⟩:=h18
     have hp7:=hp6.mod m7 hb1
     have M7:Vc.Mod x.T w w18:=M6.then m7 fun _ _ h=>h
     refine V.region (VL.op (R.ld1 Tryz.isAgg67 rfl ((show _=some (Value.pointer (some ⟨x.p,0,none⟩)) from hp7.cell 0))) (VL.op (R.nilCheck rfl) (VL.op (R.fld' (o:=7) Tryz.runUnderlying74 rfl rfl Tryz.sizeOf22 rfl rfl) (VL.op (R.ld1 Tryz.isAgg22 rfl ((show _=some (Value.slice (some ⟨x.tb,0,none⟩) (st.set v 2).length (st.set v 2).length) from h7.blk.cell 7))) (VL.op (R.mvI rfl) (VL.op (R.ixS Tryz.runUnderlying22 Tryz.sizeOf3 rfl rfl (by omega) (by rw [List.length_set];omega) (h7.t.sl.some (i:=v) (by rw [List.length_set];omega))) (VL.ownSt eltI (v:=.int _ _) Tryz.sizeOf3 (h7.t) v 0 0 rfl rfl (by rw [List.length_set];omega) rfl rfl rfl rfl rfl fun w19 ho19 m19 hs19=>VL.nil (fend0 rfl (?_)))))))))
     obtain ⟨h8',m8⟩:=h7.put ho19 m19
     have hst0:(st.set v 2).set v 0=st:=by
      rw [List.set_set]
      refine List.ext_getElem (by simp) fun i hi1 hi2=>?_
      rw [List.getElem_set]
      split
      ·rename_i e
       subst e
       rw [stA_nat,gget hi2] at hv0
       exact hv0.symm
      ·rfl
     rw [hst0] at h8'
     exact ⟨S2,hcs.trans hr2,⟨_,_,h8'⟩,M7.then m8 fun _ _ h=>h⟩
end Go.Proofs.YtjocoefpnboccaaGreatDoor

/- Solve: a search's end: what panics is recovered. -/
namespace Go.Proofs.YtjocoefpnboccaaGreatDoor
open Go.Vc
set_option maxRecDepth 100000
set_option maxHeartbeats 16000000
theorem eqNil1 (d:Nat) (b:Bool) (w:World):(Op.equalIn (d+1) 20 (rsV b) .nilIface).run Tryz.prog w=.ok false w:=by
 unfold rsV Op.equalIn
 simp only [Sem.run_bind,Tryz.runUnderlying20,Result.andThen_ok,Sem.run_pure]
theorem eqNil0 (d:Nat) (w:World):(Op.equalIn (d+1) 20 .nilIface .nilIface).run Tryz.prog w=.ok true w:=by
 unfold Op.equalIn
 simp only [Sem.run_bind,Tryz.runUnderlying20,Result.andThen_ok,Sem.run_pure]
theorem eqN1 (b:Bool) (w:World):(Op.equal 20 (rsV b) .nilIface).run Tryz.prog w=.ok false w:=eqNil1 _ b w
theorem eqN0 (w:World):(Op.equal 20 .nilIface .nilIface).run Tryz.prog w=.ok true w:=eqNil0 _ w
theorem R.neqNil {ρ:Env} {x:Operand} {ty ty2:TypeId} {b:Bool} {w:World} (hx:tm ρ x=rsV b):run1 Tryz.prog ρ (.binOp .neq 20 x (.const .nilIface) ty2) ty w=.ok (.value (.bool true)) w:=by
 have he:=eqN1 b w
 unfold rsV at hx he
 have hc:tm ρ (.const .nilIface)=.nilIface:=rfl
 simp only [run1,execOp,hx,hc,eqGuard,binOp,Sem.run_bind,Sem.run_pure,Result.andThen_ok,Bool.not_true,Bool.false_eq_true,if_false,he,Bool.not_false]
theorem R.neqNil0 {ρ:Env} {x:Operand} {ty ty2:TypeId} {w:World} (hx:tm ρ x=.nilIface):run1 Tryz.prog ρ (.binOp .neq 20 x (.const .nilIface) ty2) ty w=.ok (.value (.bool false)) w:=by
 have he:=eqN0 w
 have hc:tm ρ (.const .nilIface)=.nilIface:=rfl
 simp only [run1,execOp,hx,hc,eqGuard,binOp,Sem.run_bind,Sem.run_pure,Result.andThen_ok,Bool.not_true,Bool.false_eq_true,if_false,Bool.or_true,if_true,he]
theorem asRes {ρ:Env} {x:Operand} {ty:TypeId} {b:Bool} {w:World} (hx:tm ρ x=rsV b):run1 Tryz.prog ρ (.typeAssert x 20 76 true) ty w=.ok (.value (.tuple #[.agg #[.bool b],.bool true])) w:=by
 unfold rsV at hx
 simp [run1,execOp,hx,go_sem,Instr.typeAssert,Tryz.runUnderlying76]
theorem catch0 (bt:Nat) (w:World):CallsD Tryz.prog 57 [Value.pointer (some ⟨bt,0,none⟩)].toArray .returning w fun e m w'=>m=.returning∧∃ r,e=.returned r∧Ext w w':=by
 refine enterRec Tryz.func57 rfl Tryz.ntmps57 rfl (by kernel_rfl) rfl (v:=.nilIface) (.inr ⟨rfl,rfl,rfl⟩) (fun ρ h w=>R.as h) ?_
 refine V.seq ?_
 refine V.region (VL.op (R.mv rfl) (VL.op (R.lit (R.neqNil0 rfl) (rfl)) (VL.nil (V.condF rfl (V.skip (fend0 rfl (?_)))))))
 exact Vc.Mod.refl _ _
def CgK (b:Bool) (bt:Nat) (w w':World):Prop:=∃ q,w.heap.size≤q∧Blk w' q (.cells #[.bool b] 76 (0,0))∧Blk w' bt (.cells #[.pointer (some ⟨q,0,none⟩)] 70 (0,0))∧Vc.Mod (Vc.one bt) w w'
theorem catch1 (b:Bool) (bt:Nat) (w:World) {v0:Value} (hbt:Blk w bt (.cells #[v0] 70 (0,0))):CallsD Tryz.prog 57 [Value.pointer (some ⟨bt,0,none⟩)].toArray (.panicking [{ v:=rsV b,recovered:=false }]) w fun e m w'=>m=.panicking [{ v:=rsV b,recovered:=true }]∧∃ r,e=.returned r∧CgK b bt w w':=by
 refine enterRec Tryz.func57 rfl Tryz.ntmps57 rfl (by kernel_rfl) rfl (v:=rsV b) (.inl rfl) (fun ρ h w=>R.as h) ?_
 refine V.seq ?_
 refine V.region (VL.op (R.mv rfl) (VL.op (R.lit (R.neqNil rfl) (rfl)) (VL.nil (V.condT rfl (V.seq (V.region (VL.op (R.mv rfl) (VL.op (asRes rfl) (VL.op (R.mvT rfl) (VL.op (R.extr rfl rfl) (VL.op (R.extr rfl rfl) (VL.allocSt (v:=.agg _) Tryz.zeroValue76 Tryz.sizeOf76 rfl rfl rfl rfl rfl fun b2_5 w2_5 hb2_5 e2_5 hB2_5=>VL.op (R.asB rfl) (VL.nil (V.seq (V.seq (?_))))))))))))))))
 refine V.region (VL.op (R.mvB rfl) (VL.op (R.not rfl) (VL.nil (V.condF rfl (V.skip (V.region (VL.store (v:=.pointer _) Tryz.sizeOf70 rfl rfl rfl rfl (hbt.ext e2_5) rfl rfl fun w5 m5 hs5 hB5=>VL.nil (fend0 rfl (?_)))))))))
 have hlt:=hbt.lt
 exact ⟨b2_5,by omega,(show Blk w2_5 b2_5 (.cells #[.bool b] 76 (0,0)) from hB2_5).mod m5 (fun hh=>by have:b2_5=bt:=hh;omega),hB5,(e2_5.mod (S:=Vc.one bt)).then m5 fun q _ hq=>hq⟩
theorem SvOk.up {x:SvX} {U:Nat} {w:World} {st:List Int} (h:SvOk x w st none 0 []) (h1:x.U≤U) (h2:U≤w.heap.size):SvOk { x with U:=U } w st none 0 []:=by
 obtain ⟨w0,e0,hT,hb⟩:=h.base
 have hTT:∀ q,SvX.T { x with U:=U } q→x.T q:=fun q hq=>hq.imp id fun h3=>h3.imp id fun h4=>Nat.le_trans h1 h4
 exact ⟨h.blk,⟨w0,e0,fun q hq=>hT q (hTT q hq),hb⟩,h.z,h.t,OwnT.nil _ _ _ _ _,h.c,h.o,fun q hq hT'=>h.sep q hq (hTT q hT'),h.tp,h.fL,h.tL,h.pL,Nat.le_trans h.lU h1,h2⟩
theorem run_spec (x:SvX) (N:Nat) (hR:SvR x N) (O:List Nat) (hO:x.O=O.map (fun v:Nat=>(v:Int))) (hO1:x.O.length≤1000000) (st:List Int) (w:World) (ho:∀ v∈O,v<N∧stA st (v:Int)=0) (hnd:O.Nodup) (hst:st.length=N) (h:SvOk x w st none 0 []) :
  Vc.Ends Tryz.prog 58 #[.pointer (some ⟨x.p,0,none⟩)] w
   (fun _ w'=>∃ U,w.heap.size≤U∧∃ S',srchF x.ctx 100000 O (-1) st []=.proof S'∧SvE { x with U:=U } w st S' w') (fun ch w'=>∃ U,w.heap.size≤U∧SvP { x with U:=U } w N (srchF x.ctx 100000 O (-1) st []) ch w'):=by
 refine enterE (args:=[_]) Tryz.func58 rfl Tryz.ntmps58 (by kernel_rfl) rfl ?_
 refine V.seq (V.region (VL.box (v:=.pointer _) rfl fun b0_0 w0_0 hb0_0 e0_0 hB0_0=>VL.nil (V.seq (V.region (VL.alloc Tryz.zeroValue113 fun b1_0 w1_0 hb1_0 e1_0 hB1_0=>VL.nil (V.seq (V.region (VL.op (R.mkFn rfl rfl) (VL.store (v:=.func _ _ _) Tryz.sizeOf113 rfl rfl rfl rfl hB1_0 rfl rfl fun w2_1 m2_1 hs2_1 hB2_1=>VL.nil (?_))))))))))
 have E2:Ext w w2_1:=(e0_0.trans e1_0).own m2_1 (show w.heap.size≤b1_0 by have:=e0_0.size;omega)
 have hs0:=(e0_0.trans e1_0).size
 have hlt0:=(hB0_0.ext e1_0).lt
 have hlt1:=hB1_0.lt
 have hsz:=m2_1.size
 have hxs:=h.sz
 obtain ⟨U,hU⟩:∃ U,U=w2_1.heap.size:=⟨_,rfl⟩
 have h2:SvOk { x with U:=U } w2_1 st none 0 []:=(h.ext E2).up (by omega) (by omega)
 have hp2:PtV w2_1 b0_0 { x with U:=U }:=(show PtV w1_0 b0_0 x from hB0_0.ext e1_0).mod m2_1 fun hh=>by have:b0_0=b1_0:=hh;have:=hB0_0.lt;omega
 have hd2:DcB w2_1 b1_0 b0_0:=hB2_1
 have ht:=h.t.lt x.tb ⟨_,rfl,rfl⟩
 have hpl:=h.blk.lt
 have hR2:SvR { x with U:=U } N:=⟨hR.n,hR.N4,hR.E,hR.El,hR.el,hR.eh,hR.W,hR.Wl,hR.wl,hR.zl,hR.z⟩
 have hs:=decide_spec { x with U:=U } N hR2 b0_0 b1_0 (by unfold SvX.T;dsimp only;omega) (by unfold SvX.T;dsimp only;have:=e0_0.size;omega) hO1 O.length O [] rfl (-1) st none 0 [] w2_1 hO ho hnd (by omega) hst h2 hp2 hd2
 have hP1:∀ ch w',SvP { x with U:=U } w2_1 N (srchF x.ctx 100000 O (-1) st []) ch w'→∃ U,w.heap.size≤U∧SvP { x with U:=U } w N (srchF x.ctx 100000 O (-1) st []) ch w':=fun ch w' hP=>⟨U,by omega,hP.weaken E2.mod fun s _=>by rcases ‹_› with hs | hs <;> exact hs▸rfl⟩
 refine V.region (VL.op (R.ld1 Tryz.isAgg113 rfl ((show _=some (Value.func (.func 81) #[] #[.pointer (some ⟨b0_0,0,none⟩),.pointer (some ⟨b1_0,0,none⟩)]) from hd2.cell 0))) (VL.callCE rfl (Tryz.call81) rfl (hs) (hP1) fun u3 w3 h3=>VL.nil (fend0 rfl (?_))))
 obtain ⟨S',hr,h4⟩:=h3
 exact ⟨U,by omega,S',hr,h4.weaken E2.mod⟩
theorem SvOk.other {x:SvX} {w w':World} {st:List Int} {sa:Option Addr} {sc:Nat} {S:List St4} {b:Nat} (h:SvOk x w st sa sc S) (m:Vc.Mod (Vc.one b) w w') (h1:x.L≤b) (h2:b<x.U):SvOk x w' st sa sc S:=by
 obtain ⟨w0,e0,hT,hb⟩:=h.base
 have hno:∀ q,q<x.L→¬Vc.one b q:=fun q hq hs=>by have:q=b:=hs;omega
 refine ⟨h.blk.mod m (hno _ h.pL),⟨w0,e0.ownA m fun q hq=>?_,hT,hb⟩,?_,h.t.mod m fun q hq=>hno q (by rw [aBlk_some hq];exact h.tL),h.s.mod m fun q hq hs=>by have:=h.s.ge q hq;have:q=b:=hs;omega,h.c.mod m fun ad e=>hno _ (h.fL _ (by injection e with e;subst e;unfold SvX.Fx;simp)),h.o.mod m fun ad e=>hno _ (h.fL _ (.inr (.inr (.inr ⟨ad,e,rfl⟩)))),h.sep,h.tp,h.fL,h.tL,h.pL,h.lU,Nat.le_trans h.sz m.size⟩
 ·have:q=b:=hq;have:=hT x.tb (.inl rfl);have:=h.tL;omega
 ·exact h.z.mod29 m (fun q hq=>hno q (h.fL q (by have:=aBlk_some hq;subst this;unfold SvX.Fx;simp))) fun y hy q hq=>hno q (h.fL q (.inr (.inl ⟨y,hy,hq⟩)))
end Go.Proofs.YtjocoefpnboccaaGreatDoor

/- Solve: a search runs and ends. -/
namespace Go.Proofs.YtjocoefpnboccaaGreatDoor
open Go.Vc
set_option maxRecDepth 100000
set_option maxHeartbeats 16000000
structure EnK (x:SvX) (N:Nat) (st0:List Int) (r:Srch) (w:World) (o:Option Nat) (w':World):Prop where
 r:∃ U st S,w.heap.size≤U∧SvE { x with U:=U } w st S w'∧((o=none∧r=.proof S∧st=st0)∨∃ q b,o=some q∧Blk w' q (.cells #[.bool b] 76 (0,0))∧(b=false→r=.full)∧(b=true→r=.found st)∧st.length=N)
theorem ends29_spec (x:SvX) (N:Nat) (hR:SvR x N) (O:List Nat) (hO:x.O=O.map (fun v:Nat=>(v:Int))) (hO1:x.O.length≤1000000) (st:List Int) (w:World) (ho:∀ v∈O,v<N∧stA st (v:Int)=0) (hnd:O.Nodup) (hst:st.length=N) (h:SvOk x w st none 0 []) (hL:x.L≤w.heap.size) :
  RetsY Tryz.prog 37 #[.pointer (some ⟨x.p,0,none⟩)] w (fun o:Option Nat=>.pointer (o.map fun q=>⟨q,0,none⟩)) (EnK x N st (srchF x.ctx 100000 O (-1) st []) w):=by
 refine enterDf (args:=[_]) Tryz.func37 rfl Tryz.ntmps37 rfl ?_
 refine DW.seqV (by kernel_rfl) (V.region (VL.alloc Tryz.zeroValue70 fun b0_0 w0_0 hb0_0 e0_0 hB0_0=>VL.nil (?_)))
 have hB0:Blk w0_0 b0_0 (.cells #[.pointer none] 70 (0,0)):=hB0_0
 have h0:=h.ext e0_0
 have hlt:=hB0.lt
 have hb0:w.heap.size≤b0_0:=by omega
 show DW _ _ _ _ [] _ _
 refine DW.region (by kernel_rfl) ?_
 refine DL.op (R.mkFn rfl rfl) ?_
 refine DL.deferW (R.deferC (Fv:=[]) (Cv:=[Value.pointer (some ⟨b0_0,0,none⟩)]) (l:=[]) rfl rfl) ?_
 refine DW.regP ?_ (by kernel_rfl) ?_
 ·intro o ho
  simp only [List.mem_cons,List.not_mem_nil,or_false] at ho
  rcases ho with rfl | rfl
  ·exact .inl rfl
  ·exact .inr ⟨_,_,_,rfl,Tryz.call58⟩
 refine VL.op (R.mvP rfl) (VL.callE Tryz.call58 rfl (run_spec x N hR O hO hO1 st w0_0 ho hnd hst h0) (?_) fun u2 w2 h2=>VL.nil (?_))
 ·rintro ch w1 ⟨U,hU,hP⟩
  obtain ⟨b,st',S,rfl,hf,hd,hl,⟨sa,sc,hk⟩,hm⟩:=hP.r
  have htL:=h.tL
  have hpL:=h.pL
  have hB1:Blk w1 b0_0 (.cells #[.pointer none] 70 (0,0)):=hB0.mod hm (by unfold SvX.T;dsimp only;omega)
  refine leavesR (dargs:=[]) (cap:=[Value.pointer (some ⟨b0_0,0,none⟩)]) Tryz.call57 rfl (fun h=>nomatch h) (catch1 b b0_0 w1 hB1) rfl ?_
  rintro w2 ⟨q,hq,hQ,hB2,hm2⟩
  refine ⟨_,res_cell1 rfl rfl rfl hB2 Tryz.isAgg70,some q,rfl,⟨U,st',S,by have:=e0_0.size;omega,⟨⟨sa,sc,hk.other hm2 (by dsimp only;omega) (by dsimp only;omega)⟩,?_⟩,.inr ⟨q,b,rfl,hQ,hf,hd,hl⟩⟩⟩
  have:=((e0_0.mod (S:=SvX.T { x with U:=U })).then hm fun _ _ h=>h).own hm2 hb0
  exact this
 ·obtain ⟨U,hU,S,hr,⟨sa,sc,hk⟩,hm⟩:=h2
  have htL:=h.tL
  have hpL:=h.pL
  have hB1:Blk w2 b0_0 (.cells #[.pointer none] 70 (0,0)):=hB0.mod hm (by unfold SvX.T;dsimp only;omega)
  show DW _ _ _ _ _ _ _
  refine DW.retD ?_ (by kernel_rfl) ?_
  ·intro o ho
   simp only [List.mem_cons,List.not_mem_nil,or_false] at ho
   subst ho
   exact .inl rfl
  refine VL.store (v:=.pointer _) Tryz.sizeOf70 rfl rfl rfl rfl hB1 rfl rfl fun w3 m3 hs3 hB3=>VL.nil (?_)
  refine ⟨rfl,?_⟩
  refine leavesR (dargs:=[]) (cap:=[Value.pointer (some ⟨b0_0,0,none⟩)]) Tryz.call57 rfl (fun h=>nomatch h) (catch0 b0_0 w3) rfl ?_
  rintro w4 he
  refine ⟨_,res_cell1 rfl rfl rfl (hB3.ext he) Tryz.isAgg70,none,rfl,⟨U,st,S,by have:=e0_0.size;omega,⟨⟨sa,sc,(hk.other m3 (by dsimp only;omega) (by dsimp only;omega)).ext he⟩,?_⟩,.inl ⟨rfl,hr,rfl⟩⟩⟩
  exact ((((e0_0.mod (S:=SvX.T { x with U:=U })).then hm fun _ _ h=>h).own m3 hb0).then (he.mod (S:=SvX.T { x with U:=U })) fun _ _ h=>h)
end Go.Proofs.YtjocoefpnboccaaGreatDoor
