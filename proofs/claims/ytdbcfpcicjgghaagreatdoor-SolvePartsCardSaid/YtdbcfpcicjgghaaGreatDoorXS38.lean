/- Solve: the same ways in another order, more ways. Plain. -/
import Derived.Test.YtdbcfpcicjgghaaGreatDoorXS28
import Derived.Test.YtdbcfpcicjgghaaGreatDoorXVcWhole
import Derived.Test.YtdbcfpcicjgghaaGreatDoorXH22a
namespace Go.Proofs.YtdbcfpcicjgghaaGreatDoor
set_option maxHeartbeats 16000000
open Go.Vc
theorem named_len {g:Gr} {W:List Wy} (hr:readyG g W=true):(ptI g W).length≤g.n.toNat:=by
 have hv:=(ready_ok hr true []).v
 have hn0:=(costB_iff.1 (validG_iff.1 hv).1).1
 have:=set_len (srt_lt (ptL_nd hv W)) (fun v hvm=>ptI_rng hv hvm) hn0
 unfold ptI
 omega
theorem dc_small {g:Gr} {W:List Wy} (he:errG g W=0) (hn:g.n≤4000) (hp:(ptI g W).length≤15):(decideF g W).2=0:=by
 rcases decide_cases he with ⟨R,Q,h1,_⟩ | ⟨R,S,h1,_⟩ | ⟨Q,S,h1,_⟩ | ⟨h1,h2 | h2⟩
 ·rw [h1]
 ·rw [h1]
 ·rw [h1]
 ·exact absurd h2 (exists_small he hn hp)
 ·exact absurd h2 (exists_small he hn hp)
theorem dc_code {g:Gr} {W:List Wy} (hn:g.n≤4000) (hp:(ptI g W).length≤15):(decideF g W).2=errG g W:=by
 by_cases he:errG g W=0
 ·rw [dc_small he hn hp,he]
 ·rw [decide_err he]
theorem ready_len {g:Gr} {W:List Wy} (hn:g.n≤15):errG g W=(if readyG g W=true then 0 else 1)∧(decideF g W).2=errG g W:=by
 by_cases hr:readyG g W=true
 ·have h1:=named_len hr
  have h2:errG g W=0:=by
   unfold errG
   rw [if_pos hr,if_neg (by omega)]
  exact ⟨by rw [h2,if_pos hr],dc_code (by omega) (by omega)⟩
 ·have h2:errG g W=1:=by unfold errG;rw [if_neg hr]
  exact ⟨by rw [h2,if_neg hr],by rw [decide_err (by rw [h2];decide)]⟩
theorem fst_uniq {g:Gr} {W V:List Wy} {h:Bool} {R Q:List Int} (hR:FstR g W h R) (hQ:FstR g V h Q) (hs:∀ X,someW W X=someW V X):R=Q:=by
 rcases hR.f Q hQ.r (by rw [hs];exact hQ.s) with e | e
 ·exact e.symm
 ·rcases hQ.f R hR.r (by rw [←hs];exact hR.s) with e2 | e2
  ·exact e2
  ·have:=lexB_sto.trans _ _ _ e e2
   rw [lexB_sto.irr] at this;cases this
end Go.Proofs.YtdbcfpcicjgghaaGreatDoor

/- Solve: the components that have a named vertex, and the verdict on their graph. Plain. -/
namespace Go.Proofs.YtdbcfpcicjgghaaGreatDoor
open Go.Vc
def cmA (g:Gr) (W:List Wy) (k v:Nat):Bool:=((compsG g).take k).any fun c=>decide ((v:Int)∈c)&&c.any (nmW W)
def vsW (g:Gr) (W:List Wy) (n:Nat):List Int:=pickI n (cmA g W (compsG g).length)
theorem cmA_iff {g:Gr} {W:List Wy} {v:Nat}:cmA g W (compsG g).length v=true↔∃ c∈compsG g,(v:Int)∈c∧c.any (nmW W)=true:=by
 unfold cmA
 rw [List.take_length,List.any_eq_true]
 constructor
 ·rintro ⟨c,h1,h2⟩
  rw [Bool.and_eq_true,decide_eq_true_eq] at h2
  exact ⟨c,h1,h2⟩
 ·rintro ⟨c,h1,h2⟩
  exact ⟨c,h1,by rw [Bool.and_eq_true,decide_eq_true_eq];exact h2⟩
theorem vsW_mem {g:Gr} {W:List Wy} {n:Nat} {x:Int}:x∈vsW g W n↔0≤x∧x<(n:Int)∧∃ c∈compsG g,x∈c∧c.any (nmW W)=true:=by
 unfold vsW
 rw [pickI_mem]
 constructor
 ·rintro ⟨i,h1,h2,rfl⟩
  exact ⟨by omega,by omega,cmA_iff.1 h2⟩
 ·rintro ⟨h0,h1,h2⟩
  refine ⟨x.toNat,by omega,cmA_iff.2 ?_,by omega⟩
  rw [show ((x.toNat:Nat):Int)=x by omega]
  exact h2
theorem vsW_whole {g:Gr} {W:List Wy} {n:Nat} (hg:validG g=true) (hn:g.n=(n:Int)):Whole g (vsW g W n):=by
 refine ⟨by rw [hn];exact pickI_set _ _,fun c hc=>?_⟩
 by_cases h:c.any (nmW W)=true
 ·left
  intro v hv
  have:=comps_rng hg hc hv
  exact vsW_mem.2 ⟨this.1,by omega,c,hc,hv,h⟩
 ·right
  intro v hv hV
  obtain ⟨_,_,c',h1,h2,h3⟩:=vsW_mem.1 hV
  have:=comp_disj hg hc h1 hv h2
  subst this
  exact h h3
theorem vsW_named {g:Gr} {W:List Wy} {n:Nat} (hr:readyG g W=true) (hn:g.n=(n:Int)):∀ w∈W,(∀ v∈w.pos,v∈vsW g W n)∧∀ v∈w.neg,v∈vsW g W n:=by
 have hv:=(ready_ok hr true []).v
 unfold readyG at hr
 rw [Bool.and_eq_true,List.all_eq_true] at hr
 have key:∀ w∈W,∀ v,(v∈w.pos∨v∈w.neg)→v∈vsW g W n:=fun w hw v hvw=>by
  have h1:=hr.2 w hw
  unfold wyB at h1
  rw [Bool.and_eq_true] at h1
  have hb:0≤v∧v<g.n:=hvw.elim (fun h=>(setB_iff.1 h1.1).2 v h) fun h=>(setB_iff.1 h1.2).2 v h
  obtain ⟨h2,h3,_⟩:=root_mem hv (i:=v.toNat) (by omega)
  rw [show ((v.toNat:Nat):Int)=v by omega] at h3
  exact vsW_mem.2 ⟨hb.1,by omega,_,h2,h3,List.any_eq_true.2 ⟨v,h3,List.any_eq_true.2 ⟨w,hw,by rw [Bool.or_eq_true,decide_eq_true_eq,decide_eq_true_eq];exact hvw⟩⟩⟩
 exact fun w hw=>⟨fun v hv=>key w hw v (.inl hv),fun v hv=>key w hw v (.inr hv)⟩
theorem fst_part {g:Gr} {W:List Wy} {V R:List Int} {h:Bool} (hg:validG g=true) (hV:Whole g V) (hW:∀ w∈W,(∀ v∈w.pos,v∈V)∧∀ v∈w.neg,v∈V) (hR:FstR g W h R):FstR (partG g V) (W.map (mvW V)) h (inK V R V.length):=by
 have hVi:=(setB_iff.1 hV.set).1
 exact ⟨whole_rep hg hV hR.r,by rw [some_part hVi hW];exact hR.s,fun Y hY hs=>whole_first hg hV hR.r hY fun X hX hXY=>hR.f X hX (by rw [←some_part hVi hW,hXY];exact hs)⟩
theorem check_part {g:Gr} {W:List Wy} {V:List Int} {h:Bool} {S:List St4} (hg:validG g=true) (hV:Whole g V) (hW:∀ w∈W,(∀ v∈w.pos,v∈V)∧∀ v∈w.neg,v∈V) (hS:checkA g W h S=true) {Y:List Int} (hY:IsRep (partG g V) Y):someW (W.map (mvW V)) Y=!h:=by
 obtain ⟨Z,hZ⟩:∃ X,IsRep g X:=by
  obtain ⟨X,hX⟩:=List.exists_mem_of_ne_nil _ (reps_ne hg)
  exact ⟨X,(reps_mem hg).1 hX⟩
 obtain ⟨X,hX,hXY,_⟩:=whole_join hg hV hZ hY
 rw [←hXY,some_part (setB_iff.1 hV.set).1 hW]
 exact check_sound hS hX
theorem inK_nil (V:List Int) (k:Nat):inK V [] k=[]:=by
 unfold inK
 rw [List.filter_eq_nil_iff.2 fun a _=>by simp]
 rfl
theorem ready_part {g:Gr} {W:List Wy} {V:List Int} (hr:readyG g W=true) (hV:Whole g V):readyG (partG g V) (W.map (mvW V))=true:=by
 have hg:=(ready_ok hr true []).v
 unfold readyG at hr ⊢
 rw [Bool.and_eq_true,Bool.and_eq_true] at hr
 rw [part_valid hg hV.set,List.length_map,hr.1.2,List.all_map]
 rw [List.all_eq_true.2 fun w _=>?_]
 ·rfl
 ·rw [Function.comp_apply]
  unfold wyB mvW
  rw [Bool.and_eq_true]
  exact ⟨inK_set,inK_set⟩
theorem dc_part {g:Gr} {W:List Wy} {n:Nat} (hn:g.n=(n:Int)) (h14:n≤15) (h:(decideF g W).2=0) :
  (decideF (partG g (vsW g W n)) (W.map (mvW (vsW g W n)))).2=0∧(decideF (partG g (vsW g W n)) (W.map (mvW (vsW g W n)))).1.1=(decideF g W).1.1 ∧
  (decideF (partG g (vsW g W n)) (W.map (mvW (vsW g W n)))).1.2.1=inK (vsW g W n) (decideF g W).1.2.1 (vsW g W n).length∧(decideF (partG g (vsW g W n)) (W.map (mvW (vsW g W n)))).1.2.2.1=inK (vsW g W n) (decideF g W).1.2.2.1 (vsW g W n).length:=by
 have he:errG g W=0:=Classical.byContradiction fun he=>by rw [decide_err he] at h;exact he h
 have hr:=err_ready he
 have hg:=(ready_ok hr true []).v
 have hV:=vsW_whole (W:=W) hg hn
 have hW:=vsW_named hr hn
 obtain ⟨V,hVd⟩:∃ V,V=vsW g W n:=⟨_,rfl⟩
 rw [←hVd] at hV hW ⊢
 have hr2:=ready_part hr hV
 have hVs:=setB_iff.1 hV.set
 have hVl:=set_len hVs.1 hVs.2 (by omega)
 have hpn:(partG g V).n=(V.length:Int):=rfl
 have h2:=(ready_len (g:=partG g V) (W:=W.map (mvW V)) (by omega))
 have hz:(decideF (partG g V) (W.map (mvW V))).2=0:=by rw [h2.2,h2.1,if_pos hr2]
 have he2:errG (partG g V) (W.map (mvW V))=0:=by rw [h2.1,if_pos hr2]
 have hno:∀ {hh:Bool} {S:List St4} {Y:List Int},checkA g W hh S=true→FstR (partG g V) (W.map (mvW V)) hh Y→False:=fun {hh S Y} h1 h2=>by
  have:=check_part hg hV hW h1 h2.r
  rw [h2.s] at this
  cases hh <;> cases this
 have hno2:∀ {hh:Bool} {S:List St4} {R:List Int},FstR g W hh R→checkA (partG g V) (W.map (mvW V)) hh S=true→False:=fun {hh S R} h1 h2=>by
  have h3:=fst_part hg hV hW h1
  have:=check_sound h2 h3.r
  rw [h3.s] at this
  cases hh <;> cases this
 refine ⟨hz,?_⟩
 rcases decide_cases he with ⟨R,Q,h1,_,_,h3,h4⟩ | ⟨R,S,h1,_,_,h3,h4⟩ | ⟨Q,S,h1,_,_,h3,h4⟩ | ⟨h1,_⟩
 ·rcases decide_cases he2 with ⟨R',Q',k1,_,_,k3,k4⟩ | ⟨R',S',k1,_,_,k3,k4⟩ | ⟨Q',S',k1,_,_,k3,k4⟩ | ⟨k1,_⟩
  ·rw [h1,k1];exact ⟨rfl,fst_uniq k3 (fst_part hg hV hW h3) fun _=>rfl,fst_uniq k4 (fst_part hg hV hW h4) fun _=>rfl⟩
  ·exact (hno2 h4 k4).elim
  ·exact (hno2 h3 k4).elim
  ·rw [k1] at hz;cases hz
 ·rcases decide_cases he2 with ⟨R',Q',k1,_,_,k3,k4⟩ | ⟨R',S',k1,_,_,k3,k4⟩ | ⟨Q',S',k1,_,_,k3,k4⟩ | ⟨k1,_⟩
  ·exact (hno h4 k4).elim
  ·rw [h1,k1];exact ⟨rfl,fst_uniq k3 (fst_part hg hV hW h3) fun _=>rfl,(inK_nil _ _).symm⟩
  ·exact (hno2 h3 k4).elim
  ·rw [k1] at hz;cases hz
 ·rcases decide_cases he2 with ⟨R',Q',k1,_,_,k3,k4⟩ | ⟨R',S',k1,_,_,k3,k4⟩ | ⟨Q',S',k1,_,_,k3,k4⟩ | ⟨k1,_⟩
  ·exact (hno h4 k3).elim
  ·exact (hno h4 k3).elim
  ·rw [h1,k1];exact ⟨rfl,(inK_nil _ _).symm,fst_uniq k3 (fst_part hg hV hW h3) fun _=>rfl⟩
  ·rw [k1] at hz;cases hz
 ·rw [h1] at h;cases h
end Go.Proofs.YtdbcfpcicjgghaaGreatDoor

/- Solve: the law's named and places. -/
namespace Go.Proofs.YtdbcfpcicjgghaaGreatDoor
open Go.Vc
set_option maxRecDepth 100000
set_option maxHeartbeats 16000000
theorem inK_len (vs s:List Int) (k:Nat):(inK vs s k).length≤k:=by
 unfold inK
 rw [List.length_map]
 exact Nat.le_trans (List.length_filter_le _ _) (Nat.le_of_eq List.length_range)
theorem places29_spec (va:Option Addr) (vc:Nat) (U:List Int) (sa:Option Addr) (sc:Nat) (S:List Int) (w:World) (hV:IntSl w va U) (hVl:U.length≤1000000) (hS:IntSl w sa S) (hSl:S.length≤9223372036854775807) :
  RetsX Tryz.prog 31 #[.slice va U.length vc,.slice sa S.length sc] w (fun x:SlI=>.slice x.a x.l.length x.c) (fun x w'=>x.l=inK U S U.length∧OwnT Vc.encI 1 3 w.heap.size w' x.a x.c x.l):=by
 refine enter (args:=[_,_]) Tryz.func31 rfl Tryz.ntmps31 (by kernel_rfl) rfl ?_
 refine V.seq (V.region (VL.op (R.asS rfl) (VL.nil (V.seq (V.region (VL.op (R.asS rfl) (VL.nil (V.seq (V.seq (V.region (VL.op (R.asI rfl) (VL.nil (V.block (?_))))))))))))))
 refine V.loop [0,1,5,6] (fun z:Nat×SlI=>[.slice va U.length vc,.slice sa S.length sc,.slice z.2.a z.2.l.length z.2.c,.int .i64 (z.1:Nat)])
  (fun z w'=>z.1≤U.length∧z.2.l=inK U S z.1∧OwnT Vc.encI 1 3 w.heap.size w' z.2.a z.2.c z.2.l∧Ext w w') (fun z=>U.length-z.1) (0,⟨none,0,[]⟩) rfl ⟨Nat.zero_le _,rfl,OwnT.nil _ _ _ _ _,Vc.Mod.refl _ _⟩ ?_
 rintro ρ ⟨k,x⟩ w2 ⟨hk,hx,ho,e2⟩
 dsimp only at hk hx ho e2 ⊢
 have hV2:=hV.ext e2
 have hxl:x.l.length≤k:=by rw [hx];exact inK_len _ _ _
 refine V.seq (V.seq (V.region (VL.op (R.mvI rfl) (VL.op (R.mvS rfl) (VL.op (R.lenS Tryz.runUnderlying22 rfl) (VL.op (R.lss rfl rfl) (VL.nil (V.condP rfl (fun c10=>V.skip (V.seq (V.block (V.seq (?_))))) (fun c10=>V.exit (V.seq (?_)))))))))))
 ·have hkl:k<U.length:=by omega
  have hs:=inK_succ U S k
  refine V.region (VL.op (R.mvS rfl) (VL.op (R.mvS rfl) (VL.op (R.mvI rfl) (VL.op (R.ixS Tryz.runUnderlying22 Tryz.sizeOf3 rfl rfl (by omega) (by omega) (hV2.some (i:=k) hkl)) (VL.op (R.ld1 Tryz.isAgg3 rfl (((hV2.row (i:=k) hkl).cell (i:=0) rfl))) (VL.callP Tryz.call28 rfl (in_spec sa sc S (U.getD k default) _ hSl (hS.ext (e2.trans (Mod.refl _ _)))) fun w5_5 e5_5=>VL.nil (V.cond rfl (fun c18=>V.region (VL.op (R.mvS rfl) (VL.op (R.mvI rfl) (VL.append1 el22 Tryz.runUnderlying22 Tryz.sizeOf3 Tryz.zeroValue3 rfl (((k:Nat):Int)) rfl rfl rfl (ho.ext e5_5) rfl rfl rfl (by omega) (by unfold maxLen;omega) (e2.trans e5_5).size fun a6 c6 w6 vt6 ho6 m6 hf6=>VL.op (R.asS rfl) (VL.nil (V.region (VL.op (R.mvI rfl) (VL.op (R.add rfl rfl (by omega) (by omega)) (VL.op (R.asI rfl) (VL.nil (?_))))))))))) (fun c18=>V.skip (V.region (VL.op (R.mvI rfl) (VL.op (R.add rfl rfl (by omega) (by omega)) (VL.op (R.asI rfl) (VL.nil (?_))))))))))))))
  ·refine ⟨(k+1,⟨a6,c6,x.l++[((k:Nat):Int)]⟩),by dsimp only;rw [List.length_append];rfl,⟨by dsimp only;omega,?_,ho6,(e2.trans e5_5).ownA m6 fun q hq=>ho.ge q hq⟩,by dsimp only;omega⟩
   dsimp only
   rw [hs,←hx,if_pos (of_decide_eq_true c18)]
  ·refine ⟨(k+1,x),rfl,⟨by dsimp only;omega,?_,ho.ext e5_5,e2.trans e5_5⟩,by dsimp only;omega⟩
   dsimp only
   rw [hs,←hx,if_neg (of_decide_eq_false c18),List.append_nil]
 ·have hke:k=U.length:=by omega
  subst hke
  refine V.region (VL.op (R.mvS rfl) (VL.op (R.asS rfl) (VL.nil (V.ret (fret1 (v:=.slice _ _ _) rfl rfl rfl (⟨x,rfl,⟨hx,ho⟩,e2⟩))))))
theorem named29_spec (wa:Option Addr) (wc:Nat) (W:List WyI) (sa:Option Addr) (sc:Nat) (S:List Int) (w:World) (hW:WL w wa W) (hWl:∀ y∈W,WLen y) (hWm:W.length≤1000000) (hS:IntSl w sa S) (hSl:S.length≤1000000) :
  RetsP Tryz.prog 29 #[.slice wa W.length wc,.slice sa S.length sc] w (.bool (S.any (nmW (W.map wyV)))):=by
 refine enter (args:=[_,_]) Tryz.func29 rfl Tryz.ntmps29 (by kernel_rfl) rfl ?_
 refine V.seq (V.region (VL.op (R.asB rfl) (VL.nil (V.seq (V.seq (V.region (VL.op (R.asI rfl) (VL.nil (V.block (?_))))))))))
 refine V.loop [0,1,5] (fun i:Nat=>[.slice wa W.length wc,.slice sa S.length sc,.int .i64 (i:Nat)])
  (fun i w'=>i≤W.length∧(∀ j,j<i→∀ v∈S,v∉(W.getD j default).p.l∧v∉(W.getD j default).n.l)∧Ext w w') (fun i=>W.length-i) 0 rfl ⟨Nat.zero_le _,fun j hj=>absurd hj (Nat.not_lt_zero j),Vc.Mod.refl _ _⟩ ?_
 rintro ρ i w2 ⟨hi,hb,e2⟩
 refine V.seq (V.seq (V.region (VL.op (R.mvI rfl) (VL.op (R.mvS rfl) (VL.op (R.lenS Tryz.runUnderlying26 rfl) (VL.op (R.lss rfl rfl) (VL.nil (V.condP rfl (fun c10=>V.skip (V.seq (V.block (V.seq (?_))))) (fun c10=>V.exit (V.seq (?_)))))))))))
 ·have hil:i<W.length:=by omega
  have hyl:=hWl _ (gmem hil)
  have hyp:=hyl.p
  have hyn:=hyl.n
  refine V.region (VL.op (R.asI rfl) (VL.nil (V.block (?_))))
  refine V.loop [0,1,5,6] (fun k:Nat=>[.slice wa W.length wc,.slice sa S.length sc,.int .i64 (i:Nat),.int .i64 (k:Nat)])
   (fun k w'=>k≤S.length∧(∀ t,t<k→S.getD t default∉(W.getD i default).p.l∧S.getD t default∉(W.getD i default).n.l)∧Ext w2 w') (fun k=>S.length-k) 0 rfl ⟨Nat.zero_le _,fun j hj=>absurd hj (Nat.not_lt_zero j),Vc.Mod.refl _ _⟩ ?_
  rintro ρ k w3 ⟨hk,hb2,e3⟩
  have E3:Ext w w3:=e2.trans e3
  have hW3:=hW.ext E3
  have hS3:=hS.ext E3
  refine V.seq (V.seq (V.region (VL.op (R.mvI rfl) (VL.op (R.mvS rfl) (VL.op (R.lenS Tryz.runUnderlying22 rfl) (VL.op (R.lss rfl rfl) (VL.nil (V.condP rfl (fun c16=>V.skip (V.seq (V.block (V.seq (?_))))) (fun c16=>V.exit (V.region (VL.op (R.mvI rfl) (VL.op (R.add rfl rfl (by omega) (by omega)) (VL.op (R.asI rfl) (VL.nil (?_)))))))))))))))
  ·have hkl:k<S.length:=by omega
   have hin:∀ {w':World} (v:Int),Ext w3 w'→RetsP Tryz.prog 28 #[.slice (W.getD i default).p.a (W.getD i default).p.l.length (W.getD i default).p.c,.int .i64 v] w' (.bool (decide (v∈(W.getD i default).p.l))):=fun v e=>in_spec _ _ _ v _ (by omega) ((hW3.at hil).p.ext e)
   have hin2:∀ {w':World} (v:Int),Ext w3 w'→RetsP Tryz.prog 28 #[.slice (W.getD i default).n.a (W.getD i default).n.l.length (W.getD i default).n.c,.int .i64 v] w' (.bool (decide (v∈(W.getD i default).n.l))):=fun v e=>in_spec _ _ _ v _ (by omega) ((hW3.at hil).n.ext e)
   refine V.regionQCut mixed 22 (by kernel_rfl) rfl (fun w'=>Ext _ w') (Ext.drawn _) [19,20,21,22,23,24,25,26,27,28,29,30,31,32,33,34,35,36,37,38,39,40] 40 (.bool (decide (S.getD k default∈(W.getD i default).p.l)||decide (S.getD k default∈(W.getD i default).n.l))) rfl (VQ.op (fun wq eq=>R.mvS rfl) (VQ.op (fun wq eq=>R.mvI rfl) (VQ.op (fun wq eq=>R.ixS Tryz.runUnderlying26 Tryz.sizeOf53 rfl rfl (by omega) (by omega) (hW3.sl.some (i:=i) hil)) (VQ.op (fun wq eq=>R.fld' (o:=0) Tryz.runUnderlying53 rfl rfl Tryz.sizeOf22 rfl rfl) (VQ.op (fun wq eq=>R.ld1 Tryz.isAgg22 rfl ((((hW3.ext eq).sl.row (i:=i) hil).cell (i:=0) rfl))) (VQ.op (fun wq eq=>R.mvS rfl) (VQ.op (fun wq eq=>R.mvI rfl) (VQ.op (fun wq eq=>R.ixS Tryz.runUnderlying22 Tryz.sizeOf3 rfl rfl (by omega) (by omega) (hS3.some (i:=k) hkl)) (VQ.op (fun wq eq=>R.ld1 Tryz.isAgg3 rfl ((((hS3.ext eq).row (i:=k) hkl).cell (i:=0) rfl))) (VQ.callP (fun _ _ h k=>Mod.trans h k) Tryz.call28 rfl (fun wq eq=>hin _ eq) (VQ.op (fun wq eq=>R.mvB rfl) (VQ.or rfl rfl (fun g7_10=>VQ.op (fun wq eq=>R.mvS rfl) (VQ.gT rfl rfl (VQ.op (fun wq eq=>R.mvI rfl) (VQ.gT rfl rfl (VQ.op (fun wq eq=>R.ixS Tryz.runUnderlying26 Tryz.sizeOf53 rfl rfl (by omega) (by omega) (hW3.sl.some (i:=i) hil)) (VQ.gT rfl rfl (VQ.op (fun wq eq=>R.fld' (o:=1) Tryz.runUnderlying53 rfl rfl Tryz.sizeOf22 rfl rfl) (VQ.gT rfl rfl (VQ.op (fun wq eq=>R.ld1 Tryz.isAgg22 rfl ((((hW3.ext eq).sl.row (i:=i) hil).cell (i:=1) rfl))) (VQ.gT rfl rfl (VQ.op (fun wq eq=>R.mvS rfl) (VQ.gT rfl rfl (VQ.op (fun wq eq=>R.mvI rfl) (VQ.gT rfl rfl (VQ.op (fun wq eq=>R.ixS Tryz.runUnderlying22 Tryz.sizeOf3 rfl rfl (by omega) (by omega) (hS3.some (i:=k) hkl)) (VQ.gT rfl rfl (VQ.op (fun wq eq=>R.ld1 Tryz.isAgg3 rfl ((((hS3.ext eq).row (i:=k) hkl).cell (i:=0) rfl))) (VQ.gT rfl rfl (VQ.callP (fun _ _ h k=>Mod.trans h k) Tryz.call28 rfl (fun wq eq=>hin2 _ eq) (VQ.op (fun wq eq=>R.pickFB rfl rfl) (VQ.nil (cutB rfl ?_)))))))))))))))))))))) (fun g7_10=>VQ.gF rfl rfl (VQ.gF rfl rfl (VQ.gF rfl rfl (VQ.gF rfl rfl (VQ.gF rfl rfl (VQ.gF rfl rfl (VQ.gF rfl rfl (VQ.gF rfl rfl (VQ.gF rfl rfl (VQ.op (fun wq eq=>R.pickTB rfl rfl) (VQ.nil (cutB rfl ?_)))))))))))))))))))))))) (fun rg7 w7c e7c=>V.cond rfl (fun c40=>V.seq (V.region (VL.op (R.asB rfl) (VL.nil (V.ret (fret1 (v:=.bool _) rfl rfl rfl (?_))))))) (fun c40=>V.skip (V.region (VL.op (R.mvI rfl) (VL.op (R.add rfl rfl (by omega) (by omega)) (VL.op (R.asI rfl) (VL.nil (?_))))))))
   ·rw [g7_10];rfl
   ·rw [g7_10];rfl
   ·refine ⟨?_,E3.trans e7c⟩
    have:S.any (nmW (W.map wyV))=true:=List.any_eq_true.2 ⟨S.getD k default,gmem hkl,List.any_eq_true.2 ⟨wyV (W.getD i default),List.mem_map_of_mem (gmem hil),c40⟩⟩
    rw [this]
   ·refine ⟨k+1,rfl,⟨by omega,fun t ht=>?_,e3.trans e7c⟩,by omega⟩
    by_cases e:t=k
    ·subst e
     rw [Bool.or_eq_false_iff] at c40
     exact ⟨of_decide_eq_false c40.1,of_decide_eq_false c40.2⟩
    ·exact hb2 t (by omega)
  ·have hke:k=S.length:=by omega
   subst hke
   refine ⟨i+1,rfl,⟨by omega,fun j hj v hv=>?_,E3⟩,by omega⟩
   by_cases e:j=i
   ·subst e
    obtain ⟨t,ht,rfl⟩:=List.getElem_of_mem hv
    have:=hb2 t ht
    rwa [gget ht] at this
   ·exact hb j (by omega) v hv
 ·have hie:i=W.length:=by omega
  subst hie
  refine V.region (VL.op (R.asB rfl) (VL.nil (V.ret (fret1 (v:=.bool _) rfl rfl rfl (⟨?_,e2⟩)))))
  have:S.any (nmW (W.map wyV))=false:=by
   rw [List.any_eq_false]
   intro v hv hn
   obtain ⟨x,hx,h1⟩:=List.any_eq_true.1 hn
   obtain ⟨y,hy,rfl⟩:=List.mem_map.1 hx
   obtain ⟨j,hj,rfl⟩:=List.getElem_of_mem hy
   have:=hb j hj v hv
   rw [gget hj] at this
   rw [Bool.or_eq_true,decide_eq_true_eq,decide_eq_true_eq] at h1
   exact h1.elim this.1 this.2
  rw [this]
end Go.Proofs.YtdbcfpcicjgghaaGreatDoor

/- Solve: the walk of law SolveParts. -/
namespace Go.Proofs.YtdbcfpcicjgghaaGreatDoor
open Go.Vc
set_option maxRecDepth 100000
set_option maxHeartbeats 16000000
theorem GNew.valid {w w':World} {g:GrW} (h:GNew w w' g) (hv:validG (grV g)=true):GLen g:=by
 obtain ⟨h1,h2,h3,_⟩:=validG_iff.1 hv
 have hc:=costB_iff.1 h1
 exact h.glen rfl (by have h0:(grV g).n≤4000:=hc.2.1;have h4:=hc.2.2.1;omega) (by omega) (List.all_eq_true.2 fun e he=>decide_eq_true (h3 e he).1)
theorem cmA_succ {g:Gr} {W:List Wy} {k v:Nat} (h:k<(compsG g).length):cmA g W (k+1) v=(cmA g W k v||(decide ((v:Int)∈(compsG g).getD k default)&&((compsG g).getD k default).any (nmW W))):=by
 unfold cmA
 rw [take_snoc h,List.any_append,List.any_cons,List.any_nil,Bool.or_false]
theorem cmA_one {g:Gr} (hg:validG g=true) {W:List Wy} {k v:Nat} (h:k<(compsG g).length) (hv:(v:Int)∈(compsG g).getD k default):cmA g W k v=false:=by
 rw [Bool.eq_false_iff]
 intro hc
 unfold cmA at hc
 obtain ⟨c,h1,h2⟩:=List.any_eq_true.1 hc
 rw [Bool.and_eq_true,decide_eq_true_eq] at h2
 obtain ⟨j,hj,rfl⟩:=List.getElem_of_mem h1
 rw [List.length_take] at hj
 rw [List.getElem_take] at h2
 have:=comp_ix hg (i:=j) (j:=k) (by omega) h (by rw [gget (by omega)];exact h2.1) hv
 omega
structure WyE (w:World) (y:WyI):Prop where
 ok:WyOk w y
 tp:TyA w y.p.a 3
 tn:TyA w y.n.a 3
 hp:y.p.a=none→y.p.c=0
 hn:y.n.a=none→y.n.c=0
theorem WyE.ext {w w':World} {y:WyI} (h:WyE w y) (e:Ext w w'):WyE w' y:=⟨h.ok.ext e,h.tp.ext e,h.tn.ext e,h.hp,h.hn⟩
theorem WyE.mod {w w':World} {y:WyI} {a:Option Addr} (h:WyE w y) (ht:TyA w a 53) (m:Vc.Mod (aBlk a) w w'):WyE w' y:=by
 have key:∀ {l:Option Addr},TyA w l 3→∀ k,aBlk l k→¬aBlk a k:=fun hl k hk hk2=>by
  obtain ⟨ad,ha,hb⟩:=hk2
  obtain ⟨c,z,hB⟩:=ht ad ha
  exact hl.apart (hb▸hB) (by decide) hk
 exact ⟨⟨h.ok.p.mod m fun ad e=>key h.tp _ ⟨ad,e,rfl⟩,h.ok.n.mod m fun ad e=>key h.tn _ ⟨ad,e,rfl⟩⟩,h.tp.mod m (key h.tp),h.tn.mod m (key h.tn),h.hp,h.hn⟩
theorem parts29_law (g:GrW) (wa:Option Addr) (wc:Nat) (W:List WyI) (B:Nat) (w:World) (hI:GIn w g) (hW:WIn29 w wa W) (hB:B≤w.heap.size) (hT:TabW B w) :
  RetsP Tryz.prog 8 #[.agg (encGr g).toArray,.slice wa W.length wc] w (.bool true):=by
 refine enter (args:=[_,_]) Tryz.func8 rfl Tryz.ntmps8 (by kernel_rfl) rfl ?_
 refine V.seq (V.region (VL.box (v:=.agg _) rfl fun b0_0 w0_0 hb0_0 e0_0 hB0_0=>VL.op (R.asB rfl) (VL.nil (V.seq (V.region (VL.callP Tryz.call10 rfl (head29_spec B _ (Nat.le_trans hB (Vc.Mod.size e0_0)) (hT.ext hB e0_0)) fun w1_0 e1_0=>VL.op (R.asB rfl) (VL.nil (V.seq (V.seq (V.region (VL.op (R.ldA Tryz.isAgg25 Tryz.sizeOf25 rfl rfl ((show RowAt _ _ _ (encGr g) from (hB0_0.ext e1_0).rowAt 0 3)) rfl) (VL.op (R.mvS rfl) (VL.callX Tryz.call11 rfl (few29_spec g wa wc W 14 _ (hI.ext (e0_0.trans e1_0)) (hW.ok.ext (e0_0.trans e1_0)) hW.m hW.e) fun b2 w2 h2 e2=>VL.op (R.not rfl) (VL.nil (V.cond rfl (fun c22=>V.seq (V.region (VL.op (R.mvB rfl) (VL.op (R.asB rfl) (VL.nil (V.ret (fret1 (v:=.bool _) rfl rfl rfl (⟨rfl,((e0_0.trans e1_0).trans e2)⟩)))))))) (fun c22=>V.skip (V.seq (?_))))))))))))))))))
 have hf:=h2 (by simpa using c22)
 have hgl:=hI.glen hf.e
 have hwl:=hf.w.wl (by decide)
 have hw12:=hf.w.w
 have hgn:=hf.n
 have hgv:(grV g).n=g.n:=rfl
 have E2:Ext w w2:=e0_0.trans (e1_0.trans e2)
 have hX2:=hB0_0.ext (e1_0.trans e2)
 refine V.region (VL.op (R.ldA Tryz.isAgg25 Tryz.sizeOf25 rfl rfl ((show RowAt _ _ _ (encGr g) from hX2.rowAt 0 3)) rfl) (VL.op (R.mvS rfl) (VL.callX Tryz.call13 rfl (decide29_spec g wa wc W B w2 (hI.ok.ext E2) hgl (hW.ok.ext E2) hwl hW.h (by omega) (Nat.le_trans hB E2.size) (hT.ext hB E2)) fun z4 w4 h4 e4=>VL.op (R.mvT rfl) (VL.op (R.extr rfl rfl) (VL.op (R.extr rfl rfl) (VL.allocSt (v:=.agg _) Tryz.zeroValue33 Tryz.sizeOf33 rfl rfl rfl rfl rfl fun b4_6 w4_6 hb4_6 e4_6 hB4_6=>VL.op (R.asI rfl) (VL.nil (V.seq (V.seq (?_))))))))))
 have E4:Ext w w4_6:=E2.trans (e4.trans e4_6)
 have hX4:=hX2.ext (e4.trans e4_6)
 have hY4:Blk w4_6 b4_6 (.cells (Value.agg (encCm z4.1).toArray).cells 33 (0,0)):=hB4_6
 have hD4:=h4.e
 have hi4:=h4.i.ext e4_6
 have ho4:=h4.o.ext e4_6
 clear hB4_6
 refine V.region (VL.op (R.mvI rfl) (VL.op (R.neq rfl rfl) (VL.nil (V.condP rfl (fun c31=>V.seq (V.region (VL.op (R.mvB rfl) (VL.op (R.asB rfl) (VL.nil (V.ret (fret1 (v:=.bool _) rfl rfl rfl (⟨rfl,E4⟩)))))))) (fun c31=>V.skip (V.seq (?_)))))))
 have hz:(decideF (grV g) (W.map wyV)).2=0:=by rw [←hD4];simpa using c31
 have he:errG (grV g) (W.map wyV)=0:=Classical.byContradiction fun he=>by rw [decide_err he] at hz;exact he hz
 have hr:=err_ready he
 have hv:=(ready_ok hr true []).v
 have hcb:=costB_iff.1 (validG_iff.1 hv).1
 obtain ⟨N,hN⟩:∃ N:Nat,g.n=(N:Int):=⟨g.n.toNat,by have h0:0≤g.n:=hcb.1;omega⟩
 have hN14:N≤14:=by omega
 obtain ⟨q1,q2,q3,q4⟩:=dc_part (g:=grV g) (W:=W.map wyV) (n:=N) hN (by omega) hz
 refine V.region (VL.op (R.ldA Tryz.isAgg25 Tryz.sizeOf25 rfl rfl ((show RowAt _ _ _ (encGr g) from hX4.rowAt 0 3)) rfl) (VL.callX Tryz.call27 rfl (comps_specG g B _ (hI.ok.ext E4) hgl (Nat.le_trans hB E4.size) (hT.ext hB E4)) fun z w7 h7 e7=>VL.op (R.asS rfl) (VL.nil (V.seq (?_)))))
 obtain ⟨hzv,hzL⟩:=h7
 obtain ⟨L,za,zc⟩:=z
 dsimp only at hzv hzL ⊢
 have hL7:=hzL.LL
 have E7:Ext w w7:=E4.trans e7
 have hX7:=hX4.ext e7
 have hC:∀ k,k<L.length→(compsG (grV g)).getD k default=(L.getD k default).l:=fun k hk=>by rw [←hzv];exact gmap SlI.l L default hk
 have hCl:(compsG (grV g)).length=L.length:=by rw [←hzv];exact List.length_map _
 have hCn:=ncomps_len hv
 have hLm:L.length≤14:=by rw [hgv,hN] at hCn;omega
 have hCr:∀ k,k<L.length→(L.getD k default).l.length≤14:=fun k hk=>by
  have hm:(L.getD k default).l∈compsG (grV g):=by rw [←hzv];exact List.mem_map_of_mem (gmem hk)
  have hs:=setB_iff.1 (comps_set hv hm)
  rw [hgv,hN] at hs
  have:=set_len hs.1 hs.2 (by omega)
  omega
 obtain ⟨us,hus⟩:∃ us,us=W.map wyV:=⟨_,rfl⟩
 refine V.region (VL.op (R.asS rfl) (VL.nil (V.seq (V.seq (V.region (VL.op (R.asI rfl) (VL.nil (V.block (?_)))))))))
 refine V.loop [1,2,5,6,8,9,10] (fun z:Nat×SlI=>[.slice wa W.length wc,.pointer (some ⟨b0_0,0,none⟩),.bool true,.pointer (some ⟨b4_6,0,none⟩),.slice za L.length zc,.slice z.2.a z.2.l.length z.2.c,.int .i64 (z.1:Nat)])
  (fun z w'=>z.1≤N∧z.2.l=vsW (grV g) us z.1∧OwnT Vc.encI 1 3 w7.heap.size w' z.2.a z.2.c z.2.l∧Ext w7 w') (fun z=>N-z.1) (0,⟨none,0,[]⟩) rfl ⟨Nat.zero_le _,rfl,OwnT.nil _ _ _ _ _,Vc.Mod.refl _ _⟩ ?_
 rintro ρ ⟨v,x⟩ w10 ⟨hvN,hx,ho,e10⟩
 dsimp only at hvN hx ho e10 ⊢
 have hX10:=hX7.ext e10
 refine V.seq (V.seq (V.region (VL.op (R.mvI rfl) (VL.op (R.fld' (o:=0) Tryz.runUnderlying25 rfl rfl Tryz.sizeOf3 rfl rfl) (VL.op (R.ld1 Tryz.isAgg3 rfl ((show w10.cell? ⟨b0_0,0,none⟩=some (Value.int .i64 ((N:Nat):Int)) from by rw [←hN];exact hX10.cell 0))) (VL.op (R.lss rfl rfl) (VL.nil (V.condP rfl (fun c38=>V.skip (V.seq (V.block (V.seq (?_))))) (fun c38=>V.exit (V.seq (?_)))))))))))
 ·have hvl:v<N:=by omega
  refine V.region (VL.op (R.asI rfl) (VL.nil (V.block (?_))))
  refine V.loop [1,2,5,6,8,9,10,11] (fun z:Nat×SlI=>[.slice wa W.length wc,.pointer (some ⟨b0_0,0,none⟩),.bool true,.pointer (some ⟨b4_6,0,none⟩),.slice za L.length zc,.slice z.2.a z.2.l.length z.2.c,.int .i64 (v:Nat),.int .i64 (z.1:Nat)])
   (fun z w'=>z.1≤L.length∧z.2.l=vsW (grV g) us v++(if cmA (grV g) us z.1 v=true then [((v:Nat):Int)] else [])∧OwnT Vc.encI 1 3 w7.heap.size w' z.2.a z.2.c z.2.l∧Ext w7 w') (fun z=>L.length-z.1) (0,x) rfl ⟨Nat.zero_le _,by rw [hx];show _=_++[];rw [List.append_nil],ho,e10⟩ ?_
  rintro ρ ⟨i,y⟩ w13 ⟨hi,hy,ho2,e13⟩
  dsimp only at hi hy ho2 e13 ⊢
  have E13:Ext w w13:=E7.trans e13
  have hL13:=hL7.ext e13
  refine V.seq (V.seq (V.region (VL.op (R.mvI rfl) (VL.op (R.mvS rfl) (VL.op (R.lenS Tryz.runUnderlying23 rfl) (VL.op (R.lss rfl rfl) (VL.nil (V.condP rfl (fun c44=>V.skip (V.seq (V.block (V.seq (?_))))) (fun c44=>V.exit (V.region (VL.op (R.mvI rfl) (VL.op (R.add rfl rfl (by omega) (by omega)) (VL.op (R.asI rfl) (VL.nil (?_)))))))))))))))
  ·have hil:i<L.length:=by omega
   have hcl:=hCr i hil
   have hcs:=cmA_succ (g:=grV g) (W:=us) (v:=v) (k:=i) (by omega)
   rw [hC i hil] at hcs
   have hyl:y.l.length≤15:=by
    rw [hy,List.length_append]
    have h1:(vsW (grV g) us v).length≤v:=by
     unfold vsW pickI
     rw [List.length_map]
     exact Nat.le_trans (List.length_filter_le _ _) (Nat.le_of_eq List.length_range)
    split <;> simp <;> omega
   refine V.region (VL.op (R.mvS rfl) (VL.op (R.mvI rfl) (VL.op (R.ixS Tryz.runUnderlying23 Tryz.sizeOf22 rfl rfl (by omega) (by omega) (hL13.sl.some (i:=i) hil)) (VL.op (R.ld1 Tryz.isAgg22 rfl (((hL13.sl.row (i:=i) hil).cell (i:=0) rfl))) (VL.op (R.mvI rfl) (VL.callP Tryz.call28 rfl (in_spec _ _ _ ((v:Nat):Int) _ (by omega) ((hL13.at hil).ext (Mod.refl _ _))) fun w15_5 e15_5=>VL.op (R.mvB rfl) (VL.and rfl rfl (fun g15_6=>VL.op (R.mvS rfl) (VL.gT rfl rfl (VL.op (R.mvS rfl) (VL.gT rfl rfl (VL.op (R.mvI rfl) (VL.gT rfl rfl (VL.op (R.ixS Tryz.runUnderlying23 Tryz.sizeOf22 rfl rfl (by omega) (by omega) ((hL13.ext e15_5).sl.some (i:=i) hil)) (VL.gT rfl rfl (VL.op (R.ld1 Tryz.isAgg22 rfl ((((hL13.ext e15_5).sl.row (i:=i) hil).cell (i:=0) rfl))) (VL.gT rfl rfl (VL.callP Tryz.call29 rfl (named29_spec wa wc W _ _ _ _ (hW.ok.ext (E13.trans e15_5)) hwl (by omega) ((hL13.at hil).ext e15_5) (by omega)) fun w15_12 e15_12=>VL.op (R.pickTB rfl rfl) (VL.nil (V.cond rfl (fun c60=>?_) (fun c60=>V.skip (V.region (VL.op (R.mvI rfl) (VL.op (R.add rfl rfl (by omega) (by omega)) (VL.op (R.asI rfl) (VL.nil (?_)))))))))))))))))))) (fun g15_6=>VL.gF rfl rfl (VL.gF rfl rfl (VL.gF rfl rfl (VL.gF rfl rfl (VL.gF rfl rfl (VL.op (R.pickFB rfl rfl) (VL.nil (V.condF rfl (V.skip (V.region (VL.op (R.mvI rfl) (VL.op (R.add rfl rfl (by omega) (by omega)) (VL.op (R.asI rfl) (VL.nil (?_))))))))))))))))))))))
   ·have e15:=e15_5.trans e15_12
    have h1:(v:Int)∈(L.getD i default).l:=of_decide_eq_true g15_6
    have h0:cmA (grV g) us i v=false:=cmA_one hv (by omega) (by rw [hC i hil];exact h1)
    rw [h0,if_neg (by decide),List.append_nil] at hy
    rw [h0,g15_6,hus,c60] at hcs
    refine V.region (VL.op (R.mvS rfl) (VL.op (R.mvI rfl) (VL.append1 el22 Tryz.runUnderlying22 Tryz.sizeOf3 Tryz.zeroValue3 rfl (((v:Nat):Int)) rfl rfl rfl (ho2.ext e15) rfl rfl rfl (by omega) (by unfold maxLen;omega) (e13.trans e15).size fun a16 c16 w16 vt16 ho16 m16 hf16=>VL.op (R.asS rfl) (VL.nil (V.region (VL.op (R.mvI rfl) (VL.op (R.add rfl rfl (by omega) (by omega)) (VL.op (R.asI rfl) (VL.nil (?_))))))))))
    refine ⟨(i+1,⟨a16,c16,y.l++[((v:Nat):Int)]⟩),by dsimp only;rw [List.length_append];rfl,⟨by dsimp only;omega,?_,ho16,(e13.trans e15).ownA m16 fun q hq=>ho2.ge q hq⟩,by dsimp only;omega⟩
    dsimp only
    rw [hus,hcs,if_pos (by decide),hy,hus]
   ·refine ⟨(i+1,y),rfl,⟨by dsimp only;omega,?_,ho2.ext (e15_5.trans e15_12),e13.trans (e15_5.trans e15_12)⟩,by dsimp only;omega⟩
    dsimp only
    rw [hcs,g15_6,hus,c60,Bool.and_false,Bool.or_false,hy,hus]
   ·refine ⟨(i+1,y),rfl,⟨by dsimp only;omega,?_,ho2.ext e15_5,e13.trans e15_5⟩,by dsimp only;omega⟩
    dsimp only
    rw [hcs,g15_6,Bool.false_and,Bool.or_false,hy]
  ·have hie:i=L.length:=by omega
   subst hie
   refine ⟨(v+1,y),rfl,⟨by dsimp only;omega,?_,ho2,e13⟩,by dsimp only;omega⟩
   dsimp only
   rw [hy]
   unfold vsW
   rw [pickI_succ,hCl]
 ·have hvn:v=N:=by omega
  subst hvn
  obtain ⟨U,hU⟩:∃ U,U=vsW (grV g) us v:=⟨_,rfl⟩
  rw [←hU] at hx
  rw [←hus,←hU] at q1 q2 q3 q4
  have hUw:Whole (grV g) U:=by rw [hU,hus];exact vsW_whole hv hN
  have hUs:=setB_iff.1 hUw.set
  have hUl:=set_len hUs.1 hUs.2 (by omega)
  have hpf:partF (grV g) x.l=(partG (grV g) U,0):=by
   rw [hx]
   unfold partF
   rw [if_pos ⟨hv,hUw.set⟩]
  have E10:Ext w w10:=E7.trans e10
  refine V.region (VL.op (R.ldA Tryz.isAgg25 Tryz.sizeOf25 rfl rfl ((show RowAt _ _ _ (encGr g) from hX10.rowAt 0 3)) rfl) (VL.op (R.mvS rfl) (VL.callX Tryz.call30 rfl (part_spec g x.a x.c x.l B _ (hI.ok.ext E10) hgl ho.sl (by rw [hx];omega) (Nat.le_trans hB E10.size) (hT.ext hB E10)) fun z17 w17 h17 e17=>VL.op (R.mvT rfl) (VL.op (R.extr rfl rfl) (VL.op (R.extr rfl rfl) (VL.allocSt (v:=.agg _) Tryz.zeroValue25 Tryz.sizeOf25 rfl rfl rfl rfl rfl fun b17_6 w17_6 hb17_6 e17_6 hB17_6=>VL.op (R.asI rfl) (VL.nil (V.seq (?_)))))))))
  obtain ⟨hpv,hpg,-⟩:=h17
  rw [hpf] at hpv
  have hgp:grV z17.1=partG (grV g) U:=congrArg Prod.fst hpv
  have hzp:z17.2=0:=congrArg Prod.snd hpv
  have hglp:GLen z17.1:=hpg.valid (by rw [hgp];exact part_valid hv hUw.set)
  have E17:Ext w w17_6:=E10.trans (e17.trans e17_6)
  have hXP:Blk w17_6 b17_6 (.cells (Value.agg (encGr z17.1).toArray).cells 25 (0,0)):=hB17_6
  clear hB17_6
  have e17':Ext w4_6 w17_6:=e7.trans (e10.trans (e17.trans e17_6))
  have hY17:=hY4.ext e17'
  have hi17:=hi4.ext e17'
  have ho17:=ho4.ext e17'
  have hx17:=ho.sl.ext (e17.trans e17_6)
  have hxl:x.l.length≤14:=by rw [hx];omega
  refine V.region (VL.op (R.asS rfl) (VL.nil (V.seq (V.seq (V.region (VL.op (R.asI rfl) (VL.nil (V.block (?_)))))))))
  refine V.loop [1,5,6,9,12,13,14,15] (fun z:Nat×List WyI×Option Addr×Nat=>[.slice wa W.length wc,.bool true,.pointer (some ⟨b4_6,0,none⟩),.slice x.a x.l.length x.c,.pointer (some ⟨b17_6,0,none⟩),.int .i64 z17.2,.slice z.2.2.1 z.2.1.length z.2.2.2,.int .i64 (z.1:Nat)])
   (fun z w'=>z.1≤W.length∧z.2.1.map wyV=(us.take z.1).map (mvW U)∧OwnT encWy 2 53 w17_6.heap.size w' z.2.2.1 z.2.2.2 z.2.1∧(∀ y∈z.2.1,WyE w' y∧y.p.l.length≤14∧y.n.l.length≤14)∧Ext w17_6 w') (fun z=>W.length-z.1) (0,[],none,0) rfl ⟨Nat.zero_le _,rfl,OwnT.nil _ _ _ _ _,fun y hy=>(nomatch hy),Vc.Mod.refl _ _⟩ ?_
  rintro ρ ⟨k,M,ma,mc⟩ w20 ⟨hk,hM,hMo,hMe,e20⟩
  dsimp only at hk hM hMo hMe e20 ⊢
  have E20:Ext w w20:=E17.trans e20
  have hW20:=hW.ok.ext E20
  have hx20:=hx17.ext e20
  have hMl:M.length=k:=by
   have:=congrArg List.length hM
   rw [List.length_map,List.length_map,List.length_take,hus,List.length_map] at this
   omega
  refine V.seq (V.seq (V.region (VL.op (R.mvI rfl) (VL.op (R.mvS rfl) (VL.op (R.lenS Tryz.runUnderlying26 rfl) (VL.op (R.lss rfl rfl) (VL.nil (V.condP rfl (fun c74=>V.skip (V.seq (V.block (?_)))) (fun c74=>V.exit (V.seq (?_)))))))))))
  ·have hkl:k<W.length:=by omega
   obtain ⟨y0,hy0⟩:∃ y0,y0=W.getD k default:=⟨_,rfl⟩
   have hyl:=hwl _ (gmem hkl)
   rw [←hy0] at hyl
   have hyp:=hyl.p
   have hyn:=hyl.n
   have hy20:∀ {w':World},Ext w20 w'→WyOk w' y0:=fun e=>by rw [hy0];exact (hW20.at hkl).ext e
   have hidx:∀ {w':World},Ext w20 w'→RowAt w' (eAddr wa 2 k).block (eAddr wa 2 k).off (encWy y0):=fun e=>by rw [hy0];exact (hW20.ext e).sl.row (i:=k) hkl
   refine V.regionS mixed 17 (by kernel_rfl) rfl (fun vs=>VS.op (fun wq eq=>R.mvS rfl) (VS.op (fun wq eq=>R.mvS rfl) (VS.op (fun wq eq=>R.mvS rfl) (VS.op (fun wq eq=>R.mvI rfl) (VS.op (fun wq eq=>R.ixS Tryz.runUnderlying26 Tryz.sizeOf53 rfl rfl (by omega) (by omega) (hW20.sl.some (i:=k) hkl)) (VS.op (fun wq eq=>R.fld' (o:=0) Tryz.runUnderlying53 rfl rfl Tryz.sizeOf22 rfl rfl) (VS.op (fun wq eq=>R.ld1 Tryz.isAgg22 rfl (((hidx eq).cell (i:=0) rfl))) (VS.callX (fun u w'=>∃ s:SlI,u=.slice s.a s.l.length s.c∧s.l=inK U y0.p.l U.length∧IntSl w' s.a s.l∧TyA w' s.a 3∧(s.a=none→s.c=0)) (fun u a b _ ⟨s,h1,h2,h3,h4,h5⟩ eb=>⟨s,h1,h2,h3.ext eb,h4.ext eb,h5⟩) Tryz.call31 rfl (fun wq eq hq=>by
     refine Rets.mono (places29_spec x.a x.c x.l y0.p.a y0.p.c y0.p.l wq (hx20.ext eq) (by omega) (hy20 eq).p (by omega)) ?_
     rintro u w' ⟨s,rfl,⟨h1,h2⟩,he⟩
     rw [hx] at h1
     exact ⟨⟨s,rfl,h1,h2.sl,OwnT.tyA h2,fun h=>h2.hax h⟩,he⟩) (VS.op (fun wq eq=>R.mvS rfl) (VS.op (fun wq eq=>R.mvS rfl) (VS.op (fun wq eq=>R.mvI rfl) (VS.op (fun wq eq=>R.ixS Tryz.runUnderlying26 Tryz.sizeOf53 rfl rfl (by omega) (by omega) (hW20.sl.some (i:=k) hkl)) (VS.op (fun wq eq=>R.fld' (o:=1) Tryz.runUnderlying53 rfl rfl Tryz.sizeOf22 rfl rfl) (VS.op (fun wq eq=>R.ld1 Tryz.isAgg22 rfl (((hidx eq).cell (i:=1) rfl))) (VS.callX (fun u w'=>∃ s:SlI,u=.slice s.a s.l.length s.c∧s.l=inK U y0.n.l U.length∧IntSl w' s.a s.l∧TyA w' s.a 3∧(s.a=none→s.c=0)) (fun u a b _ ⟨s,h1,h2,h3,h4,h5⟩ eb=>⟨s,h1,h2,h3.ext eb,h4.ext eb,h5⟩) Tryz.call31 rfl (fun wq eq hq=>by
     refine Rets.mono (places29_spec x.a x.c x.l y0.n.a y0.n.c y0.n.l wq (hx20.ext eq) (by omega) (hy20 eq).n (by omega)) ?_
     rintro u w' ⟨s,rfl,⟨h1,h2⟩,he⟩
     rw [hx] at h1
     exact ⟨⟨s,rfl,h1,h2.sl,OwnT.tyA h2,fun h=>h2.hax h⟩,he⟩) (VS.spec (fun u w'=>∃ y:WyI,u=.agg (encWy y).toArray∧wyV y=mvW U (wyV y0)∧WyE w' y) (fun u a b _ ⟨s,h1,h2,h3⟩ eb=>⟨s,h1,h2,h3.ext eb⟩) rfl (fun wq eq hq=>by
     obtain ⟨s,hs,s1,s2,s3,s4⟩:=hq 7 (by kernel_rfl)
     obtain ⟨r,hr,r1,r2,r3,r4⟩:=hq 14 (by kernel_rfl)
     rw [show vs 7=_ from hs,show vs 14=_ from hr]
     exact yieldsR_op (R.build Tryz.zeroValue53 Tryz.runUnderlying53 pl53 rfl) ⟨⟨⟨s,r⟩,rfl,by unfold mvW wyV;dsimp only;rw [s1,r1],⟨⟨s2,r2⟩,s3,r3,s4,r4⟩⟩,Vc.Mod.refl _ _⟩) (VS.spec (fun u w'=>∃ (b:Nat) (y:WyI),u=.slice (some ⟨b,0,none⟩) 1 1∧OwnT encWy 2 53 w20.heap.size w' (some ⟨b,0,none⟩) 1 [y]∧wyV y=mvW U (wyV y0)∧WyE w' y) (fun u a b _ ⟨c,s,h1,h2,h3,h4⟩ eb=>⟨c,s,h1,h2.ext eb,h3,h4.ext eb⟩) rfl (fun wq eq hq=>by
     obtain ⟨y,hy,y1,y2⟩:=hq 15 (by kernel_rfl)
     rw [show vs 15=_ from hy]
     exact yieldsR_build1 Tryz.runUnderlying26 Tryz.sizeOf53 Tryz.zeroValue53 rfl rfl rfl y rfl rfl rfl eq.size fun b w2 ho he=>⟨⟨b,y,rfl,ho,y1,y2.ext he⟩,he⟩) (VS.nil (fun w22 e22 h22=>?_))))))))))))))))))) rfl
   obtain ⟨b,y,hu,hyo,y1,y2⟩:=h22 16
   rw [show vs 16=_ from hu]
   refine VL.appendT el26 (fun _=>rfl) rfl (rfl) ((hMo.ext e22)) rfl (rfl) (hyo.sl) ((fun h=>nomatch h)) (by simp;omega) (by simp [maxLen];omega) (Vc.Mod.size (e20.trans e22)) (show M.length+1=(M++[y]).length by simp) fun a5 c5 w5 ho5 m5 hf5=>VL.op (R.asS rfl) (VL.nil (V.region (VL.op (R.mvI rfl) (VL.op (R.add rfl rfl (by omega) (by omega)) (VL.op (R.asI rfl) (VL.nil (?_)))))))
   have e25:Ext w17_6 w5:=(e20.trans e22).ownA m5 fun q hq=>hMo.ge q hq
   have hyl2:y.p.l.length≤14∧y.n.l.length≤14:=by
    have h1:y.p.l=inK U y0.p.l U.length:=congrArg Wy.pos y1
    have h2:y.n.l=inK U y0.n.l U.length:=congrArg Wy.neg y1
    have h3:=inK_len U y0.p.l U.length
    have h4:=inK_len U y0.n.l U.length
    rw [h1,h2]
    omega
   refine ⟨(k+1,M++[y],a5,c5),rfl,⟨by dsimp only;omega,?_,ho5,fun t ht=>?_,e25⟩,by dsimp only;omega⟩
   ·dsimp only
    rw [List.map_append,hM,take_snoc (by rw [hus,List.length_map];exact hkl),List.map_append]
    congr 1
    show [wyV y]=[mvW U (us.getD k default)]
    rw [y1,hus,hy0,gmap wyV W default hkl]
   ·have hta:=OwnT.tyA (hMo.ext e22)
    rcases List.mem_append.1 ht with h | h
    ·exact ⟨((hMe t h).1.ext e22).mod hta m5,(hMe t h).2⟩
    ·rw [List.mem_singleton.1 h]
     exact ⟨y2.mod hta m5,hyl2⟩
  ·have hke:k=W.length:=by omega
   rw [hke,List.take_of_length_le (by rw [hus,List.length_map];exact Nat.le_refl _)] at hM
   have hMw:WL w20 ma M:=⟨hMo.sl,fun y hy=>(hMe y hy).1.ok⟩
   have hMlen:∀ y∈M,WLen y:=fun y hy=>⟨by have:=(hMe y hy).2.1;omega,by have:=(hMe y hy).2.2;omega⟩
   refine V.region (VL.op (R.ldA Tryz.isAgg25 Tryz.sizeOf25 rfl rfl ((show RowAt _ _ _ (encGr z17.1) from (hXP.ext e20).rowAt 0 3)) rfl) (VL.op (R.mvS rfl) (VL.callX Tryz.call13 rfl (decide29_spec z17.1 ma mc M B _ (hpg.ok.ext (e17_6.trans e20)) hglp hMw hMlen (fun y hy=>⟨(hMe y hy).1.hp,(hMe y hy).1.hn⟩) (by omega) (Nat.le_trans hB E20.size) (hT.ext hB E20)) fun z23 w23 h23 e23=>VL.op (R.mvT rfl) (VL.op (R.extr rfl rfl) (VL.op (R.extr rfl rfl) (VL.allocSt (v:=.agg _) Tryz.zeroValue33 Tryz.sizeOf33 rfl rfl rfl rfl rfl fun b23_6 w23_6 hb23_6 e23_6 hB23_6=>VL.op (R.asI rfl) (VL.nil (V.seq (V.seq (?_))))))))))
   have E23:Ext w w23_6:=E20.trans (e23.trans e23_6)
   have hY23:Blk w23_6 b23_6 (.cells (Value.agg (encCm z23.1).toArray).cells 33 (0,0)):=hB23_6
   have e2023:=e20.trans (e23.trans e23_6)
   have hY4b:=hY17.ext e2023
   have hD23:=h23.e
   have hi23:=(h23.i.ext e23_6).sl
   have ho23:=(h23.o.ext e23_6).sl
   have hi4b:=(hi17.ext e2023).sl
   have ho4b:=(ho17.ext e2023).sl
   have hx23:=hx17.ext e2023
   clear hB23_6
   rw [hgp,hM] at hD23
   have hlen4:=dc_len (g:=grV g) (W:=W.map wyV)
   rw [←hus] at hlen4 hD4
   rw [←hD23] at q1 q2 q3 q4
   rw [←hD4] at q2 q3 q4 hlen4
   dsimp only at q1 q2 q3 q4 hlen4
   refine V.region (VL.op (R.mvI rfl) (VL.op (R.lit (R.neq rfl rfl) ((decide_eq_false (by omega)))) (VL.op (R.mvB rfl) (VL.gT rfl rfl (VL.op (R.mvI rfl) (VL.gT rfl rfl (VL.op (R.lit (R.neq rfl rfl) ((decide_eq_false (by omega)))) (VL.op (R.pickFB rfl rfl) (VL.op (R.mvB rfl) (VL.gT rfl rfl (VL.op (R.fld' (o:=0) Tryz.runUnderlying33 rfl rfl Tryz.sizeOf3 rfl rfl) (VL.gT rfl rfl (VL.op (R.ld1 Tryz.isAgg3 rfl ((show _=some (Value.int .i64 z4.1.v) from hY4b.cell 0))) (VL.gT rfl rfl (VL.op (R.fld' (o:=0) Tryz.runUnderlying33 rfl rfl Tryz.sizeOf3 rfl rfl) (VL.gT rfl rfl (VL.op (R.ld1 Tryz.isAgg3 rfl ((show _=some (Value.int .i64 z23.1.v) from hY23.cell 0))) (VL.gT rfl rfl (VL.op (R.lit (R.neq rfl rfl) ((decide_eq_false (fun h=>h q2.symm)))) (VL.op (R.pickFB rfl rfl) (VL.nil (V.condF rfl (V.skip (V.seq (?_)))))))))))))))))))))))))
   refine V.regionS mixed 16 (by kernel_rfl) rfl (fun vs=>VS.op (fun wq eq=>R.mvB rfl) (VS.op (fun wq eq=>R.mvB rfl) (VS.gT rfl rfl (VS.op (fun wq eq=>R.mvS rfl) (VS.gT rfl rfl (VS.op (fun wq eq=>R.fld' (o:=1) Tryz.runUnderlying33 rfl rfl Tryz.sizeOf22 rfl rfl) (VS.gT rfl rfl (VS.op (fun wq eq=>R.ld1 Tryz.isAgg22 rfl ((show _=some (Value.slice z4.1.i.a z4.1.i.l.length z4.1.i.c) from (hY4b.ext eq).cell 1))) (VS.gT rfl rfl (VS.callX (fun u w'=>∃ s:SlI,u=.slice s.a s.l.length s.c∧s.l=inK U z4.1.i.l U.length∧IntSl w' s.a s.l) (fun u a b _ ⟨s,h1,h2,h3⟩ eb=>⟨s,h1,h2,h3.ext eb⟩) Tryz.call31 rfl (fun wq eq hq=>by
     refine Rets.mono (places29_spec x.a x.c x.l z4.1.i.a z4.1.i.c z4.1.i.l wq (hx23.ext eq) (by omega) (hi4b.ext eq) (by omega)) ?_
     rintro u w' ⟨s,rfl,⟨h1,h2⟩,he⟩
     rw [hx] at h1
     exact ⟨⟨s,rfl,h1,h2.sl⟩,he⟩) (VS.gT rfl rfl (VS.op (fun wq eq=>R.mvS rfl) (VS.gT rfl rfl (VS.op (fun wq eq=>R.fld' (o:=2) Tryz.runUnderlying33 rfl rfl Tryz.sizeOf22 rfl rfl) (VS.gT rfl rfl (VS.op (fun wq eq=>R.ld1 Tryz.isAgg22 rfl ((show _=some (Value.slice z4.1.o.a z4.1.o.l.length z4.1.o.c) from (hY4b.ext eq).cell 2))) (VS.gT rfl rfl (VS.callX (fun u w'=>∃ s:SlI,u=.slice s.a s.l.length s.c∧s.l=inK U z4.1.o.l U.length∧IntSl w' s.a s.l) (fun u a b _ ⟨s,h1,h2,h3⟩ eb=>⟨s,h1,h2,h3.ext eb⟩) Tryz.call31 rfl (fun wq eq hq=>by
     refine Rets.mono (places29_spec x.a x.c x.l z4.1.o.a z4.1.o.c z4.1.o.l wq (hx23.ext eq) (by omega) (ho4b.ext eq) (by omega)) ?_
     rintro u w' ⟨s,rfl,⟨h1,h2⟩,he⟩
     rw [hx] at h1
     exact ⟨⟨s,rfl,h1,h2.sl⟩,he⟩) (VS.gT rfl rfl (VS.spec (fun u w'=>∃ (b:Nat) (s r:SlI),u=.slice (some ⟨b,0,none⟩) 2 2∧LL w' (some ⟨b,0,none⟩) [s,r]∧s.l=inK U z4.1.i.l U.length∧r.l=inK U z4.1.o.l U.length) (fun u a b _ ⟨c,s,r,h1,h2,h3⟩ eb=>⟨c,s,r,h1,h2.ext eb,h3⟩) rfl (fun wq eq hq=>by
     obtain ⟨s,hs,s1,s2⟩:=hq 5 (by kernel_rfl)
     obtain ⟨r,hr,r1,r2⟩:=hq 9 (by kernel_rfl)
     rw [show vs 5=_ from hs,show vs 9=_ from hr]
     exact yieldsR_op (R.buildSl (n:=2) Tryz.runUnderlying23 Tryz.sizeOf22 Tryz.zeroValue22 rfl rfl rfl rfl) ⟨⟨wq.heap.size,s,r,rfl,litL (L:=[s,r]) (Blk.alloc _ _) rfl (litA (s2.ext (Ext.alloc _ _)) (litA (r2.ext (Ext.alloc _ _)) litA0)),s1,r1⟩,Ext.alloc _ _⟩) (VS.gT rfl rfl (VS.op (fun wq eq=>R.fld' (o:=1) Tryz.runUnderlying33 rfl rfl Tryz.sizeOf22 rfl rfl) (VS.gT rfl rfl (VS.op (fun wq eq=>R.ld1 Tryz.isAgg22 rfl ((show _=some (Value.slice z23.1.i.a z23.1.i.l.length z23.1.i.c) from (hY23.ext eq).cell 1))) (VS.gT rfl rfl (VS.op (fun wq eq=>R.fld' (o:=2) Tryz.runUnderlying33 rfl rfl Tryz.sizeOf22 rfl rfl) (VS.gT rfl rfl (VS.op (fun wq eq=>R.ld1 Tryz.isAgg22 rfl ((show _=some (Value.slice z23.1.o.a z23.1.o.l.length z23.1.o.c) from (hY23.ext eq).cell 2))) (VS.gT rfl rfl (VS.spec (fun u w'=>∃ b:Nat,u=.slice (some ⟨b,0,none⟩) 2 2∧LL w' (some ⟨b,0,none⟩) [z23.1.i,z23.1.o]) (fun u a b _ ⟨c,h1,h2⟩ eb=>⟨c,h1,h2.ext eb⟩) rfl (fun wq eq hq=>by
     exact yieldsR_op (R.buildSl (n:=2) Tryz.runUnderlying23 Tryz.sizeOf22 Tryz.zeroValue22 rfl rfl rfl rfl) ⟨⟨wq.heap.size,rfl,litL (L:=[z23.1.i,z23.1.o]) (Blk.alloc _ _) rfl (litA (hi23.ext (eq.trans (Ext.alloc _ _))) (litA (ho23.ext (eq.trans (Ext.alloc _ _))) litA0))⟩,Ext.alloc _ _⟩) (VS.nil (fun w26 e26 h26=>?_)))))))))))))))))))))))))))))))) rfl
   obtain ⟨b1,s,r,u1,u2,u3,u4⟩:=h26 10
   obtain ⟨b2',v1,v2⟩:=h26 15
   have n1:=inK_len U z4.1.i.l U.length
   have n2:=inK_len U z4.1.o.l U.length
   have n3:s.l.length≤14:=by rw [u3];omega
   have n4:r.l.length≤14:=by rw [u4];omega
   have n5:z23.1.i.l.length≤14:=by rw [q3];omega
   have n6:z23.1.o.l.length≤14:=by rw [q4];omega
   rw [show vs 10=_ from u1,show vs 15=_ from v1]
   refine VL.gT rfl rfl (VL.callP Tryz.call14 rfl ((sets_is ([s,r]:List SlI) ([z23.1.i,z23.1.o]:List SlI) _ _ 2 2 w26 (by show [s.l,r.l]=[z23.1.i.l,z23.1.o.l];rw [u3,u4,q3,q4]) (Nat.le_of_ble_eq_true rfl) (fun x hx=>by simp only [List.mem_cons,List.not_mem_nil,or_false] at hx;rcases hx with hx | hx <;> rw [hx] <;> omega) (fun x hx=>by simp only [List.mem_cons,List.not_mem_nil,or_false] at hx;rcases hx with hx | hx <;> rw [hx] <;> omega) u2 v2)) fun w26_16 e26_16=>VL.op (R.pickTB rfl rfl) (VL.op (R.asB rfl) (VL.nil (V.ret (fret1 (v:=.bool _) rfl rfl rfl (⟨rfl,E23.trans (e26.trans e26_16)⟩))))))
end Go.Proofs.YtdbcfpcicjgghaaGreatDoor
