/- Solve: what is few. -/
import Derived.Test.YtdbcfpcicjgghaaGreatDoorXS24
import Derived.Test.YtdbcfpcicjgghaaGreatDoorXHG
import Derived.Test.YtdbcfpcicjgghaaGreatDoorXJL
import Derived.Test.YtdbcfpcicjgghaaGreatDoorXS17
import Derived.Test.YtdbcfpcicjgghaaGreatDoorXR5
import Derived.Test.YtdbcfpcicjgghaaGreatDoorXS20
import Derived.Test.YtdbcfpcicjgghaaGreatDoorXL8
namespace Go.Proofs.YtdbcfpcicjgghaaGreatDoor
set_option maxHeartbeats 16000000
open Go.Vc
set_option maxRecDepth 100000
set_option maxHeartbeats 16000000
structure FewW (W:List WyI) (m n:Int):Prop where
 w:(W.length:Int)≤m
 e:∀ y∈W,(y.p.l.length:Int)≤n∧(y.n.l.length:Int)≤n
theorem rfew29_spec (wa:Option Addr) (wc:Nat) (W:List WyI) (m n:Int) (w:World) (hW:WL w wa W) (hWm:W.length≤9223372036854775807) (hWe:∀ y∈W,y.p.l.length≤9223372036854775807∧y.n.l.length≤9223372036854775807) :
  RetsX Tryz.prog 20 #[.slice wa W.length wc,.int .i64 m,.int .i64 n] w (fun b:Bool=>.bool b) (fun b _=>b=true→FewW W m n):=by
 refine enter (args:=[_,_,_]) Tryz.func20 rfl Tryz.ntmps20 (by kernel_rfl) rfl ?_
 refine V.seq (V.region (VL.op (R.asB rfl) (VL.nil (V.seq (V.seq (V.region (VL.op (R.asI rfl) (VL.nil (V.block (?_))))))))))
 refine V.loop [0,1,2,7] (fun k:Nat=>[.slice wa W.length wc,.int .i64 m,.int .i64 n,.int .i64 (k:Nat)]) (fun k w'=>k≤W.length∧(∀ i,i<k→((W.getD i default).p.l.length:Int)≤n∧((W.getD i default).n.l.length:Int)≤n)∧Ext w w') (fun k=>W.length-k) 0 rfl ⟨Nat.zero_le _,fun i h=>absurd h (Nat.not_lt_zero i),Vc.Mod.refl _ _⟩ ?_
 rintro ρ k w2 ⟨hk,hf,e⟩
 have hW2:=hW.ext e
 refine V.seq (V.seq (V.region (VL.op (R.mvI rfl) (VL.op (R.mvS rfl) (VL.op (R.lenS Tryz.runUnderlying26 rfl) (VL.op (R.lss rfl rfl) (VL.nil (V.condP rfl (fun c11=>V.skip (V.seq (V.block (V.seq (?_))))) (fun c11=>V.exit (V.seq (?_)))))))))))
 ·have hkn:k<W.length:=by omega
  have h1:=hWe _ (gmem hkn)
  refine V.region (VL.op (R.mvS rfl) (VL.op (R.mvI rfl) (VL.op (R.ixS Tryz.runUnderlying26 Tryz.sizeOf53 rfl rfl (by omega) (by omega) (hW2.sl.some (i:=k) hkn)) (VL.op (R.fld' (o:=0) Tryz.runUnderlying53 rfl rfl Tryz.sizeOf22 rfl rfl) (VL.op (R.ld1 Tryz.isAgg22 rfl (((hW2.sl.row (i:=k) hkn).cell (i:=0) rfl))) (VL.op (R.lenS Tryz.runUnderlying22 rfl) (VL.op (R.mvI rfl) (VL.op (R.gtr rfl rfl) (VL.op (R.mvB rfl) (VL.orP rfl rfl (fun g4_8=>VL.op (R.mvS rfl) (VL.gT rfl rfl (VL.op (R.mvI rfl) (VL.gT rfl rfl (VL.op (R.ixS Tryz.runUnderlying26 Tryz.sizeOf53 rfl rfl (by omega) (by omega) (hW2.sl.some (i:=k) hkn)) (VL.gT rfl rfl (VL.op (R.fld' (o:=1) Tryz.runUnderlying53 rfl rfl Tryz.sizeOf22 rfl rfl) (VL.gT rfl rfl (VL.op (R.ld1 Tryz.isAgg22 rfl (((hW2.sl.row (i:=k) hkn).cell (i:=1) rfl))) (VL.gT rfl rfl (VL.op (R.lenS Tryz.runUnderlying22 rfl) (VL.gT rfl rfl (VL.op (R.mvI rfl) (VL.gT rfl rfl (VL.op (R.gtr rfl rfl) (VL.op (R.pickFB rfl rfl) (VL.nil (V.condP rfl (fun c31=>V.seq (V.region (VL.op (R.asB rfl) (VL.nil (V.ret (fret1 (v:=.bool _) rfl rfl rfl (⟨false,rfl,(fun h=>nomatch h),e⟩))))))) (fun c31=>V.skip (V.region (VL.op (R.mvI rfl) (VL.op (R.add rfl rfl (by omega) (by omega)) (VL.op (R.asI rfl) (VL.nil (⟨k+1,rfl,⟨by omega,fun i hi=>?_,e⟩,by omega⟩))))))))))))))))))))))))) (fun g4_8=>VL.gF rfl rfl (VL.gF rfl rfl (VL.gF rfl rfl (VL.gF rfl rfl (VL.gF rfl rfl (VL.gF rfl rfl (VL.gF rfl rfl (VL.op (R.pickTB rfl rfl) (VL.nil (V.condT rfl (V.seq (V.region (VL.op (R.asB rfl) (VL.nil (V.ret (fret1 (v:=.bool _) rfl rfl rfl (⟨false,rfl,(fun h=>nomatch h),e⟩)))))))))))))))))))))))))))
  by_cases h:i=k
  ·subst h;omega
  ·exact hf i (by omega)
 ·have hkn:k=W.length:=by omega
  subst hkn
  have hall:∀ y∈W,(y.p.l.length:Int)≤n∧(y.n.l.length:Int)≤n:=fun y hy=>by
   obtain ⟨i,hi,rfl⟩:=List.getElem_of_mem hy
   have:=hf i hi
   rwa [gget hi] at this
  refine V.region (VL.op (R.mvS rfl) (VL.op (R.lenS Tryz.runUnderlying26 rfl) (VL.op (R.mvI rfl) (VL.op (R.leq rfl rfl) (VL.op (R.asB rfl) (VL.nil (V.ret (fret1 (v:=.bool _) rfl rfl rfl (⟨_,rfl,fun h=>?_,e⟩)))))))))
  exact ⟨of_decide_eq_true h,hall⟩
structure FewL (g:GrW) (W:List WyI) (m:Int):Prop where
 n:g.n≤m
 c:(g.cost.length:Int)≤m
 e:FewE g.edges 40
 w:FewW W 12 12
theorem few29_spec (g:GrW) (wa:Option Addr) (wc:Nat) (W:List WyI) (n:Int) (w:World) (hI:GIn w g) (hW:WL w wa W) (hWm:W.length≤9223372036854775807) (hWe:∀ y∈W,y.p.l.length≤9223372036854775807∧y.n.l.length≤9223372036854775807) :
  RetsX Tryz.prog 11 #[.agg (encGr g).toArray,.slice wa W.length wc,.int .i64 n] w (fun b:Bool=>.bool b) (fun b _=>b=true→FewL g W n):=by
 refine enter (args:=[_,_,_]) Tryz.func11 rfl Tryz.ntmps11 (by kernel_rfl) rfl ?_
 refine V.seq (V.region (VL.box (v:=.agg _) rfl fun b0_0 w0_0 hb0_0 e0_0 hB0_0=>VL.op (R.asB rfl) (VL.nil (V.seq (V.region (VL.op (R.ldA Tryz.isAgg25 Tryz.sizeOf25 rfl rfl ((show RowAt _ _ _ (encGr g) from hB0_0.rowAt 0 3)) rfl) (VL.op (R.mvI rfl) (VL.callX Tryz.call19 rfl (small_spec g n 40 _ (hI.ok.ext e0_0) hI.c hI.e.len) fun b1 w1 h1 e1=>VL.op (R.mvB rfl) (VL.and rfl rfl (fun g1_3=>VL.op (R.mvS rfl) (VL.gT rfl rfl (VL.callX Tryz.call20 rfl (rfew29_spec wa wc W 12 12 _ (hW.ext (e0_0.trans e1)) hWm hWe) fun b2 w2 h2 e2=>VL.op (R.pickTB rfl rfl) (VL.op (R.asB rfl) (VL.nil (V.ret (fret1 (v:=.bool _) rfl rfl rfl (?_)))))))) (fun g1_3=>VL.gF rfl rfl (VL.op (R.pickFB rfl rfl) (VL.op (R.asB rfl) (VL.nil (V.ret (fret1 (v:=.bool _) rfl rfl rfl (?_))))))))))))))))
 ·have h3:=h1 (by assumption)
  exact ⟨b2,rfl,fun h=>⟨h3.1,h3.2.1,h3.2.2,h2 h⟩,(e0_0.trans e1).trans e2⟩
 ·exact ⟨false,rfl,(fun h=>nomatch h),e0_0.trans e1⟩
end Go.Proofs.YtdbcfpcicjgghaaGreatDoor

/- Solve: what is answered. Plain. -/
namespace Go.Proofs.YtdbcfpcicjgghaaGreatDoor
open Go.Vc
structure FstR (g:Gr) (W:List Wy) (h:Bool) (R:List Int):Prop where
 r:IsRep g R
 s:someW W R=h
 f:∀ X,IsRep g X→someW W X=h→X=R∨lexB R X=true
theorem checkA_pos {g:Gr} {W:List Wy} {h:Bool} {S:List St4} (hk:checkA g W h S=true):0<S.length∧S.length≤100000:=by
 unfold checkA at hk
 rw [Bool.and_eq_true,Bool.and_eq_true,decide_eq_true_eq] at hk
 exact hk.2.1
theorem exists_cases {g:Gr} {W:List Wy} {h:Bool} (he:errG g W=0):(∃ R,existsF g W h=(R,[],0)∧FstR g W h R)∨(∃ S,existsF g W h=([],S,0)∧checkA g W h S=true)∨existsF g W h=([],[],3):=by
 have hr:=err_ready he
 have hord:=ord_ok hr
 unfold existsF
 rw [if_pos he]
 unfold srchG
 cases hs:srchF ⟨g.n,g.edges,W,h,[]⟩ 100000 (sgN g W++ptN g W) (-1) (zerS g) [] with
 | full=>exact .inr (.inr rfl)
 | found st =>
  obtain ⟨h1,h2,h3,h4⟩:=srch_best hr hord hs
  exact .inl ⟨_,rfl,(ext_rep h2).1,h3,h4⟩
 | proof S=>exact .inr (.inl ⟨S,rfl,srch_check hr hord.rng hord.nd hs⟩)
theorem exists_err {g:Gr} {W:List Wy} {h:Bool} (he:errG g W≠0):existsF g W h=([],[],errG g W):=by
 unfold existsF;rw [if_neg he]
theorem exists_small {g:Gr} {W:List Wy} {h:Bool} (he:errG g W=0) (hn:g.n≤4000) (hp:(ptI g W).length≤15):existsF g W h≠([],[],3):=by
 have hr:=err_ready he
 have hord:=ord_ok hr
 have hok:=ready_ok hr h []
 have hn0:=costB_iff.1 (validG_iff.1 hok.v).1
 have h1:=srch_bnd hok (M:=100000) (pt:=ptN g W) (sgN g W) (fun v hv=>⟨hord.rng v (List.mem_append.2 (.inl hv)),hord.sing v hv⟩) (-1) (zerS g) [] (by simp [zerS];omega) ?_
 ·unfold existsF
  rw [if_pos he]
  unfold srchG
  rcases h1 with ⟨st,h2⟩ | ⟨S,h2,_⟩
  ·rw [h2]
   intro h3
   have:=congrArg (fun q=>q.2.2) h3
   cases this
  ·rw [h2]
   intro h3
   have:=congrArg (fun q=>q.2.2) h3
   cases this
 ·have h2:(sgN g W).length≤4000:=by
   unfold sgN
   rw [List.length_map]
   have:=sgL_len W (compsG g)
   have:=ncomps_len hok.v
   omega
  have h3:(ptN g W).length≤15:=by unfold ptN;rw [List.length_map];exact hp
  unfold bndS
  have h4:2 ^ ((ptN g W).length+1)≤2 ^ 16:=Nat.pow_le_pow_right (by decide) (by omega)
  rw [List.length_nil]
  omega
theorem decide_err {g:Gr} {W:List Wy} (he:errG g W≠0):decideF g W=((0,[],[],[]),errG g W):=by
 unfold decideF
 rw [exists_err he]
 exact if_pos he
theorem decide_cases {g:Gr} {W:List Wy} (he:errG g W=0) :
  (∃ R Q,decideF g W=((2,R,Q,[]),0)∧existsF g W true=(R,[],0)∧existsF g W false=(Q,[],0)∧FstR g W true R∧FstR g W false Q)∨(∃ R S,decideF g W=((1,R,[],S),0)∧existsF g W true=(R,[],0)∧existsF g W false=([],S,0)∧FstR g W true R∧checkA g W false S=true)∨(∃ Q S,decideF g W=((3,[],Q,S),0)∧existsF g W true=([],S,0)∧existsF g W false=(Q,[],0)∧FstR g W false Q∧checkA g W true S=true) ∨
  (decideF g W=((0,[],[],[]),3)∧(existsF g W true=([],[],3)∨existsF g W false=([],[],3))):=by
 unfold decideF
 rcases exists_cases (h:=true) he with ⟨R,h1,h2⟩ | ⟨S,h1,h2⟩ | h1
 ·rcases exists_cases (h:=false) he with ⟨Q,h3,h4⟩ | ⟨T,h3,h4⟩ | h3
  ·rw [h1,h3];exact .inl ⟨R,Q,rfl,rfl,rfl,h2,h4⟩
  ·rw [h1,h3]
   refine .inr (.inl ⟨R,T,?_,rfl,rfl,h2,h4⟩)
   dsimp only
   rw [if_neg (by decide),if_neg (by decide),if_neg (by decide),if_pos (checkA_pos h4).1]
  ·rw [h1,h3];exact .inr (.inr (.inr ⟨rfl,.inr rfl⟩))
 ·have hp:=(checkA_pos h2).1
  rcases exists_cases (h:=false) he with ⟨Q,h3,h4⟩ | ⟨T,h3,h4⟩ | h3
  ·rw [h1,h3]
   refine .inr (.inr (.inl ⟨Q,S,?_,rfl,rfl,h4,h2⟩))
   dsimp only
   rw [if_neg (by decide),if_neg (by decide),if_pos hp]
  ·exfalso
   have hv:=(ready_ok (err_ready he) true []).v
   obtain ⟨X,hX⟩:=List.exists_mem_of_ne_nil _ (reps_ne hv)
   have hX:=(reps_mem hv).1 hX
   have a1:=check_sound h2 hX
   have a2:=check_sound h4 hX
   rw [a1] at a2;cases a2
  ·rw [h1,h3];exact .inr (.inr (.inr ⟨rfl,.inr rfl⟩))
 ·rw [h1];exact .inr (.inr (.inr ⟨rfl,.inl rfl⟩))
end Go.Proofs.YtdbcfpcicjgghaaGreatDoor

/- Solve: the walk of law SolveProves. -/
namespace Go.Proofs.YtdbcfpcicjgghaaGreatDoor
open Go.Vc
structure WIn29 (w:World) (a:Option Addr) (W:List WyI):Prop where
 ok:WL w a W
 m:W.length≤9223372036854775807
 e:∀ y∈W,y.p.l.length≤9223372036854775807∧y.n.l.length≤9223372036854775807
 h:∀ y∈W,(y.p.a=none→y.p.c=0)∧(y.n.a=none→y.n.c=0)
theorem GIn.ext {w w':World} {g:GrW} (h:GIn w g) (e:Ext w w'):GIn w' g:=⟨h.ok.ext e,h.c,h.e,h.hc,h.he⟩
theorem FewW.wl {W:List WyI} {m n:Int} (h:FewW W m n) (hn:n≤1000000):∀ y∈W,WLen y:=fun y hy=>by have:=h.e y hy;exact ⟨by omega,by omega⟩
theorem fst_len {g:Gr} {W:List Wy} {h:Bool} {R:List Int} (hR:FstR g W h R) (hv:validG g=true):R.length≤4000:=by
 have h1:=setB_iff.1 hR.r.set
 have h2:=(costB_iff.1 (validG_iff.1 hv).1)
 have h3:=h2.2.1
 have:=set_len h1.1 h1.2 h2.1
 omega
theorem dc_len {g:Gr} {W:List Wy}:(decideF g W).1.2.1.length≤4000∧(decideF g W).1.2.2.1.length≤4000∧(decideF g W).1.2.2.2.length≤100000:=by
 by_cases he:errG g W=0
 ·have hv:=(ready_ok (err_ready he) true []).v
  rcases decide_cases he with ⟨R,Q,h1,_,_,h2,h3⟩ | ⟨R,S,h1,_,_,h2,h3⟩ | ⟨Q,S,h1,_,_,h2,h3⟩ | ⟨h1,_⟩
  ·rw [h1];exact ⟨fst_len h2 hv,fst_len h3 hv,Nat.zero_le _⟩
  ·rw [h1];exact ⟨fst_len h2 hv,Nat.zero_le _,(checkA_pos h3).2⟩
  ·rw [h1];exact ⟨Nat.zero_le _,fst_len h2 hv,(checkA_pos h3).2⟩
  ·rw [h1];exact ⟨Nat.zero_le _,Nat.zero_le _,Nat.zero_le _⟩
 ·rw [decide_err he];exact ⟨Nat.zero_le _,Nat.zero_le _,Nat.zero_le _⟩
end Go.Proofs.YtdbcfpcicjgghaaGreatDoor

/- Solve: the walk of law SolveFirst. -/
namespace Go.Proofs.YtdbcfpcicjgghaaGreatDoor
open Go.Vc
end Go.Proofs.YtdbcfpcicjgghaaGreatDoor
