/- Hyper: the reference: costs; is a graph valid? -/
import Derived.Test.YtdbcfpcicjgghaaGreatDoorXL8
import Derived.Test.YtdbcfpcicjgghaaGreatDoorXVcDiv
namespace Go.Proofs.YtdbcfpcicjgghaaGreatDoor
set_option maxHeartbeats 16000000
open Go.Vc
set_option maxRecDepth 100000
set_option maxHeartbeats 16000000
theorem rcosts_spec (n:Int) (a:Option Addr) (c:Nat) (l:List Int) (w:World) (hL:IntSl w a l) (_hl:l.length≤9223372036854775807) :
  RetsP Tryz.prog 101 #[.int .i64 n,.slice a l.length c] w (.bool (costB n l)):=by
 refine enter (args:=[_,_]) Tryz.func101 rfl Tryz.ntmps101 (by kernel_rfl) rfl ?_
 have no:∀ {P:Prop},(costB n l=true→P)→¬P→Value.bool false=.bool (costB n l):=fun h hn=>by
  cases hc:costB n l with
  | false=>rfl
  | true=>exact absurd (h hc) hn
 refine V.seq (V.region (VL.op (R.asB rfl) (VL.nil (V.seq (V.seq (V.region (VL.op (R.mvI rfl) (VL.op (R.lss rfl rfl) (VL.op (R.mvB rfl) (VL.orP rfl rfl (fun g1_2=>VL.op (R.mvI rfl) (VL.gT rfl rfl (VL.op (R.gtr rfl rfl) (VL.op (R.pickFB rfl rfl) (VL.op (R.mvB rfl) (VL.orP rfl rfl (fun g1_6=>VL.op (R.mvS rfl) (VL.gT rfl rfl (VL.op (R.lenS Tryz.runUnderlying22 rfl) (VL.gT rfl rfl (VL.op (R.mvI rfl) (VL.gT rfl rfl (VL.op (R.neq rfl rfl) (VL.op (R.pickFB rfl rfl) (VL.nil (V.condP rfl (fun c17=>V.seq (V.region (VL.op (R.asB rfl) (VL.nil (V.ret (fret1 (v:=.bool _) rfl rfl rfl (⟨?_,(Mod.refl _ _)⟩))))))) (fun c17=>V.skip (V.seq (V.seq (?_)))))))))))))) (fun g1_6=>VL.gF rfl rfl (VL.gF rfl rfl (VL.gF rfl rfl (VL.op (R.pickTB rfl rfl) (VL.nil (V.condT rfl (V.seq (V.region (VL.op (R.asB rfl) (VL.nil (V.ret (fret1 (v:=.bool _) rfl rfl rfl (⟨?_,(Mod.refl _ _)⟩))))))))))))))))))) (fun g1_2=>VL.gF rfl rfl (VL.op (R.pickTB rfl rfl) (VL.op (R.mvB rfl) (VL.gF rfl rfl (VL.gF rfl rfl (VL.gF rfl rfl (VL.gF rfl rfl (VL.op (R.pickTB rfl rfl) (VL.nil (V.condT rfl (V.seq (V.region (VL.op (R.asB rfl) (VL.nil (V.ret (fret1 (v:=.bool _) rfl rfl rfl (⟨?_,(Mod.refl _ _)⟩)))))))))))))))))))))))))))
 ·exact no (P:=0≤n∧n≤4000∧(l.length:Int)=n) (fun h=>⟨(costB_iff.1 h).1,(costB_iff.1 h).2.1,(costB_iff.1 h).2.2.1⟩) (by omega)
 ·refine V.region (VL.op (R.asI rfl) (VL.nil (V.block (?_))))
  refine V.loop [0,1,5] (fun k:Nat=>[.int .i64 n,.slice a l.length c,.int .i64 (k:Nat)]) (fun k w'=>k≤l.length∧(∀ i,i<k→0≤l.getD i default∧l.getD i default≤1000000000)∧Ext w w') (fun k=>l.length-k) 0 rfl ⟨Nat.zero_le _,fun i h=>absurd h (Nat.not_lt_zero i),Mod.refl _ _⟩ ?_
  rintro ρ k w1 ⟨hk,hi,e⟩
  have hL1:=hL.ext e
  refine V.seq (V.seq (V.region (VL.op (R.mvI rfl) (VL.op (R.mvI rfl) (VL.op (R.lss rfl rfl) (VL.nil (V.condP rfl (fun c20=>V.skip (V.seq (V.block (V.seq (V.region (VL.op (R.mvS rfl) (VL.op (R.mvI rfl) (VL.op (R.ixS Tryz.runUnderlying22 Tryz.sizeOf3 rfl rfl (by omega) (by omega) ((hL).some (i:=k) (by omega))) (VL.op (R.ld1 Tryz.isAgg3 rfl (((((hL).ext e).row (i:=k) (by omega)).cell (i:=0) rfl))) (VL.op (R.lss rfl rfl) (VL.op (R.mvB rfl) (VL.orP rfl rfl (fun g6_5=>VL.op (R.mvS rfl) (VL.gT rfl rfl (VL.op (R.mvI rfl) (VL.gT rfl rfl (VL.op (R.ixS Tryz.runUnderlying22 Tryz.sizeOf3 rfl rfl (by omega) (by omega) ((hL).some (i:=k) (by omega))) (VL.gT rfl rfl (VL.op (R.ld1 Tryz.isAgg3 rfl (((((hL).ext e).row (i:=k) (by omega)).cell (i:=0) rfl))) (VL.gT rfl rfl (VL.op (R.gtr rfl rfl) (VL.op (R.pickFB rfl rfl) (VL.nil (V.condP rfl (fun c34=>V.seq (V.region (VL.op (R.asB rfl) (VL.nil (V.ret (fret1 (v:=.bool _) rfl rfl rfl (⟨?_,e⟩))))))) (fun c34=>V.skip (V.region (VL.op (R.mvI rfl) (VL.op (R.add rfl rfl (by omega) (by omega)) (VL.op (R.asI rfl) (VL.nil (⟨k+1,rfl,⟨by omega,fun i h=>?_,e⟩,by omega⟩))))))))))))))))))) (fun g6_5=>VL.gF rfl rfl (VL.gF rfl rfl (VL.gF rfl rfl (VL.gF rfl rfl (VL.op (R.pickTB rfl rfl) (VL.nil (V.condT rfl (V.seq (V.region (VL.op (R.asB rfl) (VL.nil (V.ret (fret1 (v:=.bool _) rfl rfl rfl (⟨?_,e⟩)))))))))))))))))))))))))) (fun c20=>V.exit (V.seq (V.region (VL.op (R.asB rfl) (VL.nil (V.ret (fret1 (v:=.bool _) rfl rfl rfl (⟨?_,e⟩)))))))))))))))
  ·exact no (P:=l.getD k default≤1000000000) (fun h=>((costB_iff.1 h).2.2.2 _ (gmem (by omega))).2) (by omega)
  ·by_cases h2:i=k
   ·subst h2;omega
   ·exact hi i (by omega)
  ·exact no (P:=0≤l.getD k default) (fun h=>((costB_iff.1 h).2.2.2 _ (gmem (by omega))).1) (by omega)
  ·refine congrArg Value.bool (costB_iff.2 ⟨by omega,by omega,by omega,fun x hx=>?_⟩).symm
   obtain ⟨i,hil,rfl⟩:=List.getElem_of_mem hx
   rw [←gget hil];exact hi i (by omega)
 ·exact no (P:=n≤4000) (fun h=>(costB_iff.1 h).2.1) (by omega)
 ·exact no (P:=0≤n) (fun h=>(costB_iff.1 h).1) (by omega)
theorem lex_up {E:List SlI} (h:∀ j,0<j→j<E.length→lexB (E.getD (j-1) default).l (E.getD j default).l=true):∀ j i,i<j→j<E.length→lexB (E.getD i default).l (E.getD j default).l=true:=by
 intro j
 induction j with
 | zero=>intro i hi;omega
 | succ j ih =>
  intro i hi hj
  have h1:=h (j+1) (by omega) hj
  rw [Nat.add_sub_cancel] at h1
  by_cases e:i=j
  ·subst e;exact h1
  ·exact lexB_sto.trans _ _ _ (ih i (by omega) (by omega)) h1
theorem up_vals {E:List SlI} (h:∀ j,0<j→j<E.length→lexB (E.getD (j-1) default).l (E.getD j default).l=true):Up lexB (vals E):=by
 refine List.pairwise_iff_getElem.2 fun i j hi hj hij=>?_
 have hi':i<E.length:=by simpa using hi
 have hj':j<E.length:=by simpa using hj
 have:=lex_up h j i hij hj'
 rw [gget hi',gget hj'] at this
 simpa [vals] using this
theorem vals_up {E:List SlI} (h:Up lexB (vals E)) {i j:Nat} (hij:i<j) (hj:j<E.length):lexB (E.getD i default).l (E.getD j default).l=true:=by
 have:=List.pairwise_iff_getElem.1 h i j (by rw [List.length_map];omega) (by rw [List.length_map];exact hj) hij
 rw [gget (show i<E.length by omega),gget hj]
 simpa [vals] using this
theorem vals_ne {E:List SlI} (h:Up lexB (vals E)) {i j:Nat} (hij:i≠j) (hi:i<E.length) (hj:j<E.length):(E.getD i default).l≠(E.getD j default).l:=fun e=>by
 rcases Nat.lt_or_gt_of_ne hij with h1 | h1
 ·have:=vals_up h h1 hj;rw [e,lexB_sto.irr] at this;cases this
 ·have:=vals_up h h1 hi;rw [e,lexB_sto.irr] at this;cases this
theorem rvalid_spec (g:GrW) (w:World) (hG:GOk w g) (hl:GLen g) :
  RetsP Tryz.prog 65 #[.agg (encGr g).toArray] w (.bool (validG (grV g))):=by
 have hc:=hl.c
 have he:=hl.e
 have hx:∀ x∈g.edges,x.l.length≤1000000:=fun x h=>(hl.each x h).1
 refine enter (args:=[_]) Tryz.func65 rfl Tryz.ntmps65 (by kernel_rfl) rfl ?_
 have no:∀ {P:Prop},(validG (grV g)=true→P)→¬P→Value.bool false=.bool (validG (grV g)):=fun h hn=>by
  cases hc:validG (grV g) with
  | false=>rfl
  | true=>exact absurd (h hc) hn
 refine V.seq (V.region (VL.box (v:=.agg _) rfl fun b0_0 w0_0 hb0_0 e0_0 hB0_0=>VL.op (R.asB rfl) (VL.nil (V.seq (V.seq (V.region (VL.op (R.fld' (o:=0) Tryz.runUnderlying25 rfl rfl Tryz.sizeOf3 rfl rfl) (VL.op (R.ld1 Tryz.isAgg3 rfl ((hB0_0.cell _))) (VL.op (R.fld' (o:=1) Tryz.runUnderlying25 rfl rfl Tryz.sizeOf22 rfl rfl) (VL.op (R.ld1 Tryz.isAgg22 rfl ((hB0_0.cell _))) (VL.callP Tryz.call101 rfl (rcosts_spec g.n g.ca g.cc g.cost _ (hG.c.ext e0_0) hc) fun w1_4 e1_4=>VL.op (R.not rfl) (VL.op (R.mvB rfl) (VL.or rfl rfl (fun g1_6=>VL.op (R.fld' (o:=2) Tryz.runUnderlying25 rfl rfl Tryz.sizeOf23 rfl rfl) (VL.gT rfl rfl (VL.op (R.ld1 Tryz.isAgg23 rfl (((hB0_0.ext e1_4).cell _))) (VL.gT rfl rfl (VL.op (R.lenS Tryz.runUnderlying23 rfl) (VL.gT rfl rfl (VL.op (R.gtr rfl rfl) (VL.op (R.pickFB rfl rfl) (VL.nil (V.condP rfl (fun c17=>V.seq (V.region (VL.op (R.asB rfl) (VL.nil (V.ret (fret1 (v:=.bool _) rfl rfl rfl (⟨?_,(e0_0.trans e1_4)⟩))))))) (fun c17=>V.skip (V.seq (V.seq (?_)))))))))))))) (fun g1_6=>VL.gF rfl rfl (VL.gF rfl rfl (VL.gF rfl rfl (VL.op (R.pickTB rfl rfl) (VL.nil (V.condT rfl (V.seq (V.region (VL.op (R.asB rfl) (VL.nil (V.ret (fret1 (v:=.bool _) rfl rfl rfl (⟨?_,(e0_0.trans e1_4)⟩))))))))))))))))))))))))))
 ·exact no (P:=g.edges.length≤20000) (fun h=>by have:=(validG_iff.1 h).2.1;simpa [grV,vals] using this) (by omega)
 ·have hcb:costB g.n g.cost=true:=by simpa using g1_6
  have hw:=e0_0.trans e1_4
  have hB1:=hB0_0.ext e1_4
  refine V.region (VL.op (R.asI rfl) (VL.nil (V.block (?_))))
  refine V.loop [1,3] (fun i:Nat=>[.pointer (some ⟨b0_0,0,none⟩),.int .i64 (i:Nat)]) (fun i w'=>i≤g.edges.length∧(∀ j,j<i→((g.edges.getD j default).l≠[]∧setB (g.edges.getD j default).l g.n=true)∧(0<j→lexB (g.edges.getD (j-1) default).l (g.edges.getD j default).l=true)∧∀ k,k<g.edges.length→k≠j→contF (g.edges.getD j default).l (g.edges.getD k default).l=false)∧Ext w1_4 w') (fun i=>g.edges.length-i) 0 rfl ⟨Nat.zero_le _,fun j h=>absurd h (Nat.not_lt_zero j),Mod.refl _ _⟩ ?_
  rintro ρ i w2 ⟨hi,hj,e2⟩
  have hB2:=hB1.ext e2
  have hE2:=((hG.ext hw).ext e2).e
  refine V.seq (V.seq (V.region (VL.op (R.mvI rfl) (VL.op (R.fld' (o:=2) Tryz.runUnderlying25 rfl rfl Tryz.sizeOf23 rfl rfl) (VL.op (R.ld1 Tryz.isAgg23 rfl ((show w2.cell? ⟨b0_0,2,none⟩=some (Value.slice g.ea g.edges.length g.ec) from hB2.cell 2))) (VL.op (R.lenS Tryz.runUnderlying23 rfl) (VL.op (R.lss rfl rfl) (VL.nil (V.condP rfl (fun c22=>V.skip (V.seq (V.block (V.seq (?_))))) (fun c22=>V.exit (V.seq (V.region (VL.op (R.asB rfl) (VL.nil (V.ret (fret1 (v:=.bool _) rfl rfl rfl (⟨?_,(hw.trans e2).trans (Mod.refl _ _)⟩)))))))))))))))))
  ·have hil:i<g.edges.length:=by omega
   have hxi:=hx _ (gmem hil)
   refine V.region (VL.op (R.fld' (o:=2) Tryz.runUnderlying25 rfl rfl Tryz.sizeOf23 rfl rfl) (VL.op (R.ld1 Tryz.isAgg23 rfl ((show w2.cell? ⟨b0_0,2,none⟩=some (Value.slice g.ea g.edges.length g.ec) from hB2.cell 2))) (VL.op (R.mvI rfl) (VL.op (R.ixS Tryz.runUnderlying23 Tryz.sizeOf22 rfl rfl (by omega) (by omega) ((hE2.sl).some (i:=i) (by omega))) (VL.op (R.ld1 Tryz.isAgg22 rfl (((((hE2.sl).ext (Mod.refl _ _)).row (i:=i) (by omega)).cell (i:=0) rfl))) (VL.op (R.asS rfl) (VL.nil (V.cut [1,3,4] (fun _:Unit=>[.pointer (some ⟨b0_0,0,none⟩),.int .i64 (i:Nat),.slice (g.edges.getD i default).a (g.edges.getD i default).l.length (g.edges.getD i default).c]) (fun _ w'=>(((g.edges.getD i default).l≠[]∧setB (g.edges.getD i default).l g.n=true)∧(0<i→lexB (g.edges.getD (i-1) default).l (g.edges.getD i default).l=true))∧Ext w2 w') (V.seq (V.region (VL.op (R.mvS rfl) (VL.op (R.lenS Tryz.runUnderlying22 rfl) (VL.op (R.eql rfl rfl) (VL.op (R.mvB rfl) (VL.orP rfl rfl (fun g7_3=>VL.op (R.mvS rfl) (VL.gT rfl rfl (VL.op (R.fld' (o:=0) Tryz.runUnderlying25 rfl rfl Tryz.sizeOf3 rfl rfl) (VL.gT rfl rfl (VL.op (R.ld1 Tryz.isAgg3 rfl ((show w2.cell? ⟨b0_0,0,none⟩=some (Value.int .i64 g.n) from hB2.cell 0))) (VL.gT rfl rfl (VL.callP Tryz.call84 rfl (verts_spec (g.edges.getD i default).a (g.edges.getD i default).c (g.edges.getD i default).l g.n _ (by omega) (hE2.at hil)) fun w7_7 e7_7=>VL.gT rfl rfl (VL.op (R.not rfl) (VL.op (R.pickFB rfl rfl) (VL.op (R.mvB rfl) (VL.or rfl rfl (fun g7_10=>VL.op (R.mvI rfl) (VL.gT rfl rfl (VL.op (R.gtr rfl rfl) (VL.gT rfl rfl (VL.op (R.mvB rfl) (VL.andP rfl rfl (fun g7_13=>VL.op (R.fld' (o:=2) Tryz.runUnderlying25 rfl rfl Tryz.sizeOf23 rfl rfl) (VL.gT rfl rfl (VL.op (R.ld1 Tryz.isAgg23 rfl ((show World.cell? _ ⟨b0_0,2,none⟩=some (Value.slice g.ea g.edges.length g.ec) from (hB2.ext e7_7).cell 2))) (VL.gT rfl rfl (VL.op (R.mvI rfl) (VL.gT rfl rfl (VL.op (R.sub rfl rfl (by omega) (by omega)) (VL.gT rfl rfl (VL.op (R.ixS Tryz.runUnderlying23 Tryz.sizeOf22 rfl rfl (by omega) (by omega) ((hE2.sl).some (i:=((i:Int)-1).toNat) (by omega))) (VL.gT rfl rfl (VL.op (R.ld1 Tryz.isAgg22 rfl (((((hE2.sl).ext e7_7).row (i:=((i:Int)-1).toNat) (by omega)).cell (i:=0) rfl))) (VL.gT rfl rfl (VL.op (R.mvS rfl) (VL.gT rfl rfl (VL.callP Tryz.call23 rfl (less_spec (g.edges.getD ((i:Int)-1).toNat default).a (g.edges.getD i default).a (g.edges.getD ((i:Int)-1).toNat default).c (g.edges.getD i default).c (g.edges.getD ((i:Int)-1).toNat default).l (g.edges.getD i default).l _ (by have:=hx _ (gmem (l:=g.edges) (i:=((i:Int)-1).toNat) (by omega));omega) (by omega) ((hE2.ext e7_7).at (by omega)) ((hE2.ext e7_7).at hil)) fun w7_21 e7_21=>VL.gT rfl rfl (VL.op (R.not rfl) (VL.gT rfl rfl (VL.op (R.pickTB rfl rfl) (VL.op (R.pickFB rfl rfl) (VL.nil (V.cond rfl (fun c54=>V.seq (V.region (VL.op (R.asB rfl) (VL.nil (V.ret (fret1 (v:=.bool _) rfl rfl rfl (⟨?_,(hw.trans e2).trans (e7_7.trans e7_21)⟩))))))) (fun c54=>V.skip (?_))))))))))))))))))))))) (fun g7_13=>VL.gF rfl rfl (VL.gF rfl rfl (VL.gF rfl rfl (VL.gF rfl rfl (VL.gF rfl rfl (VL.gF rfl rfl (VL.gF rfl rfl (VL.gF rfl rfl (VL.gT rfl rfl (VL.op (R.pickFB rfl rfl) (VL.op (R.pickFB rfl rfl) (VL.nil (V.condF rfl (V.skip (?_))))))))))))))))))))) (fun g7_10=>VL.gF rfl rfl (VL.gF rfl rfl (VL.gU rfl rfl (VL.gU rfl rfl (VL.gU rfl rfl (VL.gU rfl rfl (VL.gU rfl rfl (VL.gU rfl rfl (VL.gU rfl rfl (VL.gU rfl rfl (VL.gU rfl rfl (VL.gF rfl rfl (VL.op (R.pickTB rfl rfl) (VL.nil (V.condT rfl (V.seq (V.region (VL.op (R.asB rfl) (VL.nil (V.ret (fret1 (v:=.bool _) rfl rfl rfl (⟨?_,(hw.trans e2).trans e7_7⟩))))))))))))))))))))))))))))))))) (fun g7_3=>VL.gF rfl rfl (VL.gF rfl rfl (VL.gF rfl rfl (VL.gF rfl rfl (VL.op (R.pickTB rfl rfl) (VL.op (R.mvB rfl) (VL.gF rfl rfl (VL.gF rfl rfl (VL.gF rfl rfl (VL.gU rfl rfl (VL.gU rfl rfl (VL.gU rfl rfl (VL.gU rfl rfl (VL.gU rfl rfl (VL.gU rfl rfl (VL.gU rfl rfl (VL.gU rfl rfl (VL.gU rfl rfl (VL.gF rfl rfl (VL.op (R.pickTB rfl rfl) (VL.nil (V.condT rfl (V.seq (V.region (VL.op (R.asB rfl) (VL.nil (V.ret (fret1 (v:=.bool _) rfl rfl rfl (⟨?_,(hw.trans e2).trans (Mod.refl _ _)⟩)))))))))))))))))))))))))))))))))))) (fun rgC54 xC54 wBC54 hBC54=>V.seq (?_))))))))))
   ·refine no (P:=Up lexB (vals g.edges)) (fun h=>(validG_iff2.1 h).2.2.2.1) fun h=>?_
    have:=vals_up h (show ((i:Int)-1).toNat<i by omega) hil
    rw [this] at c54;cases c54
   ·exact ⟨(),rfl,⟨⟨fun h=>by rw [h] at g7_3;exact g7_3 rfl,by simpa using g7_10⟩,fun h0=>by rw [show i-1=((i:Int)-1).toNat by omega];simpa using c54⟩,e7_7.trans e7_21⟩
   ·exact ⟨(),rfl,⟨⟨fun h=>by rw [h] at g7_3;exact g7_3 rfl,by simpa using g7_10⟩,fun h0=>by omega⟩,e7_7⟩
   ·refine no (P:=setB (g.edges.getD i default).l g.n=true) (fun h=>setB_iff.2 ((validG_iff.1 h).2.2.1 _ (List.mem_map_of_mem (gmem hil))).2) fun h=>?_
    rw [h] at g7_10;cases g7_10
   ·exact no (P:=(g.edges.getD i default).l≠[]) (fun h=>((validG_iff.1 h).2.2.1 _ (List.mem_map_of_mem (gmem hil))).1) fun h=>h (List.eq_nil_of_length_eq_zero (by omega))
   ·obtain ⟨⟨hne,hlt⟩,e7⟩:=hBC54
    refine V.region (VL.op (R.asI rfl) (VL.nil (V.block (?_))))
    refine V.loop [1,3,4,5] (fun k:Nat=>[.pointer (some ⟨b0_0,0,none⟩),.int .i64 (i:Nat),.slice (g.edges.getD i default).a (g.edges.getD i default).l.length (g.edges.getD i default).c,.int .i64 (k:Nat)]) (fun k w'=>k≤g.edges.length∧(∀ j,j<k→j≠i→contF (g.edges.getD i default).l (g.edges.getD j default).l=false)∧Ext w2 w') (fun k=>g.edges.length-k) 0 rfl ⟨Nat.zero_le _,fun j h=>absurd h (Nat.not_lt_zero j),e7⟩ ?_
    rintro ρ k w3 ⟨hk,hkc,e3⟩
    have hB3:=hB2.ext e3
    have hE3:=hE2.ext e3
    refine V.seq (V.seq (V.region (VL.op (R.mvI rfl) (VL.op (R.fld' (o:=2) Tryz.runUnderlying25 rfl rfl Tryz.sizeOf23 rfl rfl) (VL.op (R.ld1 Tryz.isAgg23 rfl ((show w3.cell? ⟨b0_0,2,none⟩=some (Value.slice g.ea g.edges.length g.ec) from hB3.cell 2))) (VL.op (R.lenS Tryz.runUnderlying23 rfl) (VL.op (R.lss rfl rfl) (VL.nil (V.condP rfl (fun c59=>V.skip (V.seq (V.block (V.seq (?_))))) (fun c59=>V.exit (V.region (VL.op (R.mvI rfl) (VL.op (R.add rfl rfl (by omega) (by omega)) (VL.op (R.asI rfl) (VL.nil (⟨i+1,rfl,⟨by omega,fun j hj2=>?_,e2.trans e3⟩,by omega⟩))))))))))))))))
    ·have hkl:k<g.edges.length:=by omega
     have hxk:=hx _ (gmem hkl)
     refine V.region (VL.op (R.mvI rfl) (VL.op (R.mvI rfl) (VL.op (R.neq rfl rfl) (VL.op (R.mvB rfl) (VL.andP rfl rfl (fun g12_3=>VL.op (R.mvS rfl) (VL.gT rfl rfl (VL.op (R.fld' (o:=2) Tryz.runUnderlying25 rfl rfl Tryz.sizeOf23 rfl rfl) (VL.gT rfl rfl (VL.op (R.ld1 Tryz.isAgg23 rfl ((show w3.cell? ⟨b0_0,2,none⟩=some (Value.slice g.ea g.edges.length g.ec) from hB3.cell 2))) (VL.gT rfl rfl (VL.op (R.mvI rfl) (VL.gT rfl rfl (VL.op (R.ixS Tryz.runUnderlying23 Tryz.sizeOf22 rfl rfl (by omega) (by omega) ((hE3.sl).some (i:=k) (by omega))) (VL.gT rfl rfl (VL.op (R.ld1 Tryz.isAgg22 rfl (((((hE3.sl).ext (Mod.refl _ _)).row (i:=k) (by omega)).cell (i:=0) rfl))) (VL.gT rfl rfl (VL.callP Tryz.call102 rfl (cont_spec (g.edges.getD i default).a (g.edges.getD k default).a (g.edges.getD i default).c (g.edges.getD k default).c (g.edges.getD i default).l (g.edges.getD k default).l _ (by omega) (by omega) (hE3.at hil) (hE3.at hkl)) fun w12_10 e12_10=>VL.op (R.pickTB rfl rfl) (VL.nil (V.cond rfl (fun c73=>V.seq (V.region (VL.op (R.asB rfl) (VL.nil (V.ret (fret1 (v:=.bool _) rfl rfl rfl (⟨?_,((hw.trans e2).trans e3).trans e12_10⟩))))))) (fun c73=>V.skip (V.region (VL.op (R.mvI rfl) (VL.op (R.add rfl rfl (by omega) (by omega)) (VL.op (R.asI rfl) (VL.nil (?_)))))))))))))))))))))) (fun g12_3=>VL.gF rfl rfl (VL.gF rfl rfl (VL.gF rfl rfl (VL.gF rfl rfl (VL.gF rfl rfl (VL.gF rfl rfl (VL.op (R.pickFB rfl rfl) (VL.nil (V.condF rfl (V.skip (V.region (VL.op (R.mvI rfl) (VL.op (R.add rfl rfl (by omega) (by omega)) (VL.op (R.asI rfl) (VL.nil (?_)))))))))))))))))))))
     ·refine no (P:=contF (g.edges.getD i default).l (g.edges.getD k default).l=false) (fun h=>?_) (by intro h;rw [h] at c73;cases c73)
      obtain ⟨_,_,h3,h4,h5⟩:=validG_iff2.1 h
      have m1:=List.mem_map_of_mem (f:=SlI.l) (gmem hil)
      have m2:=List.mem_map_of_mem (f:=SlI.l) (gmem hkl)
      rw [contF_sub (h3 _ m1).2.1 (h3 _ m2).2.1]
      cases hs:subB (g.edges.getD k default).l (g.edges.getD i default).l with
      | false=>rfl
      | true=>exact absurd (h5 _ m1 _ m2 hs) (vals_ne h4 (by omega) hkl hil)
     ·refine ⟨k+1,rfl,⟨by omega,fun j h1 h2=>?_,e3.trans e12_10⟩,by omega⟩
      by_cases h:j=k
      ·rw [h];exact c73
      ·exact hkc j (by omega) h2
     ·refine ⟨k+1,rfl,⟨by omega,fun j h1 h2=>?_,e3⟩,by omega⟩
      by_cases h:j=k
      ·omega
      ·exact hkc j (by omega) h2
    ·by_cases h:j=i
     ·rw [h];exact ⟨hne,hlt,fun k h1 h2=>hkc k (by omega) h2⟩
     ·exact hj j (by omega)
  ·have hie:i=g.edges.length:=by omega
   subst hie
   refine congrArg Value.bool (validG_iff2.2 ⟨hcb,by show (vals g.edges).length≤20000;rw [List.length_map];omega,fun e he=>?_,up_vals fun j h0 h1=>((hj j h1).2.1 h0),fun e he f hf hs=>?_⟩).symm
   ·obtain ⟨x,hx2,rfl⟩:=List.mem_map.1 he
    obtain ⟨j,hjl,rfl⟩:=List.getElem_of_mem hx2
    have:=(hj j hjl).1
    rw [gget hjl] at this
    exact ⟨this.1,setB_iff.1 this.2⟩
   ·obtain ⟨x,hx2,rfl⟩:=List.mem_map.1 he
    obtain ⟨j,hjl,rfl⟩:=List.getElem_of_mem hx2
    obtain ⟨y,hy2,rfl⟩:=List.mem_map.1 hf
    obtain ⟨k,hkl,rfl⟩:=List.getElem_of_mem hy2
    by_cases hjk:k=j
    ·subst hjk;rfl
    ·have h1:=(hj j hjl).2.2 k hkl hjk
     have h2:=(setB_iff.1 (hj j hjl).1.2).1
     have h3:=(setB_iff.1 (hj k hkl).1.2).1
     rw [contF_sub h2 h3,gget hjl,gget hkl,hs] at h1
     cases h1
 ·exact no (P:=costB g.n g.cost=true) (fun h=>(validG_iff.1 h).1) (by intro h;rw [h] at g1_6;cases g1_6)
end Go.Proofs.YtdbcfpcicjgghaaGreatDoor
