/- Repair: the state of a set of vertices. -/
import Derived.Test.YtdkhcipjenfcnaaGreatDoorXN3
import Derived.Test.YtdkhcipjenfcnaaGreatDoorXVcApp2
namespace Go.Proofs.YtdkhcipjenfcnaaGreatDoor
set_option maxRecDepth 100000
set_option maxHeartbeats 16000000
open Go.Vc Go.Proofs.Tryz
structure StW where
 p:Nat
 bi:Nat
 bf:Nat
 ba:Nat
 bs:List Bool
 fs:List Int
 z:List SlI
def encSt (g:GrW) (s:StW):List Value:=[.int .i64 g.n,.slice g.ca g.cost.length g.cc,.slice g.ea g.edges.length g.ec,.slice (some ⟨s.bi,0,none⟩) s.bs.length s.bs.length,.slice (some ⟨s.bf,0,none⟩) s.fs.length s.fs.length,.slice (some ⟨s.ba,0,none⟩) s.z.length s.z.length]
structure StOk (B:Nat) (w:World) (g:GrW) (s:StW):Prop where
 blk:Blk w s.p (.cells (Value.agg (encSt g s).toArray).cells 87 (0,0))
 i:OwnT encBo 1 4 B w (some ⟨s.bi,0,none⟩) s.bs.length s.bs
 f:OwnT Vc.encI 1 3 B w (some ⟨s.bf,0,none⟩) s.fs.length s.fs
 a:GLs B w (some ⟨s.ba,0,none⟩) s.z.length s.z
 li:s.bi<s.p
 lf:s.bf<s.p
 la:s.ba<s.p
 nif:s.bi≠s.bf
 nia:s.bi≠s.ba
 nfa:s.bf≠s.ba
 up:∀ j q,aBlk (s.z.getD j default).a q→s.p<q
theorem StOk.ext {B:Nat} {w w':World} {g:GrW} {s:StW} (h:StOk B w g s) (e:Ext w w'):StOk B w' g s :=
 ⟨h.blk.ext e,h.i.ext e,h.f.ext e,h.a.ext e,h.li,h.lf,h.la,h.nif,h.nia,h.nfa,h.up⟩
structure StIs (E:List (List Int)) (N:Nat) (s:StW) (P:List Int):Prop where
 bl:s.bs.length=N
 fl:s.fs.length=E.length
 zl:s.z.length=N
 in_:∀ j,j<N→s.bs.getD j default=decide (((j:Nat):Int)∈P)
 full:∀ k,k<E.length→s.fs.getD k default=((cntE (E.getD k default) P:Nat):Int)
 adj:∀ v,v<N→(s.z.getD v default).l=adjK E E.length ((v:Nat):Int)
theorem rep_at {α:Type} [Inhabited α] {n j:Nat} {a:α} (h:j<n):(List.replicate n a).getD j default=a:=by simp [List.getD,h]
theorem rep_def {α:Type} [Inhabited α] (n j:Nat):(List.replicate n (default:α)).getD j default=default:=by
 by_cases h:j<n
 ·exact rep_at h
 ·simp [List.getD,h]
theorem vals_at {E:List SlI} {k:Nat} (h:k<E.length):(vals E).getD k default=(E.getD k default).l:=gmap _ _ _ h
theorem begin_spec (g:GrW) (N:Nat) (w:World) (hG:GOk w g) (hl:GLen g) (hv:validG (grV g)=true) (hN:g.n=(N:Int)) :
  RetsX prog 100 #[.agg (encGr g).toArray] w (fun s:StW=>.pointer (some ⟨s.p,0,none⟩)) (fun s w'=>StOk w.heap.size w' g s∧StIs (vals g.edges) N s []):=by
 have hn:=costB_iff.1 (validG_iff.1 hv).1
 have hN4:N≤4000:=by have h0:g.n≤4000:=hn.2.1;omega
 have hE20:g.edges.length≤20000:=by have:=(validG_iff.1 hv).2.1;simpa [grV,vals] using this
 refine eN (args:=[_]) func100 rfl ntmps100 ?_
 refine Vs<|Vr<|VL.box (v:=.agg _) rfl fun b0_0 w0_0 hb0_0 e0_0 hB0_0=>Vo (R.asP rfl)<|Vn<|Vs<|V.regionS mixed 11 (by kernel_rfl) rfl (fun us=>VS.op (fun wq eq=>R.ldA ag25 sz25 rfl rfl (show RowAt _ _ _ (encGr g) from (hB0_0.ext eq).rowAt 0 3) rfl) (VS.op (fun wq eq=>R.fld' (o:=0) ru25 rfl rfl sz3 rfl rfl) (VS.op (fun wq eq=>rla ag3 rfl (show wq.cell? ⟨b0_0,0,none⟩=some (Value.int .i64 ((N:Nat):Int)) from by rw [←hN];exact (hB0_0.ext eq).cell 0)) (VS.spec (fun u w'=>∃ b,u=.slice (some ⟨b,0,none⟩) N N∧OwnT encBo 1 4 w0_0.heap.size w' (some ⟨b,0,none⟩) N (List.replicate N false)) (fun u a b _ ⟨c,hc,h1⟩ eb=>⟨c,hc,h1.ext eb⟩) rfl (fun wq eq hq=>yieldsR_make el79 false rfl rfl rfl (by omega) (by unfold maxLen;omega) eq.size fun b w' hb he hO=>⟨⟨b,rfl,hO⟩,he⟩) (VS.op (fun wq eq=>R.fld' (o:=2) ru25 rfl rfl sz23 rfl rfl) (VS.op (fun wq eq=>rla ag23 rfl (show wq.cell? ⟨b0_0,2,none⟩=some (Value.slice g.ea g.edges.length g.ec) from (hB0_0.ext eq).cell 2)) (VS.op (fun wq eq=>R.lenS ru23 rfl) (VS.spec (fun u w'=>∃ b,u=.slice (some ⟨b,0,none⟩) g.edges.length g.edges.length∧OwnT Vc.encI 1 3 w0_0.heap.size w' (some ⟨b,0,none⟩) g.edges.length (List.replicate g.edges.length (0:Int))) (fun u a b _ ⟨c,hc,h1⟩ eb=>⟨c,hc,h1.ext eb⟩) rfl (fun wq eq hq=>yieldsR_make el22 (0:Int) rfl rfl rfl (by omega) (by unfold maxLen;omega) eq.size fun b w' hb he hO=>⟨⟨b,rfl,hO⟩,he⟩) (VS.op (fun wq eq=>R.fld' (o:=0) ru25 rfl rfl sz3 rfl rfl) (VS.op (fun wq eq=>rla ag3 rfl (show wq.cell? ⟨b0_0,0,none⟩=some (Value.int .i64 ((N:Nat):Int)) from by rw [←hN];exact (hB0_0.ext eq).cell 0)) (VS.spec (fun u w'=>∃ b,u=.slice (some ⟨b,0,none⟩) N N∧OwnT encSl 1 22 w0_0.heap.size w' (some ⟨b,0,none⟩) N (List.replicate N (default:SlI))) (fun u a b _ ⟨c,hc,h1⟩ eb=>⟨c,hc,h1.ext eb⟩) rfl (fun wq eq hq=>yieldsR_make el23 (default:SlI) rfl rfl rfl (by omega) (by unfold maxLen;omega) eq.size fun b w' hb he hO=>⟨⟨b,rfl,hO⟩,he⟩) (VS.nil (fun w2 e2 h2=>?_))))))))))))) rfl
 obtain ⟨bi,hbi,hoi⟩:=h2 3
 obtain ⟨bf,hbf,hof⟩:=h2 7
 obtain ⟨ba,hba,hoa⟩:=h2 10
 rw [hbi,hbf,hba]
 have hX0:=hB0_0.ext e2
 have hoi':=hoi
 have hsz0:=e0_0.size
 refine Vo (R.build zeroValue87 ru87 pl87 rfl)<|VL.box (v:=.agg _) rfl fun p w3 hp e3 hP3=>Vo (R.asP rfl)<|Vn<|Vs<|Vs (?_)
 have hX3:=hX0.ext e3
 have hpl:=hP3.lt
 obtain ⟨st,hst⟩:∃ st:List SlI→StW,st=fun z=>⟨p,bi,bf,ba,List.replicate N false,List.replicate g.edges.length 0,z⟩:=⟨_,rfl⟩
 have hw3:Ext w w3:=(e0_0.trans e2).trans e3
 have hS3:StOk w.heap.size w3 g (st (List.replicate N default)):=by
  rw [hst]
  have tI:=OwnT.tyA hoi
  have tA:=OwnT.tyA hoa
  obtain ⟨cF,zF,bF⟩:=OwnT.tyA hof _ rfl
  have li:bi<w2.heap.size:=hoi.lt _ ⟨_,rfl,rfl⟩
  have lf:bf<w2.heap.size:=hof.lt _ ⟨_,rfl,rfl⟩
  have la:ba<w2.heap.size:=hoa.lt _ ⟨_,rfl,rfl⟩
  obtain ⟨cA,zA,bA⟩:=tA _ rfl
  have n1:=tI.apart bF (by decide)
  have n2:=tI.apart bA (by decide)
  have n3:=tA.apart bF (by decide)
  refine ⟨?_,?_,?_,⟨?_,fun j=>?_,fun j=>?_,fun i j _=>?_⟩,by dsimp only;omega,by dsimp only;omega,by dsimp only;omega,fun h=>n1 ⟨_,rfl,h⟩,fun h=>n2 ⟨_,rfl,h⟩,fun h=>n3 ⟨_,rfl,h.symm⟩,fun j q h=>?_⟩
  ·unfold encSt
   dsimp only
   rw [List.length_replicate,List.length_replicate,List.length_replicate]
   exact hP3
  ·dsimp only;rw [List.length_replicate];exact (hoi.ext e3).weaken hsz0
  ·dsimp only;rw [List.length_replicate];exact (hof.ext e3).weaken hsz0
  ·dsimp only;rw [List.length_replicate];exact (hoa.ext e3).weaken hsz0
  ·dsimp only;rw [rep_def];exact OwnT.nil _ _ _ _ _
  ·dsimp only;rw [rep_def];exact Sep.nil' _
  ·dsimp only;rw [rep_def,rep_def];exact Sep.nil _
  ·dsimp only at h;rw [rep_def] at h;exact absurd h (Sep.nil none q h)
 have hI3:∀ v,v<N→((List.replicate N (default:SlI)).getD v default).l=adjK (vals g.edges) 0 ((v:Nat):Int):=fun v hv=>by rw [rep_at hv];rfl
 refine Vr<|Vo (R.fld' (o:=2) ru25 rfl rfl sz23 rfl rfl)<|Vo (rla ag23 rfl (show w3.cell? ⟨b0_0,2,none⟩=some (Value.slice g.ea g.edges.length g.ec) from hX3.cell 2))<|Vo (R.lenS ru23 rfl)<|oI rfl<|Vn<|Vb (?_)
 refine Vl [3,22,23,24] (fun x:Nat×List SlI=>[pA p,.slice g.ea g.edges.length g.ec,.int .i64 (g.edges.length:Nat),.int .i64 (x.1:Nat)])
  (fun x w'=>x.1≤g.edges.length∧x.2.length=N∧StOk w.heap.size w' g (st x.2)∧(∀ v,v<N→(x.2.getD v default).l=adjK (vals g.edges) x.1 ((v:Nat):Int))∧Ext w w') (fun x=>g.edges.length-x.1) (0,List.replicate N default) rfl ⟨Nat.zero_le _,by simp,hS3,hI3,hw3⟩ ?_
 rintro ρ ⟨k,z⟩ w4 ⟨hk,hz,hS,hI,e4⟩
 dsimp only at hk hz hS hI e4 ⊢
 have hG4:=(hG.ext e4).e
 refine Vs<|Vr<|oL rfl rfl<|Vn<|Vs<|Vd rfl (fun c25=>Vk<|Vs<|Vb<|Vs (?_)) (fun c25=>Ve<|Vs<|Vr<|Vo (R.mvP rfl)<|Vo (R.asP rfl)<|Vn<|Vt (fret1 (v:=.pointer _) rfl rfl rfl (?_)))
 ·have hkl:k<g.edges.length:=by omega
  have hxs:=(validG_iff.1 hv).2.2.1 _ (List.mem_map_of_mem (gmem hkl))
  have hxv:∀ y∈(g.edges.getD k default).l,0≤y∧y<(N:Int):=fun y hy=>by have:=hxs.2.2 y hy;rw [show (grV g).n=g.n from rfl,hN] at this;exact this
  have hxl:=(hl.each _ (gmem hkl)).1
  refine Vr<|oI rfl<|Vo (iX ru23 sz22 rfl rfl ((hG4.sl).some (i:=k) (by omega)))<|Vo (rla ag22 rfl ((((hG4.sl).ext (Mod.refl _ _)).row (i:=k) (by omega)).c0a rfl))<|oJ rfl<|oT rfl<|Vn<|Vs<|Vr<|oS rfl<|Vo (R.lenS ru22 rfl)<|oI rfl<|Vn<|Vb (?_)
  refine Vl [3,4,22,23,24,29,30,31] (fun x:Nat×List SlI=>[pA p,.int .i64 (k:Nat),.slice g.ea g.edges.length g.ec,.int .i64 (g.edges.length:Nat),.int .i64 (k:Nat),.slice (g.edges.getD k default).a (g.edges.getD k default).l.length (g.edges.getD k default).c,.int .i64 ((g.edges.getD k default).l.length:Nat),.int .i64 (x.1:Nat)])
   (fun x w'=>x.1≤(g.edges.getD k default).l.length∧x.2.length=N∧StOk w.heap.size w' g (st x.2)∧(∀ v,v<N→(x.2.getD v default).l=adjK (vals g.edges) k ((v:Nat):Int)++if ((v:Nat):Int)∈(g.edges.getD k default).l.take x.1 then [(k:Int)] else [])∧Ext w w') (fun x=>(g.edges.getD k default).l.length-x.1) (0,z) rfl ⟨Nat.zero_le _,hz,hS,fun v hv=>by rw [hI v hv];simp,e4⟩ ?_
  rintro ρ ⟨i,z2⟩ w5 ⟨hi,hz2,hS2,hI2,e5⟩
  dsimp only at hi hz2 hS2 hI2 e5 ⊢
  have hx5:IntSl w5 (g.edges.getD k default).a (g.edges.getD k default).l:=((hG.ext e5).e).at hkl
  refine Vs<|Vr<|oL rfl rfl<|Vn<|Vs<|Vd rfl (fun c32=>Vk<|Vs<|Vb<|Vs (?_)) (fun c32=>Ve<|Vr<|oD rfl rfl<|oI rfl<|Vn (?_))
  ·have hil:i<(g.edges.getD k default).l.length:=by omega
   refine Vr<|Vo (iX ru22 sz3 rfl rfl ((hx5).some (i:=i) (by omega)))<|Vo (rla ag3 rfl ((((hx5).ext (Mod.refl _ _)).row (i:=i) (by omega)).c0a rfl))<|oJ rfl<|Vn (?_)
   obtain ⟨v,hvd⟩:∃ v:Nat,(v:Int)=(g.edges.getD k default).l.getD i default:=⟨((g.edges.getD k default).l.getD i default).toNat,by have:=(hxv _ (gmem hil)).1;omega⟩
   have hvN:v<N:=by have:=(hxv _ (gmem hil)).2;omega
   rw [←hvd]
   have hS2:=hS2
   rw [hst] at hS2
   have hX5:Blk w5 p (.cells (Value.agg (encSt g ⟨p,bi,bf,ba,List.replicate N false,List.replicate g.edges.length 0,z2⟩).toArray).cells 87 (0,0)):=hS2.blk
   have hA2:GLs w.heap.size w5 (some ⟨ba,0,none⟩) z2.length z2:=hS2.a
   have hlp:ba<p:=hS2.la
   have hx:=hA2.each v
   have hxl2:=hx.lt
   have hxg:=hx.ge
   have hxp:=hS2.up v
   have hll:(z2.getD v default).l.length≤20001:=by
    rw [hI2 v hvN,List.length_append]
    have h1:=adjK_len (vals g.edges) k ((v:Nat):Int)
    have h2:(if ((v:Nat):Int)∈(g.edges.getD k default).l.take i then [(k:Int)] else []).length≤1:=by split <;> simp
    omega
   have hnew:((v:Nat):Int)∉(g.edges.getD k default).l.take i:=fun h=>by
    obtain ⟨j,hj,hjv⟩:=List.getElem_of_mem h
    rw [List.length_take] at hj
    rw [List.getElem_take] at hjv
    have:=inc_at hxs.2.1 (i:=j) (j:=i) (by omega) hil
    rw [←hvd,gget (show j<(g.edges.getD k default).l.length by omega),hjv] at this
    omega
   have hs5:=e5.size
   have hclq:∀ {wq:World},TA Vc.encI 1 3 w.heap.size (z2.getD v default).a (z2.getD v default).c (z2.getD v default).l ((k:Nat):Int) w5 wq→Blk wq p (.cells (Value.agg (encSt g ⟨p,bi,bf,ba,List.replicate N false,List.replicate g.edges.length 0,z2⟩).toArray).cells 87 (0,0))∧TSl encSl 1 wq (some ⟨ba,0,none⟩) z2:=fun tt=>⟨hX5.mod tt.m fun h=>by have:=hxp _ h;dsimp only at this;omega,(hA2.own.mod tt.m (hA2.out _)).sl⟩
   refine V.regionT (T:=(TA Vc.encI 1 3 w.heap.size (z2.getD v default).a (z2.getD v default).c (z2.getD v default).l ((k:Nat):Int))) mixed 15 (by kernel_rfl) rfl (fun us=>VT.op (fun wq eq=>R.mvP rfl) (VT.op (fun wq eq=>R.nilCheck rfl) (VT.op (fun wq eq=>R.fld' (o:=5) ru87 rfl rfl sz23 rfl rfl) (VT.op (fun wq eq=>rla ag23 rfl (show wq.cell? ⟨p,5,none⟩=some (Value.slice (some ⟨ba,0,none⟩) z2.length z2.length) from (hclq eq).1.cell 5)) (VT.op (fun wq eq=>R.mvI rfl) (VT.op (fun wq eq=>R.mvP rfl) (VT.op (fun wq eq=>R.nilCheck rfl) (VT.op (fun wq eq=>R.fld' (o:=5) ru87 rfl rfl sz23 rfl rfl) (VT.op (fun wq eq=>rla ag23 rfl (show wq.cell? ⟨p,5,none⟩=some (Value.slice (some ⟨ba,0,none⟩) z2.length z2.length) from (hclq eq).1.cell 5)) (VT.op (fun wq eq=>R.mvI rfl) (VT.op (fun wq eq=>iX ru23 sz22 rfl rfl (hA2.own.sl.some (i:=v) (by omega))) (VT.op (fun wq eq=>rla ag22 rfl (((hclq eq).2.row (i:=v) (by omega)).c0a rfl)) (VT.op (fun wq eq=>R.mvI rfl) (VT.spec (SB1 Vc.encI 1 3 w5.heap.size ((k:Nat):Int)) (fun u x y _ ⟨bb,h1,h2⟩ eb=>⟨bb,h1,h2.mod eb.m fun k hk hs=>by have:=OwnT.ge h2 k hk;have:=hxl2 k hs;omega⟩) rfl (fun wq eq hq=>yieldsR_build1 ru22 sz3 zv3 rfl rfl rfl ((k:Nat):Int) rfl rfl rfl eq.m.size fun b w2 ho he=>⟨⟨b,rfl,ho⟩,Turn.ext he⟩) (VT.spec (SA Vc.encI 1 3 w.heap.size w5.heap.size (z2.getD v default).a (z2.getD v default).c (z2.getD v default).l ((k:Nat):Int)) (SA.mono hx) rfl (fun wq eq hq=>by
      obtain ⟨bb,hb,hB⟩:=hq 13 (by kernel_rfl)
      refine yieldsR_app1 (a:=(z2.getD v default).a) (cap:=(z2.getD v default).c) (b:=bb) (l:=(z2.getD v default).l) (u:=((k:Nat):Int)) el22 (fun _=>rfl) hx eq ?_ ?_ hB.sl (by omega) (by unfold maxLen;omega) hs5
      ·rfl
      ·exact hb) (VT.nil (fun w10 e10 h10=>?_))))))))))))))))) rfl
   obtain ⟨a',c',hu,hO,hd⟩:=h10 14
   have hm10:=e10.m
   rw [hu]
   refine Vo (iX ru23 sz22 rfl rfl (hA2.own.sl.some (i:=v) (by omega)))<|VL.ownSt eltSl (v:=.slice _ _ _) sz22 (hA2.own.mod hm10 (hA2.out _)) v 0 (SlI.mk a' c' ((z2.getD v default).l++[((k:Nat):Int)])) rfl rfl (by omega) rfl rfl rfl rfl (by show [Value.slice a' ((z2.getD v default).l++[((k:Nat):Int)]).length c']=_;rw [List.length_append];rfl) fun w22 ho22 m22 hs22=>Vn<|Vr<|oD rfl rfl<|oI rfl<|Vn (?_)
   refine ⟨(i+1,z2.set v ⟨a',c',(z2.getD v default).l++[((k:Nat):Int)]⟩),rfl,⟨by dsimp only;omega,by dsimp only;rw [List.length_set];exact hz2,?_,?_,?_⟩,by dsimp only;omega⟩
   ·rw [hst]
    have hpx:∀ q,aBlk (z2.getD v default).a q→p<q:=hxp
    have hab:∀ q,aBlk a' q→p<q:=fun q hq=>by
     rcases hd with ⟨e1,_⟩ | h
     ·exact hpx q (e1▸hq)
     ·have:=h q hq;have:=hX5.lt;omega
    have hbi:=hS2.li
    have hbf:=hS2.lf
    dsimp only at hbi hbf
    refine ⟨?_,?_,?_,?_,hS2.li,hS2.lf,hS2.la,hS2.nif,hS2.nia,hS2.nfa,fun j q h=>?_⟩
    ·have:=(hX5.mod hm10 fun h=>by have:=hpx _ h;omega).mod m22 fun h=>by have:=aBlk_some h;omega
     unfold encSt at this ⊢
     dsimp only at this ⊢
     rw [List.length_set];exact this
    ·exact (hS2.i.mod hm10 fun q h1 h2=>by have:=aBlk_some h1;have:=hpx _ h2;dsimp only at *;omega).mod m22 fun q h1 h2=>hS2.nia (by have:=aBlk_some h1;have:=aBlk_some h2;dsimp only at *;omega)
    ·exact (hS2.f.mod hm10 fun q h1 h2=>by have:=aBlk_some h1;have:=hpx _ h2;dsimp only at *;omega).mod m22 fun q h1 h2=>hS2.nfa (by have:=aBlk_some h1;have:=aBlk_some h2;dsimp only at *;omega)
    ·dsimp only
     rw [List.length_set]
     refine hA2.app (by omega) hO hm10 (fun q hq=>?_) ho22 m22
     rcases hd with ⟨e1,_⟩ | h
     ·exact .inl (e1▸hq)
     ·exact .inr (h q hq)
    ·dsimp only at h
     by_cases e:j=v
     ·subst e;rw [setD_eq _ (by omega)] at h;exact hab q h
     ·rw [setD_ne _ e] at h;exact hS2.up j q h
   ·intro u huN
    dsimp only
    have ht:(g.edges.getD k default).l.take (i+1)=(g.edges.getD k default).l.take i++[(v:Int)]:=by rw [List.take_succ_eq_append_getElem hil,hvd,gget hil]
    by_cases e:u=v
    ·subst e
     rw [setD_eq _ (by omega)]
     dsimp only
     rw [hI2 u huN,if_neg hnew,List.append_nil,ht,if_pos (by simp)]
    ·rw [setD_ne _ e,hI2 u huN,ht]
     congr 1
     have:((u:Nat):Int)∈(g.edges.getD k default).l.take i++[(v:Int)]↔((u:Nat):Int)∈(g.edges.getD k default).l.take i:=by
      rw [List.mem_append,List.mem_singleton]
      exact ⟨fun h=>h.resolve_right (by omega),.inl⟩
     by_cases hh:((u:Nat):Int)∈(g.edges.getD k default).l.take i
     ·rw [if_pos hh,if_pos (this.2 hh)]
     ·rw [if_neg hh,if_neg (fun h=>hh (this.1 h))]
   ·exact (e5.ownA hm10 hxg).ownA m22 fun q hq=>hA2.own.ge q hq
  ·have hie:i=(g.edges.getD k default).l.length:=by omega
   subst hie
   refine ⟨(k+1,z2),rfl,⟨by dsimp only;omega,hz2,hS2,fun v hv=>?_,e5⟩,by dsimp only;omega⟩
   rw [hI2 v hv,List.take_length,adjK_succ,vals_at hkl]
 ·have hke:k=g.edges.length:=by omega
  refine ⟨st z,by rw [hst],⟨hS,?_⟩,e4⟩
  rw [hst]
  refine ⟨by simp,by simp,hz,fun j hj=>?_,fun k2 hk2=>?_,fun v hv=>?_⟩
  ·dsimp only;rw [rep_at hj];simp
  ·dsimp only;rw [cntE_nil,rep_at (by simpa using hk2)];rfl
  ·dsimp only;rw [hI v hv,hke,List.length_map]
theorem range_getD (F:Int→Bool) (l:List Int):((List.range l.length).any fun k=>F (l.getD k default))=l.any F:=by
 rw [Bool.eq_iff_iff,List.any_eq_true,List.any_eq_true]
 constructor
 ·rintro ⟨k,hk,h⟩
  exact ⟨_,gmem (List.mem_range.1 hk),h⟩
 ·rintro ⟨x,hx,h⟩
  obtain ⟨i,hi,rfl⟩:=List.getElem_of_mem hx
  exact ⟨i,List.mem_range.2 hi,by rw [gget hi];exact h⟩
theorem containsM_spec (g:FuncId) (Fv Cv:List Value) (F:Int→Bool) (S:World→Prop) (a:Option Addr) (c:Nat) (l:List Int) (w:World) (hfn:IsFn prog g) (hdo:∀ w x,S w→x∈l→RetsP prog g (Fv++[Value.int .i64 x]++Cv).toArray w (.bool (F x)))
  (hSe:∀ w w',S w→Ext w w'→S w') (h0:S w) (hL:IntSl w a l) (hm:l.length≤1000000) :
  RetsP prog 64 #[.slice a l.length c,.func (.func g) Fv.toArray Cv.toArray] w (.bool (l.any F)):=by
 refine (containsK g Fv Cv (fun k=>F (l.getD k default)) (fun _ w'=>S w'∧Ext w w') a c l w hfn (fun k w' hk h=>(hdo w' _ h.1 (gmem hk)).mono fun u w2 ⟨hu,e⟩=>⟨(),hu,hSe _ _ h.1 e,h.2.trans e⟩) (fun _ w' h=>hL.ext h.2) ⟨h0,Vc.Mod.refl _ _⟩ hm).mono fun u w2 ⟨_,hu,k,_,e⟩=>⟨?_,e⟩
 rw [hu]
 show Value.bool _=Value.bool _
 rw [range_getD]
theorem GLs.turn {B:Nat} {w w':World} {a:Option Addr} {c:Nat} {z:List SlI} {S:Nat→Prop} (h:GLs B w a c z) (m:Vc.Mod S w w') (h1:∀ q,aBlk a q→¬S q) (h2:∀ i q,aBlk (z.getD i default).a q→¬S q):GLs B w' a c z :=
 ⟨h.own.mod m h1,fun i=>(h.each i).mod m (h2 i),h.out,h.sep⟩
def StT (s:StW) (q:Nat):Prop:=q=s.bi∨q=s.bf
theorem StOk.turn {B:Nat} {w w':World} {g:GrW} {s:StW} (h:StOk B w g s) (m:Vc.Mod (StT s) w w') {bs:List Bool} {fs:List Int} (hi:OwnT encBo 1 4 B w' (some ⟨s.bi,0,none⟩) s.bs.length bs) (hb:bs.length=s.bs.length)
  (hf:OwnT Vc.encI 1 3 B w' (some ⟨s.bf,0,none⟩) s.fs.length fs) (hfl:fs.length=s.fs.length):StOk B w' g ⟨s.p,s.bi,s.bf,s.ba,bs,fs,s.z⟩:=by
 have li:=h.li
 have lf:=h.lf
 refine ⟨?_,?_,?_,?_,h.li,h.lf,h.la,h.nif,h.nia,h.nfa,h.up⟩
 ·have:=h.blk.mod m (fun hh=>by unfold StT at hh;omega)
  unfold encSt at this ⊢
  dsimp only at this ⊢
  rw [hb,hfl];exact this
 ·dsimp only;rw [hb];exact hi
 ·dsimp only;rw [hfl];exact hf
 ·refine h.a.turn m (fun q hq hs=>?_) fun j q hq hs=>?_
  ·have:=aBlk_some hq
   have h1:=h.nia
   have h2:=h.nfa
   unfold StT at hs;omega
  ·have:=h.up j q hq
   unfold StT at hs;omega
theorem StT.ge {B:Nat} {w:World} {g:GrW} {s:StW} (h:StOk B w g s):∀ q,StT s q→B≤q:=fun q hq=>by
 rcases hq with rfl | rfl
 ·exact h.i.ge _ ⟨_,rfl,rfl⟩
 ·exact h.f.ge _ ⟨_,rfl,rfl⟩
abbrev PtB (w:World) (b:Nat) (s:StW):Prop:=Blk w b (.cells #[.pointer (some ⟨s.p,0,none⟩)] 82 (0,0))
theorem blocked1_spec (g:GrW) (B bx:Nat) (s:StW) (k:Nat) (w:World) (hS:StOk B w g s) (hb:PtB w bx s) (hE:LL w g.ea g.edges) (hl:GLen g) (hk:k<g.edges.length) (hf:s.fs.length=g.edges.length) (_hE20:g.edges.length≤20000) :
  RetsP prog 101 #[.int .i64 (k:Nat),pA bx] w (.bool (decide (s.fs.getD k default=((g.edges.getD k default).l.length:Int)-1))):=by
 have hX:=hS.blk
 have hle:=(hl.each _ (gmem hk)).1
 refine eN (args:=[_,_]) func101 rfl ntmps101 ?_
 refine Vs<|Vr<|oA rfl<|Vn<|Vs<|rQ 17 (Vq (fun wq eq=>rla isAgg82 rfl ((hb.ext eq).cell 0))<|Vq (fun wq eq=>R.nilCheck rfl)<|Vq (fun wq eq=>R.fld' (o:=4) ru87 rfl rfl sz22 rfl rfl)<|Vq (fun wq eq=>rla ag22 rfl (show wq.cell? ⟨s.p,4,none⟩=some (Value.slice (some ⟨s.bf,0,none⟩) s.fs.length s.fs.length) from (hX.ext eq).cell 4))<|qI rfl<|Vq (fun wq eq=>iX ru22 sz3 rfl rfl (hS.f.sl.some (i:=k) (by omega)))<|Vq (fun wq eq=>rla ag3 rfl (((hS.f.sl.ext eq).row (i:=k) (by omega)).c0a rfl))<|Vq (fun wq eq=>rla isAgg82 rfl ((hb.ext eq).cell 0))<|Vq (fun wq eq=>R.nilCheck rfl)<|Vq (fun wq eq=>R.fld' (o:=0) ru87 rfl rfl sz25 rfl rfl)<|Vq (fun wq eq=>R.fld' (o:=2) ru25 rfl rfl sz23 rfl rfl)<|Vq (fun wq eq=>rla ag23 rfl (show wq.cell? ⟨s.p,2,none⟩=some (Value.slice g.ea g.edges.length g.ec) from (hX.ext eq).cell 2))<|qI rfl<|Vq (fun wq eq=>iX ru23 sz22 rfl rfl (hE.sl.some (i:=k) hk))<|Vq (fun wq eq=>rla ag22 rfl (((hE.sl.ext eq).row (i:=k) hk).c0a rfl))<|Vq (fun wq eq=>R.lenS ru22 rfl)<|Vq (fun wq eq=>R.sub rfl rfl (by omega) (by omega))<|Vj fun w1q e1q=>Vo (R.eql rfl rfl)<|oA rfl<|Vn<|Vt<|tB rfl rfl rfl (⟨rfl,e1q⟩))
theorem blocked_spec (g:GrW) (B N:Nat) (s:StW) (P:List Int) (v:Nat) (w:World) (hS:StOk B w g s) (hI:StIs (vals g.edges) N s P) (hE:LL w g.ea g.edges) (hl:GLen g) (hE20:g.edges.length≤20000) (hn:∀ e∈vals g.edges,e.Nodup) (hv:v<N) (hP:(v:Int)∉P) :
  RetsP prog 61 #[.pointer (some ⟨s.p,0,none⟩),.int .i64 (v:Nat)] w (.bool (blkB (vals g.edges) P (v:Nat))):=by
 have hX:=hS.blk
 have hz:=hI.zl
 have hfl:s.fs.length=g.edges.length:=by rw [hI.fl,List.length_map]
 have hzl:(s.z.getD v default).l.length≤20000:=by rw [hI.adj v hv];have:=adjK_len (vals g.edges) (vals g.edges).length ((v:Nat):Int);rw [List.length_map] at this ⊢;omega
 refine eN (args:=[_,_]) func61 rfl ntmps61 ?_
 refine Vs<|Vr<|VL.box (v:=.pointer _) rfl fun b0 w0 hb0 e0 hB0=>oA rfl<|Vn<|Vs<|Vr<|Vo (rla isAgg82 rfl (hB0.cell _))<|Vo (R.nilCheck rfl)<|Vo (R.fld' (o:=5) ru87 rfl rfl sz23 rfl rfl)<|Vo (rla ag23 rfl (show w0.cell? ⟨s.p,5,none⟩=some (Value.slice (some ⟨s.ba,0,none⟩) s.z.length s.z.length) from (hX.ext e0).cell 5))<|oI rfl<|Vo (iX ru23 sz22 rfl rfl (hS.a.own.sl.some (i:=v) (by omega)))<|Vo (rla ag22 rfl (((hS.a.own.sl.ext e0).row (i:=v) (by omega)).c0a rfl))<|Vo (R.mkFn rfl rfl)<|Vp call64 rfl (containsM_spec 101 [] [pA b0] (fun x=>decide (s.fs.getD x.toNat default=((g.edges.getD x.toNat default).l.length:Int)-1)) (fun w'=>StOk B w' g s∧PtB w' b0 s∧LL w' g.ea g.edges) (s.z.getD v default).a (s.z.getD v default).c (s.z.getD v default).l _ call101
   (fun w' x h hx=>by
    rw [hI.adj v hv] at hx
    obtain ⟨i,hi,_,rfl⟩:=adjK_mem.1 hx
    rw [List.length_map] at hi
    exact blocked1_spec g B b0 s i w' h.1 h.2.1 h.2.2 hl hi hfl hE20) (fun _ _ h e=>⟨h.1.ext e,h.2.1.ext e,h.2.2.ext e⟩) ⟨hS.ext e0,hB0,hE.ext e0⟩ ((hS.a.each v).sl.ext e0) (by omega)) fun w1_8 e1_8=>oA rfl<|Vn<|Vt<|tB rfl rfl rfl (⟨?_,(e0.trans e1_8)⟩)
 rw [←adj_blk hn hP,hI.adj v hv]
 congr 1
 rw [Bool.eq_iff_iff,List.any_eq_true,List.any_eq_true]
 refine ⟨fun ⟨x,hx,h⟩=>⟨x,hx,?_⟩,fun ⟨x,hx,h⟩=>⟨x,hx,?_⟩⟩
 all_goals
  obtain ⟨i,hi,_,rfl⟩:=adjK_mem.1 hx
  have hi2:=hi
  rw [List.length_map] at hi2
  rw [Int.toNat_natCast,hI.full i hi,vals_at hi2] at *
  exact h
theorem put_spec (g:GrW) (B N:Nat) (s:StW) (P P':List Int) (v:Nat) (b:Bool) (w:World) (hS:StOk B w g s) (hI:StIs (vals g.edges) N s P) (hE20:g.edges.length≤20000) (he:∀ x∈vals g.edges,x.length≤1000000) (hv:v<N) (_hB:B≤w.heap.size)
  (h1:∀ k,k<(vals g.edges).length→((cntE ((vals g.edges).getD k default) P':Nat):Int)=(cntE ((vals g.edges).getD k default) P:Nat)+if ((v:Nat):Int)∈(vals g.edges).getD k default then (if b=true then 1 else -1) else 0)
  (h2:∀ j:Nat,j<N→decide (((j:Nat):Int)∈P')=if j=v then b else decide (((j:Nat):Int)∈P)) :
  RetsY prog 62 #[.pointer (some ⟨s.p,0,none⟩),.int .i64 (v:Nat),.bool b] w (fun _:List Bool×List Int=>.tuple #[]) (fun x w'=>StOk B w' g ⟨s.p,s.bi,s.bf,s.ba,x.1,x.2,s.z⟩∧StIs (vals g.edges) N ⟨s.p,s.bi,s.bf,s.ba,x.1,x.2,s.z⟩ P'∧Vc.Mod (StT s) w w'):=by
 have hX:=hS.blk
 have hz:=hI.zl
 have hbl:=hI.bl
 have hfl:s.fs.length=g.edges.length:=by rw [hI.fl,List.length_map]
 have li:=hS.li
 have lf:=hS.lf
 have hzl:(s.z.getD v default).l.length≤20000:=by rw [hI.adj v hv];have:=adjK_len (vals g.edges) (vals g.edges).length ((v:Nat):Int);rw [List.length_map] at this ⊢;omega
 refine eN (args:=[_,_,_]) func62 rfl ntmps62 ?_
 refine Vs<|Vr<|oJ rfl<|Vn<|V.cut [0,1,2,6] (fun d:Int=>[.pointer (some ⟨s.p,0,none⟩),.int .i64 (v:Nat),.bool b,.int .i64 d]) (fun d w'=>d=(if b=true then 1 else -1)∧Ext w w') (Vs<|Vr<|oB rfl<|Vo (R.not rfl)<|Vn<|Vh rfl (fun c10=>Vr<|oJ rfl<|Vn (?_)) (fun c10=>Vk (?_))) (fun rgC10 xC10 wBC10 hBC10=>Vs (?_))
 ·exact ⟨-1,rfl,by rw [if_neg (by simpa using c10)],Vc.Mod.refl _ _⟩
 ·exact ⟨1,rfl,by rw [if_pos (by simpa using c10)],Vc.Mod.refl _ _⟩
 ·obtain ⟨hd,e2⟩:=hBC10
  have hX2:=hX.ext e2
  have hi2:=hS.i.ext e2
  have hd1:-1≤xC10∧xC10≤1:=by rw [hd];split <;> omega
  refine Vr<|Vo (R.mvP rfl)<|Vo (R.nilCheck rfl)<|Vo (R.fld' (o:=3) ru87 rfl rfl sizeOf79 rfl rfl)<|Vo (rla isAgg79 rfl (show wBC10.cell? ⟨s.p,3,none⟩=some (Value.slice (some ⟨s.bi,0,none⟩) s.bs.length s.bs.length) from hX2.cell 3))<|oI rfl<|oB rfl<|Vo (iX ru79 sz4 rfl rfl (hi2.sl.some (i:=v) (by omega)))<|VL.ownSt eltBo (v:=.bool _) sz4 (hi2) v 0 b rfl rfl (by omega) rfl rfl rfl rfl rfl fun w3 ho3 m3 hs3=>Vn<|Vs (?_)
  have hX3:Blk w3 s.p (.cells (Value.agg (encSt g s).toArray).cells 87 (0,0)):=hX2.mod m3 fun h=>by have:=aBlk_some h;omega
  have mm3:Vc.Mod (StT s) w w3:=(Vc.Mod.weaken e2 fun x _ h=>h.elim).then m3 fun q _ hq=>.inl (aBlk_some hq)
  have hS3:StOk B w3 g ⟨s.p,s.bi,s.bf,s.ba,s.bs.set v b,s.fs,s.z⟩:=hS.turn mm3 ho3 (by simp) ((hS.f.ext e2).mod m3 fun q h1 h2=>hS.nif (by have:=aBlk_some h1;have:=aBlk_some h2;omega)) rfl
  have hA3:GLs B w3 (some ⟨s.ba,0,none⟩) s.z.length s.z:=hS3.a
  have hLv:(s.z.getD v default).l=adjK (vals g.edges) (vals g.edges).length ((v:Nat):Int):=hI.adj v hv
  refine Vr<|Vo (R.mvP rfl)<|Vo (R.nilCheck rfl)<|Vo (R.fld' (o:=5) ru87 rfl rfl sz23 rfl rfl)<|Vo (rla ag23 rfl (show w3.cell? ⟨s.p,5,none⟩=some (Value.slice (some ⟨s.ba,0,none⟩) s.z.length s.z.length) from hX3.cell 5))<|oI rfl<|Vo (iX ru23 sz22 rfl rfl (hA3.own.sl.some (i:=v) (by omega)))<|Vo (rla ag22 rfl ((hA3.own.sl.row (i:=v) (by omega)).c0a rfl))<|Vo (R.lenS ru22 rfl)<|oI rfl<|Vn<|Vb (?_)
  refine Vl [0,1,2,6,24,25,26] (fun x:Nat×List Int=>[.pointer (some ⟨s.p,0,none⟩),.int .i64 (v:Nat),.bool b,.int .i64 xC10,.slice (s.z.getD v default).a (s.z.getD v default).l.length (s.z.getD v default).c,.int .i64 ((s.z.getD v default).l.length:Nat),.int .i64 (x.1:Nat)])
   (fun x w'=>x.1≤(s.z.getD v default).l.length∧x.2.length=g.edges.length∧StOk B w' g ⟨s.p,s.bi,s.bf,s.ba,s.bs.set v b,x.2,s.z⟩∧(∀ k,k<g.edges.length→x.2.getD k default=(cntE ((vals g.edges).getD k default) P:Nat)+if ((k:Nat):Int)∈(s.z.getD v default).l.take x.1 then xC10 else 0)∧Vc.Mod (StT s) w w') (fun x=>(s.z.getD v default).l.length-x.1) (0,s.fs) rfl ⟨Nat.zero_le _,hfl,hS3,fun k hk=>by rw [hI.full k (by rw [List.length_map];exact hk)];simp,mm3⟩ ?_
  rintro ρ ⟨i,fs⟩ w4 ⟨hi,hfs,hS4,hF4,m4⟩
  dsimp only at hi hfs hS4 hF4 m4 ⊢
  refine Vs<|Vr<|oL rfl rfl<|Vn<|Vs<|Vd rfl (fun c27=>Vk<|Vs<|Vb<|Vs (?_)) (fun c27=>Ve (fend0 rfl (?_)))
  ·have hil:i<(s.z.getD v default).l.length:=by omega
   have hxi:IntSl w4 (s.z.getD v default).a (s.z.getD v default).l:=(hS4.a.each v).sl
   have hX4:Blk w4 s.p (.cells (Value.agg (encSt g ⟨s.p,s.bi,s.bf,s.ba,s.bs.set v b,fs,s.z⟩).toArray).cells 87 (0,0)):=hS4.blk
   have hf4:OwnT Vc.encI 1 3 B w4 (some ⟨s.bf,0,none⟩) fs.length fs:=hS4.f
   have hmem:=gmem hil
   rw [hLv] at hmem
   obtain ⟨k,hk,hvk,hkd⟩:=adjK_mem.1 hmem
   rw [List.length_map] at hk
   rw [←hLv] at hkd
   have hc:=cntE_le ((vals g.edges).getD k default) P
   have hc2:=he _ (gmem (show k<(vals g.edges).length by rw [List.length_map];exact hk))
   have hfk:=hF4 k hk
   refine Vr<|Vo (iX ru22 sz3 rfl rfl ((hxi).some (i:=i) (by omega)))<|Vo (rla ag3 rfl ((((hxi).ext (Mod.refl _ _)).row (i:=i) (by omega)).c0a rfl))<|oJ rfl<|Vn (?_)
   rw [hkd]
   refine Vr<|Vo (R.mvP rfl)<|Vo (R.nilCheck rfl)<|Vo (R.fld' (o:=4) ru87 rfl rfl sz22 rfl rfl)<|Vo (rla ag22 rfl (show w4.cell? ⟨s.p,4,none⟩=some (Value.slice (some ⟨s.bf,0,none⟩) fs.length fs.length) from hX4.cell 4))<|oI rfl<|Vo (iX ru22 sz3 rfl rfl (hf4.sl.some (i:=k) (by omega)))<|Vo (rla ag3 rfl ((hf4.sl.row (i:=k) (by omega)).c0a rfl))<|oI rfl<|oD rfl rfl<|Vo (iX ru22 sz3 rfl rfl (hf4.sl.some (i:=k) (by omega)))<|VL.ownSt eltI (v:=.int _ _) sz3 (hf4) k 0 (fs.getD k default+xC10) rfl rfl (by omega) rfl rfl rfl rfl rfl fun w7 ho7 m7 hs7=>Vn<|Vr<|oD rfl rfl<|oI rfl<|Vn (?_)
   have hinc:Inc (s.z.getD v default).l:=by rw [hLv];exact adjK_inc _ _ _
   have hnew:((k:Nat):Int)∉(s.z.getD v default).l.take i:=fun h=>by
    obtain ⟨j,hj,hjv⟩:=List.getElem_of_mem h
    rw [List.length_take] at hj
    rw [List.getElem_take] at hjv
    have:=inc_at hinc (i:=j) (j:=i) (by omega) hil
    rw [hkd,gget (show j<(s.z.getD v default).l.length by omega),hjv] at this
    omega
   have ht:(s.z.getD v default).l.take (i+1)=(s.z.getD v default).l.take i++[(k:Int)]:=by rw [List.take_succ_eq_append_getElem hil,←hkd,gget hil]
   refine ⟨(i+1,fs.set k (fs.getD k default+xC10)),rfl,⟨by dsimp only;omega,by simp [hfs],?_,fun k2 hk2=>?_,m4.then m7 fun q _ hq=>.inr (aBlk_some hq)⟩,by dsimp only;omega⟩
   ·exact hS4.turn (m7.weaken fun q _ hq=>.inr (aBlk_some hq)) (hS4.i.mod m7 fun q h1 h2=>hS.nif (by have:=aBlk_some h1;have:=aBlk_some h2;dsimp only at *;omega)) rfl ho7 (by simp)
   ·dsimp only
    rw [ht]
    by_cases e:k2=k
    ·subst e
     rw [setD_eq _ (by omega),hfk,if_neg hnew,if_pos (by simp)];omega
    ·rw [setD_ne _ e,hF4 k2 hk2]
     have:((k2:Nat):Int)∈(s.z.getD v default).l.take i++[(k:Int)]↔((k2:Nat):Int)∈(s.z.getD v default).l.take i:=by
      rw [List.mem_append,List.mem_singleton]
      exact ⟨fun h=>h.resolve_right (by omega),.inl⟩
     by_cases hh:((k2:Nat):Int)∈(s.z.getD v default).l.take i
     ·rw [if_pos hh,if_pos (this.2 hh)]
     ·rw [if_neg hh,if_neg (fun h=>hh (this.1 h))]
  ·have hie:i=(s.z.getD v default).l.length:=by omega
   subst hie
   refine ⟨(s.bs.set v b,fs),rfl,hS4,⟨by dsimp only;rw [List.length_set];exact hbl,by dsimp only;rw [hfs,List.length_map],hz,fun j hj=>?_,fun k hk=>?_,hI.adj⟩,m4⟩
   ·dsimp only
    rw [h2 j hj]
    by_cases e:j=v
    ·subst e;rw [setD_eq _ (by omega),if_pos rfl]
    ·rw [setD_ne _ e,if_neg e];exact hI.in_ j hj
   ·have hk2:=hk
    rw [List.length_map] at hk2
    dsimp only
    rw [hF4 k hk2,h1 k hk,List.take_length,hLv]
    congr 1
    by_cases e:((v:Nat):Int)∈(vals g.edges).getD k default
    ·rw [if_pos e,if_pos (adjK_mem.2 ⟨k,hk,e,rfl⟩),hd]
    ·rw [if_neg e,if_neg fun h=>?_]
     obtain ⟨j,_,hj,hjk⟩:=adjK_mem.1 h
     have:k=j:=by omega
     exact e (this▸hj)
def OpenR (E:List (List Int)) (P:List Int) (N:Nat) (i:Int):Prop :=
 (i=-1∧∀ u:Nat,u<N→(u:Int)∈P∨blkB E P u=true)∨∃ v:Nat,i=(v:Int)∧v<N∧(v:Int)∉P∧blkB E P v=false∧∀ u:Nat,u<v→(u:Int)∈P∨blkB E P u=true
theorem open_spec (g:GrW) (B N:Nat) (s:StW) (P:List Int) (w:World) (hS:StOk B w g s) (hI:StIs (vals g.edges) N s P) (hE:LL w g.ea g.edges) (hl:GLen g) (hE20:g.edges.length≤20000) (hn:∀ e∈vals g.edges,e.Nodup) (hN:N≤4000) :
  RetsX prog 60 #[.slice (some ⟨s.bi,0,none⟩) s.bs.length s.bs.length,.func (.func 61) #[.pointer (some ⟨s.p,0,none⟩)] #[]] w (fun i:Int=>.int .i64 i) (fun i _=>OpenR (vals g.edges) P N i):=by
 have hb:=hI.bl
 refine eN (args:=[_,_]) func60 rfl ntmps60 ?_
 refine Vs<|Vr<|oJ rfl<|Vn<|Vs<|Vs<|Vr<|oS rfl<|Vo (R.lenS ru79 rfl)<|oI rfl<|Vn<|Vb (?_)
 refine Vl [1,7,8,9] (fun k:Nat=>[.func (.func 61) #[.pointer (some ⟨s.p,0,none⟩)] #[],.slice (some ⟨s.bi,0,none⟩) s.bs.length s.bs.length,.int .i64 (s.bs.length:Nat),.int .i64 (k:Nat)])
  (fun k w'=>k≤s.bs.length∧(∀ u:Nat,u<k→(u:Int)∈P∨blkB (vals g.edges) P u=true)∧Ext w w') (fun k=>s.bs.length-k) 0 rfl ⟨Nat.zero_le _,fun u h=>absurd h (Nat.not_lt_zero u),Vc.Mod.refl _ _⟩ ?_
 rintro ρ k w2 ⟨hk,hu,e⟩
 have hi2:=hS.i.ext e
 refine Vs<|Vr<|oL rfl rfl<|Vn<|Vs<|Vd rfl (fun c10=>Vk<|Vs<|Vb<|Vs (?_)) (fun c10=>Ve<|Vs<|Vr<|oJ rfl<|Vn<|Vt (fret1 (v:=.int _ _) rfl rfl rfl (?_)))
 ·have hkl:k<s.bs.length:=by omega
  have hin:=hI.in_ k (by omega)
  refine Vr<|oI rfl<|Vo (iX ru79 sz4 rfl rfl ((hi2.sl).some (i:=k) (by omega)))<|Vo (rla isAgg4 rfl ((((hi2.sl).ext (Mod.refl _ _)).row (i:=k) (by omega)).c0a rfl))<|oJ rfl<|oA rfl<|Vn<|Vs<|Vr<|oB rfl<|Vo (R.not rfl)<|oB rfl<|VL.and rfl rfl (fun g4_2=>Vo (R.mvF rfl)<|lT<|oI rfl<|lT<|VL.callCP rfl (call61) rfl (blocked_spec g B N s P k _ (hS.ext e) hI (hE.ext e) hl hE20 hn (by omega) (fun h=>by rw [hin,decide_eq_true h] at g4_2;cases g4_2)) fun w4_5 e4_5=>lT<|Vo (R.not rfl)<|oP rfl rfl<|Vn<|Vh rfl (fun c21=>Vs<|Vr<|oI rfl<|oJ rfl<|Vn<|Vt (fret1 (v:=.int _ _) rfl rfl rfl (?_))) (fun c21=>Vk<|Vr<|oD rfl rfl<|oI rfl<|Vn (?_))) (fun g4_2=>lF<|lF<|lF<|oQ rfl rfl<|Vn<|V.condF rfl<|Vk<|Vr<|oD rfl rfl<|oI rfl<|Vn (?_))
  ·exact ⟨(k:Int),rfl,.inr ⟨k,rfl,by omega,fun h=>(by rw [hin,decide_eq_true h] at g4_2;cases g4_2),by simpa using c21,hu⟩,e.trans e4_5⟩
  ·refine ⟨k+1,rfl,⟨by omega,fun u h=>?_,e.trans e4_5⟩,by omega⟩
   by_cases e1:u=k
   ·subst e1;exact .inr (by simpa using c21)
   ·exact hu u (by omega)
  ·refine ⟨k+1,rfl,⟨by omega,fun u h=>?_,e⟩,by omega⟩
   by_cases e1:u=k
   ·subst e1;rw [hin] at g4_2;exact .inl (by simpa using g4_2)
   ·exact hu u (by omega)
 ·have hke:k=s.bs.length:=by omega
  subst hke
  exact ⟨-1,rfl,.inl ⟨rfl,fun u h=>hu u (by omega)⟩,e⟩
theorem lastI_lt {S:List Int} {k:Nat} (hk:k≤S.length) (h:∀ i,i<k→lastI S i<S.getD i default):∀ x∈S.take k,x≤lastI S k:=by
 induction k with
 | zero=>intro x hx;simp at hx
 | succ k ih =>
  intro x hx
  rw [show lastI S (k+1)=S.getD k default by unfold lastI;rw [if_neg (by omega),Nat.add_sub_cancel]]
  rw [List.take_succ_eq_append_getElem (by omega),List.mem_append,List.mem_singleton] at hx
  rcases hx with hx | hx
  ·have h1:=ih (by omega) (fun i hi=>h i (by omega)) x hx
   have h2:=h k (by omega)
   omega
  ·rw [hx,gget (by omega)];exact Int.le_refl _
theorem lastI_ge (S:List Int) (k:Nat) (h:∀ i,i<k→lastI S i<S.getD i default):-1≤lastI S k:=by
 induction k with
 | zero=>unfold lastI;rw [if_pos rfl];omega
 | succ k ih =>
  have h1:=ih fun i hi=>h i (by omega)
  have h2:=h k (by omega)
  rw [show lastI S (k+1)=S.getD k default by unfold lastI;rw [if_neg (by omega),Nat.add_sub_cancel]]
  omega
theorem StOk.weaken {B B':Nat} {w:World} {g:GrW} {s:StW} (h:StOk B w g s) (hB:B'≤B):StOk B' w g s :=
 ⟨h.blk,h.i.weaken hB,h.f.weaken hB,⟨h.a.own.weaken hB,fun i=>(h.a.each i).weaken hB,h.a.out,h.a.sep⟩,h.li,h.lf,h.la,h.nif,h.nia,h.nfa,h.up⟩
theorem load_spec (g:GrW) (a:Option Addr) (c:Nat) (S:List Int) (B:Nat) (w:World) (hG:GOk w g) (hl:GLen g) (hS:IntSl w a S) (hm:S.length≤1000000) (hB:B≤w.heap.size) (hT:TabW B w) :
  RetsX prog 59 #[.agg (encGr g).toArray,.slice a S.length c] w (fun x:StW×Bool=>.tuple #[.pointer (if x.2=true then some ⟨x.1.p,0,none⟩ else none),.bool x.2])
   (fun x w'=>x.2=loadB (grV g) S∧(x.2=true→StOk w.heap.size w' g x.1∧StIs (vals g.edges) g.n.toNat x.1 S)):=by
 refine eN (args:=[_,_]) func59 rfl ntmps59 ?_
 refine Vs<|Vr<|VL.box (v:=.agg _) rfl fun b0_0 w0_0 hb0_0 e0_0 hB0_0=>Vo (R.asP rfl)<|oA rfl<|Vn<|Vs<|Vs<|Vr<|Vo (R.ldA ag25 sz25 rfl rfl (show RowAt _ _ _ (encGr g) from (hB0_0.rowAt 0 3)) rfl)<|Vp call56 rfl (valid_spec g B _ (hG.ext e0_0) hl (Nat.le_trans hB (e0_0).size) (hT.ext hB e0_0)) fun w1_1 e1_1=>Vo (R.not rfl)<|Vn<|Vh rfl (fun c12=>Vs<|Vr<|Vo (R.asP rfl)<|oA rfl<|Vn<|Vt (fret2 (v:=.pointer _) (x:=.bool _) rfl rfl rfl rfl rfl (?_))) (fun c12=>Vk<|Vs (?_))
 ·have hv:validG (grV g)=false:=by simpa using c12
  refine ⟨(⟨0,0,0,0,[],[],[]⟩,false),rfl,⟨?_,fun h=>nomatch h⟩,e0_0.trans e1_1⟩
  unfold loadB;rw [hv];rfl
 ·have hv:validG (grV g)=true:=by simpa using c12
  have hn:=costB_iff.1 (validG_iff.1 hv).1
  obtain ⟨N,hN⟩:∃ N:Nat,g.n=(N:Int):=⟨g.n.toNat,by have h0:0≤g.n:=hn.1;omega⟩
  have hNt:g.n.toNat=N:=by omega
  have hN4:N≤4000:=by have h0:g.n≤4000:=hn.2.1;omega
  have hE20:g.edges.length≤20000:=by have:=(validG_iff.1 hv).2.1;simpa [grV,vals] using this
  have hnd:∀ e∈vals g.edges,e.Nodup:=fun e he=>inc_nodup ((validG_iff.1 hv).2.2.1 e he).2.1
  have hle:∀ x∈vals g.edges,x.length≤1000000:=fun x hx=>by
   obtain ⟨y,hy,rfl⟩:=List.mem_map.1 hx
   exact (hl.each y hy).1
  have hw1:=e0_0.trans e1_1
  have hB1:=hB0_0.ext e1_1
  rw [hNt]
  refine Vr<|Vo (R.ldA ag25 sz25 rfl rfl (show RowAt w1_1 b0_0 0 (encGr g) from hB1.rowAt 0 3) rfl)<|VL.callX call100 rfl (begin_spec g N _ (hG.ext hw1) hl hv hN) fun s0 w3 h3 e3=>Vo (R.asP rfl)<|Vn<|Vs<|Vr<|oJ rfl<|Vn<|Vs<|Vs<|Vr<|oS rfl<|Vo (R.lenS ru22 rfl)<|oI rfl<|Vn<|Vb (?_)
  obtain ⟨hS3,hI3⟩:=h3
  have hw3:Ext w w3:=hw1.trans e3
  refine Vl [2,6,7,15,16,17] (fun x:Nat×StW=>[pA b0_0,.pointer (some ⟨x.2.p,0,none⟩),.int .i64 (lastI S x.1),.slice a S.length c,.int .i64 (S.length:Nat),.int .i64 (x.1:Nat)])
   (fun x w'=>x.1≤S.length∧StOk w.heap.size w' g x.2∧StIs (vals g.edges) N x.2 (S.take x.1)∧(∀ i,i<x.1→lastI S i<S.getD i default∧S.getD i default<g.n)∧indB (vals g.edges) (S.take x.1)=true∧Ext w w'∧Blk w' b0_0 (.cells (Value.agg (encGr g).toArray).cells 25 (0,0))) (fun x=>S.length-x.1) (0,s0) rfl ⟨Nat.zero_le _,hS3.weaken hw1.size,hI3,fun i h=>absurd h (Nat.not_lt_zero i),?_,hw3,hB1.ext e3⟩ ?_
  ·refine indB_iff.2 fun e he=>?_
   have:=((validG_iff.1 hv).2.2.1 e he).1
   cases hs:subB e (S.take 0) with
   | false=>rfl
   | true =>
    obtain ⟨x,hx⟩:=List.exists_mem_of_ne_nil _ this
    have:=subB_iff.1 hs x hx
    simp at this
  rintro ρ ⟨k,s⟩ w4 ⟨hk,hSk,hIk,hlt,hind,e4,hB4⟩
  dsimp only at hk hSk hIk hlt hind e4 hB4 ⊢
  have hge:=lastI_ge S k fun i hi=>(hlt i hi).1
  have hS4:=hS.ext e4
  have hG4:=hG.ext e4
  refine Vs<|Vr<|oL rfl rfl<|Vn<|Vs<|Vd rfl (fun c18=>Vk<|Vs<|Vb<|Vs (?_)) (fun c18=>Ve<|Vs<|Vr<|Vo (R.mvP rfl)<|Vo (R.asP rfl)<|oA rfl<|Vn<|Vt (fret2 (v:=.pointer _) (x:=.bool _) rfl rfl rfl rfl rfl (?_)))
  ·have hkl:k<S.length:=by omega
   have hbk:∀ w',lastI S k<S.getD k default→S.getD k default<g.n→Ext w4 w'→RetsP prog 61 #[.pointer (some ⟨s.p,0,none⟩),.int .i64 (S.getD k default)] w' (.bool (blkB (vals g.edges) (S.take k) (S.getD k default))):=fun w' h1 h2 e=>by
    have:=blocked_spec g w.heap.size N s (S.take k) (S.getD k default).toNat w' (hSk.ext e) hIk (hG4.e.ext e) hl hE20 hnd (by omega) (fun h=>by
     rw [show (((S.getD k default).toNat:Nat):Int)=S.getD k default by omega] at h
     have:=lastI_lt hk (fun i hi=>(hlt i hi).1) _ h
     omega)
    rwa [show (((S.getD k default).toNat:Nat):Int)=S.getD k default by omega] at this
   refine Vr<|Vo (iX ru22 sz3 rfl rfl ((hS4).some (i:=k) (by omega)))<|Vo (rla ag3 rfl ((((hS4).ext (Mod.refl _ _)).row (i:=k) (by omega)).c0a rfl))<|oJ rfl<|Vn<|Vs<|Vs<|Vr<|oI rfl<|oI rfl<|Vo (R.leq rfl rfl)<|oB rfl<|VL.orP rfl rfl (fun g8_3=>oI rfl<|lT<|Vo (R.fld' (o:=0) ru25 rfl rfl sz3 rfl rfl)<|lT<|Vo (rla ag3 rfl (show w4.cell? ⟨b0_0,0,none⟩=some (Value.int .i64 g.n) from hB4.cell 0))<|lT<|Vo (R.geq rfl rfl)<|oQ rfl rfl<|oB rfl<|VL.orP rfl rfl (fun g8_9=>Vo (R.mvP rfl)<|lT<|oI rfl<|lT<|Vp call61 rfl (hbk _ (by omega) (by omega) (Vc.Mod.refl _ _)) fun w8_12 e8_12=>oQ rfl rfl<|Vn<|Vh rfl (fun c34=>Vs<|Vr<|Vo (R.asP rfl)<|oA rfl<|Vn<|Vt (fret2 (v:=.pointer _) (x:=.bool _) rfl rfl rfl rfl rfl (?_))) (fun c34=>Vk<|Vs (?_))) (fun g8_9=>lF<|lF<|oP rfl rfl<|Vn<|Vg rfl<|Vs<|Vr<|Vo (R.asP rfl)<|oA rfl<|Vn<|Vt (fret2 (v:=.pointer _) (x:=.bool _) rfl rfl rfl rfl rfl (?_)))) (fun g8_3=>lF<|lF<|lF<|oP rfl rfl<|oB rfl<|lF<|lF<|lF<|oP rfl rfl<|Vn<|Vg rfl<|Vs<|Vr<|Vo (R.asP rfl)<|oA rfl<|Vn<|Vt (fret2 (v:=.pointer _) (x:=.bool _) rfl rfl rfl rfl rfl (?_)))
   ·refine ⟨(s,false),rfl,⟨?_,fun h=>nomatch h⟩,e4.trans e8_12⟩
    unfold loadB
    rw [show indB (grV g).edges S=false from ind_blk (fun x hx=>List.mem_of_mem_take hx) (gmem hkl) (by assumption),Bool.and_false]
   ·have hlo:lastI S k<S.getD k default:=by omega
    have hhi:S.getD k default<g.n:=by omega
    obtain ⟨v,hvd⟩:∃ v:Nat,(v:Int)=S.getD k default:=⟨(S.getD k default).toNat,by omega⟩
    have hvP:(v:Int)∉S.take k:=fun h=>by
     have:=lastI_lt hk (fun i hi=>(hlt i hi).1) _ h
     omega
    have ht:S.take (k+1)=S.take k++[(v:Int)]:=by rw [List.take_succ_eq_append_getElem hkl,hvd,gget hkl]
    have hmem:∀ x,x∈S.take (k+1)↔x=(v:Int)∨x∈S.take k:=fun x=>by rw [ht,List.mem_append,List.mem_singleton];exact or_comm
    have hblk:blkB (vals g.edges) (S.take k) v=false:=by rw [hvd];assumption
    rw [←hvd]
    refine Vr<|oI rfl<|oJ rfl<|Vn<|Vr<|Vo (R.mvP rfl)<|oI rfl<|VL.callY call62 rfl (put_spec g w.heap.size N s (S.take k) (S.take (k+1)) v true _ (hSk.ext e8_12) hIk hE20 hle (by omega) (e4.trans e8_12).size (fun j hj=>by
      rw [cntE_put hvP hmem (hnd _ (gmem hj))]
      by_cases h:(v:Int)∈(vals g.edges).getD j default
      ·rw [if_pos h,if_pos h,if_pos rfl];rfl
      ·rw [if_neg h,if_neg h];rfl) (fun j hj=>by
      by_cases h:j=v
      ·subst h;rw [if_pos rfl];exact decide_eq_true ((hmem _).2 (.inl rfl))
      ·rw [if_neg h];exact decide_eq_decide.2 ⟨fun h2=>((hmem _).1 h2).resolve_left (by omega),fun h2=>(hmem _).2 (.inr h2)⟩)) fun x w11 h11=>Vn<|Vr<|oD rfl rfl<|oI rfl<|Vn (?_)
    obtain ⟨h1,h2,h3⟩:=h11
    refine ⟨(k+1,⟨s.p,s.bi,s.bf,s.ba,x.1,x.2,s.z⟩),?_,⟨by dsimp only;omega,h1,h2,fun i hi=>?_,?_,(e4.trans e8_12).ownA h3 (StT.ge hSk),(hB4.ext e8_12).mod h3 fun h=>?_⟩,by dsimp only;omega⟩
    ·dsimp only
     rw [show lastI S (k+1)=S.getD k default by unfold lastI;rw [if_neg (by omega),Nat.add_sub_cancel],←hvd]
     rfl
    ·by_cases e:i=k
     ·subst e;exact ⟨hlo,hhi⟩
     ·exact hlt i (by dsimp only at hi;omega)
    ·dsimp only;rw [ht];exact ind_snoc hind hblk
    ·have h4:=StT.ge hSk _ h
     have h5:=hB0_0.lt
     rcases h with h | h
     ·exact (OwnT.tyA hSk.i).apart hB4 (by decide) ⟨_,rfl,h.symm⟩
     ·exact (OwnT.tyA hSk.f).apart hB4 (by decide) ⟨_,rfl,h.symm⟩
   ·refine ⟨(s,false),rfl,⟨?_,fun h=>nomatch h⟩,e4⟩
    cases hb:loadB (grV g) S with
    | false=>rfl
    | true =>
     have:=(setB_iff.1 (loadB_iff.1 hb).2.1).2 _ (gmem hkl)
     rw [show (grV g).n=g.n from rfl] at this
     omega
   ·refine ⟨(s,false),rfl,⟨?_,fun h=>nomatch h⟩,e4⟩
    cases hb:loadB (grV g) S with
    | false=>rfl
    | true =>
     have h1:=(loadB_iff.1 hb).2.1
     rw [←formed_eq,List.all_eq_true] at h1
     have h2:=h1 k (List.mem_range.2 hkl)
     rw [Bool.and_eq_true,decide_eq_true_eq] at h2
     omega
  ·have hke:k=S.length:=by omega
   subst hke
   rw [List.take_length] at hIk hind
   refine ⟨(s,true),rfl,⟨?_,fun _=>⟨hSk,hIk⟩⟩,e4⟩
   refine Eq.symm (loadB_iff.2 ⟨hv,?_,hind⟩)
   rw [←formed_eq,List.all_eq_true]
   intro i hi
   have:=hlt i (List.mem_range.1 hi)
   rw [decide_eq_true this.1,Bool.true_and]
   exact decide_eq_true this.2
end Go.Proofs.YtdkhcipjenfcnaaGreatDoor
