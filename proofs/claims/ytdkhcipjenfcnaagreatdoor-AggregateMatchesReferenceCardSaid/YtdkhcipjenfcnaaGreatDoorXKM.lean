/- PROVED: the given statement AggregateMatchesReferenceCardSaid: for every input the law returns true, and each argument reads as before; condition: the three listed tables (math/bits.deBruijn32tab, deBruijn64tab, internal/strconv.uint64pow10) read as the program's own text lays them, which the card ties to that text. -/
import Derived.Test.YtdkhcipjenfcnaaGreatDoorXA63
import Derived.Test.YtdkhcipjenfcnaaGreatDoorXJL
import Derived.Test.YtdkhcipjenfcnaaGreatDoorCards
import Derived.Test.YtdkhcipjenfcnaaGreatDoorTie
import Derived.SevenTiedAt
namespace Go.Proofs.YtdkhcipjenfcnaaGreatDoor
set_option maxRecDepth 100000
set_option maxHeartbeats 16000000
open Go.ChangeShapes Go.WideShapes Go.ChangeAt Go.RowKit
open Go.ChangeMaps (open_string shut_string)
open Go.Vc (Ext TSl encI)
set_option linter.constructorNameAsVariable false
theorem lifted3 (os:Os) (started:os.Started) (H:Type) (enc:TypeId×Value→H) :
  ReturnsInHanded {} Tryz.checked os 3 .any (fun w args=>(Rows.aggregateMatchesReferenceSpec.pre enc Tryz.prog Tryz.f3 [] false w args∧laidMetH Tryz.prog laid_ w)∧sizedMet enc Tryz.prog Tryz.f3 (OpenSpec.ofChange Rows.aggregateMatchesReferenceSpec) false w args)
   (Rows.aggregateMatchesReferenceSpec.post enc Tryz.prog Tryz.f3 false true false false):=by
 refine returnsInHanded_of_change_and (C:=Tryz.checked) (X:=fun w _=>laidMetH Tryz.prog laid_ w) (fun _ _ _ hh h=>h.of_heap hh) own_ started (by kernel_rfl) Tryz.func3
  (ChangeSpec.witness_shaped (enc:=enc) (C:=Tryz.checked) (os:=os) (X:=fun w _=>laidMetH Tryz.prog laid_ w) false (World.doorLaid Tryz.prog 24 os) #[.agg #[.int .i64 0,.slice none 0 0,.slice none 0 0],.slice none 0 0,.slice none 0 0] 8 rfl (World.shaped_of_RefB (by kernel_rfl) (by kernel_rfl)) (by kernel_rfl) (by kernel_rfl) (by kernel_rfl) (door_met os _)) ?_
 intro W base args ds gs before hval0 hW _ hsz0 hLd _
 have hval:∀ (j:Nat) t v,Tryz.f3.params[j]?=some t→args[j]?=some v→Value.okWide Tryz.prog W .any base t v:=hval0
 have hW':=hW
 obtain ⟨p,q,hA0,hV,rfl,hfz,hnd⟩:=hW
 have hA:DataW.TrodAll enc Tryz.prog W 0 (fun _=>true) true Tryz.f3.params.toList args.toList ds p:=hA0
 rw [Tryz.params3] at hA hval
 obtain ⟨v0,vs0,d0,ds0,p0,q0,hargs,rfl,rfl,h0,r0⟩:=trodAll_cons hA
 obtain ⟨v1,vs1,d1,ds1,p1,q1,rfl,rfl,rfl,h1,r1⟩:=trodAll_cons r0
 obtain ⟨v2,vs2,d2,ds2,p2,q2,rfl,rfl,rfl,h2,r2⟩:=trodAll_cons r1
 obtain ⟨rfl,rfl,rfl⟩:=trodAll_nil r2
 obtain rfl:args=#[v0,v1,v2]:=by cases args;simp_all
 obtain ⟨rfl,rfl⟩:=trodVars_none hV
 obtain ⟨cs0,rfl⟩:=okWide_agg_ Tryz.underlying25 (hval 0 25 v0 rfl rfl)
 obtain ⟨a1,len1,cap1,rfl⟩:=okWide_slice Tryz.underlying22 (hval 1 22 v1 rfl rfl)
 obtain ⟨a2,len2,cap2,rfl⟩:=okWide_slice Tryz.underlying22 (hval 2 22 v2 rfl rfl)
 have k0:=h0
 have lt0:∀ x∈p0,x.block<W.heap.size:=by obtain ⟨m,hm⟩:=k0;exact DataW.trod_lt m _ _ _ hm
 have k1:=h1
 have lt1:∀ x∈p1,x.block<W.heap.size:=by obtain ⟨m,hm⟩:=k1;exact DataW.trod_lt m _ _ _ hm
 have k2:=h2
 have lt2:∀ x∈p2,x.block<W.heap.size:=by obtain ⟨m,hm⟩:=k2;exact DataW.trod_lt m _ _ _ hm
 obtain ⟨n0,g0⟩:=h0
 obtain ⟨g,hl0,hP0⟩:=dec25 _ _ _ g0
 obtain rfl:cs0=encGr g:=hl0
 obtain ⟨n1,g1⟩:=h1
 obtain ⟨ws,hl1,hm1,hS1,hP1,hx1,hc1⟩:=Go.Vc.open_TSlP (enc':=Vc.encI) Tryz.underlying22 cells3 (by decide) (fun _=>rfl) dec3 g1
 subst hl1
 obtain ⟨n2,g2⟩:=h2
 obtain ⟨vs,hl2,hm2,hS2,hP2,hx2,hc2⟩:=Go.Vc.open_TSlP (enc':=Vc.encI) Tryz.underlying22 cells3 (by decide) (fun _=>rfl) dec3 g2
 subst hl2
 clear hA0 hval0
 have hT:=of_laid hLd
 have walk:=matches31_law g a1 cap1 ws a2 cap2 vs W.heap.size W hP0 hS1 (by unfold maxLen at hm1;omega) hS2 (by unfold maxLen at hm2;omega) (Nat.le_refl _) hT
 refine Calls.mono walk fun e W' he=>?_
 obtain ⟨u,rfl,hu,ext⟩:=he
 subst hu
 have bel:=ext.below
 exact ⟨_,rfl,_,_,_,[],_,[],hW',trodAll_mk1 (shut_bool Tryz.underlying4 _),(trodAll_cons_mk (Below.trod laidOut (by kernel_rfl) (of_decide_eq_true (by kernel_rfl)) k0 bel lt0) (trodAll_cons_mk (Below.trod laidOut (by kernel_rfl) (of_decide_eq_true (by kernel_rfl)) k1 bel lt1) (trodAll_cons_mk (Below.trod laidOut (by kernel_rfl) (of_decide_eq_true (by kernel_rfl)) k2 bel lt2) trodAll_mk0))),rfl,bel.frame _,fun h=>by cases h⟩
theorem over3:Rows.aggregateMatchesReferenceRow.holds Tryz.pinned (OpenSpec.ofChange Rows.aggregateMatchesReferenceSpec) :=
 OpenClaim.holds_of_wide 3 Tryz.f3 rfl rfl rfl rfl rfl rfl rfl ⟨rfl,rfl,rfl,rfl,rfl⟩ rfl rfl rfl rfl rfl (by kernel_rfl) Tryz.func3 (by kernel_rfl)
  (of_decide_eq_true (by kernel_rfl)) (by unfold Func.isWrapper;first | (rw [if_pos (by decide +kernel)];kernel_rfl) | (rw [if_neg (by decide +kernel)];exact ⟨rfl,rfl⟩))
  (fun os started H enc _=>lifted3 os started H enc)
theorem aggregateMatchesReference_proved:Rows.AggregateMatchesReferenceCardSaid :=
 Claim7.holds_tied_plain_at .later [] [.data, .data, .data] true (true, "7842b329e9579e01d2d0348d0c70c0b3eb6e58f59f944c150348f95828c1e769") false
  over3 (fun _ h=>by cases h) (by kernel_rfl) (fun _ h=>by cases h) aggregateMatchesReference_row_tie rfl ⟨rfl,rfl⟩ (by kernel_rfl) rfl
  (fun f fn hf hfn=>by
   obtain rfl : f = 3 := Option.some.inj ((show Tryz.prog.funcNamed "cleanse/cleanselaw31.AggregateMatchesReference" = some 3 by kernel_rfl).symm.trans hf) |>.symm
   obtain rfl:fn=Tryz.f3:=(Option.some.inj (Tryz.func3.symm.trans hfn)).symm
   exact ⟨by kernel_rfl,fun j t ht=>by
    rw [Tryz.params3] at ht
    have hm:t∈[25,22,22]:=by simpa using Array.mem_of_getElem? ht
    have hall:([25,22,22].all fun u=>!Tryz.prog.wantsStandIn u)=true:=by kernel_rfl
    exact (show Tryz.prog.wantsStandIn t=false by simpa using List.all_eq_true.1 hall t hm)⟩)
  (by kernel_rfl)
end Go.Proofs.YtdkhcipjenfcnaaGreatDoor
