/- Bound: ways as they lie; closures that turn memory; lists that are formed. -/
import Derived.Test.YtdbcfpcicjgghaaGreatDoorXH22a
import Derived.Test.YtdbcfpcicjgghaaGreatDoorXVcBlk
namespace Go.Proofs.YtdbcfpcicjgghaaGreatDoor
set_option maxHeartbeats 16000000
set_option maxRecDepth 100000
open Go.Vc
structure WyI where
 p:SlI
 n:SlI
instance:Inhabited WyI:=⟨⟨default,default⟩⟩
def encWy (x:WyI):List Value:=[.slice x.p.a x.p.l.length x.p.c,.slice x.n.a x.n.l.length x.n.c]
def wyV (x:WyI):Wy:=⟨x.p.l,x.n.l⟩
structure WyOk (w:World) (x:WyI):Prop where
 p:IntSl w x.p.a x.p.l
 n:IntSl w x.n.a x.n.l
structure WL (w:World) (a:Option Addr) (W:List WyI):Prop where
 sl:TSl encWy 2 w a W
 each:∀ x∈W,WyOk w x
theorem WyOk.ext {w w':World} {x:WyI} (h:WyOk w x) (e:Ext w w'):WyOk w' x:=⟨h.p.ext e,h.n.ext e⟩
theorem WL.ext {w w':World} {a:Option Addr} {W:List WyI} (h:WL w a W) (e:Ext w w'):WL w' a W:=⟨h.sl.ext e,fun x hx=>(h.each x hx).ext e⟩
theorem WL.at {w:World} {a:Option Addr} {W:List WyI} (h:WL w a W) {i:Nat} (hi:i<W.length):WyOk w (W.getD i default):=h.each _ (gmem hi)
structure WLen (x:WyI):Prop where
 p:x.p.l.length≤1000000
 n:x.n.l.length≤1000000
theorem range_any {n k:Nat} {f:Nat→Bool} (hk:k<n) (h:f k=true):(List.range n).any f=true:=List.any_eq_true.2 ⟨k,List.mem_range.2 hk,h⟩
theorem range_none {n:Nat} {f:Nat→Bool} (h:∀ i,i<n→f i=false):(List.range n).any f=false:=by
 rw [List.any_eq_false];intro x hx;rw [h x (List.mem_range.1 hx)];decide
theorem indexK (g:FuncId) (Fv Cv:List Value) (f:Nat→Bool) (I:Nat→World→Prop) (a:Option Addr) (c:Nat) (l:List Int) (w:World) (hfn:IsFn Tryz.prog g)
  (hdo:∀ k w',k<l.length→I k w'→RetsY Tryz.prog g (Fv++[Value.int .i64 (l.getD k default)]++Cv).toArray w' (fun _:Unit=>.bool (f k)) (fun _ w2=>I (k+1) w2))
  (hL:∀ k w',I k w'→IntSl w' a l) (h0:I 0 w) (hm:l.length≤1000000) :
  RetsY Tryz.prog 89 #[.slice a l.length c,.func (.func g) Fv.toArray Cv.toArray] w (fun i:Int=>.int .i64 i) (fun i w'=>decide (0≤i)=(List.range l.length).any f∧∃ k,I k w'):=by
 refine enter (args:=[_,_]) Tryz.func89 rfl Tryz.ntmps89 (by kernel_rfl) rfl ?_
 refine V.seq (V.region (VL.op (R.asI rfl) (VL.nil (V.seq (V.seq (V.region (VL.op (R.mvS rfl) (VL.op (R.lenS Tryz.runUnderlying22 rfl) (VL.op (R.mvI rfl) (VL.nil (V.block (?_))))))))))))
 refine V.loop [0,1,7,8] (fun k:Nat=>[.slice a l.length c,.func (.func g) Fv.toArray Cv.toArray,.int .i64 l.length,.int .i64 (k:Nat)])
  (fun k w'=>k≤l.length∧I k w'∧∀ i,i<k→f i=false) (fun k=>l.length-k) 0 rfl ⟨Nat.zero_le _,h0,fun i h=>absurd h (Nat.not_lt_zero i)⟩ ?_
 rintro ρ k w2 ⟨hk,hI,hf⟩
 have hL2:=hL k w2 hI
 refine V.seq (V.region (VL.op (R.lss rfl rfl) (VL.nil (V.seq (V.condP rfl (fun c9=>V.skip (V.seq (V.block (V.seq (V.region (VL.op (R.mvI rfl) (VL.op (R.asI rfl) (VL.nil (V.seq (?_)))))))))) (fun c9=>V.exit (V.seq (?_))))))))
 ·have hkn:k<l.length:=by omega
  refine V.region (VL.op (R.mvF rfl) (VL.op (R.mvS rfl) (VL.op (R.mvI rfl) (VL.op (R.ixS Tryz.runUnderlying22 Tryz.sizeOf3 rfl rfl (by omega) (by omega) (hL2.some (i:=k) hkn)) (VL.op (R.ld1 Tryz.isAgg3 rfl (((hL2.row (i:=k) hkn).cell (i:=0) rfl))) (VL.callCY rfl (hfn) rfl (hdo k w2 hkn hI) fun i4 w4 hI4=>VL.nil (V.cond rfl (fun c16=>V.seq (V.region (VL.op (R.mvI rfl) (VL.op (R.asI rfl) (VL.nil (V.ret (fret1 (v:=.int _ _) rfl rfl rfl (?_)))))))) (fun c16=>V.skip (V.region (VL.op (R.add rfl rfl (by omega) (by omega)) (VL.op (R.mvI rfl) (VL.nil (?_)))))))))))))
  ·exact ⟨(k:Int),rfl,by rw [range_any hkn (by assumption)];exact decide_eq_true (by omega),_,hI4⟩
  ·refine ⟨k+1,rfl,⟨by omega,hI4,fun i hi=>?_⟩,by omega⟩
   by_cases h:i=k
   ·subst h;assumption
   ·exact hf i (by omega)
 ·have hkn:k=l.length:=by omega
  subst hkn
  refine V.region (VL.op (R.asI rfl) (VL.nil (V.ret (fret1 (v:=.int _ _) rfl rfl rfl (?_)))))
  exact ⟨-1,rfl,by rw [range_none hf];rfl,_,hI⟩
theorem containsK (g:FuncId) (Fv Cv:List Value) (f:Nat→Bool) (I:Nat→World→Prop) (a:Option Addr) (c:Nat) (l:List Int) (w:World) (hfn:IsFn Tryz.prog g)
  (hdo:∀ k w',k<l.length→I k w'→RetsY Tryz.prog g (Fv++[Value.int .i64 (l.getD k default)]++Cv).toArray w' (fun _:Unit=>.bool (f k)) (fun _ w2=>I (k+1) w2))
  (hL:∀ k w',I k w'→IntSl w' a l) (h0:I 0 w) (hm:l.length≤1000000) :
  RetsY Tryz.prog 56 #[.slice a l.length c,.func (.func g) Fv.toArray Cv.toArray] w (fun _:Unit=>.bool ((List.range l.length).any f)) (fun _ w'=>∃ k,I k w'):=by
 refine enter (args:=[_,_]) Tryz.func56 rfl Tryz.ntmps56 (by kernel_rfl) rfl ?_
 refine V.seq (V.region (VL.op (R.asB rfl) (VL.nil (V.seq (V.region (VL.op (R.mvS rfl) (VL.op (R.mvF rfl) (VL.callY Tryz.call89 rfl (indexK g Fv Cv f I a c l _ hfn hdo hL h0 hm) fun i1 w1 h1=>VL.op (R.geq rfl rfl) (VL.op (R.asB rfl) (VL.nil (V.ret (fret1 (v:=.bool _) rfl rfl rfl (⟨(),by rw [←h1.1],h1.2⟩)))))))))))))
end Go.Proofs.YtdbcfpcicjgghaaGreatDoor
/- Bound: a graph with its degrees and barred vertices. -/
namespace Go.Proofs.YtdbcfpcicjgghaaGreatDoor
open Go.Vc
end Go.Proofs.YtdbcfpcicjgghaaGreatDoor
/- Bound: what is formed, certain or never; Quick. -/
namespace Go.Proofs.YtdbcfpcicjgghaaGreatDoor
open Go.Vc
theorem indexW_spec (g:FuncId) (Fv Cv:List Value) (f:WyI→Bool) (S:World→Prop) (a:Option Addr) (c:Nat) (L:List WyI) (w:World) (hfn:IsFn Tryz.prog g) (hdo:∀ w x,S w→x∈L→WyOk w x→RetsP Tryz.prog g (Fv++[Value.agg (encWy x).toArray]++Cv).toArray w (.bool (f x)))
  (hSe:∀ w w',S w→Ext w w'→S w') (h0:S w) (hL:WL w a L) (hm:L.length≤1000000) :
  RetsX Tryz.prog 94 #[.slice a L.length c,.func (.func g) Fv.toArray Cv.toArray] w (fun i:Int=>.int .i64 i) (fun i _=>decide (0≤i)=L.any f):=by
 refine enter (args:=[_,_]) Tryz.func94 rfl Tryz.ntmps94 (by kernel_rfl) rfl ?_
 refine V.seq (V.region (VL.op (R.asI rfl) (VL.nil (V.seq (V.seq (V.region (VL.op (R.mvS rfl) (VL.op (R.lenS Tryz.runUnderlying26 rfl) (VL.op (R.mvI rfl) (VL.nil (V.block (?_))))))))))))
 refine V.loop [0,1,7,8] (fun k:Nat=>[.slice a L.length c,.func (.func g) Fv.toArray Cv.toArray,.int .i64 L.length,.int .i64 (k:Nat)])
  (fun k w'=>k≤L.length∧Ext w w'∧∀ i,i<k→f (L.getD i default)=false) (fun k=>L.length-k) 0 rfl ⟨Nat.zero_le _,Vc.Mod.refl _ _,fun i h=>absurd h (Nat.not_lt_zero i)⟩ ?_
 rintro ρ k w2 ⟨hk,e,hf⟩
 have hL2:=hL.ext e
 refine V.seq (V.region (VL.op (R.lss rfl rfl) (VL.nil (V.seq (V.condP rfl (fun c9=>V.skip (V.seq (V.block (V.seq (V.region (VL.op (R.mvI rfl) (VL.op (R.asI rfl) (VL.nil (V.seq (?_)))))))))) (fun c9=>V.exit (V.seq (?_))))))))
 ·have hkn:k<L.length:=by omega
  refine V.region (VL.op (R.mvF rfl) (VL.op (R.mvS rfl) (VL.op (R.mvI rfl) (VL.op (R.ixS Tryz.runUnderlying26 Tryz.sizeOf53 rfl rfl (by omega) (by omega) (hL2.sl.some (i:=k) hkn)) (VL.op (R.ldA Tryz.isAgg53 Tryz.sizeOf53 rfl rfl ((show RowAt _ _ _ (encWy (L.getD k default)) from (hL2.sl.row (i:=k) hkn))) rfl) (VL.callCP rfl (hfn) rfl (hdo w2 (L.getD k default) (hSe _ _ h0 e) (gmem hkn) (hL2.at hkn)) fun w4_5 e4_5=>VL.nil (V.cond rfl (fun c16=>V.seq (V.region (VL.op (R.mvI rfl) (VL.op (R.asI rfl) (VL.nil (V.ret (fret1 (v:=.int _ _) rfl rfl rfl (?_)))))))) (fun c16=>V.skip (V.region (VL.op (R.add rfl rfl (by omega) (by omega)) (VL.op (R.mvI rfl) (VL.nil (?_)))))))))))))
  ·exact ⟨(k:Int),rfl,by rw [findI_at f L k hkn hf (by assumption)];exact decide_eq_true (by omega),e.trans e4_5⟩
  ·refine ⟨k+1,rfl,⟨by omega,e.trans e4_5,fun i hi=>?_⟩,by omega⟩
   by_cases h:i=k
   ·subst h;assumption
   ·exact hf i (by omega)
 ·have hkn:k=L.length:=by omega
  subst hkn
  refine V.region (VL.op (R.asI rfl) (VL.nil (V.ret (fret1 (v:=.int _ _) rfl rfl rfl (?_)))))
  exact ⟨-1,rfl,by rw [findI_none f L hf];rfl,e⟩
theorem containsW_spec (g:FuncId) (Fv Cv:List Value) (f:WyI→Bool) (S:World→Prop) (a:Option Addr) (c:Nat) (L:List WyI) (w:World) (hfn:IsFn Tryz.prog g) (hdo:∀ w x,S w→x∈L→WyOk w x→RetsP Tryz.prog g (Fv++[Value.agg (encWy x).toArray]++Cv).toArray w (.bool (f x)))
  (hSe:∀ w w',S w→Ext w w'→S w') (h0:S w) (hL:WL w a L) (hm:L.length≤1000000) :
  RetsP Tryz.prog 99 #[.slice a L.length c,.func (.func g) Fv.toArray Cv.toArray] w (.bool (L.any f)):=by
 refine enter (args:=[_,_]) Tryz.func99 rfl Tryz.ntmps99 (by kernel_rfl) rfl ?_
 refine V.seq (V.region (VL.op (R.asB rfl) (VL.nil (V.seq (V.region (VL.op (R.mvS rfl) (VL.op (R.mvF rfl) (VL.callX Tryz.call94 rfl (indexW_spec g Fv Cv f S a c L _ hfn hdo hSe h0 hL hm) fun i w1 h1 e1=>VL.op (R.geq rfl rfl) (VL.op (R.asB rfl) (VL.nil (V.ret (fret1 (v:=.bool _) rfl rfl rfl (⟨by rw [←h1],e1⟩)))))))))))))
def lastI (l:List Int) (k:Nat):Int:=if k=0 then -1 else l.getD (k-1) default
theorem formed_eq (l:List Int) (n:Int):((List.range l.length).all fun k=>decide (lastI l k<l.getD k default)&&decide (l.getD k default<n))=setB l n:=by
 rw [Bool.eq_iff_iff,List.all_eq_true]
 constructor
 ·intro h
  have hk:∀ i,i<l.length→lastI l i<l.getD i default∧l.getD i default<n:=fun i hi=>by simpa using h i (List.mem_range.2 hi)
  have h0:∀ i,i<l.length→0≤l.getD i default:=by
   intro i
   induction i with
   | zero=>intro hi;have:=(hk 0 hi).1;unfold lastI at this;rw [if_pos rfl] at this;omega
   | succ i ih =>
    intro hi
    have h1:=ih (by omega)
    have h2:=(hk _ hi).1
    unfold lastI at h2
    rw [if_neg (by omega),Nat.add_sub_cancel] at h2
    omega
  refine setB_step fun i hi=>⟨h0 i hi,(hk i hi).2,fun hp=>?_⟩
  have:=(hk i hi).1
  unfold lastI at this
  rwa [if_neg (by omega)] at this
 ·intro h k hk
  rw [List.mem_range] at hk
  obtain ⟨h1,h2⟩:=setB_iff.1 h
  have h3:=h2 _ (gmem hk)
  rw [Bool.and_eq_true,decide_eq_true_eq,decide_eq_true_eq]
  refine ⟨?_,h3.2⟩
  unfold lastI
  split
  ·omega
  ·exact inc_at h1 (by omega) hk
end Go.Proofs.YtdbcfpcicjgghaaGreatDoor
