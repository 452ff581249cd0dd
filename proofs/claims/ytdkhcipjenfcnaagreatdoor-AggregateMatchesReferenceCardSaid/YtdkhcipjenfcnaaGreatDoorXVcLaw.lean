/- Own library: of equal neighbours the first one. No program. -/
import Derived.Test.YtdkhcipjenfcnaaGreatDoorXVcDiv
import Derived.Lib.UnsafeStr
import Derived.Laws.BytesString
import Derived.Test.YtdkhcipjenfcnaaGreatDoorXVcGuard
import Derived.RangeFuncNested
import Derived.RangeFuncCalls
import Derived.RangeFuncLeaves
import Derived.OrdersIn
namespace Go.Vc
set_option maxRecDepth 100000
set_option maxHeartbeats 16000000
section
variable {α:Type} [Inhabited α] [DecidableEq α]
def cpN (l:List α):Nat→List α
 | 0=>[]
 | m+1=>if m=0∨l.getD m default≠l.getD (m-1) default then cpN l m++[l.getD m default] else cpN l m
theorem cpN_len (l:List α) (m:Nat):(cpN l m).length≤m:=by
 induction m with
 | zero=>simp [cpN]
 | succ m ih =>
   rw [cpN];split
   ·rw [List.length_append,List.length_singleton];omega
   ·omega
theorem cpN_take (l:List α) (m:Nat) (hm:m≤l.length) (h:∀ j,0<j→j<m→l.getD j default≠l.getD (j-1) default):cpN l m=l.take m:=by
 induction m with
 | zero=>simp [cpN]
 | succ m ih =>
  have e:l.take (m+1)=l.take m++[l.getD m default]:=by rw [List.take_succ_eq_append_getElem (by omega)];simp [List.getD,show m<l.length by omega]
  rw [cpN,ih (by omega) (fun j h1 h2=>h j h1 (by omega)),e]
  by_cases h0:m=0
  ·rw [if_pos (.inl h0)]
  ·rw [if_pos (.inr (h m (by omega) (by omega)))]
theorem cpN_mem (l:List α) (m:Nat) (hm:m≤l.length) (x:α):x∈cpN l m↔x∈l.take m:=by
 induction m with
 | zero=>simp [cpN]
 | succ m ih =>
  have e:l.take (m+1)=l.take m++[l.getD m default]:=by rw [List.take_succ_eq_append_getElem (by omega)];simp [List.getD,show m<l.length by omega]
  rw [cpN,e,List.mem_append,List.mem_singleton]
  split
  ·rw [List.mem_append,ih (by omega),List.mem_singleton]
  ·rename_i h
   rw [ih (by omega)]
   constructor
   ·exact .inl
   ·rintro (h1 | h1)
    ·exact h1
    ·have h2:l.getD m default=l.getD (m-1) default:=Classical.not_not.1 fun h3=>h (.inr h3)
     have h0:m≠0:=fun h0=>h (.inl h0)
     rw [h1,h2,List.mem_take_iff_getElem]
     exact ⟨m-1,by omega,by simp [List.getD,show m-1<l.length by omega]⟩
theorem cpN_short (l:List α) {k:Nat} (hk:0<k) (he:l.getD k default=l.getD (k-1) default) (m:Nat) (hm:k+1≤m):(cpN l m).length<m:=by
 induction m with
 | zero=>omega
 | succ m ih =>
  by_cases h:m=k
  ·subst h
   have hnc:¬(m=0∨l.getD m default≠l.getD (m-1) default):=fun h=>h.elim (by omega) (fun h=>h he)
   rw [cpN,if_neg hnc]
   have:=cpN_len l m;omega
  ·have:=ih (by omega)
   rw [cpN];split
   ·rw [List.length_append,List.length_singleton];omega
   ·omega
def cpL (l:List α):List α:=cpN l l.length
theorem cpL_mem (l:List α) (x:α):x∈cpL l↔x∈l:=by unfold cpL;rw [cpN_mem l _ (Nat.le_refl _),List.take_length]
end
theorem cpN_inc (l:List Int) (m:Nat) (hm:m≤l.length) (hs:l.Pairwise (·≤·)):Inc (cpN l m):=by
 have hle:∀ i j,i≤j→j<l.length→l.getD i default≤l.getD j default:=fun i j h1 h2=>by
  by_cases e:i=j
  ·subst e;omega
  ·have:=List.pairwise_iff_getElem.1 hs i j (by omega) h2 (by omega)
   simpa [List.getD,show i<l.length by omega,h2] using this
 induction m with
 | zero=>simp [cpN]
 | succ m ih =>
  rw [cpN]
  split
  ·rename_i h
   unfold Inc
   rw [List.pairwise_append]
   refine ⟨ih (by omega),by simp,fun x hx y hy=>?_⟩
   rw [List.mem_singleton] at hy
   subst hy
   rw [cpN_mem l m (by omega),List.mem_take_iff_getElem] at hx
   obtain ⟨i,hi,rfl⟩:=hx
   have hi2:i<m∧i<l.length:=by omega
   have e:l[i]=l.getD i default:=by simp [List.getD,hi2.2]
   rw [e]
   rcases h with h | h
   ·omega
   ·have h1:=hle i (m-1) (by omega) (by omega)
    have h2:=hle (m-1) m (by omega) (by omega)
    omega
  ·exact ih (by omega)
theorem cpL_set {l m:List Int} (hs:l.Pairwise (·≤·)) (hm:∀ x,x∈l↔x∈m):cpL l=setF m :=
 (setF_eq (cpN_inc l _ (Nat.le_refl _) hs) fun x=>by rw [show (cpN l l.length)=cpL l from rfl,cpL_mem];exact hm x).symm
section
variable {α:Type} [Inhabited α] [DecidableEq α] {enc:α→List Value} {K:Nat}
theorem cut0 {b off s c:Nat}:cutA (some ⟨b,off,none⟩) s 0 c=some ⟨b,off,none⟩:=by
 unfold cutA
 split
 ·rfl
 ·simp [Addr.add]
theorem cutSome {b off s l c:Nat} (h:c≠l):cutA (some ⟨b,off,none⟩) s l c=some ⟨b,off+l*s,none⟩:=by
 unfold cutA
 rw [if_neg h,Option.map_some]
 unfold Addr.add
 split
 ·rename_i h0;rw [h0];rfl
 ·rfl
structure CpN (enc:α→List Value) (K:Nat) (l:List α) (w0:World) (a:Option Addr) (m:Nat) (d:Array α) (w:World):Prop where
 s:Srt enc K w0 a d w
 sz:d.size=l.length
 lo:∀ q,q<(cpN l m).length→d[q]! = (cpN l m).getD q default
 hi:∀ q,m-1≤q→q<l.length→d[q]! = l.getD q default
omit [DecidableEq α] in
theorem Srt.cutRow (E:Elt enc K) {w0 w:World} {a:Option Addr} {d:Array α} (h:Srt enc K w0 a d w) {k c q:Nat} (hc:c≠k) (hq:k+q<d.size):RowAt w (eAddr (cutA a K k c) K q).block (eAddr (cutA a K k c) K q).off (enc d[k+q]!):=by
 obtain ⟨b,off,ha⟩:=h.ad
 have h1:=h.row E (j:=k+q) (i:=k+q) rfl hq
 subst ha
 rw [cutSome hc]
 have e:off+k*K+q*K=off+(k+q)*K:=by rw [Nat.add_mul];omega
 show RowAt w b (off+k*K+q*K) _
 rw [e];exact h1
end
theorem Srt.cellS {α:Type} [Inhabited α] {pr:α→Option Addr×Nat×Nat} {w0 w:World} {a:Option Addr} {d:Array α} (h:Srt (enS pr) 1 w0 a d w) {j i:Nat} (he:j=i) (hi:i<d.size):w.cell? (eAddr a 1 j)=some (.slice (pr d[i]!).1 (pr d[i]!).2.1 (pr d[i]!).2.2) :=
 (h.row (eltOfS pr) he hi).c0a rfl
def encU (b:UInt8):List Value:=[.int .u8 b.toNat]
theorem encU_flat (l:List UInt8):(l.map encU).flatten=Lib.byteCells l:=by
 induction l with
 | nil=>rfl
 | cons x l ih=>rw [List.map_cons,List.flatten_cons,ih];rfl
theorem encU_len (l:List UInt8):∀ r∈l.map encU,r.length=1:=fun r hr=>by
 obtain ⟨x,_,rfl⟩:=List.mem_map.1 hr;rfl
theorem foldl_push (l:List UInt8):∀ s:ByteArray,l.foldl (fun r n=>r.push n) s=⟨s.data++l.toArray⟩:=by
 induction l with
 | nil=>intro s;simp
 | cons x l ih=>intro s;rw [List.foldl_cons,ih];simp [ByteArray.push]
theorem bytes_back (l:List UInt8):(l.map fun b=>(b.toNat:Int)).foldl (fun r n=>r.push (UInt8.ofNat n.toNat)) ByteArray.empty=(⟨l.toArray⟩:ByteArray):=by
 rw [List.foldl_map]
 have:=foldl_push l ByteArray.empty
 simp at this ⊢
 rw [this]
variable {P:Program} {ρ:Env} {w:World}
theorem R.convBS {src dst e ty:TypeId} {x:Operand} {a:Option Addr} {c n:Nat} {l:List UInt8} (hs:P.underlying src=some (.slice e)) (he:P.underlying e=some (.int .u8)) (hd:P.underlying dst=some .string)
  (hx:tm ρ x=.slice a n c) (hl:n=l.length) (hS:TSl encU 1 w a l) :
  run1 P ρ (.convert src dst x) ty w=.ok (.value (.string ⟨l.toArray⟩)) w:=by
 subst hl
 have hconv:(convert src dst (.slice a l.length c)).run P w=.ok (.string ⟨l.toArray⟩) w:=by
  rw [run_convert_bytes_string w src dst e a l.length c hs he hd]
  rcases hS.2 with h | ⟨b,off,rfl,hr⟩
  ·have hl:l=[]:=by simpa using h
   subst hl
   cases a with
   | none=>unfold Conv.bytesToString;simp [go_sem];rfl
   | some ad =>
    have:=run_bytesToString (P:=P) w ad 0 c [] (by simp [loadCells,loadCellsFrom,go_sem])
    exact this
  ·have hld:(loadCells ⟨b,off,none⟩ l.length).run P w=.ok ((l.map fun b=>(b.toNat:Int)).map (Value.int .u8)).toArray w:=by
    have e1:((l.map fun b=>(b.toNat:Int)).map (Value.int .u8))=(l.map encU).flatten:=by rw [encU_flat];simp [Lib.byteCells]
    have hlen:l.length=(l.map encU).flatten.length:=by rw [encU_flat,Lib.byteCells_length]
    rw [e1,hlen]
    have:=loadCellsFrom_run (P:=P) b off w (l.map encU).flatten 0 #[] (fun j v hj=>by rw [Nat.zero_add];exact hr.cell hj)
    simpa [loadCells] using this
   have:=run_bytesToString (P:=P) w ⟨b,off,none⟩ l.length c (l.map fun b=>(b.toNat:Int)) hld
   rw [bytes_back] at this;exact this
 simp [run1,execOp,hx,hconv,go_sem]
theorem R.shl1 {t t' ty:TypeId} {x y:Operand} {n:Nat} (hx:tm ρ x=.int .i64 1) (hy:tm ρ y=.int .i64 (n:Nat)) (h:n≤62) :
  run1 P ρ (.binOp .shl t x y t') ty w=.ok (.value (.int .i64 ((2 ^ n:Nat):Int))) w:=by
 rw [R.shl hx hy (by omega)]
 have hp:2 ^ n≤2 ^ 62:=Nat.pow_le_pow_right (by omega) h
 have e:Min.min (n:Int).toNat IntKind.i64.bits=n:=by simp [IntKind.bits];omega
 rw [e,Int.one_mul,show (2:Int) ^ n=((2 ^ n:Nat):Int) by simp]
 generalize 2 ^ n=m at hp ⊢
 have hp:m≤4611686018427387904:=hp
 rw [wrap_i64 (by omega) (by omega)]
theorem R.shrN {t t' ty:TypeId} {x y:Operand} {k i:Nat} (hx:tm ρ x=.int .i64 (k:Nat)) (hy:tm ρ y=.int .i64 (i:Nat)) (h:i≤62) :
  run1 P ρ (.binOp .shr t x y t') ty w=.ok (.value (.int .i64 ((k / 2 ^ i:Nat):Int))) w:=by
 rw [R.shr hx hy (by omega)]
 have e:Min.min (i:Int).toNat IntKind.i64.bits=i:=by simp [IntKind.bits];omega
 rw [e]
 congr 4
 rw [show (2:Int) ^ i=((2 ^ i:Nat):Int) by simp,Int.fdiv_eq_ediv_of_nonneg _ (Int.natCast_nonneg _)]
 rfl
theorem R.and1 {t t' ty:TypeId} {x y:Operand} {k:Nat} (hx:tm ρ x=.int .i64 (k:Nat)) (hy:tm ρ y=.int .i64 1) (h:k<9223372036854775808) :
  run1 P ρ (.binOp .and t x y t') ty w=.ok (.value (.int .i64 ((k % 2:Nat):Int))) w:=by
 have e:IntKind.i64.wrap ((BitVec.ofInt 64 (k:Int) &&& BitVec.ofInt 64 1).toNat:Int)=((k % 2:Nat):Int):=by
  have e1:(BitVec.ofInt 64 (k:Int) &&& BitVec.ofInt 64 1).toNat=k % 2:=by
   rw [BitVec.toNat_and]
   have h1:(BitVec.ofInt 64 (k:Int)).toNat=k:=by rw [BitVec.toNat_ofInt];omega
   have h2:(BitVec.ofInt 64 1).toNat=1:=by decide
   rw [h1,h2,Nat.and_one_is_mod]
  rw [e1]
  exact wrap_i64 (by omega) (by omega)
 simp [run1,execOp,binOp,Op.intBits,go_sem,hx,hy]
 exact e
section
variable {n l:Nat} {P:Program} {Q:Exit→Act→World→Prop} {ops:Array Oper}
theorem rows_in {row:String} {args:Array Value} {w:World} {R:Value→World→Prop} (h:Rows P row args w R):RowsIn (Fence.wide.inRound l) n P row args w R :=
 fun c cs _=>let ⟨v,w',r,s⟩:=h c cs;⟨v,w',r,stepsIn_wide.2 s⟩
theorem upon_in {o:Oper} {a:Act} {K:Act→World→Prop} {r:Result Next} (h:Oper.upon P o a K Q r):o.uponIn (Fence.wide.inRound l) n P a K Q r:=by
 cases r with
 | ok x w' =>
  cases x with
  | value v=>exact h
  | skip=>exact h
  | defer d=>exact h
  | enter f args =>
   refine ⟨fun h=>by simp [Fence.wide] at h,CallsIn.inRound l (callsIn_wide.2 ?_)⟩
   exact Calls.mono h fun e w'' he=>by cases e <;> exact he
  | row row args=>exact ⟨fun h=>by simp [Fence.wide] at h,rows_in h⟩
  | _=>exact h.elim
 | halt x w'=>cases x <;> exact h
def noDefer (l:List Oper):Bool:=l.all fun o=>match o.op with | .defer _=>false | _=>true
theorem noDefer_at {L:List Oper} (h:noDefer L=true) {o:Oper} (ho:o∈L):∀ c,o.op≠.defer c:=fun c e=>by
 have:=List.all_eq_true.1 h o ho
 rw [e] at this;cases this
theorem wpIn_of {o:Oper} {a:Act} {w:World} {K:Act→World→Prop} (hd:∀ c,o.op≠.defer c) (h:o.wp P a w K Q):o.wpIn (Fence.wide.inRound l) n P a w K Q :=
 ⟨fun _ _=>trivial,by rw [Oper.semAt_eq _ _ _ hd];exact upon_in h⟩
theorem list_in (hq:¬LetsOut Q):∀ (L:List Oper) (a:Act) (w:World),noDefer L=true→wpList P ops Q L a w→wpListIn (Fence.wide.inRound l) n P ops Q L a w:=by
 intro L
 induction L with
 | nil=>intro a w _ h;exact h
 | cons o L ih =>
  intro a w hd h
  have hd':noDefer L=true:=by unfold noDefer at hd ⊢;rw [List.all_cons,Bool.and_eq_true] at hd;exact hd.2
  unfold wpList at h
  unfold wpListIn
  split at h
  ·rename_i hw
   rw [if_pos hw]
   rcases h with h | ⟨_,h⟩
   ·exact Oper.wpIn_mono (fun a w h=>ih a w hd' h) (wpIn_of (noDefer_at hd (by simp)) h)
   ·exact absurd h hq
  ·rename_i hw
   rw [if_neg hw]
   exact ⟨fun _ _=>trivial,ih _ _ hd' h⟩
theorem any_in {md:Region.Mode} (hq:¬LetsOut Q) (hd:noDefer ops.toList=true):∀ (fuel:Nat) (listed:Array Bool) (a:Act) (w:World),wpAny P md ops Q fuel listed a w→wpAnyIn (Fence.wide.inRound l) n P md ops Q fuel listed a w:=by
 intro fuel
 induction fuel with
 | zero=>intro listed a w h;exact h
 | succ fuel ih =>
  intro listed a w h
  refine ⟨h.1,fun i hi=>?_⟩
  have h2:=h.2 i hi
  unfold wpOp at h2
  unfold wpOpIn
  split
  ·rename_i he
   rw [he] at h2
   exact ih _ _ _ h2
  ·rename_i o he
   rw [he] at h2
   dsimp only at h2
   have hm:o∈ops.toList:=by
    obtain ⟨hi2,rfl⟩:=Array.getElem?_eq_some_iff.1 he
    simp
   split
   ·rename_i hw
    rw [if_pos hw] at h2
    rcases h2 with h2 | ⟨_,h2⟩
    ·exact Oper.wpIn_mono (fun a w h=>ih _ a w h) (wpIn_of (noDefer_at hd hm) h2)
    ·exact absurd h2 hq
   ·rename_i hw
    rw [if_neg hw] at h2
    exact ⟨fun _ _=>trivial,ih _ _ _ h2⟩
end
section
variable {P:Program} {N:Nat} {L:List Oper} {Q:Exit→Env→World→Prop} {ρ:Env}
theorem any_A {w:World} (k m:Nat) (hr:regOk L k=true) (C0 C1:World→Prop)
  (h0:C0 { w with drawn:=w.drawn+1 })
  (h:VA P L (ancs L []) C0 C1 m k 0 L ρ fun ρ'=>∀ w',(bif Nat.blt m k then C1 w' else C0 w')→VL P N L Q (L.drop k) ρ' w') (okL:okOps N L=true) :
  wpAny P .any L.toArray (lift N Q) L.toArray.size (Array.replicate L.toArray.size false) (act N ρ) { w with drawn:=w.drawn+1 }:=by
 have R:=regOk_spec hr
 obtain ⟨vs,hl,hll,hobs,hK⟩:=VA_spec k 0 L ρ _ h
 let vals:Nat→Value:=fun x=>vs.getD x undef
 have henv:∀ x,x≤k→envL L vals ρ x=ch ρ L vs x:=by
  intro x
  induction x with
  | zero=>intro _;rw [envL_zero,ch_zero]
  | succ x ih =>
   intro hx
   have ho:L[x]?=some L[x]:=List.getElem?_eq_getElem (by omega)
   rw [envL_succ ho,ih (by omega),ch_succ L ρ vs x L[x] (vs.getD x undef) ho (by simp [List.getD,List.getElem?_eq_getElem (by omega:x<vs.length)])]
 have start:=wpAny_any (P:=P) (N:=N) (vals:=vals) (ρ:=ρ) R okL hll (C:=stage C0 C1 m) (QQ:=lift N Q) ?_ ?_ k L.toArray.size (Array.replicate L.toArray.size false) { w with drawn:=w.drawn+1 } (by simp) ?_ ?_ ?_ (by simp;omega) ?_
 ·have e:lst (Array.replicate L.toArray.size false)=fun _=>false:=by
   funext j;unfold lst;simp [Array.getElem?_replicate];split <;> rfl
  rw [e,envD_none] at start
  exact start
 ·intro i o ho hik D hcl hDi hdeps hsuf w' hC
  have hob:=hobs i o hik ho
  rw [Nat.zero_add,←henv i (by omega)] at hob
  have hil:i<L.length:=(List.getElem?_eq_some_iff.1 ho).1
  constructor
  ·intro hw
   have h1:=hob.1 hw
   by_cases him:i=m
   ·subst him
    rw [Nat.beq_refl,cond_true] at h1
    have hC':C0 w':=by unfold stage at hC;rw [hDi] at hC;exact hC
    have:=h1 w' hC'
    have e:stage C0 C1 i (setD D i)=C1:=by funext w;unfold stage setD;simp
    rw [e];exact this
   ·rw [nbeq_ne him,cond_false] at h1
    have e:∀ w,stage C0 C1 m (setD D i) w=bif D m then C1 w else C0 w:=by
     intro w;unfold stage setD;rw [nbeq_ne (fun e=>him e.symm),Bool.false_or]
    cases hDm:D m with
    | true =>
     have hC':C1 w':=by unfold stage at hC;rw [hDm] at hC;exact hC
     have hml:m<L.length:=by
      rcases Nat.lt_or_ge m k with h | h
      ·omega
      ·rw [hsuf m h] at hDm;cases hDm
     have hb:((ancs L []).getD m 0).testBit i=false:=by
      cases hb:((ancs L []).getD m 0).testBit i with
      | false=>rfl
      | true=>rw [anc_closed hcl hml hb hDm] at hDi;cases hDi
     have h2:=h1.2
     rw [hb,cond_false] at h2
     have e':stage C0 C1 m (setD D i)=C1:=by funext w;rw [e w,hDm];rfl
     rw [e'];exact h2 w' hC'
    | false =>
     have hC':C0 w':=by unfold stage at hC;rw [hDm] at hC;exact hC
     have hb:((ancs L []).getD i 0).testBit m=false:=by
      cases hb:((ancs L []).getD i 0).testBit m with
      | false=>rfl
      | true=>rw [anc_done R hcl ho hdeps hb] at hDm;cases hDm
     have h2:=h1.1
     rw [hb,cond_false] at h2
     have e':stage C0 C1 m (setD D i)=C0:=by funext w;rw [e w,hDm];rfl
     rw [e'];exact h2 w' hC'
  ·intro hw
   obtain ⟨h1,h2⟩:=hob.2 hw
   refine ⟨h1,?_⟩
   by_cases him:i=m
   ·subst him
    rw [Nat.beq_refl,cond_true] at h2
    have hC':C0 w':=by unfold stage at hC;rw [hDi] at hC;exact hC
    have e:stage C0 C1 i (setD D i)=C1:=by funext w;unfold stage setD;simp
    rw [e];exact h2 w' hC'
   ·have e:stage C0 C1 m (setD D i) w'=stage C0 C1 m D w':=by
     unfold stage setD;rw [nbeq_ne (fun e=>him e.symm),Bool.false_or]
    rw [e];exact hC
 ·intro w' hC
  have hC':bif Nat.blt m k then C1 w' else C0 w':=hC
  have hv:=hK w' hC'
  rw [←henv k (Nat.le_refl _)] at hv
  have hdrop:okOps N (L.drop k)=true:=by
   unfold okOps at *
   rw [List.all_eq_true] at *
   exact fun o ho=>okL o (List.mem_of_mem_drop ho)
  have:=wpList_mono (lift_mono fun _ _ _ h=>h.1) _ _ _ (hv.go okL hdrop)
  rw [←wpOps_eq_wpList (L.drop k) k (by intro j;simp)] at this
  simpa using this
 ·intro i o _ hi
  unfold lst at hi
  simp [Array.getElem?_replicate] at hi
  split at hi <;> cases hi
 ·intro j _;unfold lst;simp [Array.getElem?_replicate];split <;> rfl
 ·have:((List.range k).filter fun j=>!lst (Array.replicate L.toArray.size false) j)=List.range k:=by
   rw [List.filter_eq_self]
   intro j _;unfold lst;simp [Array.getElem?_replicate];split <;> rfl
  rw [this,List.length_range]
 ·have e:lst (Array.replicate L.toArray.size false)=fun _=>false:=by
   funext j;unfold lst;simp [Array.getElem?_replicate];split <;> rfl
  rw [e];exact h0
end
structure VI (l n:Nat) (P:Program) (N:Nat) (c:Code) (Q:Exit→Env→World→Prop) (ρ:Env) (w:World):Prop where
 go:okCode N c=true→c.wpIn (Fence.wide.inRound l) n P (lift N Q) (act N ρ) w
section
variable {l n:Nat} {P:Program} {N:Nat} {L:List Oper} {Q:Exit→Env→World→Prop} {ρ:Env} {w:World}
theorem lets_no (hq:∀ ρ w,¬Q .outgrown ρ w):¬LetsOut (lift N Q):=fun ⟨_,w,ρ,_,h⟩=>hq ρ w h
theorem VI.region {id:Nat} (hq:∀ ρ w,¬Q .outgrown ρ w) (hd:noDefer L=true) (h:VL P N L Q L ρ w):VI l n P N (.region id L.toArray false) Q ρ w:=by
 refine ⟨fun ok=>?_⟩
 have ok':okOps N L=true:=by simpa [okCode] using ok
 exact wpIn_region_lit (list_in (lets_no hq) L _ _ hd (wpList_mono (lift_mono fun _ _ _ h=>h.1) _ _ _ (h.go ok' ok')))
theorem VI.regionQ {id:Nat} (hq:∀ ρ w,¬Q .outgrown ρ w) (hd:noDefer L=true) (hm:P.follows .mixedOrders=true) (k:Nat) (hr:regOk L k=true) (hk:Nat.ble k L.length=true) (C:World→Prop)
  (h0:C { w with drawn:=w.drawn+1 })
  (h:VQ P L C k L ρ fun ρ'=>∀ w',C w'→VL P N L Q (L.drop k) ρ' w'):VI l n P N (.region id L.toArray true) Q ρ w:=by
 have hk':k≤L.length:=Nat.le_of_ble_eq_true hk
 refine ⟨fun ok=>?_⟩
 have okL:okOps N L=true:=by simpa [okCode] using ok
 refine wpIn_region_any hm (any_in (lets_no hq) hd _ _ _ _ (any_A k k hr C (fun _=>False) h0 ?_ okL))
 have:=h.go 0 (by omega)
 rw [Nat.add_zero] at this
 have e:Nat.blt k k=false:=nblt_no (Nat.lt_irrefl k)
 rw [e]
 exact this
theorem VI.seq {x y:Code} (h:VI l n P N x (thn (VI l n P N y Q) Q) ρ w):VI l n P N (.seq x y) Q ρ w:=by
 refine ⟨fun ok=>?_⟩
 simp only [okCode,Bool.and_eq_true] at ok
 refine wpIn_seq (Code.wpIn_mono ?_ (h.go ok.1))
 rintro e a w' ⟨ρ',rfl,hQ⟩
 cases e with
 | normal=>exact hQ.go ok.2
 | _=>exact ⟨ρ',rfl,hQ⟩
theorem VI.skip (h:Q .normal ρ w):VI l n P N .skip Q ρ w:=⟨fun _=>wpIn_skip ⟨ρ,rfl,h⟩⟩
theorem VI.ret (h:Q .ret ρ w):VI l n P N .ret Q ρ w:=⟨fun _=>wpIn_ret ⟨ρ,rfl,h⟩⟩
theorem VI.block {id:Nat} {c:Code} (h:VI l n P N c (blk id Q) ρ w):VI l n P N (.block id c) Q ρ w:=by
 refine ⟨fun ok=>?_⟩
 simp only [okCode] at ok
 refine wpIn_block (Code.wpIn_mono ?_ (h.go ok))
 rintro e a w' ⟨ρ',rfl,hQ⟩
 cases e with
 | exit id' =>
  simp only [Exit.inBlock]
  by_cases hid:id'=id
  ·subst hid
   simp only [blk,Nat.beq_refl,cond_true] at hQ
   rw [if_pos rfl];exact ⟨ρ',rfl,hQ⟩
  ·have:Nat.beq id' id=false:=nbeq_ne hid
   simp only [blk,this,cond_false] at hQ
   rw [if_neg hid];exact ⟨ρ',rfl,hQ⟩
 | _=>exact ⟨ρ',rfl,hQ⟩
theorem VI.cond {c:Operand} {x y:Code} {t:Bool} (hc:tm ρ c=.bool t) (ht:t=true→VI l n P N x Q ρ w) (hf:t=false→VI l n P N y Q ρ w) :
  VI l n P N (.cond c x y) Q ρ w:=by
 refine ⟨fun ok=>?_⟩
 simp only [okCode,Bool.and_eq_true] at ok
 refine wpIn_cond (t:=t) (by rw [eval_act ok.1.1];exact hc) ?_
 cases t with
 | true=>exact (ht rfl).go ok.1.2
 | false=>exact (hf rfl).go ok.2
theorem R.callY {x y:Operand} {lp:Nat} {fn:FuncId} {tmps:Array Value} {assign body:Code} {ts:Array TypeId} {ty:TypeId} {v:Value} (hx:tm ρ x=.func (.yield lp) #[] #[]) (hy:tm ρ y=v)
  (h:(Instr.yield lp #[v]).run P w=.ok (.round lp fn tmps assign body) w) :
  run1 P ρ (.call { callee:=.value x,args:=#[y],argTypes:=ts }) ty w=.ok (.round lp fn tmps assign body) w:=by
 subst hy
 simp only [run1,execOp,resolve,hx,Deferred.ofValue,invoke,Sem.run_bind,Sem.run_pure,Result.andThen_ok,List.map_toArray]
 simpa using h
theorem VLI.op {n d:Nat} {q:Op} {ty:TypeId} {p:String} {af:Array Edge} {v:Value} {w':World} {rest:List Oper} {ops:Array Oper} {QQ:Exit→Act→World→Prop} (okl:okOps N ({ dst:=some d,op:=q,type:=ty,pos:=p,after:=af,guard:=none } :: rest)=true) (hr:run1 P ρ q ty w=.ok (.value v) w')
  (h:okOps N rest=true→wpListIn Fence.wide n P ops QQ rest (act N (upd ρ d v)) w'):wpListIn Fence.wide n P ops QQ ({ dst:=some d,op:=q,type:=ty,pos:=p,after:=af,guard:=none } :: rest) (act N ρ) w:=by
 obtain ⟨ho,hr'⟩:=okOps_cons okl
 refine wpListIn_plain rfl fun K hK=>⟨fun _ _=>trivial,?_⟩
 have e:Fence.wide.round=none:=rfl
 rw [e,Oper.semAt_none,exec_act ho,run1_eq,hr]
 simp only [Oper.uponIn,act_put]
 exact hK _ _ (h hr')
theorem VLI.round {n d:Nat} {q:Op} {ty:TypeId} {p:String} {af:Array Edge} {w':World} {rest:List Oper} {ops:Array Oper} {QQ:Exit→Act→World→Prop} {lp:Nat} {fn:FuncId} {tmps:Array Value} {assign body:Code} {R:Ending→World→Prop}
  (okl:okOps N ({ dst:=some d,op:=q,type:=ty,pos:=p,after:=af,guard:=none } :: rest)=true) (hr:run1 P ρ q ty w=.ok (.round lp fn tmps assign body) w')
  (hR:RoundIn Fence.wide (n-1) P lp fn tmps assign body w' R)
  (h:okOps N rest=true→∀ e w'',R e w''→∃ v,e=.returned v∧wpListIn Fence.wide n P ops QQ rest (act N (upd ρ d v)) w''):wpListIn Fence.wide n P ops QQ ({ dst:=some d,op:=q,type:=ty,pos:=p,after:=af,guard:=none } :: rest) (act N ρ) w:=by
 obtain ⟨ho,hr'⟩:=okOps_cons okl
 refine wpListIn_plain rfl fun K hK=>⟨fun _ _=>trivial,?_⟩
 have e:Fence.wide.round=none:=rfl
 rw [e,Oper.semAt_none,exec_act ho,run1_eq,hr]
 refine ⟨fun h=>by simp [Fence.wide] at h,RoundIn.mono hR fun e w'' he=>?_⟩
 obtain ⟨v,rfl,h2⟩:=h hr' e w'' he
 have:=hK _ _ h2
 simp only [act_put]
 exact this
theorem V.yieldNot {id d1 d2 d3 d4:Nat} {x1 x2:Operand} {t1 t2 t3 t4 t5:TypeId} {p1 p2 p3 p4:String} {f1 f2 f3 f4:Array Edge} {ts:Array TypeId} {lp m:Nat} {RR:Ending→World→Prop}
  (n12:Nat.beq d1 d2=false) (hx:tm ρ x1=.func (.yield lp) #[] #[]) {v:Value} (h2:tm (upd ρ d1 (.func (.yield lp) #[] #[])) x2=v) (hy:YieldAt Fence.wide m P lp #[v] w RR)
  (h:∀ e w',RR e w'→∃ b,e=.returned (.bool b)∧VL P N L Q [] (upd (upd (upd (upd ρ d1 (.func (.yield lp) #[] #[])) d2 v) d3 (.bool b)) d4 (.bool (!b))) w')
  (hL:L=[
   { dst:=some d1,op:=.move x1,type:=t1,pos:=p1,after:=f1,guard:=none },
   { dst:=some d2,op:=.move x2,type:=t2,pos:=p2,after:=f2,guard:=none },
   { dst:=some d3,op:=.call { callee:=.value (.tmp d1),args:=#[.tmp d2],argTypes:=ts },type:=t3,pos:=p3,after:=f3,guard:=none },
   { dst:=some d4,op:=.unOp .not t5 (.tmp d3),type:=t4,pos:=p4,after:=f4,guard:=none }]):V P N (.region id L.toArray false) Q ρ w:=by
 refine ⟨fun ok=>?_⟩
 have okL:okOps N L=true:=by simpa only [okCode,List.toList_toArray] using ok
 have hH:∀ e w',RR e w'→∃ b,e=.returned (.bool b)∧∃ ρ',act N (upd (upd (upd (upd ρ d1 (.func (.yield lp) #[] #[])) d2 v) d3 (.bool b)) d4 (.bool (!b)))=act N ρ'∧Q .normal ρ' w':=fun e w' he=>by
  obtain ⟨b,hb,hv⟩:=h e w' he
  obtain ⟨ρ',ha,hQ,_⟩:=hv.go okL rfl
  exact ⟨b,hb,ρ',ha,hQ⟩
 clear okL h
 subst hL
 have ok':=by simpa only [okCode,List.toList_toArray] using ok
 refine (wpIn_wide (n:=m+1)).1 (wpIn_region_lit ?_)
 obtain ⟨fn,tmps,assign,body,hrun,hR⟩:=hy
 refine VLI.op ok' (R.mv hx) fun ok1=>VLI.op ok1 (R.mv h2) fun ok2=>VLI.round ok2 (R.callY (v:=v) ?_ ?_ hrun) hR fun ok3 e w' he=>?_
 ·show upd _ _ _ _=_
  unfold upd
  rw [n12,Nat.beq_refl];rfl
 ·show upd _ _ _ _=_
  unfold upd
  rw [Nat.beq_refl];rfl
 ·obtain ⟨b,rfl,hQ⟩:=hH e w' he
  refine ⟨_,rfl,VLI.op ok3 (R.not (b:=b) ?_) fun ok4=>wpListIn_nil hQ⟩
  show upd _ _ _ _=_
  unfold upd
  rw [Nat.beq_refl];rfl
end
abbrev From (B:Nat):Nat→Prop:=fun k=>B≤k
theorem putObj_mod {W:World} {l:Nat} (o:Obj):Mod (one l) W (W.putObj l o):=by
 refine ⟨rfl,rfl,rfl,by simp [World.putObj],fun b _ hn=>?_⟩
 exact World.putObj_heap_other (fun e=>hn e)
theorem TSl.from {α:Type} {enc:α→List Value} {s:Nat} {w w':World} {a:Option Addr} {l:List α} (h:TSl enc s w a l) (m:Mod (From w.heap.size) w w'):TSl enc s w' a l:=by
 cases l with
 | nil=>exact TSl.nil _ _ _ _
 | cons x l =>
  have hl:=h.lt (i:=0) (by simp)
  refine h.mod m fun ad e=>?_
  subst e
  show ¬_≤_
  have:abk (Option.some ad)=ad.block:=rfl
  omega
theorem alloc_ext {W:World} {o:Obj}:Ext W (W.alloc o):=Ext.alloc W o
def SeqG {α:Type} (m:Nat) (P:Program) (g:FuncId) (lb:Array Value) (encs:α→Array Value) (G:Nat→α→World→Prop) (n0:Nat) (S Sp:List α→Prop) (w:World):Prop :=
 ∀ (l:Nat) (J Jx:List α→World→Prop) (W:World),Ext w W→(∀ s A B,J s A→Ext A B→W.heap.size≤A.heap.size→J s B)→(∀ s A B,Jx s A→Ext A B→Jx s B) →
  (∀ pre x W1,J pre W1→G W.heap.size x W1→YieldAt Fence.wide m P l (encs x) W1 fun e W' =>
   (e=.returned (.bool true)∧J (pre++[x]) W'∧Mod (From n0) W1 W')∨(e=.returned (.bool false)∧Jx (pre++[x]) W')) →
  J [] W →
  Calls P g (#[.func (.yield l) #[] #[]]++lb) W fun e W'=>(∃ v,e=.returned v)∧((∃ xs,S xs∧J xs W')∨(∃ pre,Sp pre∧Jx pre W'))
section
variable {α:Type} {P:Program}
theorem rangeF {g:Operand} {ps:Array Tmp} {assign body:Code} {Q:Exit→Act→World→Prop} {a:Act} {w:World} {m:Nat} {gf:FuncId} {lb:Array Value}
  (hg:a.eval g=.func (.func gf) #[] lb) (eg:∀ args w,(callFunc gf args).run P w=.ok (.enter gf args) w)
  {encs:α→Array Value} {G:Nat→α→World→Prop} {S Sp:List α→Prop} (hseq:SeqG m P gf lb encs G w.heap.size S Sp w) (hps:∀ x,(encs x).size=ps.size)
  (hG:∀ B x A A',G B x A→Mod (fun k=>k<B) A A'→G B x A')
  (p px:List α→Prop) (b6:Nat) (hb6:b6<w.heap.size) (ob:Obj) (h0:p []) (a₁:α→Act)
  (hassign:∀ (l:Nat) (x:α) (W:World) (K:Act→World→Prop),K (a₁ x) W →
   assign.wpIn (Fence.wide.inRound l) m P (Exit.then K (fun _ _ _=>False)) { tmps:=(ps.zip (encs x)).foldl (fun t (p,v)=>t.setIfInBounds p v) a.tmps,defers:=[] } W)
  (hbody:∀ (l B:Nat) (pre:List α) (x:α) (W:World),Mod (From w.heap.size) w W→p pre→G B x W→body.wpIn (Fence.wide.inRound l) m P
   (fun e _ W'=>match e with
    | .normal=>Ext W W'∧p (pre++[x])
    | .ret=>Mod (one b6) W W'∧W'.heap[b6]?=some ob∧px (pre++[x])
    | _=>False) (a₁ x) W)
  (hdone:∀ (D:Nat) (xs:List α) (W:World),w.heap.size≤D→S xs→p xs→Mod (From w.heap.size) w W→W.heap[D]?=some (.deferred (some []))→Q .normal { a with defers:={ target:=.collected D,args:=#[] } :: a.defers } W)
  (hstop:∀ (D:Nat) (pre:List α) (W:World),w.heap.size≤D→Sp pre→px pre→Mod (fun k=>w.heap.size≤k∨k=b6) w W→W.heap[b6]?=some ob→W.heap[D]?=some (.deferred (some []))→Q .ret { a with defers:={ target:=.collected D,args:=#[] } :: a.defers } W) :
  (Code.rangeFunc g ps assign body).wpIn Fence.wide (m+1) P Q a w:=by
 refine wpIn_rangeFunc fun fn _=>?_
 obtain ⟨rec,hrec⟩:∃ rec:LoopState→Option Code→Loop,rec=fun st pe=>{ state:=st,pending:=pe,fn,tmps:=a.tmps,params:=ps,assign,body,defers:=w.heap.size }:=⟨_,rfl⟩
 obtain ⟨W1,hW1⟩:∃ W1,(w.alloc (.deferred (some []))).alloc (.loop (rec .ready none))=W1:=⟨_,rfl⟩
 have keep:∀ {T:Nat→Prop} {A B:World} {k:Nat} {o:Obj},Mod T A B→¬T k→A.heap[k]?=some o→B.heap[k]?=some o:=fun hm hn h=>by
  rw [hm.blk _ (Array.getElem?_eq_some_iff.1 h).1 hn];exact h
 have hz:W1.heap.size=w.heap.size+2:=by rw [←hW1,World.size_alloc,World.size_alloc]
 have hL1:W1.heap[w.heap.size+1]?=some (.loop (rec .ready none)):=by
  rw [←hW1];have:=World.alloc_heap_new (w.alloc (.deferred (some []))) (.loop (rec .ready none));rwa [World.size_alloc] at this
 have hK1:W1.heap[w.heap.size]?=some (.deferred (some [])):=by
  rw [←hW1];exact keep alloc_ext (fun e=>e) (World.alloc_heap_new w _)
 have hE1:Ext w W1:=by rw [←hW1];exact alloc_ext.trans alloc_ext
 refine ⟨w.heap.size+1,[{ target:=.collected w.heap.size,args:=#[] }],W1,{ target:=.fn (.func gf) lb,args:=#[.func (.yield (w.heap.size+1)) #[] #[]] },W1,gf,
  #[.func (.yield (w.heap.size+1)) #[] #[]]++lb,W1,?_,?_,fun _ _=>trivial,?_,fun h=>by simp [Fence.wide] at h,?_⟩
 ·rw [←hW1,hrec];exact run_enterLoop_outer _ _ _ _ _
 ·simp only [resolve,hg]
  simp [go_sem]
 ·simp [invoke,go_sem,eg]
 have hcall:=hseq (w.heap.size+1)
  (fun pre W=>p pre∧Mod (From w.heap.size) w W∧w.heap.size+2≤W.heap.size∧W.heap[w.heap.size+1]?=some (.loop (rec .ready none))∧W.heap[w.heap.size]?=some (.deferred (some [])))
  (fun pre W=>px pre∧Mod (fun k=>w.heap.size≤k∨k=b6) w W∧W.heap[b6]?=some ob∧W.heap[w.heap.size+1]?=some (.loop (rec .done (some .ret)))∧W.heap[w.heap.size]?=some (.deferred (some [])))
  W1 hE1
  (fun s A B ⟨h1,h2,h3,h4,h5⟩ he _=>⟨h1,h2.ext he,Nat.le_trans h3 he.size,keep he (fun e=>e) h4,keep he (fun e=>e) h5⟩)
  (fun s A B ⟨h1,h2,h3,h4,h5⟩ he=>⟨h1,h2.ext he,keep he (fun e=>e) h3,keep he (fun e=>e) h4,keep he (fun e=>e) h5⟩)
  ?_ ⟨h0,hE1.mod,by omega,hL1,hK1⟩
 ·refine callsIn_wide.2 (Calls.mono hcall ?_)
  rintro e W2 ⟨⟨v,rfl⟩,(⟨xs,hS,hp,hm,hs,hl,hk⟩ | ⟨pre,hSp,hp,hm,ho,hl,hk⟩)⟩
  ·have hend:=run_endLoop (P:=P) hl (by rw [hrec];simp)
   rw [hrec] at hend
   exact ⟨none,_,hend,hdone _ xs _ (Nat.le_refl _) hS hp (hm.then (putObj_mod _) fun x _ e=>by unfold one at e;show _≤_;omega) (keep (putObj_mod _) (by unfold one;omega) hk)⟩
  ·have hend:=run_endLoop (P:=P) hl (by rw [hrec];simp)
   rw [hrec] at hend
   exact ⟨some .ret,_,hend,wpIn_ret (hstop _ pre _ (Nat.le_refl _) hSp hp (hm.then (putObj_mod _) fun x _ e=>by unfold one at e;left;omega) (keep (putObj_mod _) (by unfold one;omega) ho) (keep (putObj_mod _) (by unfold one;omega) hk))⟩
 ·rintro pre x W ⟨hp,hm,hs,hl,hk⟩ hgx
  have hy:=run_yield (P:=P) (args:=encs x) hl (by rw [hrec];exact hps x)
  rw [hrec] at hy
  refine ⟨fn,_,assign,body,hy,roundIn_of_wpIn trivial (hassign _ x W _ ⟨_,run_beginRound hl (by rw [hrec]),?_⟩)⟩
  rw [hz] at hgx
  obtain ⟨W2,hW2⟩:∃ W2,W.putObj (w.heap.size+1) (.loop { rec .ready none with state:=.busy })=W2:=⟨_,rfl⟩
  have hm2:Mod (one (w.heap.size+1)) W W2:=by rw [←hW2];exact putObj_mod _
  have hl2:W2.heap[w.heap.size+1]?=some (.loop { rec .ready none with state:=.busy }):=by rw [←hW2];exact World.putObj_heap_same (by omega)
  have hk2:W2.heap[w.heap.size]?=some (.deferred (some [])):=keep hm2 (by unfold one;omega) hk
  have hmw:Mod (From w.heap.size) w W2:=hm.then hm2 fun x _ e=>by unfold one at e;show _≤_;omega
  have hmF:Mod (From w.heap.size) W W2:=hm2.weaken fun x _ e=>by unfold one at e;show _≤_;omega
  rw [hW2]
  refine wpIn_mono (hbody _ (w.heap.size+2) pre x W2 hmw hp (hG _ _ _ _ hgx (hm2.weaken fun x _ e=>by unfold one at e;omega))) ?_
  rintro e a3 W3 h3
  cases e with
  | normal =>
   obtain ⟨hx,hp3⟩:=h3
   have hl3:=keep hx (fun e=>e) hl2
   have hend:=run_endRound (P:=P) none hl3
   refine ⟨_,_,hend,.inl ⟨rfl,⟨hp3,?_,?_,?_,?_⟩,?_⟩⟩
   ·exact (hmw.ext hx).then (putObj_mod _) fun x _ e=>by unfold one at e;show _≤_;omega
   ·have h1:=hm2.size;have h2:=hx.size;have h4:=(putObj_mod (W:=W3) (l:=w.heap.size+1) (.loop { rec .ready none with state:=.ready,pending:=none })).size
    refine Nat.le_trans ?_ h4;omega
   ·have:=World.putObj_heap_same (o:=Obj.loop { rec .ready none with state:=.ready,pending:=none }) (Array.getElem?_eq_some_iff.1 hl3).1
    rw [hrec] at this ⊢;exact this
   ·exact keep (putObj_mod _) (by unfold one;omega) (keep hx (fun e=>e) hk2)
   ·exact (hmF.ext hx).then (putObj_mod _) fun x _ e=>by unfold one at e;show _≤_;omega
  | ret =>
   obtain ⟨hx,ho,hp3⟩:=h3
   have hl3:=keep hx (by unfold one;omega) hl2
   have hend:=run_endRound (P:=P) (some .ret) hl3
   refine ⟨_,_,hend,.inr ⟨rfl,hp3,?_,?_,?_,?_⟩⟩
   ·refine ((hmw.weaken fun x _ e=>.inl e).then hx fun x _ e=>.inr e).then (putObj_mod _) fun x _ e=>?_
    unfold one at e;left;omega
   ·exact keep (putObj_mod _) (by unfold one;omega) ho
   ·have:=World.putObj_heap_same (o:=Obj.loop { rec .ready none with state:=.done,pending:=some .ret }) (Array.getElem?_eq_some_iff.1 hl3).1
    rw [hrec] at this ⊢;exact this
   ·exact keep (putObj_mod _) (by unfold one;omega) (keep hx (by unfold one;omega) hk2)
  | _=>exact h3.elim
end
structure InW (n:Nat) (P:Program) (N:Nat) (c:Code) (QQ:Exit→Act→World→Prop) (ρ:Env) (w:World):Prop where
 go:c.wpIn Fence.wide n P QQ (act N ρ) w
def nxI (n:Nat) (P:Program) (N:Nat) (y:Code) (QQ:Exit→Act→World→Prop):Exit→Env→World→Prop
 | .normal,ρ,w=>InW n P N y QQ ρ w
 | e,ρ,w=>QQ e (act N ρ) w
section
variable {n:Nat} {P:Program} {N:Nat} {QQ:Exit→Act→World→Prop} {ρ:Env} {w:World}
theorem InW.seqV {x y:Code} (ok:okCode N x=true) (h:V P N x (nxI n P N y QQ) ρ w):InW n P N (.seq x y) QQ ρ w :=
 ⟨wpIn_seq (wpIn_wide.2 (wp_mono (h.go ok) (by
  rintro e a w' ⟨ρ',rfl,hQ⟩
  cases e with
  | normal=>exact hQ.go
  | _=>exact hQ)))⟩
theorem InW.seqI {x y:Code} (h:InW n P N x (Exit.then (y.wpIn Fence.wide n P QQ) QQ) ρ w):InW n P N (.seq x y) QQ ρ w:=⟨wpIn_seq h.go⟩
theorem InW.block {id:Nat} {c:Code} (h:InW n P N c (Exit.inBlock id QQ) ρ w):InW n P N (.block id c) QQ ρ w:=⟨wpIn_block h.go⟩
theorem leaves_cell {fn:Func} {D a t b6:Nat} {v:Value} {RR:Ending→World→Prop} (hres:fn.results=#[.cell a t]) (ha:Nat.blt a N=true) (hx:ρ a=.pointer (some ⟨b6,0,none⟩)) (hK:w.heap[D]?=some (.deferred (some []))) (hB:Blk w b6 (.cells #[v] t (0,0))) (hne:D≠b6) (hg:∀ w,(isAgg t).run P w=.ok false w)
  (hR:∀ w',Mod (one D) w w'→RR (.returned v) w'):LeavesInM Fence.wide n P fn (act N ρ).tmps RR [{ target:=.collected D,args:=#[] }] .returning w:=by
 have hm:Mod (one D) w (w.putObj D (.deferred none)):=putObj_mod _
 have hB':Blk (w.putObj D (.deferred none)) b6 (.cells #[v] t (0,0)):=hB.mod hm (fun e=>hne e.symm)
 refine ⟨by simp,.inl ⟨D,_,rfl,run_takeDeferred hK,v,?_,hR _ hm⟩⟩
 have e:=tmps_getD (ρ:=ρ) ha
 rw [hx] at e
 have hc:(w.putObj D (.deferred none)).cell? ⟨b6,0,none⟩=some v:=hB'.cell _
 rw [Array.getD_eq_getD_getElem?] at e
 simp only [results,hres]
 simp [e,go_sem,loadVar,hg,hc]
theorem res_cell {fn:Func} {a t b6:Nat} {v:Value} (hres:fn.results=#[.cell a t]) (ha:Nat.blt a N=true) (hx:ρ a=.pointer (some ⟨b6,0,none⟩)) (hB:Blk w b6 (.cells #[v] t (0,0))) (hg:∀ w,(isAgg t).run P w=.ok false w) :
  (results fn (act N ρ).tmps).run P w=.ok v w:=by
 have e:=tmps_getD (ρ:=ρ) ha
 rw [hx] at e
 have hc:w.cell? ⟨b6,0,none⟩=some v:=hB.cell _
 rw [Array.getD_eq_getD_getElem?] at e
 simp only [results,hres]
 simp [e,go_sem,loadVar,hg,hc]
theorem enterW {f:FuncId} {fn:Func} {c:Code} {args:List Value} {RR:Ending→World→Prop} (n:Nat)
  (hf:P.funcs[f]?=some fn) (hb:fn.body=some c) (hN:fn.ntmps=N) (hl:Nat.ble args.length N=true)
  (h:InW n P N c (bodyPostM Fence.wide n P fn RR) (env0 args) w):Calls P f args.toArray w RR:=by
 refine callsIn_wide.1 (callsIn_of_wp_marks (n:=n) hf hb trivial ?_)
 subst hN
 have ha:({ tmps:=args.toArray++Array.replicate (fn.ntmps-args.toArray.size) undef,defers:=[] }:Act)=act fn.ntmps (env0 args):=by
  show Act.mk _ _=Act.mk _ _
  rw [List.size_toArray,env0_act _ _ (by simpa using hl)]
  rfl
 rw [ha]
 exact h.go
theorem InW.gen {c:Code} (h:∀ ρ',ρ'=ρ→InW n P N c QQ ρ' w):InW n P N c QQ ρ w:=h ρ rfl
theorem storeRet {id a6 b6:Nat} {t ty:TypeId} {p:String} {af:Array Edge} {v v0:Value} {ds:List Deferred} (hsz:∀ w,(sizeOf t).run P w=.ok 1 w) (hx:ρ a6=.pointer (some ⟨b6,0,none⟩)) (ha:Nat.blt a6 N=true) (hv:v.cells=#[v]) (h1:v.oneCell'=true)
  (hB:Blk w b6 (.cells #[v0] t (0,0))) (h:∀ w',Mod (one b6) w w'→Blk w' b6 (.cells #[v] t (0,0))→QQ .ret { act N ρ with defers:=ds } w') :
  (Code.seq (.region id #[{ dst:=none,op:=.store t (.tmp a6) (.const v),type:=ty,pos:=p,after:=af,guard:=none }] false) .ret).wpIn Fence.wide n P QQ { act N ρ with defers:=ds } w:=by
 have hst:=storeVar_run (P:=P) (t:=t) (b:=b6) (off:=0) (v:=v) (c:=#[v0]) (T:=t) (w:=w) (by simpa [hv] using hsz) hB (by simp [hv]) (by simp [hv,h1])
 have hbk:=setRow_heap w b6 #[v0] (putCells #[v0] 0 v.cells.toList) t (0,0) hB
 have hpc:putCells #[v0] 0 v.cells.toList=#[v]:=by rw [hv];rfl
 rw [hpc] at hbk hst
 have hr:run1 P ρ (.store t (.tmp a6) (.const v)) ty w=.ok .skip (w.setRow b6 #[v]):=by
  simp only [run1,execOp,tm,hx,Instr.storeAt,Instr.sureAddr,Sem.run_bind,Sem.run_pure,Result.andThen_ok,hst]
 refine wpIn_seq (wpIn_region_lit (wpListIn_plain rfl fun K hK=>⟨fun _ _=>trivial,?_⟩))
 have e:Fence.wide.round=none:=rfl
 have ho:okOp N { dst:=none,op:=.store t (.tmp a6) (.const v),type:=ty,pos:=p,after:=af,guard:=none }=true:=by
  simp [okOp,okX,okDst,Op.operands,ha]
 have ev:({ act N ρ with defers:=ds }:Act).eval=(act N ρ).eval:=by funext x;cases x <;> rfl
 rw [e,Oper.semAt_none,ev,exec_act ho,run1_eq,hr]
 refine hK _ _ (wpListIn_nil (wpIn_ret ?_))
 exact h _ (setRow_mod _ _ _) hbk
theorem VI.use {l:Nat} {c:Code} {Q:Exit→Env→World→Prop} (ok:okCode N c=true) (h:VI l n P N c Q ρ w) (hq:∀ e ρ' w',Q e ρ' w'→QQ e (act N ρ') w'):c.wpIn (Fence.wide.inRound l) n P QQ (act N ρ) w :=
 Code.wpIn_mono (fun e a w ⟨ρ',ha,hQ⟩=>by subst ha;exact hq e ρ' w hQ) (h.go ok)
theorem at_put {k:Nat} {v:Value}:({ tmps:=(act N ρ).tmps.setIfInBounds k v,defers:=[] }:Act)=act N (upd ρ k v):=by
 have:=act_put N ρ (some k) v
 exact this
theorem one_put {k:Nat} {v:Value}:({ tmps:=(#[k].zip #[v]).foldl (fun t (p,v)=>t.setIfInBounds p v) (act N ρ).tmps,defers:=[] }:Act)=act N (upd ρ k v):=by
 have e:(#[k].zip #[v]).foldl (fun t (p,v)=>t.setIfInBounds p v) (act N ρ).tmps=(act N ρ).tmps.setIfInBounds k v:=by simp
 rw [e];exact at_put
theorem assign1 {id l k d:Nat} {t:TypeId} {p:String} {af:Array Edge} {v:Value} {K:Act→World→Prop} (hk:Nat.blt k N=true) (hd:Nat.blt d N=true) (h:K (act N (upd (upd ρ k v) d v)) w) :
  (Code.region id #[{ dst:=some d,op:=.assign (.tmp k),type:=t,pos:=p,after:=af,guard:=none }] false).wpIn (Fence.wide.inRound l) n P (Exit.then K (fun _ _ _=>False)) { tmps:=(#[k].zip #[v]).foldl (fun t (p,v)=>t.setIfInBounds p v) (act N ρ).tmps,defers:=[] } w:=by
 rw [one_put]
 refine VI.use (Q:=fun e ρ' W'=>e=.normal∧K (act N ρ') W') ?_ (VI.region (L:=[_]) (fun _ _ h=>by cases h.1) rfl<|Vo (v:=v) (R.as ?_)<|VL.nil ⟨rfl,h⟩) (fun e ρ' W' ⟨h1,h2⟩=>by subst h1;exact h2)
 ·simp [okCode,okOps,okOp,okX,okDst,Op.operands,hk,hd]
 ·show upd _ _ _ _=_
  unfold upd
  rw [Nat.beq_refl];rfl
end
end Go.Vc
