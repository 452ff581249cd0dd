/- Hyper: a set that holds a smaller one: the parts. -/
import Derived.Test.YtdkhcipjenfcnaaGreatDoorXH8
namespace Go.Proofs.YtdkhcipjenfcnaaGreatDoor
set_option maxRecDepth 100000
set_option maxHeartbeats 16000000
open Go.Vc Go.Proofs.Tryz
theorem key9:KeyT prog 9 Value.string where
 td:=⟨_,underlying9,fun a b=>by
  right
  simp [Instr.sameNow,ba_beq]⟩
 eq:=fun a b w=>by
  show (Op.equalIn (9999+1) 9 _ _).run prog w=_
  unfold Op.equalIn
  simp [go_sem,ba_beq]
 chk:=fun e a w=>chkG runUnderlying9 w
 stay:=fun a=>by
          show Instr.sameBits (9999+1) _ _=true
          simp [Instr.sameBits,ba_beq]
def tx (l:List Int):ByteArray:=⟨(textF l).toArray⟩
theorem tx_inj {l m:List Int} (h:tx l=tx m):l=m:=by
 unfold tx at h
 injection h with h
 exact textF_inj (by simpa using congrArg Array.toList h)
def TxM (L:List (List Int)) (ml:List (ByteArray×Value)):Prop:=∀ l,mget ml (tx l)=if l∈L then some (.bool true) else none
theorem TxM.nil:TxM [] []:=fun l=>by simp [mget]
theorem TxM.add {L:List (List Int)} {ml:List (ByteArray×Value)} (h:TxM L ml) (e:List Int):TxM (L++[e]) (mset ml (tx e) (.bool true)):=fun l=>by
 rw [mget_mset]
 by_cases he:l=e
 ·subst he;simp
 ·rw [if_neg (fun e2=>he (tx_inj e2)),h l]
  simp [he]
theorem TxM.get {L:List (List Int)} {ml:List (ByteArray×Value)} (h:TxM L ml) (l:List Int):(mget ml (tx l)).getD (.bool false)=.bool (decide (l∈L)):=by
 rw [h l]
 by_cases he:l∈L
 ·simp [he]
 ·simp [he]
theorem indexL_spec (g:FuncId) (Fv Cv:List Value) (f:List Int→Bool) (S:World→Prop) (a:Option Addr) (c:Nat) (L:List SlI) (w:World) (hfn:IsFn prog g) (hdo:∀ w x,S w→x∈L→IntSl w x.a x.l→RetsP prog g (Fv++[Value.slice x.a x.l.length x.c]++Cv).toArray w (.bool (f x.l)))
  (hSe:∀ w w',S w→Ext w w'→S w') (h0:S w) (hL:LL w a L) (hm:L.length≤1000000) :
  RetsX prog 158 #[.slice a L.length c,.func (.func g) Fv.toArray Cv.toArray] w (fun i:Int=>.int .i64 i) (fun i _=>decide (0≤i)=L.any fun x=>f x.l):=by
 refine eN (args:=[_,_]) func158 rfl ntmps158 ?_
 refine Vs<|Vr<|oJ rfl<|Vn<|Vs<|Vs<|Vr<|oS rfl<|Vo (R.lenS ru23 rfl)<|oI rfl<|Vn<|Vb (?_)
 refine Vl [0,1,7,8] (fun k:Nat=>[.slice a L.length c,.func (.func g) Fv.toArray Cv.toArray,.int .i64 L.length,.int .i64 (k:Nat)])
  (fun k w'=>k≤L.length∧Ext w w'∧∀ i,i<k→f (L.getD i default).l=false) (fun k=>L.length-k) 0 rfl ⟨Nat.zero_le _,Mod.refl _ _,fun i h=>absurd h (Nat.not_lt_zero i)⟩ ?_
 rintro ρ k w2 ⟨hk,e,hf⟩
 have hL2:=hL.ext e
 refine Vs<|Vr<|oL rfl rfl<|Vn<|Vs<|Vd rfl (fun c9=>Vk<|Vs<|Vb<|Vs<|Vr<|oI rfl<|oJ rfl<|Vn<|Vs (?_)) (fun c9=>Ve<|Vs (?_))
 ·have hkn:k<L.length:=by omega
  refine Vr<|Vo (R.mvF rfl)<|oS rfl<|oI rfl<|Vo (iX ru23 sz22 rfl rfl (hL2.sl.some (i:=k) hkn))<|Vo (rla ag22 rfl ((hL2.sl.row (i:=k) hkn).c0a rfl))<|VL.callCP rfl (hfn) rfl (hdo w2 (L.getD k default) (hSe _ _ h0 e) (gmem hkn) (hL2.at hkn)) fun w4_5 e4_5=>Vn<|Vh rfl (fun c16=>Vs<|Vr<|oI rfl<|oJ rfl<|Vn<|Vt (fret1 (v:=.int _ _) rfl rfl rfl (?_))) (fun c16=>Vk<|Vr<|oD rfl rfl<|oI rfl<|Vn (?_))
  ·exact ⟨(k:Int),rfl,by rw [findI_at (fun x=>f x.l) L k hkn hf (by assumption)];exact decide_eq_true (by omega),e.trans e4_5⟩
  ·refine ⟨k+1,rfl,⟨by omega,e.trans e4_5,fun i hi=>?_⟩,by omega⟩
   by_cases h:i=k
   ·subst h;assumption
   ·exact hf i (by omega)
 ·have hkn:k=L.length:=by omega
  subst hkn
  refine Vr<|oJ rfl<|Vn<|Vt (fret1 (v:=.int _ _) rfl rfl rfl (?_))
  exact ⟨-1,rfl,by rw [findI_none (fun x=>f x.l) L hf];rfl,e⟩
theorem containsL_spec (g:FuncId) (Fv Cv:List Value) (f:List Int→Bool) (S:World→Prop) (a:Option Addr) (c:Nat) (L:List SlI) (w:World) (hfn:IsFn prog g) (hdo:∀ w x,S w→x∈L→IntSl w x.a x.l→RetsP prog g (Fv++[Value.slice x.a x.l.length x.c]++Cv).toArray w (.bool (f x.l)))
  (hSe:∀ w w',S w→Ext w w'→S w') (h0:S w) (hL:LL w a L) (hm:L.length≤1000000) :
  RetsP prog 148 #[.slice a L.length c,.func (.func g) Fv.toArray Cv.toArray] w (.bool (L.any fun x=>f x.l)):=by
 refine eN (args:=[_,_]) func148 rfl ntmps148 ?_
 refine Vs<|Vr<|oA rfl<|Vn<|Vs<|Vr<|oS rfl<|Vo (R.mvF rfl)<|VL.callX call158 rfl (indexL_spec g Fv Cv f S a c L _ hfn hdo hSe h0 hL hm) fun i w1 h1 e1=>Vo (R.geq rfl rfl)<|oA rfl<|Vn<|Vt<|tB rfl rfl rfl (⟨by rw [←h1],e1⟩)
structure BoxE (Bn:Nat) (a:Option Addr) (c:Nat) (e:List Int) (w:World):Prop where
 b:Blk w Bn (.cells #[.slice a e.length c] 22 (0,0))
 e:IntSl w a e
theorem BoxE.ext {Bn:Nat} {a:Option Addr} {c:Nat} {e:List Int} {w w':World} (h:BoxE Bn a c e w) (x:Ext w w'):BoxE Bn a c e w':=⟨h.b.ext x,h.e.ext x⟩
theorem above1_spec (Bn:Nat) (a b:Option Addr) (c cb:Nat) (e m:List Int) (w:World) (hl:e.length≤1000000) (hm:m.length≤1000000) (hil:Inc e) (him:Inc m) (hc:e.length≤c) (hB:BoxE Bn a c e w) (hM:IntSl w b m) :
  RetsP prog 149 #[.slice b m.length cb,pA Bn] w (.bool (subB m e)):=by
 refine eN (args:=[_,_]) func149 rfl ntmps149 ?_
 refine Vs<|Vr<|oA rfl<|Vn<|Vs<|Vr<|Vo (rla ag22 rfl (hB.b.cell _))<|oS rfl<|Vp call150 rfl (contains_spec a b c cb e m _ hl hm hil him hc hB.e hM) fun w1_2 e1_2=>oA rfl<|Vn<|Vt<|tB rfl rfl rfl (⟨rfl,e1_2⟩)
theorem subs_spec (a:Option Addr) (c:Nat) (e:List Int) (w:World) :
  RetsX prog 151 #[.slice a e.length c] w (fun b:Nat=>.func (.func 160) #[] #[pA b]) (fun b w'=>Blk w' b (.cells #[.slice a e.length c] 22 (0,0))∧w.heap.size≤b):=by
 refine eN (args:=[_]) func151 rfl ntmps151 ?_
 refine Vs<|Vr<|VL.box (v:=.slice _ _ _) rfl fun b0_0 w0_0 hb0_0 e0_0 hB0_0=>Vo (R.as rfl)<|Vn<|Vs<|Vr<|Vo (R.mkFn rfl rfl)<|Vo (R.asF rfl)<|Vn<|Vt (fret1 (v:=.func _ _ _) rfl rfl rfl (?_))
 exact ⟨_,rfl,⟨hB0_0,Nat.le_of_eq hb0_0.symm⟩,e0_0⟩
theorem above_spec (a aL:Option Addr) (c cL r B:Nat) (e:List Int) (L:List SlI) (ml:List (ByteArray×Value)) (w:World) (hl:e.length≤1000000) (hm:L.length≤1000000) (hil:Inc e) (hc:e.length≤c) (hE:IntSl w a e) (hL:LL w aL L)
  (hLs:∀ x∈L,Inc x.l∧x.l.length≤1000000) (hM:MapIs w r Value.string ml) (hX:TxM (vals L) ml) (hr:∀ x∈e,-9223372036854775808≤x∧x≤9223372036854775807) (hB:B≤w.heap.size) (hT:TabW B w) :
  RetsP prog 132 #[.slice a e.length c,.slice aL L.length cL,.map (some r)] w (.bool (L.any fun x=>subB x.l e)):=by
 refine enterW (args:=[_,_,_]) 2 func132 rfl ntmps132 rfl ?_
 have hagg:=isAgg4
 refine InW.seqV (by kernel_rfl) ?_
 refine Vr<|VL.box (v:=.slice _ _ _) rfl fun b0_0 w0_0 hb0_0 e0_0 hB0_0=>VL.box (v:=.map _) rfl fun b0_1 w0_1 hb0_1 e0_1 hB0_1=>VL.alloc zeroValue4 fun b0_2 w0_2 hb0_2 e0_2 hB0_2=>Vn (?_)
 obtain ⟨w1,hw1⟩:∃ w1,w0_2=w1:=⟨_,rfl⟩
 have e1:Ext w w1:=hw1▸(e0_0.trans e0_1).trans e0_2
 have h3:BoxE b0_0 a c e w1:=hw1▸⟨(hB0_0.ext e0_1).ext e0_2,hE.ext ((e0_0.trans e0_1).trans e0_2)⟩
 have h5:Blk w1 b0_1 (.cells #[.map (some r)] 134 (0,0)):=hw1▸hB0_1.ext e0_2
 have h6:Blk w1 b0_2 (.cells #[.bool false] 4 (0,0)):=hw1▸hB0_2
 rw [hw1]
 have hL1:=hL.ext e1
 have hM1:=hM.ext e1
 have n3:w.heap.size≤b0_0:=by omega
 have n5:w.heap.size≤b0_1:=by have:=e0_0.size;omega
 have n6:w.heap.size≤b0_2:=by have:=(e0_0.trans e0_1).size;omega
 refine InW.seqV (by kernel_rfl)<|V.seq ?_
 have hdo:∀ w' x,BoxE b0_0 a c e w'→x∈L→IntSl w' x.a x.l→RetsP prog 149 ([]++[Value.slice x.a x.l.length x.c]++[Value.pointer (some ⟨b0_0,0,none⟩)]).toArray w' (.bool (subB x.l e)):=fun w' x hb hx hs=>above1_spec b0_0 a x.a c x.c e x.l w' hl (hLs x hx).2 hil (hLs x hx).1 hc hb hs
 refine Vr<|Vo (rla ag22 rfl (h3.b.cell _))<|Vo (R.lenS ru22 rfl)<|Vo (R.gtr rfl rfl)<|Vn<|Vd rfl (fun c10=>Vs (?_)) (fun c10=>Vk (?_))
 ·refine Vr<|oS rfl<|Vo (R.mkFn rfl rfl)<|Vp call148 rfl (containsL_spec 149 [] [pA b0_0] (fun m=>subB m e) (BoxE b0_0 a c e) aL cL L _ call149 hdo (fun _ _ h x=>h.ext x) h3 hL1 hm) fun w2_2 e2_2=>VL.store (v:=.bool _) sz4 rfl rfl rfl rfl (h6.ext e2_2) rfl rfl fun w7 m7 hs7 hB7=>Vn<|Vt (?_)
  refine ⟨_,res_cell rfl rfl rfl hB7 hagg,_,rfl,rfl,?_⟩
  exact ((e1.trans e2_2).own m7 n6)
 ·have hlen:e.length≤6:=by omega
  refine InW.seqI (InW.seqV (by kernel_rfl) ?_)
  refine Vr<|Vo (rla ag22 rfl (h3.b.cell _))<|VL.callX call151 rfl (subs_spec a c e w1) fun b3 w3 ⟨hb3,n3'⟩ e3=>Vn (?_)
  refine InW.gen fun ρ3 hρ=>InW.block ⟨?_⟩
  have s5:ρ3 5=.pointer (some ⟨b0_1,0,none⟩):=by rw [hρ];rfl
  have s6:ρ3 6=.pointer (some ⟨b0_2,0,none⟩):=by rw [hρ];rfl
  have s15:ρ3 15=.func (.func 160) #[] #[pA b3]:=by rw [hρ];rfl
  clear hρ
  have h53:=h5.ext e3
  have h63:=h6.ext e3
  have hM3:=hM1.ext e3
  have hz3:=e3.size
  have n56:b0_1≠b0_2:=by have:=hB0_1.lt;omega
  refine rangeF (m:=1) (gf:=160) (lb:=#[pA b3]) ((eval_act rfl).trans s15) call160 (subs_seq 1 b3 a c e w3 (by omega) hb3 (h3.e.ext e3)) (fun _=>rfl) ?hG (fun pre=>∀ x∈vals pre,x∉vals L) (fun pre=>∃ x∈vals pre,x∈vals L) b0_2 h63.lt (.cells #[.bool true] 4 (0,0)) (fun x hx=>nomatch hx)
   (fun x=>act 21 (upd (upd ρ3 16 (.slice x.a x.l.length x.c)) 7 (.slice x.a x.l.length x.c))) ?hassign ?hbody ?hdone ?hstop
  case hG=>exact fun Bq x A A' hg hm=>⟨hg.sl.mod hm fun ad h=>by have:=hg.new ad.block ⟨ad,h,rfl⟩;omega,hg.new,hg.sub⟩
  case hassign =>
   intro lp x W K hK
   exact assign1 (N:=21) (ρ:=ρ3) rfl rfl hK
  case hbody =>
   intro lp Bq pre x W hmW hp hg
   obtain ⟨b,hb⟩:=hg.sub
   have hxs:∀ y∈x.l,y∈e:=by rw [hb];exact subB_iff.1 subK_sub
   have hxl:x.l.length≤1000000:=by have:=subK_len e b e.length;rw [←hb] at this;omega
   have h5W:Blk W b0_1 (.cells #[.map (some r)] 134 (0,0)):=h53.mod hmW (by have:=h53.lt;show ¬_≤_;omega)
   have h6W:Blk W b0_2 (.cells #[.bool false] 4 (0,0)):=h63.mod hmW (by have:=h63.lt;show ¬_≤_;omega)
   have hMW:MapIs W r Value.string ml:=hM3.mod hmW (by have:=hM3.lt;show ¬_≤_;omega)
   have hTW:TabW B W:=(hT.ext hB (e1.trans e3)).on (Nat.le_trans hB (e1.trans e3).size) (hmW.weaken fun k _ h=>Nat.le_trans hB (Nat.le_trans (e1.trans e3).size h))
   have hBW:B≤W.heap.size:=Nat.le_trans hB (Nat.le_trans (e1.trans e3).size hmW.size)
   have hvx:vals (pre++[x])=vals pre++[x.l]:=by simp [vals]
   refine VI.use (Q:=fun e _ W'=>match e with
    | .normal=>Ext W W'∧∀ y∈vals (pre++[x]),y∉vals L
    | .ret=>Vc.Mod (Vc.one b0_2) W W'∧W'.heap[b0_2]?=some (.cells #[.bool true] 4 (0,0))∧∃ y∈vals (pre++[x]),y∈vals L
    | _=>False) (by kernel_rfl) ?_ (fun e _ _ h=>h)
   obtain ⟨ρ4,h4⟩:∃ ρ4,ρ3=upd (upd ρ4 5 (.pointer (some ⟨b0_1,0,none⟩))) 6 (.pointer (some ⟨b0_2,0,none⟩)):=⟨ρ3,by rw [upd_eq s5,upd_eq s6]⟩
   rw [h4]
   refine VI.block (VI.seq ?_)
   refine VI.regionQ (fun _ _ h=>h) rfl mixed 4 (by kernel_rfl) rfl (fun w'=>Ext _ w') (Ext.drawn _)<|Vq (fun wq eq=>rla isAgg134 rfl (show wq.cell? ⟨b0_1,0,none⟩=some (.map (some r)) from (h5W.ext eq).cell 0))<|qS rfl<|VQ.callP (fun _ _ h k=>Mod.trans h k) call133 rfl (fun wq eq=>text_spec x.a x.c B x.l wq hxl (hg.sl.ext eq) (fun y hy=>hr y (hxs y hy)) (Nat.le_trans hBW eq.size) (hTW.ext hBW eq))<|Vq (fun wq eq=>R.lookupV key9 runUnderlying134 zeroValue4 (hMW.ext eq) (TxM.get hX x.l) rfl rfl)<|Vj fun w5q e5q=>Vn (?_)
   refine VI.cond rfl (fun c20=>VI.seq ?_) (fun c20=>VI.skip ?_)
   ·refine VI.region (fun _ _ h=>h) rfl<|VL.store (v:=.bool _) sz4 rfl rfl rfl rfl (h6W.ext e5q) rfl rfl fun w7 m7 hs7 hB7=>Vn (?_)
    exact VI.ret ⟨(Ext.mod e5q).trans m7,hB7,x.l,by rw [hvx];simp,of_decide_eq_true c20⟩
   ·refine ⟨e5q,fun y hy=>?_⟩
    rw [hvx] at hy
    rcases List.mem_append.1 hy with h | h
    ·exact hp y h
    ·rw [List.mem_singleton] at h
     rw [h];exact of_decide_eq_false c20
  case hdone =>
   intro D xs W hD hS hp hmW hK
   have h6W:=h63.mod hmW (by have:=h63.lt;show ¬_≤_;omega)
   refine storeRet (b6:=b0_2) sz4 s6 rfl rfl rfl h6W fun W' hm' hB'=>?_
   refine leaves_cell rfl rfl s6 (hm'.blk D (Array.getElem?_eq_some_iff.1 hK).1 (by have:=h63.lt;show ¬_=_;omega)▸hK) hB' (by have:=h63.lt;omega) hagg fun W2 hm2=>?_
   refine ⟨_,rfl,?_,(((e1.trans e3).ownA hmW fun k hk=>Nat.le_trans (e1.trans e3).size hk).own hm' n6).own hm2 (Nat.le_trans (e1.trans e3).size hD)⟩
   refine congrArg Value.bool (Eq.symm ?_)
   rw [List.any_eq_false]
   intro x hx hs
   obtain ⟨b,hb1,hb2⟩:=subK_all hil (hLs x hx).1 hs
   refine hp x.l ?_ (List.mem_map_of_mem hx)
   rw [hS,←hb2]
   exact List.mem_map.2 ⟨b,List.mem_range.2 hb1,rfl⟩
  case hstop =>
   intro D pre W hD hSp hp hmW h6W hK
   refine leaves_cell rfl rfl s6 hK h6W (by have:=h63.lt;omega) hagg fun W2 hm2=>?_
   refine ⟨_,rfl,?_,((e1.trans e3).ownA hmW fun k hk=>hk.elim (fun h=>Nat.le_trans (e1.trans e3).size h) (fun h=>h▸n6)).own hm2 (Nat.le_trans (e1.trans e3).size hD)⟩
   refine congrArg Value.bool (Eq.symm ?_)
   rw [List.any_eq_true]
   obtain ⟨y,hy,hyL⟩:=hp
   obtain ⟨b,_,rfl⟩:=hSp y hy
   obtain ⟨x,hx,hxe⟩:=List.mem_map.1 hyL
   exact ⟨x,hx,by rw [hxe];exact subK_sub⟩
end Go.Proofs.YtdkhcipjenfcnaaGreatDoor
