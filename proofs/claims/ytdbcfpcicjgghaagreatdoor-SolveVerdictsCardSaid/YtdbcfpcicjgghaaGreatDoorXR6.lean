/- Repair: what the search asks of a vertex that is left out. -/
import Derived.Test.YtdbcfpcicjgghaaGreatDoorXN9
import Derived.Test.YtdbcfpcicjgghaaGreatDoorXVcRepP
import Derived.Test.YtdbcfpcicjgghaaGreatDoorXVcInR
namespace Go.Proofs.YtdbcfpcicjgghaaGreatDoor
set_option maxHeartbeats 16000000
open Go.Vc
set_option maxRecDepth 100000
set_option maxHeartbeats 16000000
theorem outN_out {P:List Int} {v:Nat} (hP:(v:Int) ∉ P):∀ {e:List Int}, e.Nodup → outN e P (v + 1) = outN e P v + if (v:Int) ∈ e then 1 else 0:=by
 intro e hn
 unfold outN
 induction e with
 | nil=>rfl
 | cons x e ih =>
  obtain ⟨hx, hn⟩:=List.nodup_cons.1 hn
  have ih:=ih hn
  simp only [List.filter_cons]
  by_cases hxv:x = (v:Int)
  ·have a1:(decide (x < ((v + 1:Nat):Int)) && !decide (x ∈ P)) = true:=by rw [hxv, decide_eq_true (by omega), decide_eq_false hP]; rfl
   have a2:(decide (x < (v:Int)) && !decide (x ∈ P)) = false:=by rw [hxv, decide_eq_false (by omega)]; rfl
   rw [a1, a2, if_pos rfl, if_neg (by decide), List.length_cons, ih, if_neg (by rw [← hxv]; exact hx), if_pos (by rw [hxv]; simp)]
  ·have a1:decide (x < ((v + 1:Nat):Int)) = decide (x < (v:Int)):=decide_eq_decide.2 (by omega)
   have a2:((v:Int) ∈ x :: e) ↔ (v:Int) ∈ e:=by rw [List.mem_cons]; exact ⟨fun h=>h.resolve_left fun h=>hxv h.symm, .inr⟩
   rw [a1]
   simp only [a2]
   split
   ·rw [List.length_cons, List.length_cons, ih]; omega
   ·exact ih
theorem adj_any (E:List (List Int)) (v:Int) (F:List Int → Bool):((adjK E E.length v).any fun x=>F (E.getD x.toNat default)) = E.any fun e=>decide (v ∈ e) && F e:=by
 rw [Bool.eq_iff_iff, List.any_eq_true, List.any_eq_true]
 constructor
 ·rintro ⟨x, hx, h⟩
  obtain ⟨i, hi, hv, rfl⟩:=adjK_mem.1 hx
  rw [Int.toNat_natCast] at h
  exact ⟨_, gmem hi, by rw [decide_eq_true hv, h]; rfl⟩
 ·rintro ⟨e, he, h⟩
  rw [Bool.and_eq_true, decide_eq_true_eq] at h
  obtain ⟨i, hi, rfl⟩:=List.getElem_of_mem he
  refine ⟨(i:Int), adjK_mem.2 ⟨i, hi, by rw [gget hi]; exact h.1, rfl⟩, ?_⟩
  rw [Int.toNat_natCast, gget hi]; exact h.2
abbrev PtO (w:World) (b oB:Nat) (O:List Int):Prop:=Blk w b (.cells #[.slice (some ⟨oB, 0, none⟩) O.length O.length] 22 (0, 0))
theorem possible1_spec (ob oB k:Nat) (O:List Int) (w:World) (hb:PtO w ob oB O) (hO:IntSl w (some ⟨oB, 0, none⟩) O) (hk:k < O.length) (_h20:O.length ≤ 20000) :
  RetsP Tryz.prog 80 #[.int .i64 (k:Nat), .pointer (some ⟨ob, 0, none⟩)] w (.bool (decide (O.getD k default = 1))):=by
 refine enter (args:=[_, _]) Tryz.func80 rfl Tryz.ntmps80 (by kernel_rfl) rfl ?_
 refine V.seq (V.region (VL.op (R.asB rfl) (VL.nil (V.seq (V.region (VL.op (R.ld1 Tryz.isAgg22 rfl ((hb.cell _))) (VL.op (R.mvI rfl) (VL.op (R.ixS Tryz.runUnderlying22 Tryz.sizeOf3 rfl rfl (by omega) (by omega) (hO.some (i:=k) hk)) (VL.op (R.ld1 Tryz.isAgg3 rfl (((hO.row (i:=k) hk).cell (i:=0) rfl))) (VL.op (R.eql rfl rfl) (VL.op (R.asB rfl) (VL.nil (V.ret (fret1 (v:=.bool _) rfl rfl rfl (⟨rfl, (Mod.refl _ _)⟩)))))))))))))))
theorem possible_spec (g:GrW) (B N sb ob oB v:Nat) (s:StW) (P O:List Int) (w:World) (hS:StOk B w g s) (hI:StIs (vals g.edges) N s P) (hs:PtB w sb s) (hb:PtO w ob oB O) (hO:IntSl w (some ⟨oB, 0, none⟩) O) (hE20:g.edges.length ≤ 20000) (hol:O.length = g.edges.length) (hv:v < N) :
  RetsP Tryz.prog 79 #[.int .i64 (v:Nat), .pointer (some ⟨sb, 0, none⟩), .pointer (some ⟨ob, 0, none⟩)] w (.bool ((adjK (vals g.edges) (vals g.edges).length ((v:Nat):Int)).any fun x=>decide (O.getD x.toNat default = 1))):=by
 have hX:=hS.blk
 have hz:=hI.zl
 have hzl:(s.z.getD v default).l.length ≤ 20000:=by rw [hI.adj v hv]; have:=adjK_len (vals g.edges) (vals g.edges).length ((v:Nat):Int); rw [List.length_map] at this ⊢; omega
 refine enter (args:=[_, _, _]) Tryz.func79 rfl Tryz.ntmps79 (by kernel_rfl) rfl ?_
 refine V.seq (V.region (VL.op (R.asB rfl) (VL.nil (V.seq (V.region (VL.op (R.ld1 Tryz.isAgg79 rfl ((hs.cell _))) (VL.op (R.nilCheck rfl) (VL.op (R.fld' (o:=5) Tryz.runUnderlying84 rfl rfl Tryz.sizeOf23 rfl rfl) (VL.op (R.ld1 Tryz.isAgg23 rfl ((show w.cell? ⟨s.p, 5, none⟩ = some (Value.slice (some ⟨s.ba, 0, none⟩) s.z.length s.z.length) from hX.cell 5))) (VL.op (R.mvI rfl) (VL.op (R.ixS Tryz.runUnderlying23 Tryz.sizeOf22 rfl rfl (by omega) (by omega) (hS.a.own.sl.some (i:=v) (by omega))) (VL.op (R.ld1 Tryz.isAgg22 rfl (((hS.a.own.sl.row (i:=v) (by omega)).cell (i:=0) rfl))) (VL.op (R.mkFn rfl rfl) (VL.callP Tryz.call56 rfl (containsM_spec 80 [] [.pointer (some ⟨ob, 0, none⟩)] (fun x=>decide (O.getD x.toNat default = 1)) (fun w'=>PtO w' ob oB O ∧ IntSl w' (some ⟨oB, 0, none⟩) O) (s.z.getD v default).a (s.z.getD v default).c (s.z.getD v default).l _ Tryz.call80
   (fun w' x h hx=>by
    rw [hI.adj v hv] at hx
    obtain ⟨i, hi, _, rfl⟩:=adjK_mem.1 hx
    rw [List.length_map] at hi
    exact possible1_spec ob oB i O w' h.1 h.2 (by omega) (by omega)) (fun _ _ h e=>⟨h.1.ext e, h.2.ext e⟩) ⟨hb, hO⟩ ((hS.a.each v).sl) (by omega)) fun w1_8 e1_8=>VL.op (R.asB rfl) (VL.nil (V.ret (fret1 (v:=.bool _) rfl rfl rfl (⟨?_, e1_8⟩))))))))))))))))))
 rw [hI.adj v hv]
theorem every_spec (g:FuncId) (Fv Cv:List Value) (f:Nat → Bool) (S:World → Prop) (a:Option Addr) (n c:Nat) (w:World) (hfn:IsFn Tryz.prog g) (hdo:∀ k w', k < n → S w' → RetsP Tryz.prog g (Fv ++ [Value.int .i64 (k:Nat)] ++ Cv).toArray w' (.bool (f k)))
  (hSe:∀ w w', S w → Ext w w' → S w') (h0:S w) (hm:n ≤ 1000000) :
  RetsP Tryz.prog 82 #[.slice a n c, .func (.func g) Fv.toArray Cv.toArray] w (.bool ((List.range n).all f)):=by
 refine enter (args:=[_, _]) Tryz.func82 rfl Tryz.ntmps82 (by kernel_rfl) rfl ?_
 refine V.seq (V.region (VL.op (R.asB rfl) (VL.nil (V.seq (V.seq (V.region (VL.op (R.mvS rfl) (VL.op (R.lenS Tryz.runUnderlying77 rfl) (VL.op (R.mvI rfl) (VL.nil (V.block (?_))))))))))))
 refine V.loop [1, 7, 8] (fun k:Nat=>[.func (.func g) Fv.toArray Cv.toArray, .int .i64 (n:Nat), .int .i64 (k:Nat)])
  (fun k w'=>k ≤ n ∧ S w' ∧ Ext w w' ∧ ∀ i, i < k → f i = true) (fun k=>n - k) 0 rfl ⟨Nat.zero_le _, h0, Vc.Mod.refl _ _, fun i h=>absurd h (Nat.not_lt_zero i)⟩ ?_
 rintro ρ k w2 ⟨hk, hS, e2, hf⟩
 refine V.seq (V.region (VL.op (R.lss rfl rfl) (VL.nil (V.seq (V.condP rfl (fun c9=>V.skip (V.seq (V.block (V.seq (V.region (VL.op (R.mvI rfl) (VL.op (R.asI rfl) (VL.nil (V.seq (?_)))))))))) (fun c9=>V.exit (V.seq (?_))))))))
 ·have hkn:k < n:=by omega
  refine V.region (VL.op (R.mvF rfl) (VL.op (R.mvI rfl) (VL.callCP rfl (hfn) rfl (hdo k w2 hkn hS) fun w4_2 e4_2=>VL.op (R.not rfl) (VL.nil (V.cond rfl (fun c14=>V.seq (V.region (VL.op (R.asB rfl) (VL.nil (V.ret (fret1 (v:=.bool _) rfl rfl rfl (?_))))))) (fun c14=>V.skip (V.region (VL.op (R.add rfl rfl (by omega) (by omega)) (VL.op (R.mvI rfl) (VL.nil (?_)))))))))))
  ·refine ⟨?_, e2.trans e4_2⟩
   rw [show (List.range n).all f = false from List.all_eq_false.2 ⟨k, List.mem_range.2 hkn, by simpa using c14⟩]
  ·refine ⟨k + 1, rfl, ⟨by omega, hSe _ _ hS e4_2, e2.trans e4_2, fun i hi=>?_⟩, by omega⟩
   by_cases h:i = k
   ·subst h; simpa using c14
   ·exact hf i (by omega)
 ·have hkn:k = n:=by omega
  subst hkn
  refine V.region (VL.op (R.asB rfl) (VL.nil (V.ret (fret1 (v:=.bool _) rfl rfl rfl (?_)))))
  refine ⟨?_, e2⟩
  rw [show (List.range k).all f = true from List.all_eq_true.2 fun i hi=>hf i (List.mem_range.1 hi)]
theorem settled_all {E:List (List Int)} {P O:List Int} {k:Nat} (hO:∀ i, i < E.length → O.getD i default = ((outN (E.getD i default) P k:Nat):Int)):((List.range k).all fun w=>decide ((w:Int) ∈ P) || (adjK E E.length ((w:Nat):Int)).any fun x=>decide (O.getD x.toNat default = 1)) = prB E P k:=by
 unfold prB
 congr 1
 funext w
 congr 1
 rw [← adj_any]
 rw [Bool.eq_iff_iff, List.any_eq_true, List.any_eq_true]
 refine ⟨fun ⟨x, hx, h⟩=>⟨x, hx, ?_⟩, fun ⟨x, hx, h⟩=>⟨x, hx, ?_⟩⟩
 all_goals
  obtain ⟨i, hi, _, rfl⟩:=adjK_mem.1 hx
  rw [Int.toNat_natCast, decide_eq_true_eq] at *
  have:=hO i hi
  omega
def setB1 (E:List (List Int)) (P O:List Int) (v:Nat):Bool:=decide ((v:Int) ∈ P) || (adjK E E.length ((v:Nat):Int)).any fun x=>decide (O.getD x.toNat default = 1)
abbrev FnB (w:World) (b:Nat) (f:Nat) (cs:List Value):Prop:=Blk w b (.cells #[.func (.func f) #[] cs.toArray] 85 (0, 0))
theorem settled_spec (g:GrW) (B N sb pb ob oB v:Nat) (s:StW) (P O:List Int) (w:World) (hS:StOk B w g s) (hI:StIs (vals g.edges) N s P) (hs:PtB w sb s) (hp:FnB w pb 79 [.pointer (some ⟨sb, 0, none⟩), .pointer (some ⟨ob, 0, none⟩)]) (hb:PtO w ob oB O) (hO:IntSl w (some ⟨oB, 0, none⟩) O) (hE20:g.edges.length ≤ 20000) (_hN:N ≤ 4000) (hol:O.length = g.edges.length) (hv:v < N) :
  RetsP Tryz.prog 83 #[.int .i64 (v:Nat), .pointer (some ⟨sb, 0, none⟩), .pointer (some ⟨pb, 0, none⟩)] w (.bool (setB1 (vals g.edges) P O v)):=by
 have hX:=hS.blk
 have hbl:=hI.bl
 have hin:=hI.in_ v hv
 refine enter (args:=[_, _, _]) Tryz.func83 rfl Tryz.ntmps83 (by kernel_rfl) rfl ?_
 refine V.seq (V.region (VL.op (R.asB rfl) (VL.nil (V.seq (V.region (VL.op (R.ld1 Tryz.isAgg79 rfl ((hs.cell _))) (VL.op (R.nilCheck rfl) (VL.op (R.fld' (o:=3) Tryz.runUnderlying84 rfl rfl Tryz.sizeOf77 rfl rfl) (VL.op (R.ld1 Tryz.isAgg77 rfl ((show w.cell? ⟨s.p, 3, none⟩ = some (Value.slice (some ⟨s.bi, 0, none⟩) s.bs.length s.bs.length) from hX.cell 3))) (VL.op (R.mvI rfl) (VL.op (R.ixS Tryz.runUnderlying77 Tryz.sizeOf4 rfl rfl (by omega) (by omega) (hS.i.sl.some (i:=v) (by omega))) (VL.op (R.ld1 Tryz.isAgg4 rfl (((hS.i.sl.row (i:=v) (by omega)).cell (i:=0) rfl))) (VL.op (R.mvB rfl) (VL.or rfl rfl (fun g1_7=>VL.op (R.ld1 Tryz.isAgg85 rfl ((hp.cell _))) (VL.gT rfl rfl (VL.op (R.mvI rfl) (VL.gT rfl rfl (VL.callCP rfl (Tryz.call79) rfl (possible_spec g B N sb ob oB v s P O w hS hI hs hb hO hE20 hol hv) fun w1_10 e1_10=>VL.op (R.pickFB rfl rfl) (VL.op (R.asB rfl) (VL.nil (V.ret (fret1 (v:=.bool _) rfl rfl rfl (?_)))))))))) (fun g1_7=>VL.gF rfl rfl (VL.gF rfl rfl (VL.op (R.pickTB rfl rfl) (VL.op (R.asB rfl) (VL.nil (V.ret (fret1 (v:=.bool _) rfl rfl rfl (?_))))))))))))))))))))))
 ·refine ⟨?_, e1_10⟩
  unfold setB1
  rw [← hin, g1_7, Bool.false_or]
 ·refine ⟨?_, Vc.Mod.refl _ _⟩
  unfold setB1
  rw [← hin, g1_7, Bool.true_or]
end Go.Proofs.YtdbcfpcicjgghaaGreatDoor

/- Repair: the search's state. -/
namespace Go.Proofs.YtdbcfpcicjgghaaGreatDoor
open Go.Vc
theorem memK_self {P:List Int} {N:Nat} (hi:Inc P) (hr:∀ x ∈ P, 0 ≤ x ∧ x < (N:Int)):memK P N = P:=by
 refine inc_ext (memK_inc P N) hi fun x=>?_
 rw [memK_mem]
 exact ⟨fun h=>h.2.2, fun h=>⟨(hr x h).1, (hr x h).2, h⟩⟩
structure FxR where
 g:GrW
 N:Nat
 l:Nat
 ne:Nat
 B:Nat
 U:Nat
 gb:Nat
 yb:Nat
 sb:Nat
 vb:Nat
 ob:Nat
 pb:Nat
 oB:Nat
def FxR.caps (x:FxR):List Value:=[.pointer (some ⟨x.gb, 0, none⟩), .pointer (some ⟨x.yb, 0, none⟩), .pointer (some ⟨x.sb, 0, none⟩), .pointer (some ⟨x.vb, 0, none⟩), .pointer (some ⟨x.ob, 0, none⟩), .pointer (some ⟨x.pb, 0, none⟩)]
def FxR.T (x:FxR) (k:Nat):Prop:=(x.B ≤ k ∧ k < x.U) ∨ k = x.gb
structure FxR.Ok (x:FxR) (w0:World):Prop where
 hE:LL w0 x.g.ea x.g.edges
 ne0:x.ne = w0.heap.size
 gl:GLen x.g
 hv:validG (grV x.g) = true
 hN:x.g.n = (x.N:Int)
 neB:x.ne ≤ x.B
 neg:x.ne ≤ x.gb
 gB:x.gb < x.B
 iy:x.B ≤ x.yb ∧ x.yb < x.U
 is:x.B ≤ x.sb ∧ x.sb < x.U
 iv:x.B ≤ x.vb ∧ x.vb < x.U
 io:x.B ≤ x.ob ∧ x.ob < x.U
 ip:x.B ≤ x.pb ∧ x.pb < x.U
structure VSt (x:FxR) (w0 W:World) (s:StW) (O:List Int) (P:List Int):Prop where
 gb:Blk W x.gb (.cells (Value.agg (encGr x.g).toArray).cells 25 (0, 0))
 yb:Blk W x.yb (.cells #[.func (.yield x.l) #[] #[]] 111 (0, 0))
 sb:PtB W x.sb s
 vb:FnB W x.vb 81 x.caps
 ob:PtO W x.ob x.oB O
 pb:FnB W x.pb 79 [.pointer (some ⟨x.sb, 0, none⟩), .pointer (some ⟨x.ob, 0, none⟩)]
 ok:StOk x.B W x.g s
 st:StIs (vals x.g.edges) x.N s P
 out:OwnT Vc.encI 1 3 x.B W (some ⟨x.oB, 0, none⟩) O.length O
 ol:O.length = x.g.edges.length
 po:s.p < x.oB
 oU:x.oB < x.U
 zU:∀ j q, aBlk (s.z.getD j default).a q → q < x.oB
 d:Mod (From x.ne) w0 W
 sz:x.U ≤ W.heap.size
theorem StOk.mod {B:Nat} {w w':World} {g:GrW} {s:StW} {S:Nat → Prop} (h:StOk B w g s) (m:Vc.Mod S w w') (h1:¬ S s.p) (h2:¬ S s.bi) (h3:¬ S s.bf) (h4:¬ S s.ba) (h5:∀ j q, aBlk (s.z.getD j default).a q → ¬ S q):StOk B w' g s :=
 ⟨h.blk.mod m h1, h.i.mod m fun q hq=>by rw [aBlk_some hq]; exact h2, h.f.mod m fun q hq=>by rw [aBlk_some hq]; exact h3, h.a.turn m (fun q hq=>by rw [aBlk_some hq]; exact h4) h5, h.li, h.lf, h.la, h.nif, h.nia, h.nfa, h.up⟩
theorem StOk.ge {B:Nat} {w:World} {g:GrW} {s:StW} (h:StOk B w g s):B ≤ s.bi ∧ B ≤ s.bf ∧ B ≤ s.ba:=⟨h.i.ge _ ⟨_, rfl, rfl⟩, h.f.ge _ ⟨_, rfl, rfl⟩, h.a.own.ge _ ⟨_, rfl, rfl⟩⟩
theorem VSt.mod {x:FxR} {w0 W W':World} {s:StW} {O P:List Int} {S:Nat → Prop} (h:VSt x w0 W s O P) (hx:x.Ok w0) (m:Vc.Mod S W W') (hT:∀ k, S k → x.ne ≤ k ∧ ¬ x.T k):VSt x w0 W' s O P:=by
 have inT:∀ k, x.B ≤ k → k < x.U → ¬ S k:=fun k h1 h2 hs=>(hT k hs).2 (.inl ⟨h1, h2⟩)
 obtain ⟨g1, g2, g3⟩:=h.ok.ge
 have po:=h.po; have oU:=h.oU; have li:=h.ok.li; have lf:=h.ok.lf; have la:=h.ok.la
 refine ⟨h.gb.mod m fun hs=>(hT _ hs).2 (.inr rfl), h.yb.mod m (inT _ hx.iy.1 hx.iy.2), h.sb.mod m (inT _ hx.is.1 hx.is.2), h.vb.mod m (inT _ hx.iv.1 hx.iv.2), h.ob.mod m (inT _ hx.io.1 hx.io.2), h.pb.mod m (inT _ hx.ip.1 hx.ip.2),
  h.ok.mod m (inT _ (by omega) (by omega)) (inT _ (by omega) (by omega)) (inT _ (by omega) (by omega)) (inT _ (by omega) (by omega)) fun j q hq=>inT _ ?_ ?_, h.st, h.out.mod m fun q hq=>by rw [aBlk_some hq]; exact inT _ (by omega) (by omega), h.ol, h.po, h.oU, h.zU, h.d.then m fun k _ hk=>(hT k hk).1, Nat.le_trans h.sz m.size⟩
 ·have:=h.ok.up j q hq; omega
 ·have:=h.zU j q hq; omega
theorem VSt.ext {x:FxR} {w0 W W':World} {s:StW} {O P:List Int} (h:VSt x w0 W s O P) (hx:x.Ok w0) (m:Ext W W'):VSt x w0 W' s O P:=h.mod hx m fun _ h=>h.elim
theorem VSt.put {x:FxR} {w0 W W':World} {s:StW} {O P P':List Int} {bs:List Bool} {fs:List Int} (h:VSt x w0 W s O P) (hx:x.Ok w0) (hok:StOk x.B W' x.g ⟨s.p, s.bi, s.bf, s.ba, bs, fs, s.z⟩) (hst:StIs (vals x.g.edges) x.N ⟨s.p, s.bi, s.bf, s.ba, bs, fs, s.z⟩ P') (m:Vc.Mod (StT s) W W') :
  VSt x w0 W' ⟨s.p, s.bi, s.bf, s.ba, bs, fs, s.z⟩ O P':=by
 obtain ⟨g1, g2, g3⟩:=h.ok.ge
 have gB:=hx.gB; have neB:=hx.neB
 have li:=h.ok.li; have lf:=h.ok.lf; have po:=h.po
 have off:∀ {b:Nat} {v:Array Value} {t:Nat}, Blk W b (.cells v t (0, 0)) → t ≠ 4 → t ≠ 3 → ¬ StT s b:=fun hb n1 n2 hs=>by
  rcases hs with hs | hs
  ·exact (OwnT.tyA h.ok.i).apart hb n1.symm ⟨_, rfl, hs.symm⟩
  ·exact (OwnT.tyA h.ok.f).apart hb n2.symm ⟨_, rfl, hs.symm⟩
 exact ⟨h.gb.mod m (off h.gb (by decide) (by decide)), h.yb.mod m (off h.yb (by decide) (by decide)), h.sb.mod m (off h.sb (by decide) (by decide)), h.vb.mod m (off h.vb (by decide) (by decide)), h.ob.mod m (off h.ob (by decide) (by decide)), h.pb.mod m (off h.pb (by decide) (by decide)),
  hok, hst, h.out.mod m fun q hq hs=>by have:=aBlk_some hq; unfold StT at hs; omega, h.ol, h.po, h.oU, h.zU, h.d.then m fun k _ hk=>by unfold StT at hk; show _ ≤ _; omega, Nat.le_trans h.sz m.size⟩
theorem VSt.wr {x:FxR} {w0 W W':World} {s:StW} {O O' P:List Int} (h:VSt x w0 W s O P) (hx:x.Ok w0) (hO:OwnT Vc.encI 1 3 x.B W' (some ⟨x.oB, 0, none⟩) O.length O') (hl:O'.length = O.length) (m:Vc.Mod (Vc.one x.oB) W W'):VSt x w0 W' s O' P:=by
 obtain ⟨g1, g2, g3⟩:=h.ok.ge
 have neB:=hx.neB
 have li:=h.ok.li; have lf:=h.ok.lf; have la:=h.ok.la; have po:=h.po
 have off:∀ {b:Nat} {v:Array Value} {t:Nat}, Blk W b (.cells v t (0, 0)) → t ≠ 3 → ¬ Vc.one x.oB b:=fun hb n2 hs=>(OwnT.tyA h.out).apart hb n2.symm ⟨_, rfl, hs.symm⟩
 refine ⟨h.gb.mod m (off h.gb (by decide)), h.yb.mod m (off h.yb (by decide)), h.sb.mod m (off h.sb (by decide)), h.vb.mod m (off h.vb (by decide)), ?_, h.pb.mod m (off h.pb (by decide)),
  h.ok.mod m (by unfold Vc.one; omega) (by unfold Vc.one; omega) (by unfold Vc.one; omega) (by unfold Vc.one; omega) fun j q hq=>by have:=h.zU j q hq; unfold Vc.one; omega, h.st, by rw [hl]; exact hO, by rw [hl]; exact h.ol, h.po, h.oU, h.zU, h.d.then m fun k _ hk=>by unfold Vc.one at hk; show _ ≤ _; omega, Nat.le_trans h.sz m.size⟩
 have:=h.ob.mod m (off h.ob (by decide))
 unfold PtO at this ⊢
 rw [hl]; exact this
theorem VSt.E {x:FxR} {w0 W:World} {s:StW} {O P:List Int} (h:VSt x w0 W s O P) (hx:x.Ok w0):LL W x.g.ea x.g.edges:=⟨hx.hE.sl.from (hx.ne0 ▸ h.d), fun y hy=>(hx.hE.each y hy).from (hx.ne0 ▸ h.d)⟩
theorem GOk.from {w w':World} {g:GrW} (h:GOk w g) (m:Vc.Mod (From w.heap.size) w w'):GOk w' g:=⟨h.c.from m, ⟨h.e.sl.from m, fun y hy=>(h.e.each y hy).from m⟩⟩
def OIs (E:List (List Int)) (O P:List Int) (v:Nat):Prop:=∀ i, i < E.length → O.getD i default = ((outN (E.getD i default) P v:Nat):Int)
end Go.Proofs.YtdbcfpcicjgghaaGreatDoor

/- Repair: the search. -/
namespace Go.Proofs.YtdbcfpcicjgghaaGreatDoor
open Go.Vc
set_option maxRecDepth 100000
set_option maxHeartbeats 16000000
def EndR (J Jx:List SlI → World → Prop) (pre:List SlI) (R:List (List Int)) (b:Bool) (xs:List SlI) (W:World):Prop :=
 (b = true ∧ vals xs = R ∧ J (pre ++ xs) W) ∨ (b = false ∧ (∃ t, R = vals xs ++ t) ∧ Jx (pre ++ xs) W)
theorem repK_step {E:List (List Int)} {N f v:Nat} {P:List Int} (h:v + (f + 1) = N):repK E N (f + 1) P = (if blkB E P (v:Int) = true then [] else repK E N f (P ++ [(v:Int)])) ++ if prB E P (v + 1) = true then repK E N f P else []:=by
 rw [repK, show N - (f + 1) = v by omega]
theorem VSt.stT {x:FxR} {w0 W:World} {s:StW} {O P:List Int} (h:VSt x w0 W s O P):∀ k, StT s k → x.T k:=fun k hk=>by
 obtain ⟨g1, g2, _⟩:=h.ok.ge
 have po:=h.po; have oU:=h.oU; have li:=h.ok.li; have lf:=h.ok.lf
 left
 rcases hk with rfl | rfl
 ·omega
 ·omega
theorem VSt.oT {x:FxR} {w0 W:World} {s:StW} {O P:List Int} (h:VSt x w0 W s O P):x.T x.oB:=by
 have:=h.out.ge _ ⟨_, rfl, rfl⟩
 exact .inl ⟨this, h.oU⟩
theorem EndR.mod {J Jx:List SlI → World → Prop} {T:Nat → Prop} (hJ:∀ s A B, J s A → Vc.Mod T A B → J s B) (hJx:∀ s A B, Jx s A → Vc.Mod T A B → Jx s B) {pre:List SlI} {R:List (List Int)} {b:Bool} {xs:List SlI} {W W':World} (h:EndR J Jx pre R b xs W) (m:Vc.Mod T W W'):EndR J Jx pre R b xs W':=by
 rcases h with ⟨h1, h2, h3⟩ | ⟨h1, h2, h3⟩
 ·exact .inl ⟨h1, h2, hJ _ _ _ h3 m⟩
 ·exact .inr ⟨h1, h2, hJx _ _ _ h3 m⟩
theorem EndR.app {J Jx:List SlI → World → Prop} {pre xs1 xs:List SlI} {R1 R2:List (List Int)} {b:Bool} {W:World} (h1:vals xs1 = R1) (h:EndR J Jx (pre ++ xs1) R2 b xs W):EndR J Jx pre (R1 ++ R2) b (xs1 ++ xs) W:=by
 rcases h with ⟨h2, h3, h4⟩ | ⟨h2, ⟨t, h3⟩, h4⟩
 ·exact .inl ⟨h2, by unfold vals at *; rw [List.map_append, h1, h3], by rw [← List.append_assoc]; exact h4⟩
 ·exact .inr ⟨h2, ⟨t, by unfold vals at *; rw [List.map_append, h1, h3, List.append_assoc]⟩, by rw [← List.append_assoc]; exact h4⟩
theorem outN_le (e P:List Int) (k:Nat):outN e P k ≤ e.length:=List.length_filter_le _ _
theorem settled_n {E:List (List Int)} {P O:List Int} {v n:Nat} (hn:n = v + 1) (hO:OIs E O P (v + 1)):(List.range n).all (setB1 E P O) = prB E P (v + 1):=by
 subst hn
 exact settled_all hO
theorem OIs.in_ {E:List (List Int)} {O P:List Int} {v:Nat}:OIs E O (P ++ [(v:Int)]) (v + 1) ↔ OIs E O P v:=by
 unfold OIs
 simp only [outN_in]
theorem visit_spec (x:FxR) (w0:World) (hx:x.Ok w0) (mm:Nat) (J Jx:List SlI → World → Prop) (hJ:∀ s A B, J s A → Vc.Mod x.T A B → J s B) (hJx:∀ s A B, Jx s A → Vc.Mod x.T A B → Jx s B)
  (all:List (List Int)) (hY:∀ pre y W1, J pre W1 → (∃ t, all = vals (pre ++ [y]) ++ t) → OwnT Vc.encI 1 3 x.B W1 y.a y.c y.l → (∀ k, aBlk y.a k → ¬ x.T k) → YieldAt Fence.wide mm Tryz.prog x.l #[.slice y.a y.l.length y.c] W1 fun e W' =>
   ((e = .returned (.bool true) ∧ J (pre ++ [y]) W') ∨ (e = .returned (.bool false) ∧ Jx (pre ++ [y]) W')) ∧ Vc.Mod (fun k=>x.ne ≤ k ∧ ¬ x.T k) W1 W') :
  ∀ (f v:Nat), v + f = x.N → ∀ s O P pre W, VSt x w0 W s O P → Pre (vals x.g.edges) v P → OIs (vals x.g.edges) O P v → J pre W → (∃ t, all = vals pre ++ (repK (vals x.g.edges) x.N f P ++ t)) →
   RetsY Tryz.prog 81 (.int .i64 (v:Nat) :: x.caps).toArray W (fun z:Bool × StW × List Int × List SlI=>.bool z.1)
    (fun z W'=>VSt x w0 W' z.2.1 z.2.2.1 P ∧ OIs (vals x.g.edges) z.2.2.1 P v ∧ EndR J Jx pre (repK (vals x.g.edges) x.N f P) z.1 z.2.2.2 W'):=by
 have hv:=hx.hv
 have hn:=costB_iff.1 (validG_iff.1 hv).1
 have hN:=hx.hN
 have hN4:x.N ≤ 4000:=by have h0:x.g.n ≤ 4000:=hn.2.1; omega
 have hE20:x.g.edges.length ≤ 20000:=by have:=(validG_iff.1 hv).2.1; simpa [grV, vals] using this
 have hnd:∀ e ∈ vals x.g.edges, e.Nodup:=fun e he=>inc_nodup ((validG_iff.1 hv).2.2.1 e he).2.1
 have hle:∀ y ∈ vals x.g.edges, y.length ≤ 1000000:=fun y hy=>by
  obtain ⟨z, hz, rfl⟩:=List.mem_map.1 hy
  exact (hx.gl.each z hz).1
 have hT0:∀ {A B:World}, Ext A B → Vc.Mod x.T A B:=fun h=>h.mod
 intro f
 induction f with
 | zero =>
  intro v hvN s O P pre W hV hP hO hj hal
  have hvn:v = x.N:=by omega
  have hok:=hV.ok
  refine enter (args:=[_, _, _, _, _, _, _]) Tryz.func81 rfl Tryz.ntmps81 (by kernel_rfl) rfl ?_
  refine V.seq (V.region (VL.op (R.asB rfl) (VL.nil (V.seq (V.seq (V.region (VL.op (R.mvI rfl) (VL.op (R.fld' (o:=0) Tryz.runUnderlying25 rfl rfl Tryz.sizeOf3 rfl rfl) (VL.op (R.ld1 Tryz.isAgg3 rfl ((show W.cell? ⟨x.gb, 0, none⟩ = some (Value.int .i64 x.g.n) from hV.gb.cell 0))) (VL.op (R.eql rfl rfl) (VL.nil (V.condP rfl (fun c18=>V.seq (?_)) (fun c18=>V.skip (V.seq (V.seq (?_))))))))))))))))
  ·refine V.regionMI (mm:=mm + 1) mixed 3 (by kernel_rfl) rfl (fun i u w'=>match i with | 0=>u = .func (.yield x.l) #[] #[] | 1=>u = .pointer (some ⟨s.p, 0, none⟩) | 2=>∃ y:SlI, u = .slice y.a y.l.length y.c ∧ OwnT Vc.encI 1 3 W.heap.size w' y.a y.c y.l ∧ y.l = P | _=>True) ?_ (fun us=>VMs.op ?_ (VMs.op ?_ (VMs.op ?_ (VMs.nil fun w4 e4 h4=>?_))))
   ·intro i u w1 w2 _ h2 h3
    match i with
    | 0=>exact h2
    | 1=>exact h2
    | 2=>obtain ⟨y, hy, h5, h6⟩:=h2; exact ⟨y, hy, h5.ext h3, h6⟩
    | n + 3=>trivial
   ·intro w' e _
    exact yieldsR_op (R.ld1 Tryz.isAgg111 rfl ((hV.yb.ext e).cell _)) ⟨rfl, Vc.Mod.refl _ _⟩
   ·intro w' e _
    exact yieldsR_op (R.ld1 Tryz.isAgg79 rfl ((hV.sb.ext e).cell _)) ⟨rfl, Vc.Mod.refl _ _⟩
   ·intro w' e h
    have h1:=h 1 (by kernel_rfl)
    refine yieldsR_call Tryz.call45 (vs:=[.pointer (some ⟨s.p, 0, none⟩)]) (by rw [← h1]; rfl) ((set_spec x.g x.B x.N s P w' (hok.ext e) hV.st hN4).mono fun u w2 ⟨y, hy, ⟨h5, h6⟩, h7⟩=>⟨⟨y, hy, h5.weaken e.size, ?_⟩, h7⟩)
    rw [h6]
    exact memK_self hP.inc fun z hz=>by have:=hP.rng z hz; omega
   ·obtain ⟨y, hy, h5, h6⟩:=h4 2 (by omega)
    have h40:=h4 0 (by omega)
    have hV4:=hV.ext hx e4
    have sz:=hV.sz
    have hB0:=hx.iy
    have gB:=hx.gB
    refine VY.round (v:=.slice y.a y.l.length y.c) h40 hy (hY pre y w4 (hJ _ _ _ hj (hT0 e4)) (by obtain ⟨t, ht⟩:=hal; exact ⟨t, by rw [ht]; simp [vals, h6, repK]⟩) (h5.weaken (by omega)) fun k hk hT=>?_) ?_
    ·have:=h5.ge k hk
     unfold FxR.T at hT
     omega
    ·rintro e w5 ⟨h7, hm⟩
     have hV5:=hV4.mod hx hm fun k hk=>hk
     rcases h7 with ⟨rfl, h7⟩ | ⟨rfl, h7⟩
     ·refine ⟨_, rfl, VY.op (R.asB rfl) (VY.nil (V.ret (fret1 (v:=.bool _) rfl rfl rfl ⟨(true, s, O, [y]), rfl, hV5, hO, .inl ⟨rfl, ?_, h7⟩⟩)))⟩
      simp [h6, repK]
     ·refine ⟨_, rfl, VY.op (R.asB rfl) (VY.nil (V.ret (fret1 (v:=.bool _) rfl rfl rfl ⟨(false, s, O, [y]), rfl, hV5, hO, .inr ⟨rfl, ⟨[], ?_⟩, h7⟩⟩)))⟩
      simp [h6, repK]
  ·omega
 | succ f ih =>
  intro v hvN s O P pre W hV hP hO hj hal
  have hvl:v < x.N:=by omega
  have hok:=hV.ok
  have hst:=hV.st
  have hE:=hV.E hx
  have hvP:(v:Int) ∉ P:=fun h=>by have:=hP.rng _ h; omega
  rw [repK_step hvN] at hal ⊢
  obtain ⟨R1, hR1⟩:∃ R1, R1 = if blkB (vals x.g.edges) P (v:Int) = true then [] else repK (vals x.g.edges) x.N f (P ++ [(v:Int)]):=⟨_, rfl⟩
  obtain ⟨R2, hR2⟩:∃ R2, R2 = if prB (vals x.g.edges) P (v + 1) = true then repK (vals x.g.edges) x.N f P else []:=⟨_, rfl⟩
  rw [← hR1, ← hR2] at hal ⊢
  obtain ⟨tl, hal⟩:=hal
  rw [List.append_assoc] at hal
  have hmem:∀ y, y ∈ P ++ [(v:Int)] ↔ y = (v:Int) ∨ y ∈ P:=fun y=>by rw [List.mem_append, List.mem_singleton]; exact or_comm
  have hih:∀ s O P pre W, VSt x w0 W s O P → Pre (vals x.g.edges) (v + 1) P → OIs (vals x.g.edges) O P (v + 1) → J pre W → (∃ t, all = vals pre ++ (repK (vals x.g.edges) x.N f P ++ t)) →
   RetsY Tryz.prog 81 (.int .i64 ((v:Int) + 1) :: x.caps).toArray W (fun z:Bool × StW × List Int × List SlI=>.bool z.1)
    (fun z W'=>VSt x w0 W' z.2.1 z.2.2.1 P ∧ OIs (vals x.g.edges) z.2.2.1 P (v + 1) ∧ EndR J Jx pre (repK (vals x.g.edges) x.N f P) z.1 z.2.2.2 W'):=fun s O P pre W h1 h2 h3 h4 h5=>ih (v + 1) (by omega) s O P pre W h1 h2 h3 h4 h5
  refine enter (args:=[_, _, _, _, _, _, _]) Tryz.func81 rfl Tryz.ntmps81 (by kernel_rfl) rfl ?_
  refine V.seq (V.region (VL.op (R.asB rfl) (VL.nil (V.seq (V.seq (V.region (VL.op (R.mvI rfl) (VL.op (R.fld' (o:=0) Tryz.runUnderlying25 rfl rfl Tryz.sizeOf3 rfl rfl) (VL.op (R.ld1 Tryz.isAgg3 rfl ((show W.cell? ⟨x.gb, 0, none⟩ = some (Value.int .i64 x.g.n) from hV.gb.cell 0))) (VL.op (R.eql rfl rfl) (VL.nil (V.condP rfl (fun c18=>V.seq (?_)) (fun c18=>V.skip (V.cut [0, 1, 2, 3, 4, 5, 6] (fun z:StW × List Int × List SlI=>[.int .i64 (v:Nat), .pointer (some ⟨x.gb, 0, none⟩), .pointer (some ⟨x.yb, 0, none⟩), .pointer (some ⟨x.sb, 0, none⟩), .pointer (some ⟨x.vb, 0, none⟩), .pointer (some ⟨x.ob, 0, none⟩), .pointer (some ⟨x.pb, 0, none⟩)]) (fun z w'=>VSt x w0 w' z.1 z.2.1 P ∧ OIs (vals x.g.edges) z.2.1 P v ∧ vals z.2.2 = R1 ∧ J (pre ++ z.2.2) w') (V.seq (V.region (VL.op (R.ld1 Tryz.isAgg79 rfl ((hV.sb.cell _))) (VL.op (R.mvI rfl) (VL.callP Tryz.call43 rfl (blocked_spec x.g x.B x.N s P v _ hok hst hE hx.gl hE20 hnd hvl hvP) fun w3_2 e3_2=>VL.op (R.not rfl) (VL.nil (V.cond rfl (fun c26=>V.seq (?_)) (fun c26=>V.skip (?_))))))))) (fun rgC26 xC26 wBC26 hBC26=>V.cut [0, 1, 2, 3, 4, 5, 6] (fun _:List Int=>[.int .i64 (v:Nat), .pointer (some ⟨x.gb, 0, none⟩), .pointer (some ⟨x.yb, 0, none⟩), .pointer (some ⟨x.sb, 0, none⟩), .pointer (some ⟨x.vb, 0, none⟩), .pointer (some ⟨x.ob, 0, none⟩), .pointer (some ⟨x.pb, 0, none⟩)]) (fun z w'=>VSt x w0 w' xC26.1 z P ∧ OIs (vals x.g.edges) z P (v + 1) ∧ J (pre ++ xC26.2.2) w') (V.seq (?_)) (fun rgB0 xB0 wBB0 hBB0=>V.seq (?_)))))))))))))))))
  ·omega
  ·have hV3:=hV.ext hx e3_2
   have hbf:blkB (vals x.g.edges) P (v:Int) = false:=by simpa using c26
   rw [hbf, if_neg (by decide)] at hR1
   have hsz:=hV3.sz
   have hB0:=hx.iy
   refine V.region (VL.op (R.ld1 Tryz.isAgg79 rfl ((hV3.sb.cell _))) (VL.op (R.mvI rfl) (VL.callY Tryz.call44 rfl (put_spec x.g x.B x.N s P (P ++ [(v:Int)]) v true _ hV3.ok hst hE20 hle hvl (by omega) (fun j hj=>by
     rw [cntE_put hvP hmem (hnd _ (gmem hj))]
     by_cases h:(v:Int) ∈ (vals x.g.edges).getD j default
     ·rw [if_pos h, if_pos h, if_pos rfl]; rfl
     ·rw [if_neg h, if_neg h]; rfl) (fun j hj=>by
     by_cases h:j = v
     ·subst h; rw [if_pos rfl]; exact decide_eq_true ((hmem _).2 (.inl rfl))
     ·rw [if_neg h]; exact decide_eq_decide.2 ⟨fun h2=>((hmem _).1 h2).resolve_left (by omega), fun h2=>(hmem _).2 (.inr h2)⟩)) fun z4 w4 h4=>VL.nil (V.seq (?_)))))
   obtain ⟨h41, h42, h43⟩:=h4
   have hV4:=hV3.put hx h41 h42 h43
   have hj4:=hJ _ _ _ (hJ _ _ _ hj (hT0 e3_2)) (h43.weaken fun k _ hk=>hV3.stT k hk)
   refine V.region (VL.op (R.ld1 Tryz.isAgg85 rfl ((hV4.vb.cell _))) (VL.op (R.mvI rfl) (VL.op (R.add rfl rfl (by omega) (by omega)) (VL.callCY rfl (Tryz.call81) rfl (hih _ O (P ++ [(v:Int)]) pre w4 hV4 (hP.in_ hbf) (OIs.in_.2 hO) hj4 ⟨R2 ++ tl, by rw [hal, hR1]⟩) fun z5 w5 h5=>VL.op (R.asB rfl) (VL.nil (V.seq (?_)))))))
   obtain ⟨b5, s5, O5, xs5⟩:=z5
   obtain ⟨hV5, hO5, hE5⟩:=h5
   dsimp only at hV5 hO5 hE5 ⊢
   have hsz5:=hV5.sz
   refine V.region (VL.op (R.ld1 Tryz.isAgg79 rfl ((hV5.sb.cell _))) (VL.op (R.mvI rfl) (VL.callY Tryz.call44 rfl (put_spec x.g x.B x.N s5 (P ++ [(v:Int)]) P v false _ hV5.ok hV5.st hE20 hle hvl (by omega) (fun j hj=>by
     rw [cntE_put hvP hmem (hnd _ (gmem hj))]
     by_cases h:(v:Int) ∈ (vals x.g.edges).getD j default
     ·rw [if_pos h, if_pos h, if_neg (by decide)]; omega
     ·rw [if_neg h, if_neg h]; rfl) (fun j hj=>by
     by_cases h:j = v
     ·subst h; rw [if_pos rfl]; exact decide_eq_false hvP
     ·rw [if_neg h]; exact decide_eq_decide.2 ⟨fun h2=>(hmem _).2 (.inr h2), fun h2=>((hmem _).1 h2).resolve_left (by omega)⟩)) fun z6 w6 h6=>VL.nil (V.seq (V.region (VL.op (R.mvB rfl) (VL.op (R.not rfl) (VL.nil (V.cond rfl (fun c38=>V.seq (V.region (VL.op (R.asB rfl) (VL.nil (V.ret (fret1 (v:=.bool _) rfl rfl rfl (?_))))))) (fun c38=>V.skip (?_)))))))))))
   ·obtain ⟨h61, h62, h63⟩:=h6
    refine ⟨(false, _, O5, xs5), rfl, hV5.put hx h61 h62 h63, OIs.in_.1 hO5, ?_⟩
    rcases hE5.mod hJ hJx (h63.weaken fun k _ hk=>hV5.stT k hk) with ⟨h1, _, _⟩ | ⟨_, ⟨t, ht⟩, h3⟩
    ·rw [h1] at c38; cases c38
    ·exact .inr ⟨rfl, ⟨t ++ R2, by rw [hR1, ht, List.append_assoc]⟩, h3⟩
   ·obtain ⟨h61, h62, h63⟩:=h6
    refine ⟨(_, O5, xs5), rfl, hV5.put hx h61 h62 h63, OIs.in_.1 hO5, ?_⟩
    rcases hE5.mod hJ hJx (h63.weaken fun k _ hk=>hV5.stT k hk) with ⟨_, h2, h3⟩ | ⟨h1, _, _⟩
    ·exact ⟨by rw [hR1, h2], h3⟩
    ·rw [h1] at c38; cases c38
  ·have hV3:=hV.ext hx e3_2
   have hbf:blkB (vals x.g.edges) P (v:Int) = true:=by simpa using c26
   rw [hbf, if_pos rfl] at hR1
   exact ⟨(s, O, []), rfl, hV3, hO, by rw [hR1]; rfl, by rw [List.append_nil]; exact hJ _ _ _ hj (hT0 e3_2)⟩
  ·obtain ⟨s9, O9, xs9⟩:=xC26
   obtain ⟨hV9, hO9, hv9, hj9⟩:=hBC26
   dsimp only at hV9 hO9 hv9 hj9 ⊢
   have hz:=hV9.st.zl
   have hzl:(s9.z.getD v default).l.length ≤ 20000:=by rw [hV9.st.adj v hvl]; have:=adjK_len (vals x.g.edges) (vals x.g.edges).length ((v:Nat):Int); rw [List.length_map] at this ⊢; omega
   have hbl:=hV9.st.bl
   have hLv:(s9.z.getD v default).l = adjK (vals x.g.edges) (vals x.g.edges).length ((v:Nat):Int):=hV9.st.adj v hvl
   refine V.region (VL.op (R.ld1 Tryz.isAgg79 rfl ((hV9.sb.cell _))) (VL.op (R.nilCheck rfl) (VL.op (R.fld' (o:=5) Tryz.runUnderlying84 rfl rfl Tryz.sizeOf23 rfl rfl) (VL.op (R.ld1 Tryz.isAgg23 rfl ((show wBC26.cell? ⟨s9.p, 5, none⟩ = some (Value.slice (some ⟨s9.ba, 0, none⟩) s9.z.length s9.z.length) from hV9.ok.blk.cell 5))) (VL.op (R.mvI rfl) (VL.op (R.ixS Tryz.runUnderlying23 Tryz.sizeOf22 rfl rfl (by omega) (by omega) (hV9.ok.a.own.sl.some (i:=v) (by omega))) (VL.op (R.ld1 Tryz.isAgg22 rfl (((hV9.ok.a.own.sl.row (i:=v) (by omega)).cell (i:=0) rfl))) (VL.op (R.lenS Tryz.runUnderlying22 rfl) (VL.op (R.mvI rfl) (VL.nil (V.block (?_))))))))))))
   refine V.loop [0, 1, 2, 3, 4, 5, 6, 45, 46, 47] (fun z:Nat × List Int=>[.int .i64 (v:Nat), .pointer (some ⟨x.gb, 0, none⟩), .pointer (some ⟨x.yb, 0, none⟩), .pointer (some ⟨x.sb, 0, none⟩), .pointer (some ⟨x.vb, 0, none⟩), .pointer (some ⟨x.ob, 0, none⟩), .pointer (some ⟨x.pb, 0, none⟩), .slice (s9.z.getD v default).a (s9.z.getD v default).l.length (s9.z.getD v default).c, .int .i64 ((s9.z.getD v default).l.length:Nat), .int .i64 (z.1:Nat)])
    (fun z w'=>z.1 ≤ (s9.z.getD v default).l.length ∧ VSt x w0 w' s9 z.2 P ∧ (∀ k, k < (vals x.g.edges).length → z.2.getD k default = ((outN ((vals x.g.edges).getD k default) P v:Nat):Int) + if ((k:Nat):Int) ∈ (s9.z.getD v default).l.take z.1 then 1 else 0) ∧ J (pre ++ xs9) w') (fun z=>(s9.z.getD v default).l.length - z.1) (0, O9) rfl ⟨Nat.zero_le _, hV9, fun k hk=>by rw [hO9 k hk]; simp, hj9⟩ ?_
   rintro ρ ⟨i, O⟩ w4 ⟨hi, hV4, hO4, hj4⟩
   dsimp only at hi hV4 hO4 hj4 ⊢
   refine V.seq (V.region (VL.op (R.lss rfl rfl) (VL.nil (V.seq (V.condP rfl (fun c48=>V.skip (V.seq (V.block (V.seq (?_))))) (fun c48=>V.exit (?_)))))))
   ·have hil:i < (s9.z.getD v default).l.length:=by omega
    have hxi:IntSl w4 (s9.z.getD v default).a (s9.z.getD v default).l:=(hV4.ok.a.each v).sl
    have hm:=gmem hil
    rw [hLv] at hm
    obtain ⟨k, hk, hvk, hkd⟩:=adjK_mem.1 hm
    rw [← hLv] at hkd
    have hk2:=hk
    rw [List.length_map] at hk2
    have hol:=hV4.ol
    have hOk:=hO4 k hk
    have hc:=outN_le ((vals x.g.edges).getD k default) P v
    have hc2:=hle _ (gmem hk)
    refine V.region (VL.op (R.ixS Tryz.runUnderlying22 Tryz.sizeOf3 rfl rfl (by omega) (by omega) ((hxi).some (i:=i) (by omega))) (VL.op (R.ld1 Tryz.isAgg3 rfl (((((hxi).ext (Mod.refl _ _)).row (i:=i) (by omega)).cell (i:=0) rfl))) (VL.op (R.asI rfl) (VL.nil (?_)))))
    rw [hkd]
    refine V.region (VL.op (R.ld1 Tryz.isAgg22 rfl ((hV4.ob.cell _))) (VL.op (R.mvI rfl) (VL.op (R.ixS Tryz.runUnderlying22 Tryz.sizeOf3 rfl rfl (by omega) (by omega) (hV4.out.sl.some (i:=k) (by omega))) (VL.op (R.ld1 Tryz.isAgg3 rfl (((hV4.out.sl.row (i:=k) (by omega)).cell (i:=0) rfl))) (VL.op (R.add rfl rfl (by omega) (by omega)) (VL.op (R.ixS Tryz.runUnderlying22 Tryz.sizeOf3 rfl rfl (by omega) (by omega) (hV4.out.sl.some (i:=k) (by omega))) (VL.ownSt eltI (v:=.int _ _) Tryz.sizeOf3 (hV4.out) k 0 (O.getD k default + 1) rfl rfl (by omega) rfl rfl rfl rfl rfl fun w7 ho7 m7 hs7=>VL.nil (V.region (VL.op (R.add rfl rfl (by omega) (by omega)) (VL.op (R.mvI rfl) (VL.nil (?_))))))))))))
    have hinc:Inc (s9.z.getD v default).l:=by rw [hLv]; exact adjK_inc _ _ _
    have hnew:((k:Nat):Int) ∉ (s9.z.getD v default).l.take i:=fun h=>by
     obtain ⟨j, hj, hjv⟩:=List.getElem_of_mem h
     rw [List.length_take] at hj
     rw [List.getElem_take] at hjv
     have:=inc_at hinc (i:=j) (j:=i) (by omega) hil
     rw [hkd, gget (show j < (s9.z.getD v default).l.length by omega), hjv] at this
     omega
    have ht:(s9.z.getD v default).l.take (i + 1) = (s9.z.getD v default).l.take i ++ [(k:Int)]:=by rw [List.take_succ_eq_append_getElem hil, ← hkd, gget hil]
    refine ⟨(i + 1, O.set k (O.getD k default + 1)), rfl, ⟨by dsimp only; omega, hV4.wr hx ho7 (by simp) (m7.weaken fun q _ hq=>aBlk_some hq), fun k2 hk2=>?_, hJ _ _ _ hj4 (m7.weaken fun q _ hq=>by rw [aBlk_some hq]; exact hV4.oT)⟩, by dsimp only; omega⟩
    dsimp only
    rw [ht]
    by_cases e:k2 = k
    ·subst e
     rw [setD_eq _ (by omega), hOk, if_neg hnew, if_pos (by simp)]; omega
    ·rw [setD_ne _ e, hO4 k2 hk2]
     have:((k2:Nat):Int) ∈ (s9.z.getD v default).l.take i ++ [(k:Int)] ↔ ((k2:Nat):Int) ∈ (s9.z.getD v default).l.take i:=by
      rw [List.mem_append, List.mem_singleton]
      exact ⟨fun h=>h.resolve_right (by omega), .inl⟩
     simp only [this]
   ·have hke:i = (s9.z.getD v default).l.length:=by omega
    subst hke
    refine ⟨O, rfl, hV4, fun k hk=>?_, hj4⟩
    rw [hO4 k hk, List.take_length, hLv, outN_out hvP (hnd _ (gmem hk))]
    by_cases h:(v:Int) ∈ (vals x.g.edges).getD k default
    ·rw [if_pos (adjK_mem.2 ⟨k, hk, h, rfl⟩), if_pos h]; rfl
    ·rw [if_neg fun h2=>(by
      obtain ⟨j, _, hj, hjk⟩:=adjK_mem.1 h2; have:k = j:=by omega
      subst this; exact h hj), if_neg h]; rfl
  ·obtain ⟨s9, O9, xs8⟩:=xC26
   obtain ⟨_, _, hv9, _⟩:=hBC26
   obtain ⟨hV0, hO0, hj0⟩:=hBB0
   dsimp only at hv9 hV0 hO0 hj0 ⊢
   have hbl:=hV0.st.bl
   have alE:(List.range (((v:Int) + 1).toNat)).all (setB1 (vals x.g.edges) P xB0) = true → all = vals (pre ++ xs8) ++ (repK (vals x.g.edges) x.N f P ++ tl):=fun hc=>by
    have hpr:prB (vals x.g.edges) P (v + 1) = true:=(settled_n (by omega) hO0).symm.trans hc
    rw [hpr, if_pos rfl] at hR2
    rw [hal, ← hv9, ← hR2]
    simp [vals]
   refine V.region (VL.op (R.asB rfl) (VL.nil (V.cut [0, 1, 2, 3, 4, 5, 6, 12] (fun z:Bool × StW × List Int × List SlI=>[.int .i64 (v:Nat), .pointer (some ⟨x.gb, 0, none⟩), .pointer (some ⟨x.yb, 0, none⟩), .pointer (some ⟨x.sb, 0, none⟩), .pointer (some ⟨x.vb, 0, none⟩), .pointer (some ⟨x.ob, 0, none⟩), .pointer (some ⟨x.pb, 0, none⟩), .bool z.1]) (fun z w'=>VSt x w0 w' z.2.1 z.2.2.1 P ∧ OIs (vals x.g.edges) z.2.2.1 P (v + 1) ∧ EndR J Jx (pre ++ xs8) R2 z.1 z.2.2.2 w') (V.seq (V.region (VL.op (R.ld1 Tryz.isAgg79 rfl ((hV0.sb.cell _))) (VL.op (R.nilCheck rfl) (VL.op (R.fld' (o:=3) Tryz.runUnderlying84 rfl rfl Tryz.sizeOf77 rfl rfl) (VL.op (R.ld1 Tryz.isAgg77 rfl ((show wBB0.cell? ⟨s9.p, 3, none⟩ = some (Value.slice (some ⟨s9.bi, 0, none⟩) s9.bs.length s9.bs.length) from hV0.ok.blk.cell 3))) (VL.op (R.mvI rfl) (VL.op (R.add rfl rfl (by omega) (by omega)) (VL.op (R.slHi Tryz.runUnderlying77 Tryz.sizeOf4 rfl rfl (by omega) (by omega)) (VL.op (R.mkFn rfl rfl) (VL.callP Tryz.call82 rfl (every_spec 83 [] [.pointer (some ⟨x.sb, 0, none⟩), .pointer (some ⟨x.pb, 0, none⟩)] (setB1 (vals x.g.edges) P xB0) (fun w'=>VSt x w0 w' s9 xB0 P) _ _ _ _ Tryz.call83 (fun k w' hk h=>settled_spec x.g x.B x.N x.sb x.pb x.ob x.oB k s9 P xB0 w' h.ok h.st h.sb h.pb h.ob h.out.sl hE20 hN4 h.ol (by omega)) (fun _ _ h e=>h.ext hx e) hV0 (by omega)) fun w15_8 e15_8=>VL.nil (V.cond rfl (fun c66=>V.region (VL.op (R.ld1 Tryz.isAgg85 rfl (((hV0.ext hx e15_8).vb.cell _))) (VL.op (R.mvI rfl) (VL.op (R.add rfl rfl (by omega) (by omega)) (VL.callCY rfl (Tryz.call81) rfl (hih s9 xB0 P (pre ++ xs8) _ (hV0.ext hx e15_8) (hP.out ((settled_n (by omega) hO0).symm.trans c66)) hO0 (hJ _ _ _ hj0 (hT0 e15_8)) ⟨tl, alE c66⟩) fun z16 w16 h16=>VL.op (R.asB rfl) (VL.nil (?_))))))) (fun c66=>V.skip (?_)))))))))))))) (fun rgC66 xC66 wBC66 hBC66=>V.cut [12] (fun _:List Int=>[.bool xC66.1]) (fun z w'=>VSt x w0 w' xC66.2.1 z P ∧ OIs (vals x.g.edges) z P v ∧ EndR J Jx (pre ++ xs8) R2 xC66.1 xC66.2.2.2 w') (V.seq (?_)) (fun rgB2 xB2 wBB2 hBB2=>V.seq (V.region (VL.op (R.mvB rfl) (VL.op (R.asB rfl) (VL.nil (V.ret (fret1 (v:=.bool _) rfl rfl rfl (?_))))))))))))
   ·have hpr:prB (vals x.g.edges) P (v + 1) = true:=(settled_n (by omega) hO0).symm.trans c66
    rw [hpr, if_pos rfl] at hR2
    exact ⟨z16, rfl, h16.1, h16.2.1, by rw [hR2]; exact h16.2.2⟩
   ·have hpr:prB (vals x.g.edges) P (v + 1) = false:=(settled_n (by omega) hO0).symm.trans c66
    rw [hpr, if_neg (by decide)] at hR2
    exact ⟨(true, s9, xB0, []), rfl, hV0.ext hx e15_8, hO0, .inl ⟨rfl, by rw [hR2]; rfl, by rw [List.append_nil]; exact hJ _ _ _ hj0 (hT0 e15_8)⟩⟩
   ·obtain ⟨b9, s9, O9, xs9⟩:=xC66
    obtain ⟨hV9, hO9, hj9⟩:=hBC66
    obtain ⟨pre9, hpre9⟩:∃ pre9, pre9 = pre ++ xs8:=⟨_, rfl⟩
    dsimp only at hV9 hO9 hj9 ⊢
    rw [← hpre9] at hj9 ⊢
    have hz:=hV9.st.zl
    have hzl:(s9.z.getD v default).l.length ≤ 20000:=by rw [hV9.st.adj v hvl]; have:=adjK_len (vals x.g.edges) (vals x.g.edges).length ((v:Nat):Int); rw [List.length_map] at this ⊢; omega
    have hLv:(s9.z.getD v default).l = adjK (vals x.g.edges) (vals x.g.edges).length ((v:Nat):Int):=hV9.st.adj v hvl
    refine V.region (VL.op (R.ld1 Tryz.isAgg79 rfl ((hV9.sb.cell _))) (VL.op (R.nilCheck rfl) (VL.op (R.fld' (o:=5) Tryz.runUnderlying84 rfl rfl Tryz.sizeOf23 rfl rfl) (VL.op (R.ld1 Tryz.isAgg23 rfl ((show wBC66.cell? ⟨s9.p, 5, none⟩ = some (Value.slice (some ⟨s9.ba, 0, none⟩) s9.z.length s9.z.length) from hV9.ok.blk.cell 5))) (VL.op (R.mvI rfl) (VL.op (R.ixS Tryz.runUnderlying23 Tryz.sizeOf22 rfl rfl (by omega) (by omega) (hV9.ok.a.own.sl.some (i:=v) (by omega))) (VL.op (R.ld1 Tryz.isAgg22 rfl (((hV9.ok.a.own.sl.row (i:=v) (by omega)).cell (i:=0) rfl))) (VL.op (R.lenS Tryz.runUnderlying22 rfl) (VL.op (R.mvI rfl) (VL.nil (V.block (?_))))))))))))
    refine V.loop [5, 12, 77, 78, 79] (fun z:Nat × List Int=>[.pointer (some ⟨x.ob, 0, none⟩), .bool b9, .slice (s9.z.getD v default).a (s9.z.getD v default).l.length (s9.z.getD v default).c, .int .i64 ((s9.z.getD v default).l.length:Nat), .int .i64 (z.1:Nat)])
     (fun z w'=>z.1 ≤ (s9.z.getD v default).l.length ∧ VSt x w0 w' s9 z.2 P ∧ (∀ k, k < (vals x.g.edges).length → z.2.getD k default = ((outN ((vals x.g.edges).getD k default) P (v + 1):Nat):Int) + if ((k:Nat):Int) ∈ (s9.z.getD v default).l.take z.1 then -1 else 0) ∧ EndR J Jx pre9 R2 b9 xs9 w') (fun z=>(s9.z.getD v default).l.length - z.1) (0, O9) rfl ⟨Nat.zero_le _, hV9, fun k hk=>by rw [hO9 k hk]; simp, hj9⟩ ?_
    rintro ρ ⟨i, O⟩ w4 ⟨hi, hV4, hO4, hj4⟩
    dsimp only at hi hV4 hO4 hj4 ⊢
    refine V.seq (V.region (VL.op (R.lss rfl rfl) (VL.nil (V.seq (V.condP rfl (fun c80=>V.skip (V.seq (V.block (V.seq (?_))))) (fun c80=>V.exit (?_)))))))
    ·have hil:i < (s9.z.getD v default).l.length:=by omega
     have hxi:IntSl w4 (s9.z.getD v default).a (s9.z.getD v default).l:=(hV4.ok.a.each v).sl
     have hm:=gmem hil
     rw [hLv] at hm
     obtain ⟨k, hk, hvk, hkd⟩:=adjK_mem.1 hm
     rw [← hLv] at hkd
     have hk2:=hk
     rw [List.length_map] at hk2
     have hol:=hV4.ol
     have hOk:=hO4 k hk
     have hc:=outN_le ((vals x.g.edges).getD k default) P (v + 1)
     have hc2:=hle _ (gmem hk)
     refine V.region (VL.op (R.ixS Tryz.runUnderlying22 Tryz.sizeOf3 rfl rfl (by omega) (by omega) ((hxi).some (i:=i) (by omega))) (VL.op (R.ld1 Tryz.isAgg3 rfl (((((hxi).ext (Mod.refl _ _)).row (i:=i) (by omega)).cell (i:=0) rfl))) (VL.op (R.asI rfl) (VL.nil (?_)))))
     rw [hkd]
     refine V.region (VL.op (R.ld1 Tryz.isAgg22 rfl ((hV4.ob.cell _))) (VL.op (R.mvI rfl) (VL.op (R.ixS Tryz.runUnderlying22 Tryz.sizeOf3 rfl rfl (by omega) (by omega) (hV4.out.sl.some (i:=k) (by omega))) (VL.op (R.ld1 Tryz.isAgg3 rfl (((hV4.out.sl.row (i:=k) (by omega)).cell (i:=0) rfl))) (VL.op (R.sub rfl rfl (by omega) (by omega)) (VL.op (R.ixS Tryz.runUnderlying22 Tryz.sizeOf3 rfl rfl (by omega) (by omega) (hV4.out.sl.some (i:=k) (by omega))) (VL.ownSt eltI (v:=.int _ _) Tryz.sizeOf3 (hV4.out) k 0 (O.getD k default - 1) rfl rfl (by omega) rfl rfl rfl rfl rfl fun w7 ho7 m7 hs7=>VL.nil (V.region (VL.op (R.add rfl rfl (by omega) (by omega)) (VL.op (R.mvI rfl) (VL.nil (?_))))))))))))
     have hinc:Inc (s9.z.getD v default).l:=by rw [hLv]; exact adjK_inc _ _ _
     have hnew:((k:Nat):Int) ∉ (s9.z.getD v default).l.take i:=fun h=>by
      obtain ⟨j, hj, hjv⟩:=List.getElem_of_mem h
      rw [List.length_take] at hj
      rw [List.getElem_take] at hjv
      have:=inc_at hinc (i:=j) (j:=i) (by omega) hil
      rw [hkd, gget (show j < (s9.z.getD v default).l.length by omega), hjv] at this
      omega
     have ht:(s9.z.getD v default).l.take (i + 1) = (s9.z.getD v default).l.take i ++ [(k:Int)]:=by rw [List.take_succ_eq_append_getElem hil, ← hkd, gget hil]
     refine ⟨(i + 1, O.set k (O.getD k default - 1)), rfl, ⟨by dsimp only; omega, hV4.wr hx ho7 (by simp) (m7.weaken fun q _ hq=>aBlk_some hq), fun k2 hk2=>?_, hj4.mod hJ hJx (m7.weaken fun q _ hq=>by rw [aBlk_some hq]; exact hV4.oT)⟩, by dsimp only; omega⟩
     dsimp only
     rw [ht]
     by_cases e:k2 = k
     ·subst e
      rw [setD_eq _ (by omega), hOk, if_neg hnew, if_pos (by simp)]; omega
     ·rw [setD_ne _ e, hO4 k2 hk2]
      have:((k2:Nat):Int) ∈ (s9.z.getD v default).l.take i ++ [(k:Int)] ↔ ((k2:Nat):Int) ∈ (s9.z.getD v default).l.take i:=by
       rw [List.mem_append, List.mem_singleton]
       exact ⟨fun h=>h.resolve_right (by omega), .inl⟩
      simp only [this]
    ·have hke:i = (s9.z.getD v default).l.length:=by omega
     subst hke
     refine ⟨O, rfl, hV4, fun k hk=>?_, hj4⟩
     rw [hO4 k hk, List.take_length, hLv, outN_out hvP (hnd _ (gmem hk))]
     by_cases h:(v:Int) ∈ (vals x.g.edges).getD k default
     ·rw [if_pos (adjK_mem.2 ⟨k, hk, h, rfl⟩), if_pos h]; omega
     ·have hn:((k:Nat):Int) ∉ adjK (vals x.g.edges) (vals x.g.edges).length ((v:Nat):Int):=fun h2=>by
       obtain ⟨j, _, hj, hjk⟩:=adjK_mem.1 h2
       have:k = j:=by omega
       subst this; exact h hj
      rw [if_neg h, if_neg hn]; omega
   ·exact ⟨(xC66.1, xC66.2.1, xB2, xs8 ++ xC66.2.2.2), rfl, hBB2.1, hBB2.2.1, hBB2.2.2.app hv9⟩
end Go.Proofs.YtdbcfpcicjgghaaGreatDoor

/- Repair: the iterator over all repairs. -/
namespace Go.Proofs.YtdbcfpcicjgghaaGreatDoor
open Go.Vc
set_option maxRecDepth 100000
set_option maxHeartbeats 16000000
def GR (T:Nat → Prop) (B:Nat) (y:SlI) (W:World):Prop:=OwnT Vc.encI 1 3 B W y.a y.c y.l ∧ ∀ k, aBlk y.a k → ¬ T k
theorem all_seq (m gb ne:Nat) (g:GrW) (w0 w:World) (hE:GOk w0 g) (hne:ne = w0.heap.size) (hl:GLen g) (hv:validG (grV g) = true) (hd:Mod (From ne) w0 w) (hgb:ne ≤ gb) (hB:Blk w gb (.cells (Value.agg (encGr g).toArray).cells 25 (0, 0))) :
  SeqT m Tryz.prog 78 #[.pointer (some ⟨gb, 0, none⟩)] (fun y:SlI=>#[.slice y.a y.l.length y.c]) GR ne (fun k=>k = gb) (fun xs=>vals xs = repsG (grV g)) (fun pre=>∃ t, repsG (grV g) = vals pre ++ t) w:=by
 intro l J Jx W hEW hJe hJxe hY h0
 have hn:=costB_iff.1 (validG_iff.1 hv).1
 obtain ⟨N, hN⟩:∃ N:Nat, g.n = (N:Int):=⟨g.n.toNat, by have h0:0 ≤ g.n:=hn.1; omega⟩
 have hNt:g.n.toNat = N:=by omega
 have hE20:g.edges.length ≤ 20000:=by have:=(validG_iff.1 hv).2.1; simpa [grV, vals] using this
 have hgW:GOk W g:=(GOk.from hE (hne ▸ hd)).ext hEW
 have hgl:=hB.lt
 have hWw:=hEW.size
 refine Calls.mono (R:=fun e' w'=>∃ v, e' = .returned v ∧ ∃ T, OkT (fun k=>k = gb) W.heap.size T ∧ ((∃ xs, vals xs = repsG (grV g) ∧ J T xs w') ∨ (∃ pre, (∃ t, repsG (grV g) = vals pre ++ t) ∧ Jx T pre w'))) ?_ (fun e' w' ⟨v, h1, h2⟩=>⟨⟨v, h1⟩, h2⟩)
 refine enter (args:=[.func (.yield l) #[] #[], .pointer (some ⟨gb, 0, none⟩)]) Tryz.func78 rfl Tryz.ntmps78 (by kernel_rfl) rfl ?_
 have hBW:=hB.ext hEW
 refine V.seq (V.region (VL.box (v:=.func _ _ _) rfl fun yb w1 hyb e1 hY1=>VL.nil (V.seq (V.region (VL.op (R.ldA Tryz.isAgg25 Tryz.sizeOf25 rfl rfl ((show RowAt _ _ _ (encGr g) from (hBW.ext e1).rowAt 0 3)) rfl) (VL.callX Tryz.call72 rfl (begin_spec g N _ (hgW.ext e1) hl hv hN) fun s w2 h2 e2=>VL.allocSt (v:=.pointer _) Tryz.zeroValue79 Tryz.sizeOf79 rfl rfl rfl rfl rfl fun b1_2 w1_2 hb1_2 e1_2 hB1_2=>VL.nil (V.seq (?_))))))))
 have e02:=(e1.trans e2).trans e1_2
 have hB2:=hBW.ext e02
 refine V.region (VL.op (R.fld' (o:=2) Tryz.runUnderlying25 rfl rfl Tryz.sizeOf23 rfl rfl) (VL.op (R.ld1 Tryz.isAgg23 rfl ((show w1_2.cell? ⟨gb, 2, none⟩ = some (Value.slice g.ea g.edges.length g.ec) from hB2.cell 2))) (VL.op (R.lenS Tryz.runUnderlying23 rfl) (VL.makeSl (enc:=Vc.encI ) el22 ( (0:Int)) rfl rfl rfl (by omega) (by unfold maxLen; omega) e02.size fun oB w3 hoB e3 hO=>VL.allocSt (v:=.slice _ _ _) Tryz.zeroValue22 Tryz.sizeOf22 rfl rfl rfl rfl rfl fun b2_4 w2_4 hb2_4 e2_4 hB2_4=>VL.nil (V.seq (V.region (VL.op (R.mkFn rfl rfl) (VL.allocSt (v:=.func _ _ _) Tryz.zeroValue85 Tryz.sizeOf85 rfl rfl rfl rfl rfl fun b3_1 w3_1 hb3_1 e3_1 hB3_1=>VL.nil (V.seq (V.region (VL.alloc Tryz.zeroValue85 fun b4_0 w4_0 hb4_0 e4_0 hB4_0=>VL.nil (V.seq (V.region (VL.op (R.mkFn rfl rfl) (VL.store (v:=.func _ _ _) Tryz.sizeOf85 rfl rfl rfl rfl hB4_0 rfl rfl fun w5_1 m5_1 hs5_1 hB5_1=>VL.nil (?_))))))))))))))))
 have hB5:FnB w5_1 b4_0 81 [.pointer (some ⟨gb, 0, none⟩), .pointer (some ⟨yb, 0, none⟩), .pointer (some ⟨b1_2, 0, none⟩), .pointer (some ⟨b4_0, 0, none⟩), .pointer (some ⟨b2_4, 0, none⟩), .pointer (some ⟨b3_1, 0, none⟩)]:=hB5_1
 have hB3:FnB w3_1 b3_1 79 [.pointer (some ⟨b1_2, 0, none⟩), .pointer (some ⟨b2_4, 0, none⟩)]:=hB3_1
 clear hB5_1 hB3_1
 obtain ⟨hok, hst⟩:=h2
 have hpl:=hok.blk.lt
 have z1:=e1.size; have z2:=e2.size; have z3:=e1_2.size; have z4:=e3.size; have z5:=e2_4.size; have z6:=e3_1.size; have z7:=e4_0.size
 have hwe:=hY1.lt
 have f4:Ext w4_0 w4_0:=Vc.Mod.refl _ _
 have g3:Ext w3_1 w5_1:=e4_0.own m5_1 (by dsimp only; omega)
 have g2:Ext w2_4 w5_1:=e3_1.trans g3
 have g0:Ext w3 w5_1:=e2_4.trans g2
 have ga:Ext w1_2 w5_1:=e3.trans g0
 have gc:Ext w2 w5_1:=e1_2.trans ga
 have gd:Ext w1 w5_1:=e2.trans gc
 have gW:Ext W w5_1:=e1.trans gd
 have hB4l:=hB4_0.lt
 obtain ⟨x, hx⟩:∃ x:FxR, x = { g:=g, N:=N, l:=l, ne:=ne, B:=W.heap.size, U:=w5_1.heap.size, gb:=gb, yb:=yb, sb:=b1_2, vb:=b4_0, ob:=b2_4, pb:=b3_1, oB:=oB }:=⟨_, rfl⟩
 have hwne:ne ≤ w.heap.size:=hne ▸ hd.size
 have hxo:x.Ok w0:=by
  subst hx
  refine ⟨hE.e, hne, hl, hv, hN, by dsimp only; omega, hgb, by dsimp only; omega, ?_, ?_, ?_, ?_, ?_⟩ <;> (dsimp only; omega)
 have hOT:OkT (fun k=>k = gb) W.heap.size x.T:=fun k hk=>by
  subst hx
  rcases hk with hk | hk
  ·exact .inr hk.1
  ·exact .inl hk
 have hTb:∀ k, x.T k → k < w5_1.heap.size:=fun k hk=>by
  subst hx
  have:=gW.size
  rcases hk with hk | hk
  ·exact hk.2
  ·dsimp only at hk; omega
 have hrng:∀ e ∈ vals g.edges, ∀ y ∈ e, 0 ≤ y:=fun e he y hy=>(((validG_iff.1 hv).2.2.1 e he).2.2 y hy).1
 have hVs:VSt x w0 w5_1 s (List.replicate g.edges.length 0) []:=by
  subst hx
  refine ⟨hBW.ext gW, hY1.ext gd, hB1_2.ext ga, hB5, ?_, hB3.ext g3, (hok.weaken z1).ext gc, hst, ?_, by simp, by dsimp only; omega, by dsimp only; omega, fun j q hq=>?_, ?_, Nat.le_refl _⟩
  ·have:=hB2_4.ext g2
   dsimp only
   unfold PtO
   rw [List.length_replicate]
   exact this
  ·dsimp only
   rw [List.length_replicate]
   exact hO.ext g0
  ·have:=(hok.a.each j).lt q hq
   dsimp only
   omega
  ·exact (hd.ext hEW).ext gW
 have xB:x.B = W.heap.size:=by rw [hx]
 have xN:x.N = N:=by rw [hx]
 have xg:x.g = g:=by rw [hx]
 have xne:x.ne = ne:=by rw [hx]
 have xl:x.l = l:=by rw [hx]
 have xv:x.vb = b4_0:=by rw [hx]
 have hvb:FnB w5_1 b4_0 81 x.caps:=xv ▸ hVs.vb
 have xcaps:x.caps = [.pointer (some ⟨gb, 0, none⟩), .pointer (some ⟨yb, 0, none⟩), .pointer (some ⟨b1_2, 0, none⟩), .pointer (some ⟨b4_0, 0, none⟩), .pointer (some ⟨b2_4, 0, none⟩), .pointer (some ⟨b3_1, 0, none⟩)]:=by rw [hx]; rfl
 have hO0:OIs (vals x.g.edges) (List.replicate g.edges.length 0) [] 0:=fun i hi=>by
  rw [xg] at hi ⊢
  have hi2:=hi
  rw [List.length_map] at hi2
  rw [rep_at hi2]
  have:outN ((vals g.edges).getD i default) [] 0 = 0:=by
   unfold outN
   rw [List.length_eq_zero_iff, List.filter_eq_nil_iff]
   intro y hy
   have:=hrng _ (gmem hi) y hy
   simp
   omega
  rw [this]; rfl
 have hrp0:repK (vals g.edges) N N [] = repsG (grV g):=by rw [← hNt]; rfl
 have hcall:RetsY Tryz.prog 81 (.int .i64 0 :: x.caps).toArray w5_1 (fun z:Bool × StW × List Int × List SlI=>.bool z.1)
   (fun z W'=>VSt x w0 W' z.2.1 z.2.2.1 [] ∧ OIs (vals x.g.edges) z.2.2.1 [] 0 ∧ EndR (J x.T) (Jx x.T) [] (repK (vals x.g.edges) x.N N []) z.1 z.2.2.2 W'):=by
  refine visit_spec x w0 hxo m (J x.T) (Jx x.T) (fun s A B h1 h2=>hJe x.T s A B hOT h1 h2) (fun s A B h1 h2=>hJxe x.T s A B hOT h1 h2) (repsG (grV g)) (fun pre y W1 h1 h2 h3 h4=>?_) N 0 (by rw [xN, Nat.zero_add]) s (List.replicate g.edges.length 0) [] [] w5_1 hVs (by rw [xg]; exact Pre.start fun e he=>((validG_iff.1 hv).2.2.1 e he).1) hO0 (h0 x.T w5_1 hOT hTb gW) ⟨[], by rw [List.append_nil, xN, xg, hrp0]; rfl⟩
  rw [xl, xne]
  exact hY x.T pre y W1 hOT h1 ⟨xB ▸ h3, h4⟩ h2
 rw [xN, xg, xcaps] at hcall
 clear hVs hvb
 refine V.region (VL.op (R.ld1 Tryz.isAgg85 rfl ((hB5.cell _))) (VL.callCY rfl (Tryz.call81) rfl (hcall) fun z6 w6 h6=>VL.nil (fend0 rfl (?_))))
 have hrp:repK (vals g.edges) N N [] = repsG (grV g):=by rw [← hNt]; rfl
 obtain ⟨_, _, hE6⟩:=h6
 rw [hrp] at hE6
 rcases hE6 with ⟨_, h7, h8⟩ | ⟨_, h7, h8⟩
 ·exact ⟨x.T, hOT, .inl ⟨_, h7, h8⟩⟩
 ·exact ⟨x.T, hOT, .inr ⟨_, h7, h8⟩⟩
theorem all_spec28 (g:GrW) (w:World):RetsX Tryz.prog 51 #[.agg (encGr g).toArray] w (fun gb:Nat=>.func (.func 78) #[] #[.pointer (some ⟨gb, 0, none⟩)]) (fun gb w'=>w.heap.size ≤ gb ∧ Blk w' gb (.cells (Value.agg (encGr g).toArray).cells 25 (0, 0))):=by
 refine enter (args:=[_]) Tryz.func51 rfl Tryz.ntmps51 (by kernel_rfl) rfl ?_
 refine V.seq (V.region (VL.box (v:=.agg _) rfl fun gb w1 hgb e1 hG1=>VL.op (R.as rfl) (VL.nil (V.seq (V.region (VL.op (R.mkFn rfl rfl) (VL.op (R.asF rfl) (VL.nil (V.ret (fret1 (v:=.func _ _ _) rfl rfl rfl (⟨gb, rfl, ⟨by omega, hG1⟩, e1⟩)))))))))))
end Go.Proofs.YtdbcfpcicjgghaaGreatDoor

/- Repair: Independent, Is. -/
namespace Go.Proofs.YtdbcfpcicjgghaaGreatDoor
open Go.Vc
end Go.Proofs.YtdbcfpcicjgghaaGreatDoor

/- Repair: List. -/
namespace Go.Proofs.YtdbcfpcicjgghaaGreatDoor
open Go.Vc
set_option maxRecDepth 100000
set_option maxHeartbeats 16000000
theorem leaves_cell2 {n:Nat} {P:Program} {N:Nat} {ρ:Env} {w:World} {fn:Func} {D a1 t1 b1 a2 t2 b2:Nat} {v1 v2:Value} {RR:Ending → World → Prop} (hres:fn.results = #[.cell a1 t1, .cell a2 t2]) (ha1:Nat.blt a1 N = true) (ha2:Nat.blt a2 N = true) (hx1:ρ a1 = .pointer (some ⟨b1, 0, none⟩)) (hx2:ρ a2 = .pointer (some ⟨b2, 0, none⟩)) (hK:w.heap[D]? = some (.deferred (some [])))
  (hB1:Blk w b1 (.cells #[v1] t1 (0, 0))) (hB2:Blk w b2 (.cells #[v2] t2 (0, 0))) (hn1:D ≠ b1) (hn2:D ≠ b2) (hg1:∀ w, (isAgg t1).run P w = .ok false w) (hg2:∀ w, (isAgg t2).run P w = .ok false w)
  (hR:∀ w', Mod (Vc.one D) w w' → RR (.returned (.tuple #[v1, v2])) w'):LeavesInM Fence.wide n P fn (act N ρ).tmps RR [{ target:=.collected D, args:=#[] }] .returning w:=by
 have hm:Mod (Vc.one D) w (w.putObj D (.deferred none)):=putObj_mod _
 have hB1':Blk (w.putObj D (.deferred none)) b1 (.cells #[v1] t1 (0, 0)):=hB1.mod hm (fun e=>hn1 e.symm)
 have hB2':Blk (w.putObj D (.deferred none)) b2 (.cells #[v2] t2 (0, 0)):=hB2.mod hm (fun e=>hn2 e.symm)
 refine ⟨by simp, .inl ⟨D, _, rfl, run_takeDeferred hK, .tuple #[v1, v2], ?_, hR _ hm⟩⟩
 have e1:=tmps_getD (ρ:=ρ) ha1
 have e2:=tmps_getD (ρ:=ρ) ha2
 rw [hx1] at e1
 rw [hx2] at e2
 have hc1:(w.putObj D (.deferred none)).cell? ⟨b1, 0, none⟩ = some v1:=hB1'.cell _
 have hc2:(w.putObj D (.deferred none)).cell? ⟨b2, 0, none⟩ = some v2:=hB2'.cell _
 rw [Array.getD_eq_getD_getElem?] at e1 e2
 simp only [results, hres]
 simp [e1, e2, go_sem, loadVar, hg1, hg2, hc1, hc2]
theorem res_cell2 {N:Nat} {P:Program} {ρ:Env} {w:World} {fn:Func} {a1 t1 b1 a2 t2 b2:Nat} {v1 v2:Value} (hres:fn.results = #[.cell a1 t1, .cell a2 t2]) (ha1:Nat.blt a1 N = true) (ha2:Nat.blt a2 N = true) (hx1:ρ a1 = .pointer (some ⟨b1, 0, none⟩)) (hx2:ρ a2 = .pointer (some ⟨b2, 0, none⟩))
  (hB1:Blk w b1 (.cells #[v1] t1 (0, 0))) (hB2:Blk w b2 (.cells #[v2] t2 (0, 0))) (hg1:∀ w, (isAgg t1).run P w = .ok false w) (hg2:∀ w, (isAgg t2).run P w = .ok false w) :
  (results fn (act N ρ).tmps).run P w = .ok (.tuple #[v1, v2]) w:=by
 have e1:=tmps_getD (ρ:=ρ) ha1
 have e2:=tmps_getD (ρ:=ρ) ha2
 rw [hx1] at e1
 rw [hx2] at e2
 have hc1:w.cell? ⟨b1, 0, none⟩ = some v1:=hB1.cell _
 have hc2:w.cell? ⟨b2, 0, none⟩ = some v2:=hB2.cell _
 rw [Array.getD_eq_getD_getElem?] at e1 e2
 simp only [results, hres]
 simp [e1, e2, go_sem, loadVar, hg1, hg2, hc1, hc2]
def listG (g:Gr):List (List Int) × Int:=if validG g = true then (if (repsG g).length ≤ 1000 then (repsG g, 0) else ([], 3)) else ([], 1)
structure LsR where
 a:Option Addr
 c:Nat
 L:List SlI
 e:Int
structure LsOk (B:Nat) (w:World) (a:Option Addr) (c:Nat) (L:List SlI):Prop where
 own:OwnT encSl 1 22 B w a c L
 each:∀ y ∈ L, OwnT Vc.encI 1 3 B w y.a y.c y.l
theorem LsOk.nil (B:Nat) (w:World):LsOk B w none 0 []:=⟨OwnT.nil _ _ _ _ _, fun _ h=>nomatch h⟩
def LsB (a:Option Addr) (L:List SlI) (k:Nat):Prop:=aBlk a k ∨ ∃ y ∈ L, aBlk y.a k
theorem LsOk.mod {B:Nat} {w w':World} {a:Option Addr} {c:Nat} {L:List SlI} {S:Nat → Prop} (h:LsOk B w a c L) (m:Vc.Mod S w w') (hS:∀ k, LsB a L k → ¬ S k):LsOk B w' a c L :=
 ⟨h.own.mod m fun k hk=>hS k (.inl hk), fun y hy=>(h.each y hy).mod m fun k hk=>hS k (.inr ⟨y, hy, hk⟩)⟩
theorem LsOk.ge {B:Nat} {w:World} {a:Option Addr} {c:Nat} {L:List SlI} (h:LsOk B w a c L):∀ k, LsB a L k → B ≤ k:=fun k hk=>by
 rcases hk with hk | ⟨y, hy, hk⟩
 ·exact h.own.ge k hk
 ·exact (h.each y hy).ge k hk
structure LsP (w w4:World) (b2 b3 b4:Nat) (T:Nat → Prop) (pre:List SlI) (W:World) (a:Option Addr) (c:Nat):Prop where
 b4:Blk W b4 (.cells #[.slice a pre.length c] 23 (0, 0))
 ls:LsOk (w4.heap.size + 2) W a c pre
 nT:∀ k, LsB a pre k → ¬ T k
 tS:∀ k, T k → k < W.heap.size
 len:pre.length ≤ 1000
 b2:Blk W b2 (.cells #[.slice none 0 0] 23 (0, 0))
 b3:Blk W b3 (.cells #[.int .i64 0] 34 (0, 0))
 m:Mod (From w.heap.size) w W
theorem list_spec28 (g:GrW) (B:Nat) (w:World) (hG:GOk w g) (hl:GLen g) (hB:B ≤ w.heap.size) (hT:TabW B w) :
  RetsX Tryz.prog 32 #[.agg (encGr g).toArray] w (fun x:LsR=>.tuple #[.slice x.a x.L.length x.c, .int .i64 x.e]) (fun x w'=>LsOk w.heap.size w' x.a x.c x.L ∧ (vals x.L, x.e) = listG (grV g)):=by
 refine enterW (args:=[_]) 2 Tryz.func32 rfl Tryz.ntmps32 rfl ?_
 refine InW.seqV (by kernel_rfl) ?_
 refine V.region (VL.box (v:=.agg _) rfl fun b0_0 w0_0 hb0_0 e0_0 hB0_0=>VL.alloc Tryz.zeroValue23 fun b0_1 w0_1 hb0_1 e0_1 hB0_1=>VL.alloc Tryz.zeroValue34 fun b0_2 w0_2 hb0_2 e0_2 hB0_2=>VL.nil (?_))
 have h1:Blk w0_2 b0_0 (.cells (Value.agg (encGr g).toArray).cells 25 (0, 0)):=(hB0_0.ext e0_1).ext e0_2
 have h2:Blk w0_2 b0_1 (.cells #[.slice none 0 0] 23 (0, 0)):=hB0_1.ext e0_2
 have h3:Blk w0_2 b0_2 (.cells #[.int .i64 0] 34 (0, 0)):=hB0_2
 have e1:Ext w w0_2:=(e0_0.trans e0_1).trans e0_2
 have n2:w.heap.size ≤ b0_1:=by have:=e0_0.size; omega
 have n3:w.heap.size ≤ b0_2:=by have:=(e0_0.trans e0_1).size; omega
 have n23:b0_1 < b0_2:=by have:=hB0_1.lt; omega
 have hg2:=Tryz.isAgg23
 have hg3:=Tryz.isAgg34
 refine InW.seqV (by kernel_rfl) (V.seq ?_)
 refine V.region (VL.op (R.ldA Tryz.isAgg25 Tryz.sizeOf25 rfl rfl ((show RowAt _ _ _ (encGr g) from h1.rowAt 0 3)) rfl) (VL.callP Tryz.call48 rfl (valid_spec g B _ (hG.ext e1) hl (Nat.le_trans hB e1.size) (hT.ext hB e1)) fun w1_1 e1_1=>VL.op (R.not rfl) (VL.nil (V.cond rfl (fun c8=>V.seq (?_)) (fun c8=>V.skip (?_))))))
 ·refine V.region (VL.store (v:=.slice _ _ _) Tryz.sizeOf23 rfl rfl rfl rfl (h2.ext e1_1) rfl rfl fun w7 m7 hs7 hB7=>VL.store (v:=.int _ _) Tryz.sizeOf34 rfl rfl rfl rfl ((h3.ext e1_1).mod m7 (by unfold Vc.one; dsimp only; omega)) rfl rfl fun w8 m8 hs8 hB8=>VL.nil (V.ret (?_)))
  refine ⟨_, res_cell2 rfl rfl rfl rfl rfl (hB7.mod m8 (by unfold Vc.one; dsimp only; omega)) hB8 hg2 hg3, _, rfl, ⟨none, 0, [], 1⟩, rfl, ⟨LsOk.nil _ _, ?_⟩, (((e1.trans e1_1).own m7 n2).own m8 n3)⟩
  unfold listG
  rw [if_neg (by simpa using c8)]; rfl
 ·have hv:validG (grV g) = true:=by simpa using c8
  refine InW.seqV (by kernel_rfl) ?_
  refine V.region (VL.alloc Tryz.zeroValue23 fun b3_0 w3_0 hb3_0 e3_0 hB3_0=>VL.nil (?_))
  have e3:Ext w w3_0:=(e1.trans e1_1).trans e3_0
  refine InW.seqI (InW.seqV (by kernel_rfl) ?_)
  refine V.region (VL.op (R.ldA Tryz.isAgg25 Tryz.sizeOf25 rfl rfl ((show RowAt _ _ _ (encGr g) from ((h1.ext e1_1).ext e3_0).rowAt 0 3)) rfl) (VL.callX Tryz.call51 rfl (all_spec28 g w3_0) fun gb w4 ⟨hgb, hGb⟩ e4=>VL.nil (?_)))
  refine InW.gen fun ρ4 hρ=>InW.block ⟨?_⟩
  have s2:ρ4 2 = .pointer (some ⟨b0_1, 0, none⟩):=by rw [hρ]; rfl
  have s3:ρ4 3 = .pointer (some ⟨b0_2, 0, none⟩):=by rw [hρ]; rfl
  have s4:ρ4 4 = .pointer (some ⟨b3_0, 0, none⟩):=by rw [hρ]; rfl
  have s10:ρ4 10 = .func (.func 78) #[] #[.pointer (some ⟨gb, 0, none⟩)]:=by rw [hρ]; rfl
  clear hρ
  have e40:Ext w w4:=e3.trans e4
  have h24:=((h2.ext e1_1).ext e3_0).ext e4
  have h34:=((h3.ext e1_1).ext e3_0).ext e4
  have h44:=hB3_0.ext e4
  have l34:=h34.lt
  have z11:=e1_1.size
  have z3:=e3_0.size
  have l03:=hB0_2.lt
  have l30:=hB3_0.lt
  have z1:=e1.size
  have lgb:=hGb.lt
  have ng:w.heap.size ≤ gb:=Nat.le_trans e3.size hgb
  have n4:w.heap.size ≤ b3_0:=by omega
  have o1:b0_1 < gb:=by omega
  have o2:b0_2 < gb:=by omega
  have o3:b3_0 < gb:=by omega
  have o4:b0_2 < b3_0:=by omega
  have hseq:=all_seq 1 gb w.heap.size g w w4 hG rfl hl hv e40.mod ng hGb
  have offT:∀ {T:Nat → Prop} {k:Nat}, OkT (fun k=>k = gb) (w4.heap.size + 2) T → k < gb → ¬ T k:=fun hT hk h=>by
   rcases hT _ h with h | h <;> omega
  refine rangeT (m:=1) (gf:=78) (lb:=#[.pointer (some ⟨gb, 0, none⟩)]) ((eval_act rfl).trans s10) Tryz.call78 (ne:=w.heap.size) (Lb:=fun k=>k = gb) e40.size (fun k hk=>by subst hk; exact hGb.lt) hseq (fun _=>rfl)
   (fun T pre W=>∃ a c, LsP w w4 b0_1 b0_2 b3_0 T pre W a c) (fun _ pre W=>Blk W b0_1 (.cells #[.slice none 0 0] 23 (0, 0)) ∧ Blk W b0_2 (.cells #[.int .i64 3] 34 (0, 0)) ∧ 1000 < pre.length ∧ Mod (From w.heap.size) w W) ?hp ?hpx ?hGm ?h0
   (fun x=>act 20 (upd (upd ρ4 11 (.slice x.a x.l.length x.c)) 5 (.slice x.a x.l.length x.c))) ?hassign ?hbody ?hdone ?hstop
  case hp =>
   rintro T pre A A' hT ⟨a, c, h⟩ hm
   refine ⟨a, c, h.b4.mod hm ?_, h.ls.mod hm fun k hk hk2=>?_, h.nT, fun k hk=>Nat.lt_of_lt_of_le (h.tS k hk) hm.size, h.len, h.b2.mod hm ?_, h.b3.mod hm ?_, h.m.then hm fun k _ hk=>?_⟩
   ·rintro (h1 | h1 | h1)
    ·exact offT hT o3 h1
    ·omega
    ·omega
   ·have:=h.ls.ge k hk
    rcases hk2 with h1 | h1 | h1
    ·exact h.nT k hk h1
    ·omega
    ·omega
   ·rintro (h1 | h1 | h1)
    ·exact offT hT o1 h1
    ·omega
    ·omega
   ·rintro (h1 | h1 | h1)
    ·exact offT hT o2 h1
    ·omega
    ·omega
   ·show _ ≤ _
    rcases hk with h1 | h1 | h1
    ·rcases hT _ h1 with h2 | h2
     ·rw [h2]; exact ng
     ·have:=e40.size; omega
    ·have:=e40.size; omega
    ·have:=e40.size; omega
  case hpx =>
   rintro T pre A A' hT ⟨p1, p2, p3, p4⟩ hm
   refine ⟨p1.mod hm ?_, p2.mod hm ?_, p3, p4.then hm fun k _ hk=>?_⟩
   ·rintro (h1 | h1 | h1)
    ·exact offT hT o1 h1
    ·omega
    ·omega
   ·rintro (h1 | h1 | h1)
    ·exact offT hT o2 h1
    ·omega
    ·omega
   ·show _ ≤ _
    rcases hk with h1 | h1 | h1
    ·rcases hT _ h1 with h2 | h2
     ·rw [h2]; exact ng
     ·have:=e40.size; omega
    ·have:=e40.size; omega
    ·have:=e40.size; omega
  case hGm =>
   rintro T x A A' hT ⟨g1, g2⟩ hm
   exact ⟨g1.mod hm fun k hk h=>by have:=g1.ge k hk; omega, g2⟩
  case h0 =>
   intro T W hT hb hW
   exact ⟨none, 0, h44.ext hW, LsOk.nil _ _, fun k hk=>(by rcases hk with ⟨ad, h, _⟩ | ⟨y, hy, _⟩; cases h; cases hy), hb, Nat.zero_le _, h24.ext hW, h34.ext hW, Ext.mod (e40.trans hW)⟩
  case hassign =>
   intro lp x W K hK
   exact assign1 (N:=20) (ρ:=ρ4) rfl rfl hK
  case hbody =>
   rintro lp T pre x W hT ⟨a, c, hp⟩ ⟨g1, g2⟩ _ hWs
   have hlen:=hp.len
   have okb:∀ b, w.heap.size ≤ b → b < gb → ∀ k, Vc.one b k → (w.heap.size ≤ k ∧ ¬ T k ∧ k ≠ w4.heap.size ∧ k ≠ w4.heap.size + 1):=fun b h1 h2 k hk=>by
    unfold Vc.one at hk
    subst hk
    exact ⟨h1, offT hT h2, by omega, by omega⟩
   refine VI.use (Q:=fun e _ W'=>match e with
    | .normal=>(∃ a c, LsP w w4 b0_1 b0_2 b3_0 T (pre ++ [x]) W' a c) ∧ Mod (fun k=>w.heap.size ≤ k ∧ ¬ T k ∧ k ≠ w4.heap.size ∧ k ≠ w4.heap.size + 1) W W'
    | .ret=>(Blk W' b0_1 (.cells #[.slice none 0 0] 23 (0, 0)) ∧ Blk W' b0_2 (.cells #[.int .i64 3] 34 (0, 0)) ∧ 1000 < (pre ++ [x]).length ∧ Mod (From w.heap.size) w W') ∧ Mod (fun k=>w.heap.size ≤ k ∧ ¬ T k ∧ k ≠ w4.heap.size ∧ k ≠ w4.heap.size + 1) W W'
    | _=>False) (by kernel_rfl) ?_ (fun e _ _ h=>h)
   obtain ⟨ρ5, h5⟩:∃ ρ5, ρ4 = upd (upd (upd ρ5 2 (.pointer (some ⟨b0_1, 0, none⟩))) 3 (.pointer (some ⟨b0_2, 0, none⟩))) 4 (.pointer (some ⟨b3_0, 0, none⟩)):=⟨ρ4, by rw [upd_eq s2, upd_eq s3, upd_eq s4]⟩
   rw [h5]
   refine VI.block (VI.seq (VI.seq ?_))
   refine VI.region (fun _ _ h=>h) rfl (VL.op (R.ld1 Tryz.isAgg23 rfl ((hp.b4.cell _))) (VL.op (R.lenS Tryz.runUnderlying23 rfl) (VL.op (R.eql rfl rfl) (VL.nil (?_)))))
   refine VI.cond rfl (fun c14=>VI.seq ?_) (fun c14=>VI.skip ?_)
   ·refine VI.region (fun _ _ h=>h) rfl (VL.store (v:=.slice _ _ _) Tryz.sizeOf23 rfl rfl rfl rfl hp.b2 rfl rfl fun w7 m7 hs7 hB7=>VL.store (v:=.int _ _) Tryz.sizeOf34 rfl rfl rfl rfl (hp.b3.mod m7 (by unfold Vc.one; dsimp only; omega)) rfl rfl fun w8 m8 hs8 hB8=>VL.nil (?_))
    refine VI.ret ⟨⟨hB7.mod m8 (by unfold Vc.one; dsimp only; omega), hB8, ?_, ?_⟩, ?_⟩
    ·have:(pre.length:Int) = 1000:=by simpa using c14
     rw [List.length_append]
     simp only [List.length_cons, List.length_nil]
     omega
    ·exact (hp.m.then m7 fun k _ hk=>(okb b0_1 n2 o1 k hk).1).then m8 fun k _ hk=>(okb b0_2 n3 o2 k hk).1
    ·exact (m7.weaken fun k _ hk=>okb b0_1 n2 o1 k hk).trans (m8.weaken fun k _ hk=>okb b0_2 n3 o2 k hk)
   ·refine VI.region (fun _ _ h=>h) rfl (VL.op (R.ld1 Tryz.isAgg23 rfl ((hp.b4.cell _))) (VL.op (R.mvS rfl) (VL.append1 el23 Tryz.runUnderlying23 Tryz.sizeOf22 Tryz.zeroValue22 rfl (x) rfl rfl rfl hp.ls.own rfl rfl rfl (by omega) (by unfold maxLen; omega) hWs fun a8 c8 w8 vt8 ho8 m8 hf8=>VL.store (v:=.slice _ _ _) Tryz.sizeOf23 rfl rfl rfl rfl (hp.b4.mod m8 (fun h=>by have:=hp.ls.ge _ (.inl h); omega)) rfl rfl fun w9 m9 hs9 hB9=>VL.nil (?_))))
    have ap:∀ y:SlI, OwnT Vc.encI 1 3 (w4.heap.size + 2) W y.a y.c y.l → ∀ k, aBlk y.a k → ¬ aBlk a k:=fun y hy k hk ⟨ad, ha, hk2⟩=>by
     obtain ⟨c', z', hb'⟩:=(OwnT.tyA hp.ls.own) ad ha
     exact (OwnT.tyA hy).apart hb' (by decide) (hk2 ▸ hk)
    have z8:=m8.size
    have z9:=m9.size
    have offA:∀ {b:Nat}, b < gb → ¬ aBlk a b:=fun hb h=>by have:=hp.ls.ge _ (.inl h); omega
    have ev:∀ y:SlI, OwnT Vc.encI 1 3 (w4.heap.size + 2) W y.a y.c y.l → OwnT Vc.encI 1 3 (w4.heap.size + 2) w9 y.a y.c y.l:=fun y hy=>(hy.mod m8 (ap y hy)).mod m9 fun k hk h=>by
     have:=hy.ge k hk
     unfold Vc.one at h; dsimp only at h; omega
    have mA:∀ k, aBlk a k → (w.heap.size ≤ k ∧ ¬ T k ∧ k ≠ w4.heap.size ∧ k ≠ w4.heap.size + 1):=fun k hk=>by
     have:=hp.ls.ge k (.inl hk)
     have:=e40.size
     exact ⟨by omega, hp.nT k (.inl hk), by omega, by omega⟩
    refine ⟨⟨a8, c8, ?_, ⟨ho8.mod m9 fun k hk h=>?_, fun y hy=>?_⟩, fun k hk=>?_, fun k hk=>by have:=hp.tS k hk; omega, ?_, (hp.b2.mod m8 (offA o1)).mod m9 (by unfold Vc.one; dsimp only; omega), (hp.b3.mod m8 (offA o2)).mod m9 (by unfold Vc.one; dsimp only; omega), ?_⟩, ?_⟩
    ·rw [List.length_append]; exact hB9
    ·have:=ho8.ge k hk
     unfold Vc.one at h; dsimp only at h; omega
    ·rcases List.mem_append.1 hy with hy | hy
     ·exact ev y (hp.ls.each y hy)
     ·rw [List.mem_singleton] at hy
      rw [hy]; exact ev x g1
    ·rcases hk with hk | ⟨y, hy, hk⟩
     ·rcases hf8 k hk with h | h
      ·exact hp.nT k (.inl h)
      ·intro h2
       have:=hp.tS k h2
       omega
     ·rcases List.mem_append.1 hy with hy | hy
      ·exact hp.nT k (.inr ⟨y, hy, hk⟩)
      ·rw [List.mem_singleton] at hy
       rw [hy] at hk
       exact g2 k hk
    ·have:¬ (pre.length:Int) = 1000:=by simpa using c14
     rw [List.length_append]
     simp only [List.length_cons, List.length_nil]
     omega
    ·exact (hp.m.then m8 fun k _ hk=>(mA k hk).1).then m9 fun k _ hk=>(okb b3_0 n4 o3 k hk).1
    ·exact (m8.weaken fun k _ hk=>mA k hk).trans (m9.weaken fun k _ hk=>okb b3_0 n4 o3 k hk)
  case hdone =>
   rintro T xs W hT hS ⟨a, c, hp⟩ hK
   obtain ⟨ρ5, h5⟩:∃ ρ5, ρ4 = upd (upd (upd ρ5 2 (.pointer (some ⟨b0_1, 0, none⟩))) 3 (.pointer (some ⟨b0_2, 0, none⟩))) 4 (.pointer (some ⟨b3_0, 0, none⟩)):=⟨ρ4, by rw [upd_eq s2, upd_eq s3, upd_eq s4]⟩
   rw [h5]
   refine retD (by kernel_rfl) (by kernel_rfl) ?_
   refine VL.op (R.ld1 Tryz.isAgg23 rfl ((hp.b4.cell _))) (VL.store (v:=.slice _ _ _) Tryz.sizeOf23 rfl rfl rfl rfl hp.b2 rfl rfl fun w7 m7 hs7 hB7=>VL.store (v:=.int _ _) Tryz.sizeOf34 rfl rfl rfl rfl (hp.b3.mod m7 (by unfold Vc.one; dsimp only; omega)) rfl rfl fun w8 m8 hs8 hB8=>VL.nil ⟨rfl, ?_⟩)
   have z7:=m7.size
   have z8:=m8.size
   have hKl:=(Array.getElem?_eq_some_iff.1 hK).1
   have hK7:w7.heap[w4.heap.size]? = some (.deferred (some [])):=(m7.blk _ hKl (by unfold Vc.one; dsimp only; omega)) ▸ hK
   have hK8:w8.heap[w4.heap.size]? = some (.deferred (some [])):=(m8.blk _ (Nat.lt_of_lt_of_le hKl z7) (by unfold Vc.one; dsimp only; omega)) ▸ hK7
   refine leaves_cell2 rfl rfl rfl rfl rfl hK8 (hB7.mod m8 (by unfold Vc.one; dsimp only; omega)) hB8 (by omega) (by omega) hg2 hg3 fun W2 hm2=>?_
   have hlen:=hp.len
   refine ⟨_, rfl, ⟨a, c, xs, 0⟩, rfl, ⟨?_, ?_⟩, ?_⟩
   ·have off:∀ {A A':World} {b:Nat}, b < w4.heap.size + 2 → Vc.Mod (Vc.one b) A A' → LsOk (w4.heap.size + 2) A a c xs → LsOk (w4.heap.size + 2) A' a c xs:=fun hb m h=>h.mod m fun k hk h2=>by
     have:=h.ge k hk
     unfold Vc.one at h2
     omega
    have:=off (by omega) hm2 (off (by dsimp only; omega) m8 (off (by dsimp only; omega) m7 hp.ls))
    have z4:=e40.size
    exact ⟨this.own.weaken (by omega), fun y hy=>(this.each y hy).weaken (by omega)⟩
   ·dsimp only
    unfold listG
    rw [if_pos hv, if_pos (by rw [← hS, List.length_map]; exact hlen), hS]
   ·exact (((Mod.ownA (Mod.refl Vc.nob w) hp.m fun k hk=>hk).own m7 n2).own m8 n3).own hm2 e40.size
  case hstop =>
   rintro T pre W hT hSp ⟨p1, p2, p3, p4⟩ hK
   refine leaves_cell2 rfl rfl rfl s2 s3 hK p1 p2 (by omega) (by omega) hg2 hg3 fun W2 hm2=>?_
   refine ⟨_, rfl, ⟨none, 0, [], 3⟩, rfl, ⟨LsOk.nil _ _, ?_⟩, ?_⟩
   ·obtain ⟨t, ht⟩:=hSp
    unfold listG
    rw [if_pos hv, if_neg]
    ·rfl
    ·rw [ht, List.length_append]
     simp only [vals, List.length_map]
     omega
   ·exact (Mod.ownA (Mod.refl Vc.nob w) p4 fun k hk=>hk).own hm2 e40.size
end Go.Proofs.YtdbcfpcicjgghaaGreatDoor
