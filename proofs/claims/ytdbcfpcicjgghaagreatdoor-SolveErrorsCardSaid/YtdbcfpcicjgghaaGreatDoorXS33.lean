/- Solve: the reference: the size of the named part, the error of a question. -/
import Derived.Test.YtdbcfpcicjgghaaGreatDoorXS17
import Derived.Test.YtdbcfpcicjgghaaGreatDoorXS13
import Derived.Test.YtdbcfpcicjgghaaGreatDoorXQ6
import Derived.Test.YtdbcfpcicjgghaaGreatDoorXS30
namespace Go.Proofs.YtdbcfpcicjgghaaGreatDoor
set_option maxHeartbeats 16000000
open Go.Vc
set_option maxRecDepth 100000
set_option maxHeartbeats 16000000
theorem named_step {F:Nat → Bool} {l:List Int} {bs:List Bool} {N i v:Nat} (hb:∀ u:Nat, u < N → bs.getD u default = (F u || decide ((u:Int) ∈ l.take i))) (hil:i < l.length) (hv:l.getD i default = (v:Int)) (hvN:v < N) (hbl:bs.length = N):∀ u:Nat, u < N → (bs.set v true).getD u default = (F u || decide ((u:Int) ∈ l.take (i + 1))):=fun u hu=>by
 have ht:l.take (i + 1) = l.take i ++ [(v:Int)]:=by rw [List.take_succ_eq_append_getElem hil, ← hv, gget hil]
 rw [ht]
 by_cases e:u = v
 ·subst e
  rw [setD_eq _ (by omega), decide_eq_true (by simp), Bool.or_true]
 ·rw [setD_ne _ e, hb u hu]
  congr 1
  refine decide_eq_decide.2 ?_
  rw [List.mem_append, List.mem_singleton]
  exact ⟨.inl, fun h=>h.resolve_right (by omega)⟩
theorem nmW_snoc (W:List Wy) (x:Wy) (v:Int):nmW (W ++ [x]) v = (nmW W v || (decide (v ∈ x.pos) || decide (v ∈ x.neg))):=by
 unfold nmW
 rw [List.any_append, List.any_cons, List.any_nil, Bool.or_false]
theorem any_take {l:List Int} {F:Int → Bool} {k:Nat} (hk:k < l.length):(l.take (k + 1)).any F = ((l.take k).any F || F (l.getD k default)):=by
 rw [take_snoc hk, List.any_append, List.any_cons, List.any_nil, Bool.or_false]
theorem ptI_len (g:Gr) (W:List Wy):(ptI g W).length = (ptL W (compsG g)).length:=srtF_len _
theorem rsize29_spec (g:GrW) (wa:Option Addr) (wc:Nat) (W:List WyI) (w:World) (hG:GOk w g) (hl:GLen g) (hW:WL w wa W) (hWl:∀ y ∈ W, WLen y) (hWm:W.length ≤ 1000000) (hr:readyG (grV g) (W.map wyV) = true) :
  RetsP Tryz.prog 25 #[.agg (encGr g).toArray, .slice wa W.length wc] w (.int .i64 ((ptI (grV g) (W.map wyV)).length:Nat)):=by
 refine enter (args:=[_, _]) Tryz.func25 rfl Tryz.ntmps25 (by kernel_rfl) rfl ?_
 have hok:=ready_ok hr true []
 have hv:=hok.v
 have hn:=costB_iff.1 (validG_iff.1 hv).1
 have hgn:(grV g).n = g.n:=rfl
 obtain ⟨N, hN⟩:∃ N:Nat, g.n = (N:Int):=⟨g.n.toNat, by have h0:0 ≤ g.n:=hn.1; omega⟩
 have hN4:N ≤ 4000:=by have h0:g.n ≤ 4000:=hn.2.1; omega
 obtain ⟨vs, hV⟩:∃ vs, vs = W.map wyV:=⟨_, rfl⟩
 have hwy:∀ y ∈ W, setB y.p.l g.n = true ∧ setB y.n.l g.n = true:=fun y hy=>by
  unfold readyG at hr
  rw [Bool.and_eq_true, List.all_eq_true] at hr
  have:=hr.2 _ (List.mem_map_of_mem hy)
  unfold wyB at this
  rwa [Bool.and_eq_true] at this
 rw [← hV]
 refine V.seq (V.region (VL.box (v:=.agg _) rfl fun b0_0 w0_0 hb0_0 e0_0 hB0_0=>VL.op (R.asI rfl) (VL.nil (V.seq (V.region (VL.op (R.fld' (o:=0) Tryz.runUnderlying25 rfl rfl Tryz.sizeOf3 rfl rfl) (VL.op (R.ld1 Tryz.isAgg3 rfl ((show _ = some (Value.int .i64 ((N:Nat):Int)) from by rw [← hN]; exact hB0_0.cell 0))) (VL.makeSl (enc:=encBo ) el77 ( false) rfl rfl rfl (by omega) (by unfold maxLen; omega) (Nat.le_refl _) fun b3 w3 hb3 e3 ho3=>VL.op (R.asS rfl) (VL.nil (V.seq (V.seq (?_))))))))))))
 have E3:Ext w w3:=e0_0.trans e3
 have hX3:=hB0_0.ext e3
 refine V.region (VL.op (R.asI rfl) (VL.nil (V.block (?_))))
 refine V.loop [1, 2, 5, 6] (fun z:Nat × List Bool=>[.slice wa W.length wc, .pointer (some ⟨b0_0, 0, none⟩), .slice (some ⟨b3, 0, none⟩) N N, .int .i64 (z.1:Nat)])
  (fun z w'=>z.1 ≤ W.length ∧ z.2.length = N ∧ OwnT encBo 1 4 w0_0.heap.size w' (some ⟨b3, 0, none⟩) N z.2 ∧ (∀ v:Nat, v < N → z.2.getD v default = nmW (vs.take z.1) (v:Int)) ∧ Ext w0_0 w') (fun z=>W.length - z.1) (0, List.replicate N false) rfl ⟨Nat.zero_le _, by simp, ho3, fun v hv=>by rw [rep_at hv]; rfl, e3⟩ ?_
 rintro ρ ⟨i, bs⟩ w4 ⟨hi, hbl, hbo, hbs, e4⟩
 dsimp only at hi hbl hbo hbs e4 ⊢
 have E4:Ext w w4:=e0_0.trans e4
 have hW4:=hW.ext E4
 refine V.seq (V.seq (V.region (VL.op (R.mvI rfl) (VL.op (R.mvS rfl) (VL.op (R.lenS Tryz.runUnderlying26 rfl) (VL.op (R.lss rfl rfl) (VL.nil (V.condP rfl (fun c20=>V.skip (V.seq (V.block (V.seq (V.seq (?_)))))) (fun c20=>V.exit (V.seq (?_)))))))))))
 ·have hil:i < W.length:=by omega
  obtain ⟨y, hy⟩:∃ y, y = W.getD i default:=⟨_, rfl⟩
  have hym:y ∈ W:=by rw [hy]; exact gmem hil
  have hyl:=hWl y hym
  have hyp:=hyl.p
  have hyn:=hyl.n
  obtain ⟨hs1, hs2⟩:=hwy y hym
  have hr1:=(setB_iff.1 hs1).2
  have hr2:=(setB_iff.1 hs2).2
  have hVl:i < vs.length:=by rw [hV, List.length_map]; exact hil
  have hwv:vs.getD i default = wyV y:=by rw [hy, hV]; exact gmap wyV W default hil
  refine V.region (VL.op (R.asI rfl) (VL.nil (V.block (?_))))
  refine V.loop [1, 2, 5, 6, 7] (fun z:Nat × List Bool=>[.slice wa W.length wc, .pointer (some ⟨b0_0, 0, none⟩), .slice (some ⟨b3, 0, none⟩) N N, .int .i64 (i:Nat), .int .i64 (z.1:Nat)])
   (fun z w'=>z.1 ≤ y.p.l.length ∧ z.2.length = N ∧ OwnT encBo 1 4 w0_0.heap.size w' (some ⟨b3, 0, none⟩) N z.2 ∧ (∀ v:Nat, v < N → z.2.getD v default = (nmW (vs.take i) (v:Int) || decide ((v:Int) ∈ y.p.l.take z.1))) ∧ Ext w0_0 w') (fun z=>y.p.l.length - z.1) (0, bs) rfl ⟨Nat.zero_le _, hbl, hbo, fun v hv=>by rw [hbs v hv]; simp, e4⟩ ?_
  rintro ρ ⟨k, b2⟩ w5 ⟨hk, hbl2, hbo2, hbs2, e5⟩
  dsimp only at hk hbl2 hbo2 hbs2 e5 ⊢
  have E5:Ext w w5:=e0_0.trans e5
  have hW5:=hW.ext E5
  have hy5:WyOk w5 y:=by rw [hy]; exact hW5.at hil
  have hidx:=(by rw [hy]; exact hW5.sl.row (i:=i) hil:RowAt w5 _ _ (encWy y))
  refine V.seq (V.seq (V.region (VL.op (R.mvI rfl) (VL.op (R.mvS rfl) (VL.op (R.mvI rfl) (VL.op (R.ixS Tryz.runUnderlying26 Tryz.sizeOf53 rfl rfl (by omega) (by omega) (hW5.sl.some (i:=i) hil)) (VL.op (R.fld' (o:=0) Tryz.runUnderlying53 rfl rfl Tryz.sizeOf22 rfl rfl) (VL.op (R.ld1 Tryz.isAgg22 rfl (((hidx).cell (i:=0) rfl))) (VL.op (R.lenS Tryz.runUnderlying22 rfl) (VL.op (R.lss rfl rfl) (VL.nil (V.condP rfl (fun c30=>V.skip (V.seq (V.block (?_)))) (fun c30=>V.exit (V.seq (?_)))))))))))))))
  ·have hkl:k < y.p.l.length:=by omega
   have hvr:=hr1 _ (gmem hkl)
   obtain ⟨v, hvd⟩:∃ v:Nat, y.p.l.getD k default = (v:Int):=⟨(y.p.l.getD k default).toNat, by omega⟩
   have hvt:(y.p.l.getD k default).toNat = v:=by omega
   have hvN:v < N:=by omega
   refine V.region (VL.op (R.mvS rfl) (VL.op (R.mvS rfl) (VL.op (R.mvI rfl) (VL.op (R.ixS Tryz.runUnderlying26 Tryz.sizeOf53 rfl rfl (by omega) (by omega) (hW5.sl.some (i:=i) hil)) (VL.op (R.fld' (o:=0) Tryz.runUnderlying53 rfl rfl Tryz.sizeOf22 rfl rfl) (VL.op (R.ld1 Tryz.isAgg22 rfl (((hidx).cell (i:=0) rfl))) (VL.op (R.mvI rfl) (VL.op (R.ixS Tryz.runUnderlying22 Tryz.sizeOf3 rfl rfl (by omega) (by omega) (hy5.p.some (i:=k) hkl)) (VL.op (R.ld1 Tryz.isAgg3 rfl (((hy5.p.row (i:=k) hkl).cell (i:=0) rfl))) (VL.op (R.ixS Tryz.runUnderlying77 Tryz.sizeOf4 rfl rfl (by omega) (by omega) (hbo2.sl.some (i:=(y.p.l.getD k default).toNat) (by omega))) (VL.ownSt eltBo (v:=.bool _) Tryz.sizeOf4 (hbo2) (y.p.l.getD k default).toNat 0 true rfl rfl (by omega) rfl rfl rfl rfl rfl fun w8 ho8 m8 hs8=>VL.nil (V.region (VL.op (R.mvI rfl) (VL.op (R.add rfl rfl (by omega) (by omega)) (VL.op (R.asI rfl) (VL.nil (?_)))))))))))))))))
   rw [hvt] at ho8
   exact ⟨(k + 1, b2.set v true), rfl, ⟨by dsimp only; omega, by dsimp only; rw [List.length_set]; exact hbl2, ho8, named_step hbs2 hkl hvd hvN hbl2, e5.ownA m8 fun q hq=>hbo2.ge q hq⟩, by dsimp only; omega⟩
  ·have hke:k = y.p.l.length:=by omega
   subst hke
   rw [List.take_length] at hbs2
   refine V.region (VL.op (R.asI rfl) (VL.nil (V.block (?_))))
   refine V.loop [1, 2, 5, 6, 8] (fun z:Nat × List Bool=>[.slice wa W.length wc, .pointer (some ⟨b0_0, 0, none⟩), .slice (some ⟨b3, 0, none⟩) N N, .int .i64 (i:Nat), .int .i64 (z.1:Nat)])
    (fun z w'=>z.1 ≤ y.n.l.length ∧ z.2.length = N ∧ OwnT encBo 1 4 w0_0.heap.size w' (some ⟨b3, 0, none⟩) N z.2 ∧ (∀ v:Nat, v < N → z.2.getD v default = ((nmW (vs.take i) (v:Int) || decide ((v:Int) ∈ y.p.l)) || decide ((v:Int) ∈ y.n.l.take z.1))) ∧ Ext w0_0 w') (fun z=>y.n.l.length - z.1) (0, b2) rfl ⟨Nat.zero_le _, hbl2, hbo2, fun v hv=>by rw [hbs2 v hv]; simp, e5⟩ ?_
   rintro ρ ⟨k, b3'⟩ w6 ⟨hk, hbl3, hbo3, hbs3, e6⟩
   dsimp only at hk hbl3 hbo3 hbs3 e6 ⊢
   have E6:Ext w w6:=e0_0.trans e6
   have hW6:=hW.ext E6
   have hy6:WyOk w6 y:=by rw [hy]; exact hW6.at hil
   have hidx6:=(by rw [hy]; exact hW6.sl.row (i:=i) hil:RowAt w6 _ _ (encWy y))
   refine V.seq (V.seq (V.region (VL.op (R.mvI rfl) (VL.op (R.mvS rfl) (VL.op (R.mvI rfl) (VL.op (R.ixS Tryz.runUnderlying26 Tryz.sizeOf53 rfl rfl (by omega) (by omega) (hW6.sl.some (i:=i) hil)) (VL.op (R.fld' (o:=1) Tryz.runUnderlying53 rfl rfl Tryz.sizeOf22 rfl rfl) (VL.op (R.ld1 Tryz.isAgg22 rfl (((hidx6).cell (i:=1) rfl))) (VL.op (R.lenS Tryz.runUnderlying22 rfl) (VL.op (R.lss rfl rfl) (VL.nil (V.condP rfl (fun c50=>V.skip (V.seq (V.block (?_)))) (fun c50=>V.exit (V.region (VL.op (R.mvI rfl) (VL.op (R.add rfl rfl (by omega) (by omega)) (VL.op (R.asI rfl) (VL.nil (?_)))))))))))))))))))
   ·have hkl:k < y.n.l.length:=by omega
    have hvr:=hr2 _ (gmem hkl)
    obtain ⟨v, hvd⟩:∃ v:Nat, y.n.l.getD k default = (v:Int):=⟨(y.n.l.getD k default).toNat, by omega⟩
    have hvt:(y.n.l.getD k default).toNat = v:=by omega
    have hvN:v < N:=by omega
    refine V.region (VL.op (R.mvS rfl) (VL.op (R.mvS rfl) (VL.op (R.mvI rfl) (VL.op (R.ixS Tryz.runUnderlying26 Tryz.sizeOf53 rfl rfl (by omega) (by omega) (hW6.sl.some (i:=i) hil)) (VL.op (R.fld' (o:=1) Tryz.runUnderlying53 rfl rfl Tryz.sizeOf22 rfl rfl) (VL.op (R.ld1 Tryz.isAgg22 rfl (((hidx6).cell (i:=1) rfl))) (VL.op (R.mvI rfl) (VL.op (R.ixS Tryz.runUnderlying22 Tryz.sizeOf3 rfl rfl (by omega) (by omega) (hy6.n.some (i:=k) hkl)) (VL.op (R.ld1 Tryz.isAgg3 rfl (((hy6.n.row (i:=k) hkl).cell (i:=0) rfl))) (VL.op (R.ixS Tryz.runUnderlying77 Tryz.sizeOf4 rfl rfl (by omega) (by omega) (hbo3.sl.some (i:=(y.n.l.getD k default).toNat) (by omega))) (VL.ownSt eltBo (v:=.bool _) Tryz.sizeOf4 (hbo3) (y.n.l.getD k default).toNat 0 true rfl rfl (by omega) rfl rfl rfl rfl rfl fun w8 ho8 m8 hs8=>VL.nil (V.region (VL.op (R.mvI rfl) (VL.op (R.add rfl rfl (by omega) (by omega)) (VL.op (R.asI rfl) (VL.nil (?_)))))))))))))))))
    rw [hvt] at ho8
    exact ⟨(k + 1, b3'.set v true), rfl, ⟨by dsimp only; omega, by dsimp only; rw [List.length_set]; exact hbl3, ho8, named_step (F:=fun u:Nat=>nmW (vs.take i) (u:Int) || decide ((u:Int) ∈ y.p.l)) hbs3 hkl hvd hvN hbl3, e6.ownA m8 fun q hq=>hbo3.ge q hq⟩, by dsimp only; omega⟩
   ·have hke:k = y.n.l.length:=by omega
    subst hke
    rw [List.take_length] at hbs3
    refine ⟨(i + 1, b3'), rfl, ⟨by dsimp only; omega, hbl3, hbo3, fun v hv=>?_, e6⟩, by dsimp only; omega⟩
    dsimp only
    rw [hbs3 v hv, take_snoc hVl, nmW_snoc, hwv, Bool.or_assoc]
    rfl
 ·have hie:i = W.length:=by omega
  subst hie
  have hbs':∀ v:Nat, v < N → bs.getD v default = nmW vs (v:Int):=fun v hv=>by
   rw [hbs v hv, List.take_of_length_le (by rw [hV, List.length_map]; exact Nat.le_refl _)]
  have hX4:=hB0_0.ext e4
  refine V.region (VL.op (R.asI rfl) (VL.nil (V.seq (V.region (VL.op (R.ldA Tryz.isAgg25 Tryz.sizeOf25 rfl rfl ((show RowAt _ _ _ (encGr g) from (hX4.ext (Mod.refl _ _)).rowAt 0 3)) rfl) (VL.callX Tryz.call47 rfl (rcomps_spec g _ (hG.ext (E4.trans (Mod.refl _ _))) hl) fun z w14 h14 e14=>VL.op (R.asS rfl) (VL.nil (V.seq (V.seq (?_))))))))))
  obtain ⟨hzv, hzL⟩:=h14
  obtain ⟨L, za, zc⟩:=z
  dsimp only at hzv hzL ⊢
  have hC:∀ k, k < L.length → (compsG (grV g)).getD k default = (L.getD k default).l:=fun k hk=>by rw [← hzv]; exact gmap SlI.l L default hk
  have hCl:(compsG (grV g)).length = L.length:=by rw [← hzv]; exact List.length_map _
  have hCn:=ncomps_len hv
  have hLm:L.length ≤ 4000:=by rw [hgn, hN] at hCn; omega
  have hCr:∀ k, k < L.length → (L.getD k default).l.length ≤ 4000 ∧ ∀ v ∈ (L.getD k default).l, 0 ≤ v ∧ v < (N:Int):=fun k hk=>by
   have hm:(L.getD k default).l ∈ compsG (grV g):=by rw [← hzv]; exact List.mem_map_of_mem (gmem hk)
   have hs:=setB_iff.1 (comps_set hv hm)
   rw [hgn, hN] at hs
   have:=set_len hs.1 hs.2 (by omega)
   exact ⟨by omega, hs.2⟩
  have hpl:∀ k, k ≤ L.length → (ptL vs ((compsG (grV g)).take k)).length ≤ k * 4000:=fun k hk=>ptL_len vs (compsG (grV g)) (fun c hc=>by
   rw [← hzv] at hc
   obtain ⟨y, hy, rfl⟩:=List.mem_map.1 hc
   obtain ⟨j, hj, rfl⟩:=List.getElem_of_mem hy
   have:=(hCr j hj).1
   rwa [gget hj] at this) k (by omega)
  have hbo14:=hbo.ext e14
  refine V.region (VL.op (R.asI rfl) (VL.nil (V.block (?_))))
  refine V.loop [5, 9, 10, 11] (fun k:Nat=>[.slice (some ⟨b3, 0, none⟩) N N, .int .i64 ((ptL vs ((compsG (grV g)).take k)).length:Nat), .slice za L.length zc, .int .i64 (k:Nat)])
   (fun k w'=>k ≤ L.length ∧ Ext w14 w') (fun k=>L.length - k) 0 rfl ⟨Nat.zero_le _, Vc.Mod.refl _ _⟩ ?_
  rintro ρ k w15 ⟨hk, e15⟩
  have hL15:=hzL.ext e15
  have hbo15:=hbo14.ext e15
  have hplk:=hpl k hk
  refine V.seq (V.seq (V.region (VL.op (R.mvI rfl) (VL.op (R.mvS rfl) (VL.op (R.lenS Tryz.runUnderlying23 rfl) (VL.op (R.lss rfl rfl) (VL.nil (V.condP rfl (fun c68=>V.skip (V.seq (V.block (V.seq (?_))))) (fun c68=>V.exit (V.seq (?_)))))))))))
  ·have hkl:k < L.length:=by omega
   obtain ⟨hcl, hcr⟩:=hCr k hkl
   refine V.region (VL.op (R.asB rfl) (VL.nil (V.seq (V.seq (V.region (VL.op (R.asI rfl) (VL.nil (V.block (?_)))))))))
   refine V.loop [5, 9, 10, 11, 12, 13] (fun j:Nat=>[.slice (some ⟨b3, 0, none⟩) N N, .int .i64 ((ptL vs ((compsG (grV g)).take k)).length:Nat), .slice za L.length zc, .int .i64 (k:Nat), .bool (((L.getD k default).l.take j).any (nmW vs)), .int .i64 (j:Nat)])
    (fun j w'=>j ≤ (L.getD k default).l.length ∧ Ext w15 w') (fun j=>(L.getD k default).l.length - j) 0 rfl ⟨Nat.zero_le _, Vc.Mod.refl _ _⟩ ?_
   rintro ρ j w16 ⟨hj, e16⟩
   have hL16:=hL15.ext e16
   have hbo16:=hbo15.ext e16
   refine V.seq (V.seq (V.region (VL.op (R.mvI rfl) (VL.op (R.mvS rfl) (VL.op (R.mvI rfl) (VL.op (R.ixS Tryz.runUnderlying23 Tryz.sizeOf22 rfl rfl (by omega) (by omega) (hL16.sl.some (i:=k) hkl)) (VL.op (R.ld1 Tryz.isAgg22 rfl (((hL16.sl.row (i:=k) hkl).cell (i:=0) rfl))) (VL.op (R.lenS Tryz.runUnderlying22 rfl) (VL.op (R.lss rfl rfl) (VL.nil (V.condP rfl (fun c77=>V.skip (V.seq (V.block (?_)))) (fun c77=>V.exit (V.seq (?_))))))))))))))
   ·have hjl:j < (L.getD k default).l.length:=by omega
    have hvr:=hcr _ (gmem hjl)
    refine V.region (VL.op (R.mvB rfl) (VL.op (R.mvB rfl) (VL.or rfl rfl (fun g22_1=>VL.op (R.mvS rfl) (VL.gT rfl rfl (VL.op (R.mvS rfl) (VL.gT rfl rfl (VL.op (R.mvI rfl) (VL.gT rfl rfl (VL.op (R.ixS Tryz.runUnderlying23 Tryz.sizeOf22 rfl rfl (by omega) (by omega) (hL16.sl.some (i:=k) hkl)) (VL.gT rfl rfl (VL.op (R.ld1 Tryz.isAgg22 rfl (((hL16.sl.row (i:=k) hkl).cell (i:=0) rfl))) (VL.gT rfl rfl (VL.op (R.mvI rfl) (VL.gT rfl rfl (VL.op (R.ixS Tryz.runUnderlying22 Tryz.sizeOf3 rfl rfl (by omega) (by omega) ((hL16.at hkl).some (i:=j) hjl)) (VL.gT rfl rfl (VL.op (R.ld1 Tryz.isAgg3 rfl ((((hL16.at hkl).row (i:=j) hjl).cell (i:=0) rfl))) (VL.gT rfl rfl (VL.op (R.ixS Tryz.runUnderlying77 Tryz.sizeOf4 rfl rfl (by omega) (by omega) (hbo16.sl.some (i:=((L.getD k default).l.getD j default).toNat) (by omega))) (VL.gT rfl rfl (VL.op (R.ld1 Tryz.isAgg4 rfl (((hbo16.sl.row (i:=((L.getD k default).l.getD j default).toNat) (by omega)).cell (i:=0) rfl))) (VL.op (R.pickFB rfl rfl) (VL.op (R.asB rfl) (VL.nil (V.region (VL.op (R.mvI rfl) (VL.op (R.add rfl rfl (by omega) (by omega)) (VL.op (R.asI rfl) (VL.nil (⟨j + 1, ?_, ⟨by omega, e16⟩, by omega⟩)))))))))))))))))))))))))))) (fun g22_1=>VL.gF rfl rfl (VL.gF rfl rfl (VL.gF rfl rfl (VL.gF rfl rfl (VL.gF rfl rfl (VL.gF rfl rfl (VL.gF rfl rfl (VL.gF rfl rfl (VL.gF rfl rfl (VL.op (R.pickTB rfl rfl) (VL.op (R.asB rfl) (VL.nil (V.region (VL.op (R.mvI rfl) (VL.op (R.add rfl rfl (by omega) (by omega)) (VL.op (R.asI rfl) (VL.nil (⟨j + 1, ?_, ⟨by omega, e16⟩, by omega⟩)))))))))))))))))))))
    ·have hb1:=hbs' ((L.getD k default).l.getD j default).toNat (by omega)
     rw [show ((((L.getD k default).l.getD j default).toNat:Nat):Int) = (L.getD k default).l.getD j default by omega] at hb1
     rw [any_take hjl, g22_1, Bool.false_or, ← hb1]
     rfl
    ·rw [any_take hjl, g22_1]
     rfl
   ·have hje:j = (L.getD k default).l.length:=by omega
    subst hje
    rw [List.take_length]
    have hsn:(ptL vs ((compsG (grV g)).take (k + 1))).length = (ptL vs ((compsG (grV g)).take k)).length + (if (L.getD k default).l.any (nmW vs) = true ∧ ¬ (L.getD k default).l.length = 1 then (L.getD k default).l else []).length:=by
     rw [take_snoc (by omega), ptL_snoc, List.length_append, hC k hkl]
    refine V.region (VL.op (R.mvB rfl) (VL.op (R.mvB rfl) (VL.and rfl rfl (fun g23_1=>VL.op (R.mvS rfl) (VL.gT rfl rfl (VL.op (R.mvI rfl) (VL.gT rfl rfl (VL.op (R.ixS Tryz.runUnderlying23 Tryz.sizeOf22 rfl rfl (by omega) (by omega) (hL16.sl.some (i:=k) hkl)) (VL.gT rfl rfl (VL.op (R.ld1 Tryz.isAgg22 rfl (((hL16.sl.row (i:=k) hkl).cell (i:=0) rfl))) (VL.gT rfl rfl (VL.op (R.lenS Tryz.runUnderlying22 rfl) (VL.gT rfl rfl (VL.op (R.gtr rfl rfl) (VL.op (R.pickTB rfl rfl) (VL.nil (V.condP rfl (fun c101=>V.region (VL.op (R.mvI rfl) (VL.op (R.mvS rfl) (VL.op (R.mvI rfl) (VL.op (R.ixS Tryz.runUnderlying23 Tryz.sizeOf22 rfl rfl (by omega) (by omega) (hL16.sl.some (i:=k) hkl)) (VL.op (R.ld1 Tryz.isAgg22 rfl (((hL16.sl.row (i:=k) hkl).cell (i:=0) rfl))) (VL.op (R.lenS Tryz.runUnderlying22 rfl) (VL.op (R.add rfl rfl (by omega) (by omega)) (VL.op (R.asI rfl) (VL.nil (V.region (VL.op (R.mvI rfl) (VL.op (R.add rfl rfl (by omega) (by omega)) (VL.op (R.asI rfl) (VL.nil (⟨k + 1, ?_, ⟨by omega, e15.trans e16⟩, by omega⟩)))))))))))))))) (fun c101=>V.skip (V.region (VL.op (R.mvI rfl) (VL.op (R.add rfl rfl (by omega) (by omega)) (VL.op (R.asI rfl) (VL.nil (⟨k + 1, ?_, ⟨by omega, e15.trans e16⟩, by omega⟩))))))))))))))))))))) (fun g23_1=>VL.gF rfl rfl (VL.gF rfl rfl (VL.gF rfl rfl (VL.gF rfl rfl (VL.gF rfl rfl (VL.op (R.pickFB rfl rfl) (VL.nil (V.condF rfl (V.skip (V.region (VL.op (R.mvI rfl) (VL.op (R.add rfl rfl (by omega) (by omega)) (VL.op (R.asI rfl) (VL.nil (⟨k + 1, ?_, ⟨by omega, e15.trans e16⟩, by omega⟩))))))))))))))))))
    ·rw [hsn, if_pos ⟨g23_1, by omega⟩, Int.natCast_add]
     rfl
    ·obtain ⟨u, hu, _⟩:=List.any_eq_true.1 g23_1
     have:=List.length_pos_of_mem hu
     rw [hsn, if_neg (fun h=>h.2 (by omega))]
     rfl
    ·rw [hsn, if_neg (fun h=>by rw [g23_1] at h; cases h.1)]
     rfl
  ·have hke:k = L.length:=by omega
   subst hke
   refine V.region (VL.op (R.mvI rfl) (VL.op (R.asI rfl) (VL.nil (V.ret (fret1 (v:=.int _ _) rfl rfl rfl (⟨?_, E4.trans (e14.trans e15)⟩))))))
   rw [ptI_len, List.take_of_length_le (by omega)]
theorem rerror29_spec (g:GrW) (wa:Option Addr) (wc:Nat) (W:List WyI) (w:World) (hG:GOk w g) (hl:GLen g) (hW:WL w wa W) (hWl:∀ y ∈ W, WLen y) (hWm:W.length ≤ 1000000) :
  RetsP Tryz.prog 24 #[.agg (encGr g).toArray, .slice wa W.length wc] w (.int .i64 (errG (grV g) (W.map wyV))):=by
 refine enter (args:=[_, _]) Tryz.func24 rfl Tryz.ntmps24 (by kernel_rfl) rfl ?_
 refine V.seq (V.region (VL.box (v:=.agg _) rfl fun b0_0 w0_0 hb0_0 e0_0 hB0_0=>VL.op (R.asI rfl) (VL.nil (V.seq (V.seq (V.region (VL.op (R.ldA Tryz.isAgg25 Tryz.sizeOf25 rfl rfl ((show RowAt _ _ _ (encGr g) from hB0_0.rowAt 0 3)) rfl) (VL.op (R.mvS rfl) (VL.callP Tryz.call38 rfl (rready29_spec g wa wc W _ (hG.ext e0_0) hl (hW.ext e0_0) hWl hWm) fun w1_2 e1_2=>VL.op (R.not rfl) (VL.nil (V.cond rfl (fun c8=>V.seq (V.region (VL.op (R.asI rfl) (VL.nil (V.ret (fret1 (v:=.int _ _) rfl rfl rfl (⟨?_, (e0_0.trans e1_2)⟩))))))) (fun c8=>V.skip (V.seq (V.seq (?_)))))))))))))))
 ·unfold errG
  rw [if_neg (by simpa using c8)]
 have hr:readyG (grV g) (W.map wyV) = true:=by simpa using c8
 have E1:=e0_0.trans e1_2
 have hX1:=hB0_0.ext e1_2
 refine V.region (VL.op (R.ldA Tryz.isAgg25 Tryz.sizeOf25 rfl rfl ((show RowAt _ _ _ (encGr g) from hX1.rowAt 0 3)) rfl) (VL.op (R.mvS rfl) (VL.callP Tryz.call25 rfl (rsize29_spec g wa wc W _ (hG.ext E1) hl (hW.ext E1) hWl hWm hr) fun w3_2 e3_2=>VL.op (R.gtr rfl rfl) (VL.nil (V.condP rfl (fun c12=>V.seq (V.region (VL.op (R.asI rfl) (VL.nil (V.ret (fret1 (v:=.int _ _) rfl rfl rfl (⟨?_, E1.trans e3_2⟩))))))) (fun c12=>V.skip (V.seq (V.region (VL.op (R.asI rfl) (VL.nil (V.ret (fret1 (v:=.int _ _) rfl rfl rfl (⟨?_, E1.trans e3_2⟩)))))))))))))
 ·unfold errG
  rw [if_pos hr, if_pos (by omega)]
 ·unfold errG
  rw [if_pos hr, if_neg (by omega)]
end Go.Proofs.YtdbcfpcicjgghaaGreatDoor

/- Solve: the walk of law SolveErrors. -/
namespace Go.Proofs.YtdbcfpcicjgghaaGreatDoor
open Go.Vc
set_option maxRecDepth 100000
set_option maxHeartbeats 16000000
theorem ex_code {g:Gr} {W:List Wy} {h:Bool} (hn:g.n ≤ 4000) (hp:errG g W = 0 → (ptI g W).length ≤ 15):(existsF g W h).2.2 = errG g W:=by
 by_cases he:errG g W = 0
 ·rcases exists_cases (h:=h) he with ⟨R, h1, _⟩ | ⟨S, h1, _⟩ | h1
  ·rw [h1, he]
  ·rw [h1, he]
  ·exact absurd h1 (exists_small he hn (hp he))
 ·rw [exists_err he]
theorem dc_pos {g:Gr} {W:List Wy} (h:(decideF g W).2 = 0):(decideF g W).1.1 ≠ 0:=by
 rcases dc_verdict h with ⟨h1, _⟩ | ⟨h1, _⟩ | ⟨h1, _⟩ <;> rw [h1] <;> decide
theorem errors_law (g:GrW) (wa:Option Addr) (wc:Nat) (W:List WyI) (h:Bool) (B:Nat) (w:World) (hI:GIn w g) (hW:WIn29 w wa W) (hB:B ≤ w.heap.size) (hT:TabW B w) :
  RetsP Tryz.prog 7 #[.agg (encGr g).toArray, .slice wa W.length wc, .bool h] w (.bool true):=by
 refine enter (args:=[_, _, _]) Tryz.func7 rfl Tryz.ntmps7 (by kernel_rfl) rfl ?_
 refine V.seq (V.region (VL.box (v:=.agg _) rfl fun b0_0 w0_0 hb0_0 e0_0 hB0_0=>VL.op (R.asB rfl) (VL.nil (V.seq (V.region (VL.callP Tryz.call10 rfl (head29_spec B _ (Nat.le_trans hB (Vc.Mod.size e0_0)) (hT.ext hB e0_0)) fun w1_0 e1_0=>VL.op (R.asB rfl) (VL.nil (V.seq (V.seq (V.region (VL.op (R.ldA Tryz.isAgg25 Tryz.sizeOf25 rfl rfl ((show RowAt _ _ _ (encGr g) from (hB0_0.ext e1_0).rowAt 0 3)) rfl) (VL.callX Tryz.call19 rfl (small_spec g 60 100 _ (hI.ok.ext (e0_0.trans e1_0)) hI.c hI.e.len) fun b2 w2 h2 e2=>VL.op (R.not rfl) (VL.op (R.mvB rfl) (VL.or rfl rfl (fun g2_3=>VL.op (R.mvS rfl) (VL.gT rfl rfl (VL.callX Tryz.call20 rfl (rfew29_spec wa wc W 12 20 _ (hW.ok.ext ((e0_0.trans e1_0).trans e2)) hW.m hW.e) fun b3 w3 h3 e3=>VL.gT rfl rfl (VL.op (R.not rfl) (VL.op (R.pickFB rfl rfl) (VL.nil (V.cond rfl (fun c22=>V.seq (V.region (VL.op (R.mvB rfl) (VL.op (R.asB rfl) (VL.nil (V.ret (fret1 (v:=.bool _) rfl rfl rfl (⟨rfl, (((e0_0.trans e1_0).trans e2).trans e3)⟩)))))))) (fun c22=>V.skip (V.seq (?_)))))))))) (fun g2_3=>VL.gF rfl rfl (VL.gF rfl rfl (VL.op (R.pickTB rfl rfl) (VL.nil (V.condT rfl (V.seq (V.region (VL.op (R.mvB rfl) (VL.op (R.asB rfl) (VL.nil (V.ret (fret1 (v:=.bool _) rfl rfl rfl (⟨rfl, ((e0_0.trans e1_0).trans e2)⟩)))))))))))))))))))))))))))
 have hf:=h2 (by simpa using g2_3)
 have hfw:=h3 (by simpa using c22)
 have hgn:(grV g).n ≤ 4000:=by have:=hf.1; show g.n ≤ 4000; omega
 have hgl:=hI.glen hf.2.2
 have hwl:=hfw.wl (by decide)
 have hw12:=hfw.w
 have E3:Ext w w3:=(e0_0.trans e1_0).trans (e2.trans e3)
 have hX3:=hB0_0.ext (e1_0.trans (e2.trans e3))
 refine V.region (VL.op (R.ldA Tryz.isAgg25 Tryz.sizeOf25 rfl rfl ((show RowAt _ _ _ (encGr g) from hX3.rowAt 0 3)) rfl) (VL.op (R.mvS rfl) (VL.callP Tryz.call24 rfl (rerror29_spec g wa wc W _ (hI.ok.ext E3) hgl (hW.ok.ext E3) hwl (by omega)) fun w4_2 e4_2=>VL.op (R.asI rfl) (VL.nil (V.seq (V.seq (?_)))))))
 have E4:Ext w w4_2:=E3.trans e4_2
 have hX4:=hX3.ext e4_2
 have hrz:∀ {w':World}, errG (grV g) (W.map wyV) = 0 → Ext w4_2 w' → RetsP Tryz.prog 25 #[.agg (encGr g).toArray, .slice wa W.length wc] w' (.int .i64 ((ptI (grV g) (W.map wyV)).length:Nat)):=fun he e=>rsize29_spec g wa wc W _ (hI.ok.ext (E4.trans e)) hgl (hW.ok.ext (E4.trans e)) hwl (by omega) (err_ready he)
 by_cases he:errG (grV g) (W.map wyV) = 0
 ·refine V.region (VL.op (R.mvI rfl) (VL.op (R.lit (R.eql rfl rfl) ((decide_eq_true he))) (VL.op (R.mvB rfl) (VL.gT rfl rfl (VL.op (R.ldA Tryz.isAgg25 Tryz.sizeOf25 rfl rfl ((show RowAt _ _ _ (encGr g) from (hX4.ext (Mod.refl _ _)).rowAt 0 3)) rfl) (VL.gT rfl rfl (VL.op (R.mvS rfl) (VL.gT rfl rfl (VL.callP Tryz.call25 rfl (hrz he (Mod.refl _ _)) fun w5_5 e5_5=>VL.gT rfl rfl (VL.op (R.gtr rfl rfl) (VL.op (R.pickTB rfl rfl) (VL.nil (V.condP rfl (fun c34=>V.seq (V.region (VL.op (R.mvB rfl) (VL.op (R.asB rfl) (VL.nil (V.ret (fret1 (v:=.bool _) rfl rfl rfl (⟨rfl, E4.trans e5_5⟩)))))))) (fun c34=>V.skip (V.seq (?_))))))))))))))))
  have E5:=E4.trans e5_5
  have hX5:=hX4.ext e5_5
  refine V.region (VL.op (R.ldA Tryz.isAgg25 Tryz.sizeOf25 rfl rfl ((show RowAt _ _ _ (encGr g) from hX5.rowAt 0 3)) rfl) (VL.op (R.mvS rfl) (VL.op (R.mvB rfl) (VL.callX Tryz.call16 rfl (exists_spec g wa wc W h B _ (hI.ok.ext E5) hgl (hW.ok.ext E5) hwl hW.h (by omega) (Nat.le_trans hB E5.size) (hT.ext hB E5)) fun z7 w7 h7 e7=>VL.op (R.mvT rfl) (VL.op (R.extr rfl rfl) (VL.op (R.extr rfl rfl) (VL.op (R.extr rfl rfl) (VL.allocSt1 (v:=.agg _) (v2:=.slice _ _ _) Tryz.zeroValue31 Tryz.sizeOf31 rfl rfl rfl rfl rfl rfl rfl rfl rfl fun b7_8 w7_8 hb7_8 e7_8 hB7_8=>VL.op (R.asI rfl) (VL.nil (V.seq (?_)))))))))))
  have E7:Ext w w7_8:=E5.trans (e7.trans e7_8)
  have hP7:Blk w7_8 b7_8 (.cells (Value.agg (encPf z7.2.1).toArray).cells 31 (0, 0)):=hB7_8
  have hX7:=hX5.ext (e7.trans e7_8)
  have hZ:=h7.e
  have ho7:=(h7.o.ext e7_8)
  clear hB7_8
  refine V.region (VL.op (R.ldA Tryz.isAgg25 Tryz.sizeOf25 rfl rfl ((show RowAt _ _ _ (encGr g) from hX7.rowAt 0 3)) rfl) (VL.op (R.mvS rfl) (VL.callX Tryz.call13 rfl (decide29_spec g wa wc W B _ (hI.ok.ext E7) hgl (hW.ok.ext E7) hwl hW.h (by omega) (Nat.le_trans hB E7.size) (hT.ext hB E7)) fun z8 w8 h8 e8=>VL.op (R.mvT rfl) (VL.op (R.extr rfl rfl) (VL.op (R.extr rfl rfl) (VL.allocSt (v:=.agg _) Tryz.zeroValue33 Tryz.sizeOf33 rfl rfl rfl rfl rfl fun b8_6 w8_6 hb8_6 e8_6 hB8_6=>VL.op (R.asI rfl) (VL.nil (V.seq (V.seq (?_))))))))))
  have E8:Ext w w8_6:=E7.trans (e8.trans e8_6)
  have hP8:=hP7.ext (e8.trans e8_6)
  have hX8:=hX7.ext (e8.trans e8_6)
  have hY8:Blk w8_6 b8_6 (.cells (Value.agg (encCm z8.1).toArray).cells 33 (0, 0)):=hB8_6
  have hD:=h8.e
  have ho8:=(ho7.ext (e8.trans e8_6)).sl
  clear hB8_6
  have hpt:(ptI (grV g) (W.map wyV)).length ≤ 15:=by omega
  have hx2:=ex_code (h:=h) hgn (fun _=>hpt)
  have hd2:=dc_code hgn hpt
  rw [he, ← hZ] at hx2
  rw [he, ← hD] at hd2
  dsimp only at hx2 hd2
  have hpos:=dc_pos (g:=grV g) (W:=W.map wyV) (by rw [← hD]; exact hd2)
  rw [← hD] at hpos
  dsimp only at hpos
  refine V.region (VL.op (R.mvI rfl) (VL.op (R.mvI rfl) (VL.op (R.lit (R.neq rfl rfl) ((decide_eq_false (by omega)))) (VL.op (R.mvB rfl) (VL.gT rfl rfl (VL.op (R.mvI rfl) (VL.gT rfl rfl (VL.op (R.mvI rfl) (VL.gT rfl rfl (VL.op (R.lit (R.neq rfl rfl) ((decide_eq_false (by omega)))) (VL.op (R.pickFB rfl rfl) (VL.nil (V.condF rfl (V.skip (V.seq (V.seq (V.region (VL.op (R.mvI rfl) (VL.op (R.lit (R.neq rfl rfl) ((decide_eq_false (by omega)))) (VL.nil (V.condF rfl (V.skip (V.seq (?_))))))))))))))))))))))))
  rcases exists_cases (h:=h) he with ⟨Q, k1, k2⟩ | ⟨S, k1, k2⟩ | k1
  ·rw [k1] at hZ
   simp only [Prod.mk.injEq] at hZ
   obtain ⟨q1, q2, -⟩:=hZ
   have hv:=(ready_ok (err_ready he) true []).v
   have hRl:=fst_len k2 hv
   have l2:z7.2.1.S.length = 0:=by rw [q2]; rfl
   have his:∀ {w':World}, Ext w8_6 w' → RetsP Tryz.prog 26 #[.agg (encGr g).toArray, .slice z7.1.a z7.1.l.length z7.1.c] w' (.bool true):=fun e=>by
    have:=is_spec28 g z7.1.a z7.1.c z7.1.l B _ (hI.ok.ext (E8.trans e)) hgl (ho8.ext e) (by rw [q1]; omega) (Nat.le_trans hB (E8.trans e).size) (hT.ext hB (E8.trans e))
    rwa [q1, (isB_iff hv).2 k2.r, ← q1] at this
   refine V.region (VL.op (R.mvB rfl) (VL.op (R.mvB rfl) (VL.gT rfl rfl (VL.op (R.fld' (o:=0) Tryz.runUnderlying33 rfl rfl Tryz.sizeOf3 rfl rfl) (VL.gT rfl rfl (VL.op (R.ld1 Tryz.isAgg3 rfl ((show _ = some (Value.int .i64 z8.1.v) from hY8.cell 0))) (VL.gT rfl rfl (VL.op (R.lit (R.neq rfl rfl) ((decide_eq_true hpos))) (VL.op (R.pickTB rfl rfl) (VL.op (R.mvB rfl) (VL.gT rfl rfl (VL.op (R.fld' (o:=0) Tryz.runUnderlying31 rfl rfl Tryz.sizeOf29 rfl rfl) (VL.gT rfl rfl (VL.op (R.ld1 Tryz.isAgg29 rfl ((show _ = some (Value.slice z7.2.1.a z7.2.1.S.length z7.2.1.c) from hP8.cell 0))) (VL.gT rfl rfl (VL.op (R.lenS Tryz.runUnderlying29 rfl) (VL.gT rfl rfl (VL.op (R.lit (R.gtr rfl rfl) ((decide_eq_false (by omega)))) (VL.gT rfl rfl (VL.op (R.mvB rfl) (VL.gF rfl rfl (VL.gF rfl rfl (VL.gF rfl rfl (VL.gT rfl rfl (VL.op (R.pickFB rfl rfl) (VL.gT rfl rfl (VL.op (R.mvB rfl) (VL.gT rfl rfl (VL.op (R.fld' (o:=0) Tryz.runUnderlying31 rfl rfl Tryz.sizeOf29 rfl rfl) (VL.gT rfl rfl (VL.op (R.ld1 Tryz.isAgg29 rfl ((show _ = some (Value.slice z7.2.1.a z7.2.1.S.length z7.2.1.c) from hP8.cell 0))) (VL.gT rfl rfl (VL.op (R.lenS Tryz.runUnderlying29 rfl) (VL.gT rfl rfl (VL.op (R.lit (R.eql rfl rfl) ((decide_eq_true (by omega)))) (VL.gT rfl rfl (VL.op (R.mvB rfl) (VL.gT rfl rfl (VL.op (R.ldA Tryz.isAgg25 Tryz.sizeOf25 rfl rfl ((show RowAt _ _ _ (encGr g) from hX8.rowAt 0 3)) rfl) (VL.gT rfl rfl (VL.op (R.mvS rfl) (VL.gT rfl rfl (VL.callP Tryz.call26 rfl ((his (Mod.refl _ _))) fun w13_24 e13_24=>VL.gT rfl rfl (VL.op (R.pickTB rfl rfl) (VL.gT rfl rfl (VL.op (R.pickFB rfl rfl) (VL.op (R.pickTB rfl rfl) (VL.op (R.asB rfl) (VL.nil (V.ret (fret1 (v:=.bool _) rfl rfl rfl (⟨rfl, E8.trans e13_24⟩))))))))))))))))))))))))))))))))))))))))))))))))))))
  ·rw [k1] at hZ
   simp only [Prod.mk.injEq] at hZ
   obtain ⟨q1, q2, -⟩:=hZ
   have hp:=(checkA_pos k2).1
   have l1:z7.1.l.length = 0:=by rw [q1]; rfl
   have l2:z7.2.1.S.length = S.length:=by rw [q2]
   refine V.region (VL.op (R.mvB rfl) (VL.op (R.mvB rfl) (VL.gT rfl rfl (VL.op (R.fld' (o:=0) Tryz.runUnderlying33 rfl rfl Tryz.sizeOf3 rfl rfl) (VL.gT rfl rfl (VL.op (R.ld1 Tryz.isAgg3 rfl ((show _ = some (Value.int .i64 z8.1.v) from hY8.cell 0))) (VL.gT rfl rfl (VL.op (R.lit (R.neq rfl rfl) ((decide_eq_true hpos))) (VL.op (R.pickTB rfl rfl) (VL.op (R.mvB rfl) (VL.gT rfl rfl (VL.op (R.fld' (o:=0) Tryz.runUnderlying31 rfl rfl Tryz.sizeOf29 rfl rfl) (VL.gT rfl rfl (VL.op (R.ld1 Tryz.isAgg29 rfl ((show _ = some (Value.slice z7.2.1.a z7.2.1.S.length z7.2.1.c) from hP8.cell 0))) (VL.gT rfl rfl (VL.op (R.lenS Tryz.runUnderlying29 rfl) (VL.gT rfl rfl (VL.op (R.lit (R.gtr rfl rfl) ((decide_eq_true (by omega)))) (VL.gT rfl rfl (VL.op (R.mvB rfl) (VL.gT rfl rfl (VL.op (R.mvS rfl) (VL.gT rfl rfl (VL.op (R.lenS Tryz.runUnderlying22 rfl) (VL.gT rfl rfl (VL.op (R.lit (R.eql rfl rfl) ((decide_eq_true (by omega)))) (VL.gT rfl rfl (VL.op (R.pickTB rfl rfl) (VL.gT rfl rfl (VL.op (R.mvB rfl) (VL.gF rfl rfl (VL.gF rfl rfl (VL.gF rfl rfl (VL.gF rfl rfl (VL.gF rfl rfl (VL.gU rfl rfl (VL.gU rfl rfl (VL.gU rfl rfl (VL.gF rfl rfl (VL.gT rfl rfl (VL.op (R.pickTB rfl rfl) (VL.op (R.pickTB rfl rfl) (VL.op (R.asB rfl) (VL.nil (V.ret (fret1 (v:=.bool _) rfl rfl rfl (⟨rfl, E8.trans (Mod.refl _ _)⟩)))))))))))))))))))))))))))))))))))))))))))))))
  ·exact absurd k1 (exists_small he hgn hpt)
 ·refine V.region (VL.op (R.mvI rfl) (VL.op (R.lit (R.eql rfl rfl) ((decide_eq_false he))) (VL.op (R.mvB rfl) (VL.gF rfl rfl (VL.gF rfl rfl (VL.gF rfl rfl (VL.gF rfl rfl (VL.op (R.pickFB rfl rfl) (VL.nil (V.condF rfl (V.skip (V.seq (?_)))))))))))))
  refine V.region (VL.op (R.ldA Tryz.isAgg25 Tryz.sizeOf25 rfl rfl ((show RowAt _ _ _ (encGr g) from hX4.rowAt 0 3)) rfl) (VL.op (R.mvS rfl) (VL.op (R.mvB rfl) (VL.callX Tryz.call16 rfl (exists_spec g wa wc W h B _ (hI.ok.ext E4) hgl (hW.ok.ext E4) hwl hW.h (by omega) (Nat.le_trans hB E4.size) (hT.ext hB E4)) fun z7 w7 h7 e7=>VL.op (R.mvT rfl) (VL.op (R.extr rfl rfl) (VL.op (R.extr rfl rfl) (VL.op (R.extr rfl rfl) (VL.allocSt1 (v:=.agg _) (v2:=.slice _ _ _) Tryz.zeroValue31 Tryz.sizeOf31 rfl rfl rfl rfl rfl rfl rfl rfl rfl fun b7_8 w7_8 hb7_8 e7_8 hB7_8=>VL.op (R.asI rfl) (VL.nil (V.seq (?_)))))))))))
  have E7:Ext w w7_8:=E4.trans (e7.trans e7_8)
  have hP7:Blk w7_8 b7_8 (.cells (Value.agg (encPf z7.2.1).toArray).cells 31 (0, 0)):=hB7_8
  have hX7:=hX4.ext (e7.trans e7_8)
  have hZ:=h7.e
  clear hB7_8
  refine V.region (VL.op (R.ldA Tryz.isAgg25 Tryz.sizeOf25 rfl rfl ((show RowAt _ _ _ (encGr g) from hX7.rowAt 0 3)) rfl) (VL.op (R.mvS rfl) (VL.callX Tryz.call13 rfl (decide29_spec g wa wc W B _ (hI.ok.ext E7) hgl (hW.ok.ext E7) hwl hW.h (by omega) (Nat.le_trans hB E7.size) (hT.ext hB E7)) fun z8 w8 h8 e8=>VL.op (R.mvT rfl) (VL.op (R.extr rfl rfl) (VL.op (R.extr rfl rfl) (VL.allocSt (v:=.agg _) Tryz.zeroValue33 Tryz.sizeOf33 rfl rfl rfl rfl rfl fun b8_6 w8_6 hb8_6 e8_6 hB8_6=>VL.op (R.asI rfl) (VL.nil (V.seq (V.seq (?_))))))))))
  have E8:Ext w w8_6:=E7.trans (e8.trans e8_6)
  have hP8:=hP7.ext (e8.trans e8_6)
  have hY8:Blk w8_6 b8_6 (.cells (Value.agg (encCm z8.1).toArray).cells 33 (0, 0)):=hB8_6
  have hD:=h8.e
  clear hB8_6
  rw [exists_err he] at hZ
  rw [decide_err he] at hD
  simp only [Prod.mk.injEq] at hZ hD
  obtain ⟨q1, q2, q3⟩:=hZ
  obtain ⟨⟨q4, q5, q6, q7⟩, q8⟩:=hD
  have l1:z7.1.l.length = 0:=by rw [q1]; rfl
  have l2:z7.2.1.S.length = 0:=by rw [q2]; rfl
  refine V.region (VL.op (R.mvI rfl) (VL.op (R.mvI rfl) (VL.op (R.lit (R.neq rfl rfl) ((decide_eq_false (by omega)))) (VL.op (R.mvB rfl) (VL.gT rfl rfl (VL.op (R.mvI rfl) (VL.gT rfl rfl (VL.op (R.mvI rfl) (VL.gT rfl rfl (VL.op (R.lit (R.neq rfl rfl) ((decide_eq_false (by omega)))) (VL.op (R.pickFB rfl rfl) (VL.nil (V.condF rfl (V.skip (V.seq (V.seq (V.region (VL.op (R.mvI rfl) (VL.op (R.lit (R.neq rfl rfl) ((decide_eq_true (by omega)))) (VL.nil (V.condT rfl (V.seq (?_)))))))))))))))))))))))
  refine V.region (VL.op (R.mvB rfl) (VL.op (R.mvB rfl) (VL.gT rfl rfl (VL.op (R.mvS rfl) (VL.gT rfl rfl (VL.op (R.lenS Tryz.runUnderlying22 rfl) (VL.gT rfl rfl (VL.op (R.fld' (o:=0) Tryz.runUnderlying31 rfl rfl Tryz.sizeOf29 rfl rfl) (VL.gT rfl rfl (VL.op (R.ld1 Tryz.isAgg29 rfl ((show _ = some (Value.slice z7.2.1.a z7.2.1.S.length z7.2.1.c) from hP8.cell 0))) (VL.gT rfl rfl (VL.op (R.lenS Tryz.runUnderlying29 rfl) (VL.gT rfl rfl (VL.op (R.add rfl rfl (by omega) (by omega)) (VL.gT rfl rfl (VL.op (R.lit (R.eql rfl rfl) ((decide_eq_true (by omega)))) (VL.op (R.pickTB rfl rfl) (VL.op (R.mvB rfl) (VL.gT rfl rfl (VL.op (R.fld' (o:=0) Tryz.runUnderlying33 rfl rfl Tryz.sizeOf3 rfl rfl) (VL.gT rfl rfl (VL.op (R.ld1 Tryz.isAgg3 rfl ((show _ = some (Value.int .i64 z8.1.v) from hY8.cell 0))) (VL.gT rfl rfl (VL.op (R.lit (R.eql rfl rfl) ((decide_eq_true (by omega)))) (VL.op (R.pickTB rfl rfl) (VL.op (R.asB rfl) (VL.nil (V.ret (fret1 (v:=.bool _) rfl rfl rfl (⟨rfl, E8.trans (Mod.refl _ _)⟩))))))))))))))))))))))))))))))
end Go.Proofs.YtdbcfpcicjgghaaGreatDoor
