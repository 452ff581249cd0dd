/- Proof: the reference: is a list a repair; certificates. -/
import Derived.Test.YtmglkjigmcikdaaGreatDoorXP23
import Derived.Test.YtmglkjigmcikdaaGreatDoorXVcKeep
import Derived.Test.YtmglkjigmcikdaaGreatDoorXHG
import Derived.Test.YtmglkjigmcikdaaGreatDoorXH22a
namespace Go.Proofs.YtmglkjigmcikdaaGreatDoor
open Go.Vc
set_option maxRecDepth 100000
set_option maxHeartbeats 16000000
theorem blkR_eq {g : Gr} (hg : validG g = true) {S : List Int} (_hi : Inc S) (hf : indB g.edges S = true) (v : Int) : (!freeF g.edges (setF (S ++ [v]))) = blkB g.edges S v := by
 have hE := (validG_iff.1 hg).2.2.1
 have hf := indB_iff.1 hf
 have key : freeF g.edges (setF (S ++ [v])) = true ↔ blkB g.edges S v = false := by
  rw [freeF_sets (fun e he => ⟨(hE e he).2.1, (hE e he).1⟩) (setF_inc _)]
  constructor
  ·intro h
   rw [← Bool.not_eq_true]
   intro hb
   obtain ⟨e, he, hve, hall⟩ := blkB_iff.1 hb
   have := h e he
   rw [subB_iff.2 fun x hx => (setF_mem _ _).2 (List.mem_append.2 (by
    by_cases hxv : x = v
    ·exact .inr (by simp [hxv])
    ·exact .inl (hall x hx hxv)))] at this
   cases this
  ·intro hb e he
   rw [← Bool.not_eq_true]
   intro hs
   have hs := subB_iff.1 hs
   have hin : ∀ x ∈ e, x ≠ v → x ∈ S := fun x hx hne => by
    rcases List.mem_append.1 ((setF_mem _ _).1 (hs x hx)) with h | h
    ·exact h
    ·exact absurd (List.mem_singleton.1 h) hne
   by_cases hve : v ∈ e
   ·rw [blkB_iff.2 ⟨e, he, hve, hin⟩] at hb; cases hb
   ·have := hf e he
    rw [subB_iff.2 fun x hx => hin x hx fun e => hve (e ▸ hx)] at this
    cases this
 cases h : freeF g.edges (setF (S ++ [v])) with
 | true => rw [key.1 h]; rfl
 | false =>
  cases hb : blkB g.edges S v with
  | true => rfl
  | false => rw [key.2 hb] at h; cases h
theorem free_ind {g : Gr} (hg : validG g = true) {S : List Int} (hi : Inc S) : freeF g.edges S = indB g.edges S := by
 have hE := (validG_iff.1 hg).2.2.1
 rw [Bool.eq_iff_iff, freeF_sets (fun e he => ⟨(hE e he).2.1, (hE e he).1⟩) hi, indB_iff]
theorem keeps_set {S : List Int} {v : Int} (_hi : Inc S) (_hv : v ∉ S) : Keeps S v (setF (S ++ [v])) := fun x t h => by
 have h1 := setF_len (S ++ [v])
 have h2 := congrArg List.length h
 simp only [List.length_append, List.length_cons, List.length_nil] at h1 h2
 have ht : t = [] := List.eq_nil_of_length_eq_zero (by omega)
 subst ht
 refine ⟨?_, rfl⟩
 have h3 := inc_nodup (setF_inc (S ++ [v]))
 rw [h] at h3
 have h4 : x ∉ S := fun hx => by
  have := (List.nodup_append.1 h3).2.2 x hx x (by simp)
  exact this rfl
 have h5 : x ∈ S ++ [v] := (setF_mem _ _).1 (by rw [h]; simp)
 rcases List.mem_append.1 h5 with h6 | h6
 ·exact absurd h6 h4
 ·exact List.mem_singleton.1 h6
theorem rsetN30_spec (a : Option Addr) (c n : Nat) (l : List Int) (w : World) (hn : n = l.length) (hm : l.length ≤ 1000000) (hS : IntSl w a l) :
  RetsX Tryz.prog 71 #[.slice a n c] w (fun x : Option Addr × Nat => .slice x.1 (setF l).length x.2) (fun x w' => OwnT Vc.encI 1 3 w.heap.size w' x.1 x.2 (setF l)) := by
 subst hn
 exact rset_spec a c l w hm hS
theorem rrepair30_spec (g : GrW) (a : Option Addr) (c : Nat) (S : List Int) (w : World) (hG : GOk w g) (hl : GLen g) (hv : validG (grV g) = true) (hm : S.length ≤ 100000) (hax : a = none → c = 0) (hS : IntSl w a S) :
  RetsP Tryz.prog 45 #[.agg (encGr g).toArray, .slice a S.length c] w (.bool (repA (grV g) S)) := by
 have hle := hl.e
 have hcb := costB_iff.1 (validG_iff.1 hv).1
 have hgn : (grV g).n = g.n := rfl
 obtain ⟨N, hN⟩ : ∃ N : Nat, g.n = (N : Int) := ⟨g.n.toNat, by have := hcb.1; omega⟩
 have hN4 : N ≤ 4000 := by have := hcb.2.1; omega
 have hno : (IsRep (grV g) S → False) → Value.bool false = Value.bool (repA (grV g) S) := fun h => congrArg Value.bool (Bool.eq_false_iff.2 fun hh => h ((repA_iff hv).1 hh)).symm
 refine enter (args := [_, _]) Tryz.func45 rfl Tryz.ntmps45 (by kernel_rfl) rfl ?_
 refine V.seq (V.region (VL.box (v := .agg _) rfl fun b0_0 w0_0 hb0_0 e0_0 hB0_0 => VL.op (R.asB rfl) (VL.nil (V.seq (V.seq (V.region (VL.op (R.mvS rfl) (VL.op (R.fld' (o := 0) Tryz.runUnderlying25 rfl rfl Tryz.sizeOf3 rfl rfl) (VL.op (R.ld1 Tryz.isAgg3 rfl ((hB0_0.cell 0))) (VL.callP Tryz.call47 rfl (verts_spec a c S g.n _ (by omega) (hS.ext e0_0)) fun w1_3 e1_3 => VL.op (R.not rfl) (VL.op (R.mvB rfl) (VL.or rfl rfl (fun g1_5 => VL.op (R.fld' (o := 2) Tryz.runUnderlying25 rfl rfl Tryz.sizeOf23 rfl rfl) (VL.gT rfl rfl (VL.op (R.ld1 Tryz.isAgg23 rfl (((hB0_0.ext e1_3).cell 2))) (VL.gT rfl rfl (VL.op (R.mvS rfl) (VL.gT rfl rfl (VL.callP Tryz.call70 rfl (free_spec g.edges g.ea a g.ec c S _ (by omega) (fun y hy => by have := (hl.each y hy).1; omega) (by omega) (hG.e.ext (e0_0.trans e1_3)) (hS.ext (e0_0.trans e1_3))) fun w1_9 e1_9 => VL.gT rfl rfl (VL.op (R.not rfl) (VL.op (R.pickFB rfl rfl) (VL.nil (V.cond rfl (fun c17 => V.seq (V.region (VL.op (R.asB rfl) (VL.nil (V.ret (fret1 (v := .bool _) rfl rfl rfl (⟨?_, ((e0_0.trans e1_3).trans e1_9)⟩))))))) (fun c17 => V.skip (V.seq (V.seq (?_))))))))))))))) (fun g1_5 => VL.gF rfl rfl (VL.gF rfl rfl (VL.gF rfl rfl (VL.gF rfl rfl (VL.op (R.pickTB rfl rfl) (VL.nil (V.condT rfl (V.seq (V.region (VL.op (R.asB rfl) (VL.nil (V.ret (fret1 (v := .bool _) rfl rfl rfl (⟨?_, (e0_0.trans e1_3)⟩))))))))))))))))))))))))))
 ·have h1 : setB S g.n = true := by simpa using g1_5
  have h2 : freeF (vals g.edges) S = false := by simpa using c17
  refine hno fun h => ?_
  have h3 := free_ind (g := grV g) hv (setB_iff.1 h1).1
  rw [show (grV g).edges = vals g.edges from rfl, h2] at h3
  have h4 := indB_iff.2 h.free
  rw [show (grV g).edges = vals g.edges from rfl, ← h3] at h4
  cases h4
 ·have hset : setB S g.n = true := by simpa using g1_5
  have hfr : freeF (vals g.edges) S = true := by simpa using c17
  have hind : indB (grV g).edges S = true := by rw [← free_ind (g := grV g) hv (setB_iff.1 hset).1]; exact hfr
  have E1 : Ext w w1_9 := (e0_0.trans e1_3).trans e1_9
  have hX1 := (hB0_0.ext e1_3).ext e1_9
  refine V.region (VL.op (R.asI rfl) (VL.nil (V.block (?_))))
  refine V.loop [1, 2, 5] (fun v : Nat => [.slice a S.length c, .pointer (some ⟨b0_0, 0, none⟩), .int .i64 (v : Nat)]) (fun v w' => v ≤ N ∧ (∀ u : Nat, u < v → (u : Int) ∈ S ∨ blkB (vals g.edges) S (u : Int) = true) ∧ Ext w1_9 w') (fun v => N - v) 0 rfl ⟨Nat.zero_le _, fun u h => absurd h (Nat.not_lt_zero u), Vc.Mod.refl _ _⟩ ?_
  rintro ρ v w2 ⟨hvN, hu, e2⟩
  have hX2 := hX1.ext e2
  have hS2 := hS.ext (E1.trans e2)
  have hE2 := (hG.ext (E1.trans e2)).e
  have hbl : (!freeF (vals g.edges) (setF (S ++ [(v : Int)]))) = blkB (vals g.edges) S (v : Int) := blkR_eq hv (setB_iff.1 hset).1 hind (v : Int)
  refine V.seq (V.seq (V.region (VL.op (R.mvI rfl) (VL.op (R.fld' (o := 0) Tryz.runUnderlying25 rfl rfl Tryz.sizeOf3 rfl rfl) (VL.op (R.ld1 Tryz.isAgg3 rfl ((show w2.cell? ⟨b0_0, 0, none⟩ = some (Value.int .i64 ((N : Nat) : Int)) from by rw [← hN]; exact hX2.cell 0))) (VL.op (R.lss rfl rfl) (VL.nil (V.condP rfl (fun c21 => V.skip (V.seq (V.block (V.seq (?_))))) (fun c21 => V.exit (V.seq (V.region (VL.op (R.asB rfl) (VL.nil (V.ret (fret1 (v := .bool _) rfl rfl rfl (⟨?_, E1.trans e2⟩))))))))))))))))
  ·have hvl : v < N := by omega
   by_cases hvS : (v : Int) ∈ S
   ·refine V.regionQ mixed 14 (by kernel_rfl) rfl (fun w' => Ext _ w') (Ext.drawn _) (VQ.op (fun wq eq => R.mvS rfl) (VQ.op (fun wq eq => R.mvI rfl) (VQ.callP (fun _ _ h k => Mod.trans h k) Tryz.call34 rfl (fun wq eq => (by have := in_spec a c S (v : Int) wq (by omega) (hS2.ext eq); rwa [decide_eq_true hvS] at this)) (VQ.op (fun wq eq => R.not rfl) (VQ.op (fun wq eq => R.mvB rfl) (VQ.gF rfl rfl (VQ.gF rfl rfl (VQ.gF rfl rfl (VQ.gF rfl rfl (VQ.gF rfl rfl (VQ.gF rfl rfl (VQ.gF rfl rfl (VQ.gF rfl rfl (VQ.gF rfl rfl (VQ.nil fun w6q e6q => VL.gF rfl rfl (VL.op (R.pickFB rfl rfl) (VL.nil (V.condF rfl (V.skip (V.region (VL.op (R.mvI rfl) (VL.op (R.add rfl rfl (by omega) (by omega)) (VL.op (R.asI rfl) (VL.nil (⟨v + 1, rfl, ⟨by omega, fun u h => ?_, e2.trans e6q⟩, by omega⟩)))))))))))))))))))))))))
    by_cases e : u = v
    ·subst e; exact .inl hvS
    ·exact hu u (by omega)
   ·have hk := keeps_set (setB_iff.1 hset).1 hvS
    obtain ⟨n, hn⟩ : ∃ n, n = w2.heap.size := ⟨_, rfl⟩
    refine V.regionD (T := (TK 3 n S (v : Int))) mixed 14 (by kernel_rfl) rfl (fun us => VD.op (fun wq eq => R.mvS rfl) (VD.op (fun wq eq => R.mvI rfl) (VD.callP Tryz.call34 rfl (fun wq eq => (by have := in_spec a c S (v : Int) wq (by omega) (hS2.ext (eq.ext (Nat.le_of_eq hn.symm))); rwa [decide_eq_false hvS] at this)) (VD.op (fun wq eq => R.not rfl) (VD.op (fun wq eq => R.mvB rfl) (VD.gT rfl rfl (VD.op (fun wq eq => R.fld' (o := 2) Tryz.runUnderlying25 rfl rfl Tryz.sizeOf23 rfl rfl) (VD.gT rfl rfl (VD.op (fun wq eq => R.ld1 Tryz.isAgg23 rfl ((show wq.cell? ⟨b0_0, 2, none⟩ = some (Value.slice g.ea g.edges.length g.ec) from (hX2.ext (eq.ext (Nat.le_of_eq hn.symm))).cell 2))) (VD.gT rfl rfl (VD.spec (fun _ => fun u w' => ∃ b, u = .slice (some ⟨b, 0, none⟩) 0 0 ∧ OwnT Vc.encI 1 3 n w' (some ⟨b, 0, none⟩) 0 []) (DepS.const _) (fun u a b _ ⟨c, hc, h1⟩ t => ⟨c, hc, t.s _ _ _ (keeps_nil _ _) h1⟩) rfl (fun wq eq hq => yieldsR_op (R.buildSl0 Tryz.runUnderlying22 Tryz.sizeOf3) ⟨⟨_, rfl, OwnT.of0 Vc.encI 1 (Blk.alloc _ _) (by rw [hn]; exact eq.m.size)⟩, Turn.ext (Ext.alloc _ _)⟩) (VD.gT rfl rfl (VD.op (fun wq eq => R.mvS rfl) (VD.gT rfl rfl (VD.spec (fun _ => fun u w' => ∃ a' c', u = .slice a' S.length c' ∧ OwnT Vc.encI 1 3 n w' a' c' S) (DepS.const _) (fun u a b _ ⟨a', c', hc, h1⟩ t => ⟨a', c', hc, t.s _ _ _ (keeps_self _ _) h1⟩) rfl (fun wq eq hq => by
       obtain ⟨b0, hv0, ho0⟩ := hq 7 (by kernel_rfl)
       exact yieldsR_append0 el22 (fun _ => rfl) hv0 ho0 rfl (hS2.ext (eq.ext (Nat.le_of_eq hn.symm))) hax (by omega) (by unfold maxLen; omega) (by rw [hn]; exact eq.m.size) fun a' c' w'' ho he => ⟨⟨a', c', rfl, ho⟩, Turn.ext he⟩) (VD.gT rfl rfl (VD.op (fun wq eq => R.mvI rfl) (VD.gT rfl rfl (VD.spec (fun _ => fun u w' => ∃ b, u = .slice (some ⟨b, 0, none⟩) 1 1 ∧ OwnT Vc.encI 1 3 n w' (some ⟨b, 0, none⟩) 1 [(v : Int)]) (DepS.const _) (fun u a b _ ⟨c, hc, h1⟩ t => ⟨c, hc, t.s _ _ _ (keeps_one _ _) h1⟩) rfl (fun wq eq hq => yieldsR_build1 Tryz.runUnderlying22 Tryz.sizeOf3 Tryz.zeroValue3 rfl rfl rfl (v : Int) rfl rfl rfl (by rw [hn]; exact eq.m.size) fun b w'' ho he => ⟨⟨b, rfl, ho⟩, Turn.ext he⟩) (VD.gT rfl rfl (VD.spec (fun _ => fun u w' => ∃ a' c', u = .slice a' (S.length + 1) c' ∧ OwnT Vc.encI 1 3 n w' a' c' (S ++ [(v : Int)])) (DepS.const _) (fun u a b _ ⟨a', c', hc, h1⟩ t => ⟨a', c', hc, t.s _ _ _ (keeps_snoc _ _) h1⟩) rfl (fun wq eq hq => by
       obtain ⟨a1, c1, hv1, ho1⟩ := hq 9 (by kernel_rfl)
       obtain ⟨b2, hv2, ho2⟩ := hq 11 (by kernel_rfl)
       exact yieldsR_app1K el22 hv1 ho1 hv2 ho2.sl (by omega) (by unfold maxLen; omega) (by rw [hn]; exact eq.m.size) fun a' c' w' ho ht => ⟨⟨a', c', rfl, ho⟩, ht⟩) (VD.gT rfl rfl (VD.callX (fun _ => fun u w' => ∃ x : Option Addr × Nat, u = .slice x.1 (setF (S ++ [(v : Int)])).length x.2 ∧ OwnT Vc.encI 1 3 n w' x.1 x.2 (setF (S ++ [(v : Int)]))) (DepS.const _) (fun u a b _ ⟨x, hc, h1⟩ t => ⟨x, hc, t.s _ _ _ hk h1⟩) Tryz.call71 rfl (fun wq eq hq => by
       obtain ⟨a1, c1, hv1, ho1⟩ := hq 12 (by kernel_rfl)
       rw [hv1]
       refine Rets.mono (rsetN30_spec a1 c1 (S.length + 1) (S ++ [(v : Int)]) wq (by simp) (by simp; omega) ho1.sl) ?_
       rintro u w' ⟨x, hu, h1, he⟩
       exact ⟨⟨x, hu, h1.weaken (by rw [hn]; exact eq.m.size)⟩, Turn.ext he⟩) (VD.nil (fun w6 e6 h6 => ?_))))))))))))))))))))))))) rfl
    obtain ⟨x, hx, hxo⟩ := h6 13
    rw [hx]
    have e6' : Ext w2 w6 := e6.ext (Nat.le_of_eq hn.symm)
    refine VL.and rfl rfl (fun g6_4 => VL.callP Tryz.call70 rfl (free_spec g.edges g.ea x.1 g.ec x.2 (setF (S ++ [(v : Int)])) w6 (by omega) (fun y hy => by have := (hl.each y hy).1; omega) (by have := setF_len (S ++ [(v : Int)]); simp at this; omega) (hE2.ext e6') hxo.sl) fun w6_14 e6_14 => VL.op (R.pickTB rfl rfl) (VL.nil (V.cond rfl (fun c39 => V.seq (V.region (VL.op (R.asB rfl) (VL.nil (V.ret (fret1 (v := .bool _) rfl rfl rfl (⟨?_, E1.trans (e2.trans (e6'.trans e6_14))⟩))))))) (fun c39 => V.skip (V.region (VL.op (R.mvI rfl) (VL.op (R.add rfl rfl (by omega) (by omega)) (VL.op (R.asI rfl) (VL.nil (⟨v + 1, rfl, ⟨by omega, fun u h => ?_, ?_⟩, by omega⟩)))))))))) (fun g6_4 => VL.op (R.pickFB rfl rfl) (VL.nil (V.condF rfl (V.skip (V.region (VL.op (R.mvI rfl) (VL.op (R.add rfl rfl (by omega) (by omega)) (VL.op (R.asI rfl) (VL.nil (⟨v + 1, rfl, ⟨by omega, fun u h => ?_, ?_⟩, by omega⟩))))))))))
    ·have h2 : blkB (grV g).edges S (v : Int) = false := by show blkB (vals g.edges) S (v : Int) = false; rw [← hbl, c39]; rfl
     refine hno fun h => ?_
     rw [blkB_iff.2 (h.max (v : Int) (by omega) (by rw [hgn]; omega) hvS)] at h2
     cases h2
    ·by_cases e : u = v
     ·subst e; exact .inr (by rw [← hbl, c39]; rfl)
     ·exact hu u (by omega)
    ·exact e2.trans (e6'.trans e6_14)
    ·cases g6_4
    ·cases g6_4
  ·have hve : v = N := by omega
   subst hve
   refine congrArg Value.bool ?_
   refine ((repA_iff hv).2 ⟨hset, indB_iff.1 hind, fun u h0 h1 huS => ?_⟩).symm
   have := (hu u.toNat (by have : (grV g).n = g.n := rfl; omega)).resolve_left (by rw [show ((u.toNat : Nat) : Int) = u by omega]; exact huS)
   rw [show ((u.toNat : Nat) : Int) = u by omega] at this
   exact blkB_iff.1 this
 ·have h1 : setB S g.n = false := by simpa using g1_5
  refine hno fun h => ?_
  have h2 := h.set
  rw [hgn, h1] at h2; cases h2
end Go.Proofs.YtmglkjigmcikdaaGreatDoor

/- Proof: the reference: all repairs, by bits; certificates. -/
namespace Go.Proofs.YtmglkjigmcikdaaGreatDoor
open Go.Vc
set_option maxRecDepth 100000
set_option maxHeartbeats 16000000
theorem sep_ty {α β : Type} {enc : α → List Value} {enc2 : β → List Value} {s s2 e e2 B B2 : Nat} {w : World} {a a2 : Option Addr} {c c2 : Nat} {l : List α} {l2 : List β} (h : OwnT enc s e B w a c l) (h2 : OwnT enc2 s2 e2 B2 w a2 c2 l2) (hne : e ≠ e2) : Sep a a2 := fun k h3 h4 => by
 obtain ⟨ad, ha, hk⟩ := h4
 obtain ⟨c, z, hb⟩ := OwnT.tyA h2 ad ha
 rw [hk] at hb
 exact (OwnT.tyA h).apart hb hne h3
structure BsR (B : Nat) (p : List Int → Bool) (N k : Nat) (w0 : World) (a : Option Addr) (c : Nat) (z : List SlI) (w' : World) : Prop where
 own : OwnT encSl 1 22 B w' a c z
 each : ∀ y ∈ z, OwnT Vc.encI 1 3 B w' y.a y.c y.l
 v : vals z = bitsK p N k
 e : Ext w0 w'
theorem BsR.ext {B : Nat} {p : List Int → Bool} {N k : Nat} {w0 : World} {a : Option Addr} {c : Nat} {z : List SlI} {w w' : World} (h : BsR B p N k w0 a c z w) (e : Ext w w') : BsR B p N k w0 a c z w' := ⟨h.own.ext e, fun y hy => (h.each y hy).ext e, h.v, h.e.trans e⟩
theorem BsR.ll {B : Nat} {p : List Int → Bool} {N k : Nat} {w0 : World} {a : Option Addr} {c : Nat} {z : List SlI} {w : World} (h : BsR B p N k w0 a c z w) : LL w a z := ⟨h.own.sl, fun y hy => (h.each y hy).sl⟩
theorem repairs30_spec (g : GrW) (N : Nat) (w : World) (hG : GOk w g) (hl : GLen g) (hv : validG (grV g) = true) (hN : g.n = (N : Int)) (hN16 : N ≤ 16) :
  RetsX Tryz.prog 18 #[.agg (encGr g).toArray] w (fun x : Option Addr × Nat × List SlI => .slice x.1 x.2.2.length x.2.1) (fun x w' => BsR w.heap.size (repA (grV g)) N (2 ^ N) w x.1 x.2.1 x.2.2 w') := by
 have hp : 2 ^ N ≤ 65536 := Nat.pow_le_pow_right (n := 2) (by decide) hN16
 refine enter (args := [_]) Tryz.func18 rfl Tryz.ntmps18 (by kernel_rfl) rfl ?_
 refine V.seq (V.region (VL.box (v := .agg _) rfl fun b0_0 w0_0 hb0_0 e0_0 hB0_0 => VL.op (R.asS rfl) (VL.nil (V.seq (V.region (VL.op (R.asS rfl) (VL.nil (V.seq (V.seq (V.region (VL.op (R.asI rfl) (VL.nil (V.block (?_))))))))))))))
 refine V.loop [1, 3, 4] (fun x : Nat × Option Addr × Nat × List SlI => [.pointer (some ⟨b0_0, 0, none⟩), .slice x.2.1 x.2.2.2.length x.2.2.1, .int .i64 (x.1 : Nat)]) (fun x w' => x.1 ≤ 2 ^ N ∧ BsR w0_0.heap.size (repA (grV g)) N x.1 w0_0 x.2.1 x.2.2.1 x.2.2.2 w') (fun x => 2 ^ N - x.1) (0, none, 0, []) rfl ⟨Nat.zero_le _, OwnT.nil _ _ _ _ _, fun y hy => (by cases hy), rfl, Vc.Mod.refl _ _⟩ ?_
 rintro ρ ⟨k, a, c, z⟩ w2 ⟨hk, hJ⟩
 dsimp only at hk hJ ⊢
 have hX2 := hB0_0.ext hJ.e
 have hzl : z.length ≤ k := by have h1 := bitsK_len (repA (grV g)) N k; have h2 := congrArg List.length hJ.v; have h3 : (vals z).length = z.length := List.length_map _; omega
 refine V.seq (V.seq (V.region (VL.op (R.mvI rfl) (VL.op (R.fld' (o := 0) Tryz.runUnderlying25 rfl rfl Tryz.sizeOf3 rfl rfl) (VL.op (R.ld1 Tryz.isAgg3 rfl ((show w2.cell? ⟨b0_0, 0, none⟩ = some (Value.int .i64 ((N : Nat) : Int)) from by rw [← hN]; exact hX2.cell 0))) (VL.op (R.shl1 rfl rfl (by omega)) (VL.op (R.lss rfl rfl) (VL.nil (V.condP rfl (fun c11 => V.skip (V.seq (V.block (V.seq (?_))))) (fun c11 => V.exit (V.seq (V.region (VL.op (R.mvS rfl) (VL.op (R.asS rfl) (VL.nil (V.ret (fret1 (v := .slice _ _ _) rfl rfl rfl (?_))))))))))))))))))
 ·have hkl : k < 2 ^ N := by omega
  refine V.region (VL.op (R.asS rfl) (VL.nil (V.cut [1, 3, 4, 5] (fun x : Option Addr × Nat × List Int => [.pointer (some ⟨b0_0, 0, none⟩), .slice a z.length c, .int .i64 (k : Nat), .slice x.1 x.2.2.length x.2.1]) (fun x w' => x.2.2 = bitL k N ∧ OwnT Vc.encI 1 3 w2.heap.size w' x.1 x.2.1 x.2.2 ∧ Ext w2 w') (V.seq (V.region (VL.op (R.asI rfl) (VL.nil (V.block (?_)))))) (fun rgB2 xB2 wBB2 hBB2 => V.seq (?_)))))
  ·refine V.loop [1, 3, 4, 5, 6] (fun x : Nat × Option Addr × Nat × List Int => [.pointer (some ⟨b0_0, 0, none⟩), .slice a z.length c, .int .i64 (k : Nat), .slice x.2.1 x.2.2.2.length x.2.2.1, .int .i64 (x.1 : Nat)]) (fun x w' => x.1 ≤ N ∧ x.2.2.2 = bitL k x.1 ∧ OwnT Vc.encI 1 3 w2.heap.size w' x.2.1 x.2.2.1 x.2.2.2 ∧ Ext w2 w') (fun x => N - x.1) (0, none, 0, []) rfl ⟨Nat.zero_le _, rfl, OwnT.nil _ _ _ _ _, Vc.Mod.refl _ _⟩ ?_
   rintro ρ ⟨v, a5, c5, l5⟩ w3 ⟨hv3, hl5, ho5, e3⟩
   dsimp only at hv3 hl5 ho5 e3 ⊢
   have hX3 := hX2.ext e3
   have hlen := bitL_len k v
   rw [← hl5] at hlen
   have hsucc := bitL_succ k v
   refine V.seq (V.seq (V.region (VL.op (R.mvI rfl) (VL.op (R.fld' (o := 0) Tryz.runUnderlying25 rfl rfl Tryz.sizeOf3 rfl rfl) (VL.op (R.ld1 Tryz.isAgg3 rfl ((show w3.cell? ⟨b0_0, 0, none⟩ = some (Value.int .i64 ((N : Nat) : Int)) from by rw [← hN]; exact hX3.cell 0))) (VL.op (R.lss rfl rfl) (VL.nil (V.condP rfl (fun c17 => V.skip (V.seq (V.block (V.seq (?_))))) (fun c17 => V.exit (?_))))))))))
   ·have hvl : v < N := by omega
    refine V.region (VL.op (R.mvI rfl) (VL.op (R.mvI rfl) (VL.op (R.shrN rfl rfl (by omega)) (VL.op (R.remE (z := ((k / 2 ^ v % 2 : Nat) : Int)) rfl rfl (Int.natCast_nonneg _) (by decide) (Int.natCast_emod _ _).symm) (VL.op (R.eql rfl rfl) (VL.nil (V.condP rfl (fun c24 => V.region (VL.op (R.mvS rfl) (VL.op (R.mvI rfl) (VL.append1 el22 Tryz.runUnderlying22 Tryz.sizeOf3 Tryz.zeroValue3 rfl ((v : Int)) rfl rfl rfl ho5 rfl rfl rfl (by omega) (by unfold maxLen; omega) e3.size fun a6 c6 w6 vt6 ho6 m6 hf6 => VL.op (R.asS rfl) (VL.nil (V.region (VL.op (R.mvI rfl) (VL.op (R.add rfl rfl (by omega) (by omega)) (VL.op (R.asI rfl) (VL.nil (?_))))))))))) (fun c24 => V.skip (V.region (VL.op (R.mvI rfl) (VL.op (R.add rfl rfl (by omega) (by omega)) (VL.op (R.asI rfl) (VL.nil (?_))))))))))))))
    ·have h1 : k / 2 ^ v % 2 = 1 := by omega
     refine ⟨(v + 1, a6, c6, l5 ++ [(v : Int)]), by rw [List.length_append]; rfl, ⟨by dsimp only; omega, ?_, ho6, e3.ownA m6 ho5.ge⟩, by dsimp only; omega⟩
     dsimp only
     rw [hsucc, if_pos h1, hl5]
    ·have h1 : ¬ k / 2 ^ v % 2 = 1 := by omega
     refine ⟨(v + 1, a5, c5, l5), rfl, ⟨by dsimp only; omega, ?_, ho5, e3⟩, by dsimp only; omega⟩
     dsimp only
     rw [hsucc, if_neg h1, List.append_nil, hl5]
   ·have hve : v = N := by omega
    subst hve
    exact ⟨(a5, c5, l5), rfl, hl5, ho5, e3⟩
  ·obtain ⟨a5, c5, l5⟩ := xB2
   obtain ⟨hl5, ho5, e5⟩ := hBB2
   dsimp only at hl5 ho5 e5 ⊢
   have hX5 := hX2.ext e5
   have hJ5 := hJ.ext e5
   have hlen := bitL_len k N
   rw [← hl5] at hlen
   have hsucc := bitsK_succ (repA (grV g)) N k
   rw [← hl5] at hsucc
   refine V.region (VL.op (R.ldA Tryz.isAgg25 Tryz.sizeOf25 rfl rfl ((show RowAt _ _ _ (encGr g) from hX5.rowAt 0 3)) rfl) (VL.op (R.mvS rfl) (VL.callP Tryz.call45 rfl (rrepair30_spec g a5 c5 l5 _ (hG.ext (e0_0.trans hJ5.e)) hl hv (by omega) ho5.hax ho5.sl) fun w11_2 e11_2 => VL.nil (V.cond rfl (fun c31 => V.region (VL.op (R.mvS rfl) (VL.op (R.mvS rfl) (VL.append1 el23 Tryz.runUnderlying23 Tryz.sizeOf22 Tryz.zeroValue22 rfl ((⟨a5, c5, l5⟩ : SlI)) rfl rfl rfl (hJ5.own.ext e11_2) rfl rfl rfl (by omega) (by unfold maxLen; omega) (Vc.Mod.size (hJ5.e.trans e11_2)) fun a6 c6 w6 vt6 ho6 m6 hf6 => VL.op (R.asS rfl) (VL.nil (V.region (VL.op (R.mvI rfl) (VL.op (R.add rfl rfl (by omega) (by omega)) (VL.op (R.asI rfl) (VL.nil (?_))))))))))) (fun c31 => V.skip (V.region (VL.op (R.mvI rfl) (VL.op (R.add rfl rfl (by omega) (by omega)) (VL.op (R.asI rfl) (VL.nil (?_)))))))))))
   ·have hB2 : w0_0.heap.size ≤ w2.heap.size := Vc.Mod.size hJ.e
    refine ⟨(k + 1, a6, c6, z ++ [⟨a5, c5, l5⟩]), by rw [List.length_append]; rfl, ⟨by dsimp only; omega, ho6, fun y hy => ?_, ?_, (hJ5.e.trans e11_2).ownA m6 hJ5.own.ge⟩, by dsimp only; omega⟩
    ·dsimp only at hy
     rcases List.mem_append.1 hy with h1 | h1
     ·have h2 := (hJ5.each y h1).ext e11_2
      exact h2.mod m6 fun q h3 h4 => sep_ty (hJ5.own.ext e11_2) h2 (by decide) q h4 h3
     ·rw [List.mem_singleton.1 h1]
      have h2 := ho5.ext e11_2
      exact (h2.mod m6 fun q h3 h4 => sep_ty (hJ5.own.ext e11_2) h2 (by decide) q h4 h3).weaken hB2
    ·dsimp only
     rw [hsucc, if_pos c31, ← hJ.v]
     exact List.map_append
   ·refine ⟨(k + 1, a, c, z), rfl, ⟨by dsimp only; omega, ?_⟩, by dsimp only; omega⟩
    have := hJ5.ext e11_2
    refine ⟨this.own, this.each, ?_, this.e⟩
    dsimp only
    rw [hsucc, if_neg (by rw [c31]; decide), List.append_nil]; exact hJ.v
 ·have hke : k = 2 ^ N := by omega
  subst hke
  exact ⟨(a, c, z), rfl, ⟨hJ.own.weaken e0_0.size, fun y hy => (hJ.each y hy).weaken e0_0.size, hJ.v, e0_0.trans hJ.e⟩, e0_0.trans hJ.e⟩
theorem rclaim30_spec (g : GrW) (wa : Option Addr) (wc : Nat) (W : List WyI) (y : ClX) (w : World) (hG : GOk w g) (hl : GLen g) (hW : WL w wa W) (hWl : ∀ y ∈ W, WLen y) (hWm : W.length ≤ 1000000) (hC : ClOk w y) (hyA : y.A.length ≤ 100000) (hyB : y.B.length ≤ 100000) (hyS : y.S.length ≤ 1000000) (hxA : y.aa = none → y.ac = 0) (hxB : y.ba = none → y.bc = 0) :
  RetsP Tryz.prog 17 #[.agg (encGr g).toArray, .slice wa W.length wc, .agg (encCl y).toArray] w (.bool (claimA (grV g) (W.map wyV) y.v y.A y.B y.S)) := by
 refine enter (args := [_, _, _]) Tryz.func17 rfl Tryz.ntmps17 (by kernel_rfl) rfl ?_
 refine V.seq (V.region (VL.box (v := .agg _) rfl fun b0_0 w0_0 hb0_0 e0_0 hB0_0 => VL.box (v := .agg _) rfl fun b0_1 w0_1 hb0_1 e0_1 hB0_1 => VL.op (R.asB rfl) (VL.nil (V.seq (V.seq (V.region (VL.op (R.ldA Tryz.isAgg25 Tryz.sizeOf25 rfl rfl ((show RowAt _ _ _ (encGr g) from (hB0_0.ext e0_1).rowAt 0 3)) rfl) (VL.op (R.mvS rfl) (VL.callP Tryz.call37 rfl (rready30_spec g wa wc W _ (hG.ext (e0_0.trans e0_1)) hl (hW.ext (e0_0.trans e0_1)) hWl hWm) fun w1_2 e1_2 => VL.op (R.not rfl) (VL.nil (V.cond rfl (fun c12 => V.seq (V.region (VL.op (R.asB rfl) (VL.nil (V.ret (fret1 (v := .bool _) rfl rfl rfl (⟨?_, ((e0_0.trans e0_1).trans e1_2)⟩))))))) (fun c12 => V.skip (V.seq (?_))))))))))))))
 ·have hr : readyG (grV g) (W.map wyV) = false := by simpa using c12
  refine congrArg Value.bool ?_
  unfold claimA
  rw [hr, Bool.false_and]
 ·have hr : readyG (grV g) (W.map wyV) = true := by simpa using c12
  have hv := ready_valid hr
  have E1 : Ext w w1_2 := (e0_0.trans e0_1).trans e1_2
  have hX0 := (hB0_0.ext e0_1).ext e1_2
  have hX1 := hB0_1.ext e1_2
  have hcG : ∀ {w'}, Ext w1_2 w' → RowAt w' b0_0 0 (encGr g) := fun e => (hX0.ext e).rowAt 0 3
  have hcA : ∀ {w'}, Ext w1_2 w' → w'.cell? ⟨b0_1, 1, none⟩ = some (Value.slice y.aa y.A.length y.ac) := fun e => (hX1.ext e).cell 1
  have hcB : ∀ {w'}, Ext w1_2 w' → w'.cell? ⟨b0_1, 2, none⟩ = some (Value.slice y.ba y.B.length y.bc) := fun e => (hX1.ext e).cell 2
  have hcS : ∀ {w'}, Ext w1_2 w' → w'.cell? ⟨b0_1, 3, none⟩ = some (Value.slice y.sa y.S.length y.sc) := fun e => (hX1.ext e).cell 3
  have hcSr : ∀ {w'}, Ext w1_2 w' → RowAt w' b0_1 3 [Value.slice y.sa y.S.length y.sc] := fun e => (hX1.ext e).rowAt 3 1
  have hrA : ∀ {w'}, Ext w1_2 w' → RetsP Tryz.prog 45 #[.agg (encGr g).toArray, .slice y.aa y.A.length y.ac] w' (.bool (repA (grV g) y.A)) := fun e => rrepair30_spec g y.aa y.ac y.A _ (hG.ext (E1.trans e)) hl hv hyA hxA (hC.a.ext (E1.trans e))
  have hrB : ∀ {w'}, Ext w1_2 w' → RetsP Tryz.prog 45 #[.agg (encGr g).toArray, .slice y.ba y.B.length y.bc] w' (.bool (repA (grV g) y.B)) := fun e => rrepair30_spec g y.ba y.bc y.B _ (hG.ext (E1.trans e)) hl hv hyB hxB (hC.b.ext (E1.trans e))
  have hsA : ∀ {w'}, Ext w1_2 w' → RetsP Tryz.prog 21 #[.slice wa W.length wc, .slice y.aa y.A.length y.ac] w' (.bool ((W.map wyV).any (holdP y.A))) := fun e => rsome30_spec wa wc W y.aa y.ac y.A _ (hW.ext (E1.trans e)) hWl hWm (hC.a.ext (E1.trans e)) (by omega)
  have hsB : ∀ {w'}, Ext w1_2 w' → RetsP Tryz.prog 21 #[.slice wa W.length wc, .slice y.ba y.B.length y.bc] w' (.bool ((W.map wyV).any (holdP y.B))) := fun e => rsome30_spec wa wc W y.ba y.bc y.B _ (hW.ext (E1.trans e)) hWl hWm (hC.b.ext (E1.trans e)) (by omega)
  have hck : ∀ {w'} (h : Bool), Ext w1_2 w' → RetsP Tryz.prog 15 #[.agg (encGr g).toArray, .slice wa W.length wc, .bool h, .agg #[.slice y.sa y.S.length y.sc]] w' (.bool (checkA (grV g) (W.map wyV) h y.S)) := fun h e => rcheck30_spec g wa wc W h y.sa y.sc y.S _ (hG.ext (E1.trans e)) hl (hW.ext (E1.trans e)) hWl hWm (hC.s.ext (E1.trans e)) (by omega)
  have hcl : claimA (grV g) (W.map wyV) y.v y.A y.B y.S = (if y.v = 0 then decide (y.A.length + y.B.length + y.S.length = 0)
   else if y.v = 1 then decide (y.B.length = 0) && (withA (grV g) (W.map wyV) y.A && checkA (grV g) (W.map wyV) false y.S)
   else if y.v = 3 then decide (y.A.length = 0) && (woutA (grV g) (W.map wyV) y.B && checkA (grV g) (W.map wyV) true y.S)
   else if y.v = 2 then decide (y.S.length = 0) && (withA (grV g) (W.map wyV) y.A && woutA (grV g) (W.map wyV) y.B)
   else false) := by unfold claimA; rw [hr, Bool.true_and]
  rw [hcl]
  refine V.regionCut [7, 13, 14, 15, 16, 17, 18, 19, 20, 21, 22] 7 (.bool (withA (grV g) (W.map wyV) y.A)) (fun w' => Ext _ w') rfl (VL.op (R.ldA Tryz.isAgg25 Tryz.sizeOf25 rfl rfl ((hcG (Vc.Mod.refl _ _))) rfl) (VL.op (R.fld' (o := 1) Tryz.runUnderlying31 rfl rfl Tryz.sizeOf22 rfl rfl) (VL.op (R.ld1 Tryz.isAgg22 rfl ((hcA (Vc.Mod.refl _ _)))) (VL.callP Tryz.call45 rfl (hrA (Vc.Mod.refl _ _)) fun w3_3 e3_3 => VL.op (R.mvB rfl) (VL.and rfl rfl (fun g3_4 => VL.op (R.mvS rfl) (VL.gT rfl rfl (VL.op (R.fld' (o := 1) Tryz.runUnderlying31 rfl rfl Tryz.sizeOf22 rfl rfl) (VL.gT rfl rfl (VL.op (R.ld1 Tryz.isAgg22 rfl ((hcA e3_3))) (VL.gT rfl rfl (VL.callP Tryz.call21 rfl (hsA e3_3) fun w3_8 e3_8 => VL.op (R.pickTB rfl rfl) (VL.op (R.asB rfl) (VL.nil ⟨rfl, cutB rfl ?_, (Mod.trans e3_3 e3_8)⟩))))))))) (fun g3_4 => VL.gF rfl rfl (VL.gF rfl rfl (VL.gF rfl rfl (VL.op (R.pickFB rfl rfl) (VL.op (R.asB rfl) (VL.nil ⟨rfl, cutB rfl ?_, e3_3⟩))))))))))) (fun rg3 w3c e3c => V.seq (?_))
  ·unfold withA; rw [g3_4, Bool.true_and]
  ·unfold withA; rw [g3_4, Bool.false_and]
  refine V.regionCut [8, 23, 24, 25, 26, 27, 28, 29, 30, 31, 32, 33] 8 (.bool (woutA (grV g) (W.map wyV) y.B)) (fun w' => Ext _ w') rfl (VL.op (R.ldA Tryz.isAgg25 Tryz.sizeOf25 rfl rfl ((hcG e3c)) rfl) (VL.op (R.fld' (o := 2) Tryz.runUnderlying31 rfl rfl Tryz.sizeOf22 rfl rfl) (VL.op (R.ld1 Tryz.isAgg22 rfl ((hcB e3c))) (VL.callP Tryz.call45 rfl (hrB e3c) fun w4_3 e4_3 => VL.op (R.mvB rfl) (VL.and rfl rfl (fun g4_4 => VL.op (R.mvS rfl) (VL.gT rfl rfl (VL.op (R.fld' (o := 2) Tryz.runUnderlying31 rfl rfl Tryz.sizeOf22 rfl rfl) (VL.gT rfl rfl (VL.op (R.ld1 Tryz.isAgg22 rfl ((hcB (e3c.trans e4_3)))) (VL.gT rfl rfl (VL.callP Tryz.call21 rfl (hsB (e3c.trans e4_3)) fun w4_8 e4_8 => VL.gT rfl rfl (VL.op (R.not rfl) (VL.op (R.pickTB rfl rfl) (VL.op (R.asB rfl) (VL.nil ⟨rfl, cutB rfl ?_, (Mod.trans e4_3 e4_8)⟩))))))))))) (fun g4_4 => VL.gF rfl rfl (VL.gF rfl rfl (VL.gF rfl rfl (VL.gF rfl rfl (VL.op (R.pickFB rfl rfl) (VL.op (R.asB rfl) (VL.nil ⟨rfl, cutB rfl ?_, e4_3⟩)))))))))))) (fun rg4 w4c e4c => V.seq (V.seq (?_)))
  ·unfold woutA; rw [g4_4, Bool.true_and]
  ·unfold woutA; rw [g4_4, Bool.false_and]
  have E4 : Ext w1_2 w4c := e3c.trans e4c
  refine V.region (VL.op (R.fld' (o := 0) Tryz.runUnderlying31 rfl rfl Tryz.sizeOf3 rfl rfl) (VL.op (R.ld1 Tryz.isAgg3 rfl ((show _ = some (Value.int .i64 y.v) from (hX1.ext E4).cell 0))) (VL.nil (V.block (V.seq (V.region (VL.op (R.eql rfl rfl) (VL.op (R.asB rfl) (VL.nil (V.condP rfl (fun c36 => V.seq (V.region (VL.op (R.fld' (o := 1) Tryz.runUnderlying31 rfl rfl Tryz.sizeOf22 rfl rfl) (VL.op (R.ld1 Tryz.isAgg22 rfl ((hcA E4))) (VL.op (R.lenS Tryz.runUnderlying22 rfl) (VL.op (R.fld' (o := 2) Tryz.runUnderlying31 rfl rfl Tryz.sizeOf22 rfl rfl) (VL.op (R.ld1 Tryz.isAgg22 rfl ((hcB E4))) (VL.op (R.lenS Tryz.runUnderlying22 rfl) (VL.op (R.add rfl rfl (by omega) (by omega)) (VL.op (R.fld' (o := 3) Tryz.runUnderlying31 rfl rfl Tryz.sizeOf29 rfl rfl) (VL.op (R.fld' (o := 0) Tryz.runUnderlying29 rfl rfl Tryz.sizeOf27 rfl rfl) (VL.op (R.ld1 Tryz.isAgg27 rfl ((hcS E4))) (VL.op (R.lenS Tryz.runUnderlying27 rfl) (VL.op (R.add rfl rfl (by omega) (by omega)) (VL.op (R.eql rfl rfl) (VL.op (R.asB rfl) (VL.nil (V.ret (fret1 (v := .bool _) rfl rfl rfl (⟨?_, E1.trans (E4.trans (Mod.refl _ _))⟩)))))))))))))))))))) (fun c36 => V.seq (V.region (VL.op (R.eql rfl rfl) (VL.op (R.asB rfl) (VL.nil (V.condP rfl (fun c51 => V.seq (V.region (VL.op (R.mvB rfl) (VL.op (R.mvB rfl) (VL.and rfl rfl (fun g9_1 => VL.op (R.fld' (o := 2) Tryz.runUnderlying31 rfl rfl Tryz.sizeOf22 rfl rfl) (VL.gT rfl rfl (VL.op (R.ld1 Tryz.isAgg22 rfl ((hcB E4))) (VL.gT rfl rfl (VL.op (R.lenS Tryz.runUnderlying22 rfl) (VL.gT rfl rfl (VL.op (R.eql rfl rfl) (VL.op (R.pickTB rfl rfl) (VL.op (R.mvB rfl) (VL.andP rfl rfl (fun g9_7 => VL.op (R.ldA Tryz.isAgg25 Tryz.sizeOf25 rfl rfl ((hcG E4)) rfl) (VL.gT rfl rfl (VL.op (R.mvS rfl) (VL.gT rfl rfl (VL.op (R.fld' (o := 3) Tryz.runUnderlying31 rfl rfl Tryz.sizeOf29 rfl rfl) (VL.gT rfl rfl (VL.op (R.ldA Tryz.isAgg29 Tryz.sizeOf29 rfl rfl ((hcSr E4)) rfl) (VL.gT rfl rfl (VL.callP Tryz.call15 rfl (hck false E4) fun w9_12 e9_12 => VL.op (R.pickTB rfl rfl) (VL.op (R.asB rfl) (VL.nil (V.ret (fret1 (v := .bool _) rfl rfl rfl (⟨?_, E1.trans (E4.trans e9_12)⟩)))))))))))))) (fun g9_7 => VL.gF rfl rfl (VL.gF rfl rfl (VL.gF rfl rfl (VL.gF rfl rfl (VL.op (R.pickFB rfl rfl) (VL.op (R.asB rfl) (VL.nil (V.ret (fret1 (v := .bool _) rfl rfl rfl (⟨?_, E1.trans (E4.trans (Mod.refl _ _))⟩)))))))))))))))))))) (fun g9_1 => VL.gF rfl rfl (VL.gF rfl rfl (VL.gF rfl rfl (VL.op (R.pickFB rfl rfl) (VL.op (R.mvB rfl) (VL.gF rfl rfl (VL.gF rfl rfl (VL.gF rfl rfl (VL.gF rfl rfl (VL.gF rfl rfl (VL.op (R.pickFB rfl rfl) (VL.op (R.asB rfl) (VL.nil (V.ret (fret1 (v := .bool _) rfl rfl rfl (⟨?_, E1.trans (E4.trans (Mod.refl _ _))⟩))))))))))))))))))))) (fun c51 => V.seq (V.region (VL.op (R.eql rfl rfl) (VL.op (R.asB rfl) (VL.nil (V.condP rfl (fun c67 => V.seq (V.region (VL.op (R.mvB rfl) (VL.op (R.mvB rfl) (VL.and rfl rfl (fun g11_1 => VL.op (R.fld' (o := 1) Tryz.runUnderlying31 rfl rfl Tryz.sizeOf22 rfl rfl) (VL.gT rfl rfl (VL.op (R.ld1 Tryz.isAgg22 rfl ((hcA E4))) (VL.gT rfl rfl (VL.op (R.lenS Tryz.runUnderlying22 rfl) (VL.gT rfl rfl (VL.op (R.eql rfl rfl) (VL.op (R.pickTB rfl rfl) (VL.op (R.mvB rfl) (VL.andP rfl rfl (fun g11_7 => VL.op (R.ldA Tryz.isAgg25 Tryz.sizeOf25 rfl rfl ((hcG E4)) rfl) (VL.gT rfl rfl (VL.op (R.mvS rfl) (VL.gT rfl rfl (VL.op (R.fld' (o := 3) Tryz.runUnderlying31 rfl rfl Tryz.sizeOf29 rfl rfl) (VL.gT rfl rfl (VL.op (R.ldA Tryz.isAgg29 Tryz.sizeOf29 rfl rfl ((hcSr E4)) rfl) (VL.gT rfl rfl (VL.callP Tryz.call15 rfl (hck true E4) fun w11_12 e11_12 => VL.op (R.pickTB rfl rfl) (VL.op (R.asB rfl) (VL.nil (V.ret (fret1 (v := .bool _) rfl rfl rfl (⟨?_, E1.trans (E4.trans e11_12)⟩)))))))))))))) (fun g11_7 => VL.gF rfl rfl (VL.gF rfl rfl (VL.gF rfl rfl (VL.gF rfl rfl (VL.op (R.pickFB rfl rfl) (VL.op (R.asB rfl) (VL.nil (V.ret (fret1 (v := .bool _) rfl rfl rfl (⟨?_, E1.trans (E4.trans (Mod.refl _ _))⟩)))))))))))))))))))) (fun g11_1 => VL.gF rfl rfl (VL.gF rfl rfl (VL.gF rfl rfl (VL.op (R.pickFB rfl rfl) (VL.op (R.mvB rfl) (VL.gF rfl rfl (VL.gF rfl rfl (VL.gF rfl rfl (VL.gF rfl rfl (VL.gF rfl rfl (VL.op (R.pickFB rfl rfl) (VL.op (R.asB rfl) (VL.nil (V.ret (fret1 (v := .bool _) rfl rfl rfl (⟨?_, E1.trans (E4.trans (Mod.refl _ _))⟩))))))))))))))))))))) (fun c67 => V.seq (V.region (VL.op (R.eql rfl rfl) (VL.op (R.asB rfl) (VL.nil (V.condP rfl (fun c83 => V.seq (V.region (VL.op (R.mvB rfl) (VL.op (R.mvB rfl) (VL.and rfl rfl (fun g13_1 => VL.op (R.mvB rfl) (VL.op (R.pickTB rfl rfl) (VL.op (R.mvB rfl) (VL.and rfl rfl (fun g13_4 => VL.op (R.fld' (o := 3) Tryz.runUnderlying31 rfl rfl Tryz.sizeOf29 rfl rfl) (VL.gT rfl rfl (VL.op (R.fld' (o := 0) Tryz.runUnderlying29 rfl rfl Tryz.sizeOf27 rfl rfl) (VL.gT rfl rfl (VL.op (R.ld1 Tryz.isAgg27 rfl ((hcS E4))) (VL.gT rfl rfl (VL.op (R.lenS Tryz.runUnderlying27 rfl) (VL.gT rfl rfl (VL.op (R.eql rfl rfl) (VL.op (R.pickTB rfl rfl) (VL.op (R.asB rfl) (VL.nil (V.ret (fret1 (v := .bool _) rfl rfl rfl (⟨?_, E1.trans (E4.trans (Mod.refl _ _))⟩))))))))))))))) (fun g13_4 => VL.gF rfl rfl (VL.gF rfl rfl (VL.gF rfl rfl (VL.gF rfl rfl (VL.op (R.pickFB rfl rfl) (VL.op (R.asB rfl) (VL.nil (V.ret (fret1 (v := .bool _) rfl rfl rfl (⟨?_, E1.trans (E4.trans (Mod.refl _ _))⟩)))))))))))))) (fun g13_1 => VL.op (R.pickFB rfl rfl) (VL.op (R.mvB rfl) (VL.gF rfl rfl (VL.gF rfl rfl (VL.gF rfl rfl (VL.gF rfl rfl (VL.gF rfl rfl (VL.op (R.pickFB rfl rfl) (VL.op (R.asB rfl) (VL.nil (V.ret (fret1 (v := .bool _) rfl rfl rfl (⟨?_, E1.trans (E4.trans (Mod.refl _ _))⟩)))))))))))))))))) (fun c83 => V.skip (V.seq (V.region (VL.op (R.asB rfl) (VL.nil (V.ret (fret1 (v := .bool _) rfl rfl rfl (⟨?_, E1.trans (E4.trans (Mod.refl _ _))⟩))))))))))))))))))))))))))))))))))))
  ·refine congrArg Value.bool ?_
   rw [if_pos (by omega)]; exact decide_eq_decide.2 (by omega)
  ·rw [if_neg (by omega), if_pos (by omega), decide_eq_true (by omega), g9_1]; rfl
  ·rw [if_neg (by omega), if_pos (by omega), decide_eq_false (by omega)]; rfl
  ·rw [if_neg (by omega), if_pos (by omega), g9_1, Bool.false_and, Bool.and_false]
  ·rw [if_neg (by omega), if_neg (by omega), if_pos (by omega), decide_eq_true (by omega), g11_1]; rfl
  ·rw [if_neg (by omega), if_neg (by omega), if_pos (by omega), decide_eq_false (by omega)]; rfl
  ·rw [if_neg (by omega), if_neg (by omega), if_pos (by omega), g11_1, Bool.false_and, Bool.and_false]
  ·refine congrArg Value.bool ?_
   rw [if_neg (by omega), if_neg (by omega), if_neg (by omega), if_pos (by omega), g13_1, g13_4, Bool.and_true, Bool.and_true]; exact decide_eq_decide.2 (by omega)
  ·rw [if_neg (by omega), if_neg (by omega), if_neg (by omega), if_pos (by omega), g13_4, Bool.and_false, Bool.and_false]
  ·rw [if_neg (by omega), if_neg (by omega), if_neg (by omega), if_pos (by omega), g13_1, Bool.false_and, Bool.and_false]
  ·rw [if_neg (by omega), if_neg (by omega), if_neg (by omega), if_neg (by omega)]
end Go.Proofs.YtmglkjigmcikdaaGreatDoor

/- Proof: what is few; the chapter's examples. -/
namespace Go.Proofs.YtmglkjigmcikdaaGreatDoor
open Go.Vc
set_option maxRecDepth 100000
set_option maxHeartbeats 16000000
structure FewW (W : List WyI) (n : Nat) (m : Int) : Prop where
 w : W.length ≤ 30
 e : ∀ y ∈ W, y.p.l.length ≤ 30 ∧ y.n.l.length ≤ 30
 s : (n : Int) ≤ m
theorem rfew30_spec (wa : Option Addr) (wc : Nat) (W : List WyI) (sa : Option Addr) (sc n : Nat) (m : Int) (w : World) (hW : WL w wa W) (hWm : W.length ≤ 9223372036854775807) (hWe : ∀ y ∈ W, y.p.l.length ≤ 9223372036854775807 ∧ y.n.l.length ≤ 9223372036854775807) (_hn : n ≤ 9223372036854775807) :
  RetsX Tryz.prog 11 #[.slice wa W.length wc, .agg #[.slice sa n sc], .int .i64 m] w (fun b : Bool => .bool b) (fun b _ => b = true → FewW W n m) := by
 refine enter (args := [_, _, _]) Tryz.func11 rfl Tryz.ntmps11 (by kernel_rfl) rfl ?_
 refine V.seq (V.region (VL.box (v := .agg _) rfl fun b0_0 w0_0 hb0_0 e0_0 hB0_0 => VL.op (R.asB rfl) (VL.nil (V.seq (V.seq (V.region (VL.op (R.asI rfl) (VL.nil (V.block (?_))))))))))
 refine V.loop [0, 2, 4, 7] (fun k : Nat => [.slice wa W.length wc, .int .i64 m, .pointer (some ⟨b0_0, 0, none⟩), .int .i64 (k : Nat)]) (fun k w' => k ≤ W.length ∧ (∀ i, i < k → (W.getD i default).p.l.length ≤ 30 ∧ (W.getD i default).n.l.length ≤ 30) ∧ Ext w0_0 w') (fun k => W.length - k) 0 rfl ⟨Nat.zero_le _, fun i h => absurd h (Nat.not_lt_zero i), Vc.Mod.refl _ _⟩ ?_
 rintro ρ k w2 ⟨hk, hf, e⟩
 have hX2 := hB0_0.ext e
 have hW2 := hW.ext (e0_0.trans e)
 refine V.seq (V.seq (V.region (VL.op (R.mvI rfl) (VL.op (R.mvS rfl) (VL.op (R.lenS Tryz.runUnderlying26 rfl) (VL.op (R.lss rfl rfl) (VL.nil (V.condP rfl (fun c11 => V.skip (V.seq (V.block (V.seq (?_))))) (fun c11 => V.exit (V.seq (?_)))))))))))
 ·have hkn : k < W.length := by omega
  have h1 := hWe _ (gmem hkn)
  refine V.region (VL.op (R.mvS rfl) (VL.op (R.mvI rfl) (VL.op (R.ixS Tryz.runUnderlying26 Tryz.sizeOf37 rfl rfl (by omega) (by omega) (hW2.sl.some (i := k) hkn)) (VL.op (R.fld' (o := 0) Tryz.runUnderlying37 rfl rfl Tryz.sizeOf22 rfl rfl) (VL.op (R.ld1 Tryz.isAgg22 rfl (((hW2.sl.row (i := k) hkn).cell (i := 0) rfl))) (VL.op (R.lenS Tryz.runUnderlying22 rfl) (VL.op (R.gtr rfl rfl) (VL.op (R.mvB rfl) (VL.orP rfl rfl (fun g4_7 => VL.op (R.mvS rfl) (VL.gT rfl rfl (VL.op (R.mvI rfl) (VL.gT rfl rfl (VL.op (R.ixS Tryz.runUnderlying26 Tryz.sizeOf37 rfl rfl (by omega) (by omega) (hW2.sl.some (i := k) hkn)) (VL.gT rfl rfl (VL.op (R.fld' (o := 1) Tryz.runUnderlying37 rfl rfl Tryz.sizeOf22 rfl rfl) (VL.gT rfl rfl (VL.op (R.ld1 Tryz.isAgg22 rfl (((hW2.sl.row (i := k) hkn).cell (i := 1) rfl))) (VL.gT rfl rfl (VL.op (R.lenS Tryz.runUnderlying22 rfl) (VL.gT rfl rfl (VL.op (R.gtr rfl rfl) (VL.op (R.pickFB rfl rfl) (VL.nil (V.condP rfl (fun c29 => V.seq (V.region (VL.op (R.asB rfl) (VL.nil (V.ret (fret1 (v := .bool _) rfl rfl rfl (⟨false, rfl, (fun h => nomatch h), e0_0.trans e⟩))))))) (fun c29 => V.skip (V.region (VL.op (R.mvI rfl) (VL.op (R.add rfl rfl (by omega) (by omega)) (VL.op (R.asI rfl) (VL.nil (⟨k + 1, rfl, ⟨by omega, fun i hi => ?_, e⟩, by omega⟩))))))))))))))))))))))) (fun g4_7 => VL.gF rfl rfl (VL.gF rfl rfl (VL.gF rfl rfl (VL.gF rfl rfl (VL.gF rfl rfl (VL.gF rfl rfl (VL.op (R.pickTB rfl rfl) (VL.nil (V.condT rfl (V.seq (V.region (VL.op (R.asB rfl) (VL.nil (V.ret (fret1 (v := .bool _) rfl rfl rfl (⟨false, rfl, (fun h => nomatch h), e0_0.trans e⟩)))))))))))))))))))))))))
  by_cases h : i = k
  ·subst h; omega
  ·exact hf i (by omega)
 ·have hkn : k = W.length := by omega
  subst hkn
  have hall : ∀ y ∈ W, y.p.l.length ≤ 30 ∧ y.n.l.length ≤ 30 := fun y hy => by
   obtain ⟨i, hi, rfl⟩ := List.getElem_of_mem hy
   have := hf i hi
   rwa [gget hi] at this
  refine V.region (VL.op (R.mvS rfl) (VL.op (R.lenS Tryz.runUnderlying26 rfl) (VL.op (R.leq rfl rfl) (VL.op (R.mvB rfl) (VL.andP rfl rfl (fun g6_3 => VL.op (R.fld' (o := 0) Tryz.runUnderlying29 rfl rfl Tryz.sizeOf27 rfl rfl) (VL.gT rfl rfl (VL.op (R.ld1 Tryz.isAgg27 rfl ((show _ = some (Value.slice sa n sc) from hX2.cell 0))) (VL.gT rfl rfl (VL.op (R.lenS Tryz.runUnderlying27 rfl) (VL.gT rfl rfl (VL.op (R.mvI rfl) (VL.gT rfl rfl (VL.op (R.leq rfl rfl) (VL.op (R.pickTB rfl rfl) (VL.op (R.asB rfl) (VL.nil (V.ret (fret1 (v := .bool _) rfl rfl rfl (⟨_, rfl, fun h => ?_, e0_0.trans e⟩))))))))))))))) (fun g6_3 => VL.gF rfl rfl (VL.gF rfl rfl (VL.gF rfl rfl (VL.gF rfl rfl (VL.op (R.pickFB rfl rfl) (VL.op (R.asB rfl) (VL.nil (V.ret (fret1 (v := .bool _) rfl rfl rfl (⟨_, rfl, fun h => ?_, e0_0.trans e⟩)))))))))))))))
  ·exact ⟨by omega, hall, of_decide_eq_true h⟩
  ·cases h
structure FewL (g : GrW) (W : List WyI) (m : Nat) : Prop where
 n : g.n ≤ 12
 c : (g.cost.length : Int) ≤ 12
 e : FewE g.edges 40
 w : FewW W m 200
theorem few30_spec (g : GrW) (wa : Option Addr) (wc : Nat) (W : List WyI) (sa : Option Addr) (sc n : Nat) (w : World) (hI : GIn w g) (hW : WL w wa W) (hWm : W.length ≤ 9223372036854775807) (hWe : ∀ y ∈ W, y.p.l.length ≤ 9223372036854775807 ∧ y.n.l.length ≤ 9223372036854775807) (hn : n ≤ 9223372036854775807) :
  RetsX Tryz.prog 10 #[.agg (encGr g).toArray, .slice wa W.length wc, .agg #[.slice sa n sc]] w (fun b : Bool => .bool b) (fun b _ => b = true → FewL g W n) := by
 refine enter (args := [_, _, _]) Tryz.func10 rfl Tryz.ntmps10 (by kernel_rfl) rfl ?_
 refine V.seq (V.region (VL.box (v := .agg _) rfl fun b0_0 w0_0 hb0_0 e0_0 hB0_0 => VL.box (v := .agg _) rfl fun b0_1 w0_1 hb0_1 e0_1 hB0_1 => VL.op (R.asB rfl) (VL.nil (V.seq (V.region (VL.op (R.ldA Tryz.isAgg25 Tryz.sizeOf25 rfl rfl ((show RowAt _ _ _ (encGr g) from (hB0_0.ext e0_1).rowAt 0 3)) rfl) (VL.callX Tryz.call26 rfl (small_spec g 12 40 _ (hI.ok.ext (e0_0.trans e0_1)) hI.c hI.e.len) fun b1 w1 h1 e1 => VL.op (R.mvB rfl) (VL.and rfl rfl (fun g1_2 => VL.op (R.mvS rfl) (VL.gT rfl rfl (VL.op (R.ldA Tryz.isAgg29 Tryz.sizeOf29 rfl rfl ((show RowAt _ _ _ [Value.slice sa n sc] from (hB0_1.ext e1).rowAt 0 1)) rfl) (VL.gT rfl rfl (VL.callX Tryz.call11 rfl (rfew30_spec wa wc W sa sc n 200 _ (hW.ext ((e0_0.trans e0_1).trans e1)) hWm hWe hn) fun b2 w2 h2 e2 => VL.op (R.pickTB rfl rfl) (VL.op (R.asB rfl) (VL.nil (V.ret (fret1 (v := .bool _) rfl rfl rfl (?_)))))))))) (fun g1_2 => VL.gF rfl rfl (VL.gF rfl rfl (VL.op (R.pickFB rfl rfl) (VL.op (R.asB rfl) (VL.nil (V.ret (fret1 (v := .bool _) rfl rfl rfl (?_))))))))))))))))
 ·have h3 := h1 (by assumption)
  exact ⟨b2, rfl, fun h => ⟨h3.1, h3.2.1, h3.2.2, h2 h⟩, ((e0_0.trans e0_1).trans e1).trans e2⟩
 ·exact ⟨false, rfl, (fun h => nomatch h), (e0_0.trans e0_1).trans e1⟩
end Go.Proofs.YtmglkjigmcikdaaGreatDoor
