/- Proof: a proof is checked. -/
import Derived.Test.YtmglkjigmcikdaaGreatDoorXP16
namespace Go.Proofs.YtmglkjigmcikdaaGreatDoor
open Go.Vc
set_option maxRecDepth 100000
set_option maxHeartbeats 16000000
theorem ready_ckr {g : GrW} {W : List WyI} {N : Nat} (hr : readyG (grV g) (W.map wyV) = true) (hl : GLen g) (hWl : ∀ y ∈ W, WLen y) (hN : g.n = (N : Int)) {x : CkX} (hg : x.g = g) (hW : x.W = W) (hz : x.z.length = N) (hadj : ∀ v : Nat, v < N → (x.z.getD v default).l = adjK (vals g.edges) g.edges.length ((v : Nat) : Int)) (hS : x.S.length ≤ 100000) : CkR x N := by
 have hr2 := hr
 unfold readyG at hr2
 rw [Bool.and_eq_true, Bool.and_eq_true, decide_eq_true_eq, List.all_eq_true, List.length_map] at hr2
 obtain ⟨⟨hv, hWm⟩, hall⟩ := hr2
 have hn := costB_iff.1 (validG_iff.1 hv).1
 have hE := (validG_iff.1 hv).2.2.1
 have hE20 : g.edges.length ≤ 20000 := by have := (validG_iff.1 hv).2.1; simpa [grV, vals] using this
 subst hg
 subst hW
 refine ⟨hN, by have h0 : x.g.n ≤ 4000 := hn.2.1; omega, fun e he v hv => ?_, hE20, fun e he => ?_, fun y hy => ?_, hWm, hWl, hz, hadj, hS⟩
 ·have := (hE e he).2.2 v hv
  rw [show (grV x.g).n = x.g.n from rfl, hN] at this; exact this
 ·obtain ⟨y, hy, rfl⟩ := List.mem_map.1 he
  exact (hl.each y hy).1
 ·have := wy_rng (hall _ (List.mem_map_of_mem hy))
  rw [show (grV x.g).n = x.g.n from rfl, hN] at this
  exact this
theorem ready_no (g : GrW) (wa : Option Addr) (wc : Nat) (W : List WyI) (B : Nat) (w : World) (hG : GOk w g) (hl : GLen g) (hW : WL w wa W) (hWl : ∀ y ∈ W, WLen y) (hWm : W.length ≤ 9223372036854775807) (hB : B ≤ w.heap.size) (hT : TabW B w) (hr : readyG (grV g) (W.map wyV) = false) :
  RetsP Tryz.prog 35 #[.agg (encGr g).toArray, .slice wa W.length wc] w (.tuple #[.pointer none, .bool false]) :=
 (ready_spec g wa wc W B w hG hl hW hWl hWm hB hT).mono fun u w' h => by
  rcases h with ⟨_, h2, h3⟩ | ⟨h1, _⟩
  ·exact ⟨h2, h3⟩
  ·rw [hr] at h1; cases h1
structure RdG (g : GrW) (wa : Option Addr) (wc : Nat) (W : List WyI) (w : World) (x : CkX) (N : Nat) (w' : World) : Prop where
 ok : RdOk w x N w'
 e : Ext w w'
 gq : x.g = g
 waq : x.wa = wa
 wcq : x.wc = wc
 Wq : x.W = W
 n : g.n = (N : Int)
 z : x.z.length = N
 adj : ∀ v : Nat, v < N → (x.z.getD v default).l = adjK (vals g.edges) g.edges.length ((v : Nat) : Int)
theorem ready_yes (g : GrW) (wa : Option Addr) (wc : Nat) (W : List WyI) (B : Nat) (w : World) (hG : GOk w g) (hl : GLen g) (hW : WL w wa W) (hWl : ∀ y ∈ W, WLen y) (hWm : W.length ≤ 9223372036854775807) (hB : B ≤ w.heap.size) (hT : TabW B w) (hr : readyG (grV g) (W.map wyV) = true) :
  RetsX Tryz.prog 35 #[.agg (encGr g).toArray, .slice wa W.length wc] w (fun x : CkX × Nat => .tuple #[.pointer (some ⟨x.1.p, 0, none⟩), .bool true]) (fun x w' => RdG g wa wc W w x.1 x.2 w') :=
 (ready_spec g wa wc W B w hG hl hW hWl hWm hB hT).mono fun u w' h => by
  rcases h with ⟨h1, _⟩ | ⟨_, x, N, h2, h3, h4, h5, h6, h7, h8, h9, h10, h11⟩
  ·rw [hr] at h1; cases h1
  ·exact ⟨(x, N), h2, ⟨h3, h4, h5, h6, h7, h8, h9, h10, h11⟩, h4⟩
theorem RdG.ext {g : GrW} {wa : Option Addr} {wc : Nat} {W : List WyI} {w : World} {x : CkX} {N : Nat} {w' w2 : World} (h : RdG g wa wc W w x N w') (e : Ext w' w2) : RdG g wa wc W w x N w2 :=
 ⟨⟨h.ok.blk.ext e, h.ok.e.trans e, h.ok.g, h.ok.W, h.ok.z.ext e, h.ok.t.ext e, h.ok.k.ext e, fun q hq => by have := h.ok.zp q hq; have := e.size; omega, h.ok.pB, h.ok.pt⟩, h.e.trans e, h.gq, h.waq, h.wcq, h.Wq, h.n, h.z, h.adj⟩
theorem showsG (g : GrW) (wa : Option Addr) (wc : Nat) (W : List WyI) (w0 : World) (x : CkX) (N : Nat) (sa : Option Addr) (sc : Nat) (S : List St4) (h : Bool) (w : World) (hx : RdG g wa wc W w0 x N w) (hr : readyG (grV g) (W.map wyV) = true) (hl : GLen g) (hWl : ∀ y ∈ W, WLen y) (hS : TSl encS4 4 w0 sa S) (hSl : S.length ≤ 9223372036854775807) :
  RetsK Tryz.prog 36 #[.pointer (some ⟨x.p, 0, none⟩), .agg #[.slice sa S.length sc], .bool h] w (.bool (checkA (grV g) (W.map wyV) h S)) (Ext w0) := by
 refine (shows_spec N x sa sc S h w0 w hx.ok hS hSl fun nb hs => ready_ckr (x := { x with h := h, sa := sa, sc := sc, S := S, nb := nb }) hr hl hWl hx.n hx.gq hx.Wq hx.z hx.adj hs).mono fun u w' ⟨hu, hm⟩ => ⟨?_, hx.e.ownA hm fun q hq => ?_⟩
 ·have hn := hx.n
  have hN : (grV g).n.toNat = N := by show g.n.toNat = N; omega
  rw [hu]
  refine congrArg Value.bool ?_
  unfold checkA
  rw [hr, Bool.true_and, hN, hx.gq, hx.Wq]
  rfl
 ·rcases hq with h1 | h1
  ·rw [h1]; exact hx.ok.pB
  ·rw [h1]; exact hx.ok.t.ge _ ⟨_, rfl, rfl⟩
theorem checkS (g : GrW) (wa : Option Addr) (wc : Nat) (W : List WyI) (h : Bool) (sa : Option Addr) (sc : Nat) (S : List St4) (B : Nat) (w : World) (hG : GOk w g) (hl : GLen g) (hW : WL w wa W) (hWl : ∀ y ∈ W, WLen y) (hWm : W.length ≤ 9223372036854775807) (hS : TSl encS4 4 w sa S) (hSl : S.length ≤ 9223372036854775807) (hB : B ≤ w.heap.size) (hT : TabW B w) :
  RetsP Tryz.prog 14 #[.agg (encGr g).toArray, .slice wa W.length wc, .bool h, .agg #[.slice sa S.length sc]] w (.bool (checkA (grV g) (W.map wyV) h S)) := by
 refine enter (args := [_, _, _, _]) Tryz.func14 rfl Tryz.ntmps14 (by kernel_rfl) rfl ?_
 cases hr : readyG (grV g) (W.map wyV) with
 | false =>
  refine V.seq (V.region (VL.box (v := .agg _) rfl fun b0_0 w0_0 hb0_0 e0_0 hB0_0 => VL.box (v := .agg _) rfl fun b0_1 w0_1 hb0_1 e0_1 hB0_1 => VL.op (R.asB rfl) (VL.nil (V.seq (V.region (VL.op (R.ldA Tryz.isAgg25 Tryz.sizeOf25 rfl rfl ((show RowAt _ _ _ (encGr g) from (hB0_0.ext e0_1).rowAt 0 3)) rfl) (VL.op (R.mvS rfl) (VL.callP Tryz.call35 rfl (ready_no g wa wc W B w0_1 (hG.ext (e0_0.trans e0_1)) hl (hW.ext (e0_0.trans e0_1)) hWl hWm (Nat.le_trans hB (Vc.Mod.size (e0_0.trans e0_1))) (hT.ext hB (e0_0.trans e0_1)) hr) fun w1_2 e1_2 => VL.op (R.mvT rfl) (VL.op (R.extr rfl rfl) (VL.op (R.extr rfl rfl) (VL.op (R.asP rfl) (VL.op (R.asB rfl) (VL.nil (V.seq (?_)))))))))))))))
  refine V.region (VL.op (R.mvB rfl) (VL.op (R.mvB rfl) (VL.gF rfl rfl (VL.gF rfl rfl (VL.gF rfl rfl (VL.gF rfl rfl (VL.op (R.pickFB rfl rfl) (VL.op (R.asB rfl) (VL.nil (V.ret (fret1 (v := .bool _) rfl rfl rfl (⟨?_, (e0_0.trans e0_1).trans e1_2⟩))))))))))))
  refine congrArg Value.bool ?_
  unfold checkA
  rw [hr, Bool.false_and]
 | true =>
  refine V.seq (V.region (VL.box (v := .agg _) rfl fun b0_0 w0_0 hb0_0 e0_0 hB0_0 => VL.box (v := .agg _) rfl fun b0_1 w0_1 hb0_1 e0_1 hB0_1 => VL.op (R.asB rfl) (VL.nil (V.seq (V.region (VL.op (R.ldA Tryz.isAgg25 Tryz.sizeOf25 rfl rfl ((show RowAt _ _ _ (encGr g) from (hB0_0.ext e0_1).rowAt 0 3)) rfl) (VL.op (R.mvS rfl) (VL.callX Tryz.call35 rfl (ready_yes g wa wc W B w0_1 (hG.ext (e0_0.trans e0_1)) hl (hW.ext (e0_0.trans e0_1)) hWl hWm (Nat.le_trans hB (Vc.Mod.size (e0_0.trans e0_1))) (hT.ext hB (e0_0.trans e0_1)) hr) fun o w2 h2 e2 => VL.op (R.mvT rfl) (VL.op (R.extr rfl rfl) (VL.op (R.extr rfl rfl) (VL.op (R.asP rfl) (VL.op (R.asB rfl) (VL.nil (V.seq (?_)))))))))))))))
  refine V.region (VL.op (R.mvB rfl) (VL.op (R.mvB rfl) (VL.gT rfl rfl (VL.op (R.mvP rfl) (VL.gT rfl rfl (VL.op (R.ldA Tryz.isAgg29 Tryz.sizeOf29 rfl rfl ((show RowAt _ _ _ [.slice sa S.length sc] from (hB0_1.ext e2).rowAt 0 1)) rfl) (VL.gT rfl rfl (VL.op (R.mvB rfl) (VL.gT rfl rfl (VL.callK Tryz.call36 rfl (showsG g wa wc W w0_1 o.1 o.2 sa sc S h w2 h2 hr hl hWl (hS.ext (e0_0.trans e0_1)) hSl) fun w3 h3 => VL.op (R.pickTB rfl rfl) (VL.op (R.asB rfl) (VL.nil (V.ret (fret1 (v := .bool _) rfl rfl rfl (⟨rfl, (e0_0.trans e0_1).trans h3⟩)))))))))))))))
end Go.Proofs.YtmglkjigmcikdaaGreatDoor
