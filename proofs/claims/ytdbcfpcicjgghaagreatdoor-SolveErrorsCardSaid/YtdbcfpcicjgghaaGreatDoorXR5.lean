/- Repair: Independent, Is. -/
import Derived.Test.YtdbcfpcicjgghaaGreatDoorXN9
import Derived.Test.YtdbcfpcicjgghaaGreatDoorXVcRepP
namespace Go.Proofs.YtdbcfpcicjgghaaGreatDoor
set_option maxHeartbeats 16000000
open Go.Vc
set_option maxRecDepth 100000
set_option maxHeartbeats 16000000
def isB (g:Gr) (S:List Int):Bool:=loadB g S && (List.range g.n.toNat).all fun v=>decide ((v:Int) ∈ S) || blkB g.edges S (v:Int)
theorem isB_iff {g:Gr} (hg:validG g = true) {S:List Int}:isB g S = true ↔ IsRep g S:=by
 unfold isB
 rw [Bool.and_eq_true, loadB_iff, List.all_eq_true]
 constructor
 ·rintro ⟨⟨_, hs, hi⟩, hall⟩
  refine ⟨hs, indB_iff.1 hi, fun v h0 h1 hv=>?_⟩
  have:=hall v.toNat (List.mem_range.2 (by omega))
  rw [show ((v.toNat:Nat):Int) = v by omega, decide_eq_false hv, Bool.false_or] at this
  exact blkB_iff.1 this
 ·rintro ⟨hs, hi, hm⟩
  refine ⟨⟨hg, hs, indB_iff.2 hi⟩, fun u hu=>?_⟩
  have hu:=List.mem_range.1 hu
  by_cases h:(u:Int) ∈ S
  ·rw [decide_eq_true h]; rfl
  ·rw [show blkB g.edges S (u:Int) = true from blkB_iff.2 (hm u (by omega) (by omega) h), Bool.or_true]
theorem is_spec28 (g:GrW) (a:Option Addr) (c:Nat) (S:List Int) (B:Nat) (w:World) (hG:GOk w g) (hl:GLen g) (hS:IntSl w a S) (hm:S.length ≤ 1000000) (hB:B ≤ w.heap.size) (hT:TabW B w) :
  RetsP Tryz.prog 26 #[.agg (encGr g).toArray, .slice a S.length c] w (.bool (isB (grV g) S)):=by
 refine enter (args:=[_, _]) Tryz.func26 rfl Tryz.ntmps26 (by kernel_rfl) rfl ?_
 refine V.seq (V.region (VL.box (v:=.agg _) rfl fun b0_0 w0_0 hb0_0 e0_0 hB0_0=>VL.op (R.asB rfl) (VL.nil (V.seq (V.region (VL.op (R.ldA Tryz.isAgg25 Tryz.sizeOf25 rfl rfl ((show RowAt _ _ _ (encGr g) from (hB0_0.rowAt 0 3))) rfl) (VL.op (R.mvS rfl) (VL.callX Tryz.call41 rfl (load_spec g a c S B _ (hG.ext e0_0) hl (hS.ext e0_0) hm (Nat.le_trans hB (e0_0).size) (hT.ext hB e0_0)) fun x1 w1 h1 e1=>VL.op (R.mvT rfl) (VL.op (R.extr rfl rfl) (VL.op (R.extr rfl rfl) (VL.op (R.asP rfl) (VL.op (R.asB rfl) (VL.nil (V.seq (?_)))))))))))))))
 obtain ⟨s0, b⟩:=x1
 obtain ⟨hb, hok⟩:=h1
 dsimp only at hb hok ⊢
 cases b with
 | false =>
  refine V.region (VL.op (R.mvB rfl) (VL.op (R.mvB rfl) (VL.gF rfl rfl (VL.gF rfl rfl (VL.gF rfl rfl (VL.gF rfl rfl (VL.gF rfl rfl (VL.gF rfl rfl (VL.gF rfl rfl (VL.gF rfl rfl (VL.op (R.pickFB rfl rfl) (VL.op (R.asB rfl) (VL.nil (V.ret (fret1 (v:=.bool _) rfl rfl rfl (⟨?_, e0_0.trans e1⟩))))))))))))))))
  unfold isB; rw [← hb]; rfl
 | true =>
  obtain ⟨hS0, hI0⟩:=hok rfl
  obtain ⟨hv, hset, hind⟩:=loadB_iff.1 hb.symm
  have hn:=costB_iff.1 (validG_iff.1 hv).1
  obtain ⟨N, hN⟩:∃ N:Nat, g.n = (N:Int):=⟨g.n.toNat, by have h0:0 ≤ g.n:=hn.1; omega⟩
  have hNt:g.n.toNat = N:=by omega
  rw [hNt] at hI0
  have hN4:N ≤ 4000:=by have h0:g.n ≤ 4000:=hn.2.1; omega
  have hE20:g.edges.length ≤ 20000:=by have:=(validG_iff.1 hv).2.1; simpa [grV, vals] using this
  have hnd:∀ e ∈ vals g.edges, e.Nodup:=fun e he=>inc_nodup ((validG_iff.1 hv).2.2.1 e he).2.1
  have hw1:=e0_0.trans e1
  have hS1:StOk w.heap.size w1 g s0:=hS0.weaken e0_0.size
  have hG1:=(hG.ext hw1).e
  have hcs:(if (true:Bool) = true then some (⟨s0.p, 0, none⟩:Addr) else none) = some ⟨s0.p, 0, none⟩:=rfl
  refine V.region (VL.op (R.mvB rfl) (VL.op (R.mvB rfl) (VL.gT rfl rfl (VL.op (R.mvP rfl) (VL.gT rfl rfl (VL.op (R.nilCheck rfl) (VL.gT rfl rfl (VL.op (R.fld' (o:=3) Tryz.runUnderlying84 rfl rfl Tryz.sizeOf77 rfl rfl) (VL.gT rfl rfl (VL.op (R.ld1 Tryz.isAgg77 rfl ((show w1.cell? ⟨s0.p, 3, none⟩ = some (Value.slice (some ⟨s0.bi, 0, none⟩) s0.bs.length s0.bs.length) from hS1.blk.cell 3))) (VL.gT rfl rfl (VL.op (R.mvP rfl) (VL.gT rfl rfl (VL.op (R.mkFn rfl rfl) (VL.gT rfl rfl (VL.callX Tryz.call42 rfl (open_spec g w.heap.size N s0 S _ hS1 hI0 hG1 hl hE20 hnd hN4) fun i4 w4 h4 e4=>VL.gT rfl rfl (VL.op (R.lss rfl rfl) (VL.op (R.pickTB rfl rfl) (VL.op (R.asB rfl) (VL.nil (V.ret (fret1 (v:=.bool _) rfl rfl rfl (⟨?_, hw1.trans e4⟩)))))))))))))))))))))))
  unfold isB
  rw [← hb, Bool.true_and]
  rw [show (grV g).n.toNat = N from hNt]
  rcases h4 with ⟨rfl, h4⟩ | ⟨v, rfl, h1, h2, h3, _⟩
  ·rw [show ((List.range N).all fun v=>decide ((v:Int) ∈ S) || blkB (grV g).edges S (v:Int)) = true from List.all_eq_true.2 fun u hu=>by
    rcases h4 u (List.mem_range.1 hu) with h | h
    ·rw [decide_eq_true h]; rfl
    ·rw [show blkB (grV g).edges S (u:Int) = true from h, Bool.or_true]]
   rfl
  ·rw [show ((List.range N).all fun v=>decide ((v:Int) ∈ S) || blkB (grV g).edges S (v:Int)) = false from List.all_eq_false.2 ⟨v, List.mem_range.2 h1, by
    rw [decide_eq_false h2, show blkB (grV g).edges S (v:Int) = false from h3]; decide⟩]
   show Value.bool (decide _) = _
   rw [decide_eq_false (by omega)]
end Go.Proofs.YtdbcfpcicjgghaaGreatDoor
