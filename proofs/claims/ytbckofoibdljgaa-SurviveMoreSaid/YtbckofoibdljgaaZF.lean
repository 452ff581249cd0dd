/- slices.SortFunc: the breaking of patterns. -/
import Derived.Test.YtbckofoibdljgaaZE
import Derived.Test.YtbckofoibdljgaaShelf
import Derived.Sort.WalkA14
namespace Go.Proofs.Ytbckofoibdljgaa
namespace SrtC
open Go.Vc Go.Sort

theorem len_spec (x : Int) (w : World) (h0 : 0 ≤ x) (h1 : x ≤ 18446744073709551615) : RetsP Try.prog 41 #[.int .u64 x] w (.int .i64 (bitsLen x.toNat)) := by
  refine Calls.mono (Any.bits_Len Try.bits x w h0 h1) ?_
  rintro e w' ⟨rfl, rfl⟩
  exact ⟨_, rfl, by rw [bitLen_eq _ (by omega)], Mod.refl _ _⟩
theorem bitsLen_le (n : Nat) (h : 0 < n) (h2 : n ≤ 1152921504606846976) : bitsLen n ≤ 61 ∧ 2 ^ bitsLen n ≤ 2 * n := by
  unfold bitsLen
  rw [if_neg (by omega)]
  have h1 := Nat.log2_self_le (n := n) (by omega)
  refine ⟨?_, by rw [Nat.pow_succ]; omega⟩
  have : n.log2 < 61 := (Nat.log2_lt (by omega)).2 (by omega)
  omega
theorem pow2_spec (n : Nat) (w : World) (h0 : 0 < n) (h1 : n ≤ 1152921504606846976) : RetsP Try.prog 57 #[.int .i64 n] w (.int .u64 ((2 ^ bitsLen n : Nat) : Int)) := by
  have hl := bitsLen_le n h0 h1
  refine enter (args := [_]) Try.func57 rfl Try.ntmps57 (by kernel_rfl) rfl ?_
  refine V.seq (V.region (VL.op (R.asI rfl) (VL.nil (V.seq (V.region (VL.op (R.mvI rfl) (VL.op (R.conv Try.runUnderlying3 Try.runUnderlying58 rfl (wrap_u64 (by omega) (by omega))) (VL.callP Try.call41 rfl (len_spec (n : Int) _ (by omega) (by omega)) fun w1_2 e1_2 => VL.op (R.shl rfl rfl (Int.natCast_nonneg _)) (VL.op (R.asI rfl) (VL.nil (V.ret (fret1 (v := .int _ _) rfl rfl rfl (⟨?_, e1_2⟩)))))))))))))
  have e1 : IntKind.u64.wrap (1 * 2 ^ Min.min (bitsLen (n : Int).toNat : Int).toNat IntKind.u64.bits) = ((2 ^ bitsLen n : Nat) : Int) := by
    rw [Int.toNat_natCast, Int.toNat_natCast, show Min.min (bitsLen n) IntKind.u64.bits = bitsLen n from Nat.min_eq_left (by show bitsLen n ≤ 64; omega), Int.one_mul]
    have e2 : ((2 : Int) ^ bitsLen n) = ((2 ^ bitsLen n : Nat) : Int) := by simp
    rw [e2]
    have h3 : 0 ≤ ((2 ^ bitsLen n : Nat) : Int) := Int.natCast_nonneg _
    exact wrap_u64 (by omega) (by omega)
  rw [e1]
theorem one_chain {s : Nat} {x y z : World} (e : Ext x y) (m : Vc.Mod (one s) y z) : Vc.Mod (one s) x z := Mod.then (e.weaken fun _ _ h => h.elim) m fun _ _ h => h
theorem one_then {s : Nat} {x y z : World} (e : Vc.Mod (one s) x y) (m : Vc.Mod (one s) y z) : Vc.Mod (one s) x z := Mod.then e m fun _ _ h => h
theorem next_spec (s T : Nat) (v : Int) (w : World) (hB : Blk w s (.cells #[.int .u64 v] T (0, 0))) :
    RetsY Try.prog 58 #[.pointer (some ⟨s, 0, none⟩)] w (fun v => .int .u64 v) (fun v' w' => Mod (one s) w w' ∧ Blk w' s (.cells #[.int .u64 v'] T (0, 0))) := by
  refine enter (args := [_]) Try.func58 rfl Try.ntmps58 (by kernel_rfl) rfl ?_
  refine V.seq (V.region (VL.op (R.asI rfl) (VL.nil (V.seq (V.regionQ mixed 8 (by kernel_rfl) rfl (fun w' => Ext _ w') (Ext.drawn _) (VQ.op (fun wq eq => R.mvP rfl) (VQ.op (fun wq eq => R.nilCheck rfl) (VQ.op (fun wq eq => R.ld1 Try.isAgg73 rfl ((hB.ext eq).cell _)) (VQ.op (fun wq eq => R.mvP rfl) (VQ.op (fun wq eq => R.nilCheck rfl) (VQ.op (fun wq eq => R.ld1 Try.isAgg73 rfl ((hB.ext eq).cell _)) (VQ.op (fun wq eq => R.shl rfl rfl (by decide)) (VQ.op (fun wq eq => R.xor rfl rfl) (VQ.nil fun w1q e1q => VL.op (R.nilCheck rfl) (VL.store (v := .int _ _) Try.sizeOf73 rfl rfl rfl rfl (hB.ext e1q) rfl rfl fun w1 m1 z1 hB1 => VL.nil (V.seq (V.regionQ mixed 8 (by kernel_rfl) rfl (fun w' => Ext _ w') (Ext.drawn _) (VQ.op (fun wq eq => R.mvP rfl) (VQ.op (fun wq eq => R.nilCheck rfl) (VQ.op (fun wq eq => R.ld1 Try.isAgg73 rfl ((hB1.ext eq).cell _)) (VQ.op (fun wq eq => R.mvP rfl) (VQ.op (fun wq eq => R.nilCheck rfl) (VQ.op (fun wq eq => R.ld1 Try.isAgg73 rfl ((hB1.ext eq).cell _)) (VQ.op (fun wq eq => R.shr rfl rfl (by decide)) (VQ.op (fun wq eq => R.xor rfl rfl) (VQ.nil fun w2q e2q => VL.op (R.nilCheck rfl) (VL.store (v := .int _ _) Try.sizeOf73 rfl rfl rfl rfl (hB1.ext e2q) rfl rfl fun w2 m2 z2 hB2 => VL.nil (V.seq (V.regionQ mixed 8 (by kernel_rfl) rfl (fun w' => Ext _ w') (Ext.drawn _) (VQ.op (fun wq eq => R.mvP rfl) (VQ.op (fun wq eq => R.nilCheck rfl) (VQ.op (fun wq eq => R.ld1 Try.isAgg73 rfl ((hB2.ext eq).cell _)) (VQ.op (fun wq eq => R.mvP rfl) (VQ.op (fun wq eq => R.nilCheck rfl) (VQ.op (fun wq eq => R.ld1 Try.isAgg73 rfl ((hB2.ext eq).cell _)) (VQ.op (fun wq eq => R.shl rfl rfl (by decide)) (VQ.op (fun wq eq => R.xor rfl rfl) (VQ.nil fun w3q e3q => VL.op (R.nilCheck rfl) (VL.store (v := .int _ _) Try.sizeOf73 rfl rfl rfl rfl (hB2.ext e3q) rfl rfl fun w3 m3 z3 hB3 => VL.nil (V.seq (V.region (VL.op (R.mvP rfl) (VL.op (R.nilCheck rfl) (VL.op (R.ld1 Try.isAgg73 rfl ((hB3.ext (Mod.refl _ _)).cell _)) (VL.op (R.asI rfl) (VL.nil (V.ret (fret1 (v := .int _ _) rfl rfl rfl (?_)))))))))))))))))))))))))))))))))))))))))))))))))
  exact ⟨_, rfl, one_then (one_then (one_chain e1q m1) (one_chain e2q m2)) (one_chain e3q m3), hB3⟩

section
variable {α : Type} [Inhabited α] {enc : α → List Value} {a : Option Addr} {w0 : World} {g : Nat} {cb : List Value} {cf : α → α → Int}
set_option maxHeartbeats 2000000 in
theorem break_spec (elt : Elt enc 8) (fv : Value) (hfv : ∃ g cb, fv = .func (.func g) #[] cb) (cap n : Nat) (A B : Nat) (d : Array α) (w : World) (hs : Srt enc 8 w0 a d w) (ha : abk a < w0.heap.size) (hn : d.size = n) (hb : n ≤ 1152921504606846976) (hAB : A < B) (hB : B ≤ n) :
    RetsY Try.prog 47 #[.slice a n cap, .int .i64 A, .int .i64 B, fv] w (fun _ : Array α => .tuple #[]) (fun d' w' => PermIn A B d d' ∧ Srt enc 8 w0 a d' w') := by
  have hsz := hs.m.size
  obtain ⟨g, cb, rfl⟩ := hfv
  refine enter (args := [_, _, _, _]) Try.func47 rfl Try.ntmps47 (by kernel_rfl) rfl ?_
  refine V.seq (V.region (VL.op (R.mvI rfl) (VL.op (R.mvI rfl) (VL.op (R.subE (z := ((B - A : Nat) : Int)) rfl rfl (by omega) (by omega) (by omega)) (VL.op (R.asI rfl) (VL.nil (V.seq (V.region (VL.op (R.mvI rfl) (VL.op (R.geq rfl rfl) (VL.nil (V.condP rfl (fun c17 => V.seq (V.region (VL.op (R.mvI rfl) (VL.op (R.conv Try.runUnderlying3 Try.runUnderlying73 rfl (wrap_u64 (by omega) (by omega))) (VL.allocSt (v := .int _ _) Try.zeroValue73 Try.sizeOf73 rfl rfl rfl rfl rfl fun s w1 hs1 e1 hS1 => VL.nil (V.seq (V.region (VL.op (R.mvI rfl) (VL.callP Try.call57 rfl (pow2_spec (B - A) _ (by omega) (by omega)) fun w3_1 e3_1 => VL.op (R.asI rfl) (VL.nil (V.seq (V.region (VL.op (R.mvI rfl) (VL.op (R.mvI rfl) (VL.op (R.quo rfl rfl (by omega) (by omega) (by omega)) (VL.op (R.mul rfl rfl (by omega) (by omega)) (VL.op (R.add rfl rfl (by omega) (by omega)) (VL.op (R.subE (z := ((A + (B - A) / 4 * 2 - 1 : Nat) : Int)) rfl rfl (by omega) (by omega) (by omega)) (VL.op (R.asI rfl) (VL.nil (V.block (?_)))))))))))))))))))))) (fun c17 => V.skip (fend0 rfl (⟨d, rfl, permIn_refl _ _ _, hs.ext (Mod.refl _ _)⟩)))))))))))))))
  have hl := bitsLen_le (B - A) (by omega) (by omega)
  have hp : 1 ≤ 2 ^ bitsLen (B - A) := Nat.one_le_two_pow
  have hne : ∀ k, aBlk a k → k ≠ s := by
    rintro k ⟨ad, rfl, rfl⟩ h
    have : ad.block < w0.heap.size := ha
    omega
  refine V.loop [0, 1, 8, 9, 10, 11] (fun x : Nat × Int × Array α => [.slice a n cap, .int .i64 A, .int .i64 (B - A : Nat), .pointer (some ⟨s, 0, none⟩), .int .u64 ((2 ^ bitsLen (B - A) : Nat) : Int), .int .i64 (A + (B - A) / 4 * 2 - 1 + x.1 : Nat)])
    (fun x w' => x.1 ≤ 3 ∧ PermIn A B d x.2.2 ∧ Srt enc 8 w0 a x.2.2 w' ∧ Blk w' s (.cells #[.int .u64 x.2.1] 73 (0, 0))) (fun x => 3 - x.1) (0, _, d) rfl ⟨by simp, permIn_refl _ _ _, hs.ext (e1.trans e3_1), hS1.ext e3_1⟩ ?_
  rintro ρ ⟨q, v, d2⟩ w2 ⟨h1, h2, hs2, hB2⟩
  dsimp only at h1 h2 hs2 hB2 ⊢
  have hz : d2.size = n := h2.1.trans hn
  refine V.seq (V.seq (V.region (VL.op (R.mvI rfl) (VL.op (R.mvI rfl) (VL.op (R.mvI rfl) (VL.op (R.quo rfl rfl (by omega) (by omega) (by omega)) (VL.op (R.mul rfl rfl (by omega) (by omega)) (VL.op (R.add rfl rfl (by omega) (by omega)) (VL.op (R.add rfl rfl (by omega) (by omega)) (VL.op (R.leq rfl rfl) (VL.nil (V.condP rfl (fun c35 => V.skip (V.seq (V.block (V.seq (V.region (VL.callY Try.call58 rfl (next_spec s _ v _ (hB2.ext (Mod.refl _ _))) fun v2 w3 ⟨m3, hB3⟩ => VL.op (R.mvI rfl) (VL.op (R.subU rfl rfl (by omega) (by omega)) (VL.op (R.andU rfl rfl) (VL.op (R.conv Try.runUnderlying58 Try.runUnderlying3 rfl (wrap_i64 (by have := and_le v2 (((2 ^ bitsLen (B - A) : Nat) : Int) - 1) (by omega) (by omega); omega) (by have := and_le v2 (((2 ^ bitsLen (B - A) : Nat) : Int) - 1) (by omega) (by omega); omega))) (VL.op (R.asI rfl) (VL.nil (V.cut [0, 1, 8, 9, 10, 11, 12] (fun x : Nat => [.slice a n cap, .int .i64 A, .int .i64 (B - A : Nat), .pointer (some ⟨s, 0, none⟩), .int .u64 ((2 ^ bitsLen (B - A) : Nat) : Int), .int .i64 (A + (B - A) / 4 * 2 - 1 + q : Nat), .int .i64 x]) (fun x w' => x < B - A ∧ Srt enc 8 w0 a d2 w' ∧ Blk w' s (.cells #[.int .u64 v2] 73 (0, 0))) (V.seq (V.region (VL.op (R.mvI rfl) (VL.op (R.mvI rfl) (VL.op (R.geq rfl rfl) (VL.nil (V.condP rfl (fun c45 => V.region (VL.op (R.mvI rfl) (VL.op (R.mvI rfl) (VL.op (R.sub rfl rfl (by have := and_le v2 (((2 ^ bitsLen (B - A) : Nat) : Int) - 1) (by omega) (by omega); omega) (by have := and_le v2 (((2 ^ bitsLen (B - A) : Nat) : Int) - 1) (by omega) (by omega); omega)) (VL.op (R.asI rfl) (VL.nil (?_))))))) (fun c45 => V.skip (?_))))))))) (fun rgC45 xC45 wBC45 hBC45 => V.regionW mixed 18 17 (by kernel_rfl) rfl (fun w' => Ext _ w') (fun w' => Srt enc 8 wBC45 a (d2.setIfInBounds (A + (B - A) / 4 * 2 - 1 + q) d2[A + xC45]!) w') (Ext.drawn _) (VW.op (fun wq eq => R.mvS rfl) (VW.op (fun wq eq => R.mvI rfl) (VW.op (fun wq eq => R.mvS rfl) (VW.op (fun wq eq => R.mvI rfl) (VW.op (fun wq eq => R.mvI rfl) (VW.op (fun wq eq => R.add rfl rfl (by omega) (by omega)) (VW.op (fun wq eq => R.mvS rfl) (VW.op (fun wq eq => R.mvI rfl) (VW.op (fun wq eq => R.mvI rfl) (VW.op (fun wq eq => R.add rfl rfl (by omega) (by omega)) (VW.op (fun wq eq => R.ixS Try.runUnderlying41 Try.sizeOf44 rfl rfl (by have := hBC45.1 ; omega) (by have := hBC45.1 ; omega) (hBC45.2.1.rb.ad)) (VW.op0 (fun wq eq => R.ldA Try.isAgg44 Try.sizeOf44 rfl rfl (((hBC45.2.1.rb.ext eq).row elt (i := A + xC45) (by have := hBC45.1 ; omega) (by have := hBC45.1 ; omega))) (elt.len _)) (VW.op (fun wq eq => R.mvS rfl) (VW.op (fun wq eq => R.mvI rfl) (VW.op (fun wq eq => R.ixS Try.runUnderlying41 Try.sizeOf44 rfl rfl (by have := hBC45.1 ; omega) (by have := hBC45.1 ; omega) (hBC45.2.1.rb.ad)) (VW.op0 (fun wq eq => R.ldA Try.isAgg44 Try.sizeOf44 rfl rfl (((hBC45.2.1.rb.ext eq).row elt (i := A + (B - A) / 4 * 2 - 1 + q) (by have := hBC45.1 ; omega) (by have := hBC45.1 ; omega))) (elt.len _)) (VW.op (fun wq eq => R.ixS Try.runUnderlying41 Try.sizeOf44 rfl rfl (by have := hBC45.1 ; omega) (by have := hBC45.1 ; omega) hBC45.2.1.rb.ad) (VW.wr0 (fun wq eq => R.storeSt elt Try.sizeOf44 (hBC45.2.1.rb.ext eq) rfl (i := A + (B - A) / 4 * 2 - 1 + q) (by have := hBC45.1 ; omega) (by have := hBC45.1 ; omega) rfl) (VW.nil fun w5 hs5 => VL.op (R.ixS Try.runUnderlying41 Try.sizeOf44 rfl rfl (by have := hBC45.1 ; omega) (by have := hBC45.1 ; omega) hBC45.2.1.rb.ad) (VL.storeSt elt Try.sizeOf44 hs5 rfl (i := A + xC45) (by have := hBC45.1 ; omega) (by rw [Array.size_setIfInBounds]; exact (by have := hBC45.1 ; omega)) rfl fun w6 hs6 => VL.nil (V.region (VL.op (R.mvI rfl) (VL.op (R.addE (z := ((A + (B - A) / 4 * 2 - 1 + (q + 1) : Nat) : Int)) rfl rfl (by omega) (by omega) (by omega)) (VL.op (R.asI rfl) (VL.nil (⟨(q + 1, v2, swp d2 (A + (B - A) / 4 * 2 - 1 + q) (A + xC45)), rfl, ⟨by dsimp only; omega, ?_, hBC45.2.1.back hs6, hBC45.2.2.mod hs6.m fun h => hne _ h rfl⟩, by dsimp only; omega⟩))))))))))))))))))))))))))))))))))))))) (fun c35 => V.exit (fend0 rfl (⟨d2, rfl, h2, hs2.ext (Mod.refl _ _)⟩)))))))))))))))
  · have hal := and_le v2 (((2 ^ bitsLen (B - A) : Nat) : Int) - 1) (by omega) (by omega)
    obtain ⟨o, ho⟩ := Int.eq_ofNat_of_zero_le hal.1
    have e : (IntKind.u64.wrap (BitVec.ofInt 64 v2 &&& BitVec.ofInt 64 (((2 ^ bitsLen (B - A) : Nat) : Int) - 1)).toNat) - ((B - A : Nat) : Int) = ((o - (B - A) : Nat) : Int) := by omega
    exact ⟨o - (B - A), congrArg (fun z : Int => [Value.slice a n cap, .int .i64 A, .int .i64 (B - A : Nat), .pointer (some ⟨s, 0, none⟩), .int .u64 ((2 ^ bitsLen (B - A) : Nat) : Int), .int .i64 (A + (B - A) / 4 * 2 - 1 + q : Nat), .int .i64 z]) e, by omega, hs2.own (by omega) ha m3, hB3⟩
  · have hal := and_le v2 (((2 ^ bitsLen (B - A) : Nat) : Int) - 1) (by omega) (by omega)
    obtain ⟨o, ho⟩ := Int.eq_ofNat_of_zero_le hal.1
    exact ⟨o, congrArg (fun z : Int => [Value.slice a n cap, .int .i64 A, .int .i64 (B - A : Nat), .pointer (some ⟨s, 0, none⟩), .int .u64 ((2 ^ bitsLen (B - A) : Nat) : Int), .int .i64 (A + (B - A) / 4 * 2 - 1 + q : Nat), .int .i64 z]) ho, by omega, hs2.own (by omega) ha m3, hB3⟩
  · have := hBC45.1
    exact permIn_trans d d2 _ A B h2 (swp_permIn d2 A B _ _ (by omega) (by omega) (by omega) (by omega) (by omega))
end
end SrtC
end Go.Proofs.Ytbckofoibdljgaa
