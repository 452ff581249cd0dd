/- Proof: the chapter's examples. -/
import Derived.Test.YtmglkjigmcikdaaGreatDoorXP26
import Derived.Test.YtmglkjigmcikdaaGreatDoorXVcApp2
namespace Go.Proofs.YtmglkjigmcikdaaGreatDoor
open Go.Vc
set_option maxRecDepth 100000
set_option maxHeartbeats 16000000
def gP : Gr := ⟨2, [0, 0], [[0, 1]]⟩
def wP : List Wy := [⟨[0], []⟩, ⟨[1], []⟩]
def sP : List St4 := [⟨1, 0, 1, 2⟩, ⟨4, 0, 0, 0⟩, ⟨1, 1, 3, 4⟩, ⟨4, 1, 0, 0⟩, ⟨3, 0, 0, 0⟩]
def sB : List St4 := [⟨1, 0, 1, 2⟩, ⟨4, 0, 0, 0⟩, ⟨1, 1, 3, 4⟩, ⟨2, 0, 0, 0⟩, ⟨3, 0, 0, 0⟩]
def sS : List St4 := [⟨1, 0, 1, 1⟩, ⟨4, 0, 0, 0⟩, ⟨1, 1, 3, 4⟩, ⟨4, 1, 0, 0⟩, ⟨3, 0, 0, 0⟩]
def sN : List St4 := [⟨5, 0, 0, 0⟩]
theorem kP : checkA gP wP false sP = true := by decide
theorem kB : checkA gP (wP.take 1) false sB = false := by decide
theorem kS : checkA gP wP false sS = false := by decide
theorem kT : checkA gP wP true sP = false := by decide
theorem kN : checkA gP [] true sN = true := by decide
theorem cP : claimA gP (wP.take 1) 2 [0] [1] [] = true := by decide
theorem cC : claimA gP wP 1 [1] [] sP = true := by decide
theorem cN : claimA gP [] 3 [] [0] sN = true := by decide
theorem cM : claimA gP [] 3 [] [] sN = false := by decide
def PrU (u : Value) (w : World) : Prop := ∃ g : GrW, u = .agg (encGr g).toArray ∧ GOk w g ∧ grV g = gP ∧ GLen g
theorem PrU.ext {u : Value} {w w' : World} (h : PrU u w) (e : Ext w w') : PrU u w' := by
 obtain ⟨g, h1, h2, h3, h4⟩ := h
 exact ⟨g, h1, h2.ext e, h3, h4⟩
theorem pair_spec (w : World) : Rets Tryz.prog 24 #[] w (fun u w' => PrU u w' ∧ Ext w w') := by
 refine enter (args := []) Tryz.func24 rfl Tryz.ntmps24 (by kernel_rfl) rfl ?_
 refine V.seq (V.region (VL.alloc Tryz.zeroValue25 fun b0_0 w0_0 hb0_0 e0_0 hB0_0 => VL.nil (V.seq (V.region (VL.buildSl Tryz.runUnderlying22 Tryz.sizeOf3 Tryz.zeroValue3 rfl rfl rfl fun b1_0 w1_0 hb1_0 e1_0 hB1_0 => VL.buildSl Tryz.runUnderlying22 Tryz.sizeOf3 Tryz.zeroValue3 rfl rfl rfl fun b1_1 w1_1 hb1_1 e1_1 hB1_1 => VL.buildSl Tryz.runUnderlying23 Tryz.sizeOf22 Tryz.zeroValue22 rfl rfl rfl fun b1_2 w1_2 hb1_2 e1_2 hB1_2 => VL.op (R.build Tryz.zeroValue25 Tryz.runUnderlying25 pl25 rfl) (VL.store (v := .agg _) Tryz.sizeOf25 rfl rfl rfl rfl (((hB0_0.ext e1_0).ext e1_1).ext e1_2) rfl rfl fun w1_4 m1_4 hs1_4 hB1_4 => VL.nil (V.ret (fretC rfl rfl rfl Tryz.isAgg25 Tryz.sizeOf25 rfl (hB1_4.rowAt 0 3) rfl (⟨⟨⟨2, some ⟨b1_0, 0, none⟩, 2, [0, 0], some ⟨b1_2, 0, none⟩, 1, [⟨some ⟨b1_1, 0, none⟩, 2, [0, 1]⟩]⟩, rfl, ?_, rfl, ?_⟩, (Mod.own (((e0_0.trans e1_0).trans e1_1).trans e1_2) m1_4 (Nat.le_of_eq (Eq.symm hb0_0)))⟩)))))))))
 ·have h0 : b0_0 < w0_0.heap.size := hB0_0.lt
  have k0 := (litI (l := [0, 0]) hB1_0 rfl (by decide)).ext (e1_1.trans e1_2)
  have k1 := (litI (l := [0, 1]) hB1_1 rfl (by decide)).ext e1_2
  have k2 := litL (L := [(⟨some ⟨b1_1, 0, none⟩, 2, [0, 1]⟩ : SlI)]) hB1_2 rfl (litA k1 litA0)
  have E1 : Ext w0_0 w1_2 := e1_0.trans (e1_1.trans e1_2)
  have z1 := e1_0.size
  have z2 := e1_1.size
  exact ⟨k0.mod m1_4 fun ad h h2 => by injection h with h; subst h; have h2 : b1_0 = b0_0 := h2; omega, ⟨k2.sl.mod m1_4 fun ad h h2 => by injection h with h; subst h; have h2 : b1_2 = b0_0 := h2; omega, fun x hx => by
   rw [List.mem_singleton.1 hx]
   exact k1.mod m1_4 fun ad h h2 => by injection h with h; subst h; have h2 : b1_1 = b0_0 := h2; omega⟩⟩
 ·exact ⟨Nat.le_of_ble_eq_true rfl, Nat.le_of_ble_eq_true rfl, fun x hx => by rw [List.mem_singleton.1 hx]; exact ⟨Nat.le_of_ble_eq_true rfl, fun h => nomatch h⟩⟩
def EiU (u : Value) (w : World) : Prop := ∃ a W, u = .slice a 2 2 ∧ W.length = 2 ∧ WL w a W ∧ W.map wyV = wP ∧ ∀ y ∈ W, WLen y
theorem EiU.ext {u : Value} {w w' : World} (h : EiU u w) (e : Ext w w') : EiU u w' := by
 obtain ⟨b, W, h1, h2, h3, h4⟩ := h
 exact ⟨b, W, h1, h2, h3.ext e, h4⟩
theorem either_spec (w : World) : Rets Tryz.prog 25 #[] w (fun u w' => EiU u w' ∧ Ext w w') := by
 refine enter (args := []) Tryz.func25 rfl Tryz.ntmps25 (by kernel_rfl) rfl ?_
 refine V.seq (V.region (VL.op (R.asS rfl) (VL.nil (V.seq (V.region (VL.buildSl Tryz.runUnderlying22 Tryz.sizeOf3 Tryz.zeroValue3 rfl rfl rfl fun b1_0 w1_0 hb1_0 e1_0 hB1_0 => VL.op (R.build Tryz.zeroValue37 Tryz.runUnderlying37 pl37 rfl) (VL.buildSl Tryz.runUnderlying22 Tryz.sizeOf3 Tryz.zeroValue3 rfl rfl rfl fun b1_2 w1_2 hb1_2 e1_2 hB1_2 => VL.op (R.build Tryz.zeroValue37 Tryz.runUnderlying37 pl37 rfl) (VL.buildSl Tryz.runUnderlying26 Tryz.sizeOf37 Tryz.zeroValue37 rfl rfl rfl fun b1_4 w1_4 hb1_4 e1_4 hB1_4 => VL.op (R.asS rfl) (VL.nil (V.ret (fret1 (v := .slice _ _ _) rfl rfl rfl (⟨⟨_, [⟨⟨some ⟨b1_0, 0, none⟩, 1, [0]⟩, default⟩, ⟨⟨some ⟨b1_2, 0, none⟩, 1, [1]⟩, default⟩], rfl, rfl, ?_, rfl, fun y hy => ?_⟩, ((e1_0.trans e1_2).trans e1_4)⟩))))))))))))
 ·have k0 := (litI (l := [0]) hB1_0 rfl (by decide)).ext (e1_2.trans e1_4)
  have k1 := (litI (l := [1]) hB1_2 rfl (by decide)).ext e1_4
  refine ⟨OwnT.sl (B := 0) (OwnT.of_blk (l := [(⟨⟨some ⟨b1_0, 0, none⟩, 1, [0]⟩, default⟩ : WyI), ⟨⟨some ⟨b1_2, 0, none⟩, 1, [1]⟩, default⟩]) hB1_4 (Nat.zero_le _) rfl (fun r hr => by obtain ⟨x, _, rfl⟩ := List.mem_map.1 hr; rfl) (Nat.le_of_ble_eq_true rfl)), fun x hx => ?_⟩
  rcases List.mem_cons.1 hx with rfl | hx
  ·exact ⟨k0, TSl.nil _ _ _ _⟩
  ·rw [List.mem_singleton.1 hx]; exact ⟨k1, TSl.nil _ _ _ _⟩
 ·rcases List.mem_cons.1 hy with rfl | hy
  ·exact ⟨Nat.le_of_ble_eq_true rfl, Nat.le_of_ble_eq_true rfl⟩
  ·rw [List.mem_singleton.1 hy]; exact ⟨Nat.le_of_ble_eq_true rfl, Nat.le_of_ble_eq_true rfl⟩
theorem steps_spec (w : World) : RetsX Tryz.prog 23 #[] w (fun b : Nat => .agg #[.slice (some ⟨b, 0, none⟩) 5 5]) (fun b w' => OwnT encS4 4 51 w.heap.size w' (some ⟨b, 0, none⟩) 5 sP) := by
 refine enter (args := []) Tryz.func23 rfl Tryz.ntmps23 (by kernel_rfl) rfl ?_
 refine V.seq (V.region (VL.alloc Tryz.zeroValue29 fun b0_0 w0_0 hb0_0 e0_0 hB0_0 => VL.nil (V.seq (V.region (VL.op (R.build Tryz.zeroValue51 Tryz.runUnderlying51 pl51 rfl) (VL.op (R.build Tryz.zeroValue51 Tryz.runUnderlying51 pl51 rfl) (VL.op (R.build Tryz.zeroValue51 Tryz.runUnderlying51 pl51 rfl) (VL.op (R.build Tryz.zeroValue51 Tryz.runUnderlying51 pl51 rfl) (VL.op (R.build Tryz.zeroValue51 Tryz.runUnderlying51 pl51 rfl) (VL.buildSl Tryz.runUnderlying27 Tryz.sizeOf51 Tryz.zeroValue51 rfl rfl rfl fun b1_5 w1_5 hb1_5 e1_5 hB1_5 => VL.op (R.build Tryz.zeroValue29 Tryz.runUnderlying29 pl29 rfl) (VL.store (v := .agg _) Tryz.sizeOf29 rfl rfl rfl rfl (hB0_0.ext e1_5) rfl rfl fun w1_7 m1_7 hs1_7 hB1_7 => VL.nil (V.ret (fretC rfl rfl rfl Tryz.isAgg29 Tryz.sizeOf29 rfl (hB1_7.rowAt 0 1) rfl (⟨b1_5, rfl, ?_, (Mod.own (e0_0.trans e1_5) m1_7 (Nat.le_of_eq (Eq.symm hb0_0)))⟩))))))))))))))
 have k := OwnT.of_blk (enc := encS4) (s := 4) (l := sP) (B := w.heap.size) hB1_5 (by have := e0_0.size; omega) rfl (fun r hr => by obtain ⟨x, _, rfl⟩ := List.mem_map.1 hr; rfl) (by decide)
 exact k.mod m1_7 fun q h1 h2 => by have h3 := aBlk_some h1; have h4 : q = b0_0 := h2; have := hB0_0.lt; omega
def E1U (u : Value) (w : World) : Prop := ∃ a W, u = .slice a 1 2 ∧ W.length = 1 ∧ WL w a W ∧ W.map wyV = wP.take 1 ∧ ∀ y ∈ W, WLen y
theorem E1U.ext {u : Value} {w w' : World} (h : E1U u w) (e : Ext w w') : E1U u w' := by
 obtain ⟨b, W, h1, h2, h3, h4⟩ := h
 exact ⟨b, W, h1, h2, h3.ext e, h4⟩
theorem E1U.of {a : Option Addr} {W : List WyI} {w : World} (h2 : W.length = 2) (h3 : WL w a W) (h4 : W.map wyV = wP) (h5 : ∀ y ∈ W, WLen y) : E1U (.slice (cutA a 2 0 2) 1 2) w :=
 ⟨_, W.take 1, rfl, by rw [List.length_take]; omega, ⟨h3.sl.take 1 2, fun x hx => h3.each x (List.mem_of_mem_take hx)⟩, by rw [List.map_take, h4], fun y hy => h5 y (List.mem_of_mem_take hy)⟩
def SpU (S : List St4) (u : Value) (w : World) : Prop := ∃ a c, u = .agg #[.slice a S.length c] ∧ TSl encS4 4 w a S ∧ S.length ≤ 1000
theorem SpU.ext {S : List St4} {u : Value} {w w' : World} (h : SpU S u w) (e : Ext w w') : SpU S u w' := by
 obtain ⟨a, c, h1, h2, h3⟩ := h
 exact ⟨a, c, h1, h2.ext e, h3⟩
def WyU (V : List Wy) (u : Value) (w : World) : Prop := ∃ a c W, u = .slice a W.length c ∧ WL w a W ∧ W.map wyV = V ∧ (∀ y ∈ W, WLen y) ∧ W.length ≤ 1000
theorem EiU.wy {u : Value} {w : World} (h : EiU u w) : WyU wP u w := by
 obtain ⟨b, W, h1, h2, h3, h4, h5⟩ := h
 exact ⟨_, _, W, by rw [h2]; exact h1, h3, h4, h5, by omega⟩
theorem E1U.wy {u : Value} {w : World} (h : E1U u w) : WyU (wP.take 1) u w := by
 obtain ⟨a, W, h1, h2, h3, h4, h5⟩ := h
 exact ⟨_, _, W, by rw [h2]; exact h1, h3, h4, h5, by omega⟩
theorem nil_wy (w : World) : WyU [] (.slice none 0 0) w := ⟨none, 0, [], rfl, ⟨TSl.nil _ _ _ _, fun x h => nomatch h⟩, rfl, (fun y h => nomatch h), by decide⟩
theorem chkU (b h : Bool) (V : List Wy) (S : List St4) (hk : checkA gP V h S = b) (u v z : Value) (B : Nat) (w : World) (h1 : PrU u w) (h2 : WyU V v w) (h3 : SpU S z w) (hB : B ≤ w.heap.size) (hT : TabW B w) : RetsP Tryz.prog 14 #[u, v, .bool h, z] w (.bool b) := by
 obtain ⟨g, rfl, hG, hg, hl⟩ := h1
 obtain ⟨a, c, W, rfl, hW, hV, hWl, hm⟩ := h2
 obtain ⟨sa, sc, rfl, hS, hSl⟩ := h3
 have := checkS g a c W h sa sc S B w hG hl hW hWl (by omega) hS (by omega) hB hT
 rwa [hg, hV, hk] at this
theorem clmU (b : Bool) (V : List Wy) (y : ClX) (hk : claimA gP V y.v y.A y.B y.S = b) (u v : Value) (B : Nat) (w : World) (h1 : PrU u w) (h2 : WyU V v w) (hC : ClOk w y) (hy : ClLen y) (hB : B ≤ w.heap.size) (hT : TabW B w) : RetsP Tryz.prog 16 #[u, v, .agg (encCl y).toArray] w (.bool b) := by
 obtain ⟨g, rfl, hG, hg, hl⟩ := h1
 obtain ⟨a, c, W, rfl, hW, hV, hWl, hm⟩ := h2
 have := claimS g a c W y B w hG hl hW hWl (by omega) hC hy hB hT
 rwa [hg, hV, hk] at this
theorem pairX (w : World) : RetsX Tryz.prog 24 #[] w (fun g : GrW => .agg (encGr g).toArray) (fun g w' => PrU (.agg (encGr g).toArray) w') :=
 (pair_spec w).mono fun _ _ ⟨⟨g, hu, h⟩, e⟩ => ⟨g, hu, ⟨g, rfl, h⟩, e⟩
theorem eitherX (w : World) : RetsX Tryz.prog 25 #[] w (fun x : Option Addr × List WyI => .slice x.1 2 2) (fun x w' => EiU (.slice x.1 2 2) w' ∧ E1U (.slice (cutA x.1 2 0 2) 1 2) w') :=
 (either_spec w).mono fun _ _ ⟨⟨a, W, hu, h2, h3, h4, h5⟩, e⟩ => ⟨(a, W), hu, ⟨⟨a, W, rfl, h2, h3, h4, h5⟩, E1U.of h2 h3 h4 h5⟩, e⟩
end Go.Proofs.YtmglkjigmcikdaaGreatDoor

/- Proof: the fixed examples. -/
namespace Go.Proofs.YtmglkjigmcikdaaGreatDoor
open Go.Vc
set_option maxRecDepth 100000
set_option maxHeartbeats 16000000
theorem steps_u (w : World) : Rets Tryz.prog 23 #[] w (fun u w' => SpU sP u w' ∧ Ext w w') :=
 (steps_spec w).mono fun u w' ⟨b, hu, ho, he⟩ => ⟨⟨_, 5, hu, ho.sl, by decide⟩, he⟩
theorem eltS4 : Elt encS4 4 := ⟨fun _ => rfl, fun _ => rfl, by decide⟩
theorem head_spec30 (B : Nat) (w : World) (hB : B ≤ w.heap.size) (hT : TabW B w) : RetsP Tryz.prog 9 #[] w (.bool true) := by
 have hl5 : sP.length = 5 := rfl
 refine enter (args := []) Tryz.func9 rfl Tryz.ntmps9 (by kernel_rfl) rfl ?_
 refine V.seq (V.region (VL.op (R.asB rfl) (VL.nil (V.seq (V.region (VL.callX Tryz.call23 rfl (steps_spec _) fun b1 w1 h1 e1 => VL.allocSt (v := .agg _) Tryz.zeroValue29 Tryz.sizeOf29 rfl rfl rfl rfl rfl fun b1_1 w1_1 hb1_1 e1_1 hB1_1 => VL.nil (V.seq (?_))))))))
 have h1' := h1.ext e1_1
 refine V.region (VL.op (R.fld' (o := 0) Tryz.runUnderlying29 rfl rfl Tryz.sizeOf27 rfl rfl) (VL.op (R.ld1 Tryz.isAgg27 rfl ((show _ = some (Value.slice (some ⟨b1, 0, none⟩) 5 5) from hB1_1.cell 0))) (VL.op (R.build Tryz.zeroValue51 Tryz.runUnderlying51 pl51 rfl) (VL.op (R.ixS Tryz.runUnderlying27 Tryz.sizeOf51 rfl rfl (by decide) (by decide) (h1'.sl.some (i := 3) (by decide))) (VL.ownSt eltS4 (v := .agg _) Tryz.sizeOf51 (h1') 3 0 (⟨2, 0, 0, 0⟩ : St4) rfl rfl (by omega) rfl rfl rfl rfl rfl fun w2 ho2 m2 hs2 => VL.nil (V.seq (?_)))))))
 have hX1 := hB1_1.mod m2 fun h => by have h3 := aBlk_some h; have h4 := h1.lt b1 ⟨_, rfl, rfl⟩; omega
 have E2 : Ext w w2 := (e1.trans e1_1).ownA m2 h1'.ge
 refine V.region (VL.callX Tryz.call23 rfl (steps_spec _) fun b3 w3 h3 e3 => VL.allocSt (v := .agg _) Tryz.zeroValue29 Tryz.sizeOf29 rfl rfl rfl rfl rfl fun b3_1 w3_1 hb3_1 e3_1 hB3_1 => VL.nil (V.seq (?_)))
 have h3' := h3.ext e3_1
 refine V.region (VL.op (R.fld' (o := 0) Tryz.runUnderlying29 rfl rfl Tryz.sizeOf27 rfl rfl) (VL.op (R.ld1 Tryz.isAgg27 rfl ((show _ = some (Value.slice (some ⟨b3, 0, none⟩) 5 5) from hB3_1.cell 0))) (VL.op (R.ixS Tryz.runUnderlying27 Tryz.sizeOf51 rfl rfl (by decide) (by decide) (h3'.sl.some (i := 0) (by decide))) (VL.op (R.fld' (o := 3) Tryz.runUnderlying51 rfl rfl Tryz.sizeOf3 rfl rfl) (VL.ownSt eltS4 (v := .int _ _) Tryz.sizeOf3 (h3') 0 3 (⟨1, 0, 1, 1⟩ : St4) rfl rfl (by omega) rfl rfl rfl rfl rfl fun w4 ho4 m4 hs4 => VL.nil (V.seq (?_)))))))
 have hX3 := hB3_1.mod m4 fun h => by have h5 := aBlk_some h; have h6 := h3.lt b3 ⟨_, rfl, rfl⟩; omega
 have E4' : Ext w2 w4 := (e3.trans e3_1).ownA m4 h3'.ge
 refine V.region (VL.op (R.build Tryz.zeroValue51 Tryz.runUnderlying51 pl51 rfl) (VL.buildSl Tryz.runUnderlying27 Tryz.sizeOf51 Tryz.zeroValue51 rfl rfl rfl fun b5_1 w5_1 hb5_1 e5_1 hB5_1 => VL.op (R.build Tryz.zeroValue29 Tryz.runUnderlying29 pl29 rfl) (VL.allocSt (v := .agg _) Tryz.zeroValue29 Tryz.sizeOf29 rfl rfl rfl rfl rfl fun b5_3 w5_3 hb5_3 e5_3 hB5_3 => VL.nil (V.seq (?_)))))
 have E5 : Ext w w5_3 := ((E2.trans E4').trans e5_1).trans e5_3
 have hY1 := hX1.ext ((E4'.trans e5_1).trans e5_3)
 have hY3 := hX3.ext (e5_1.trans e5_3)
 have hS1 : TSl encS4 4 w5_3 (some ⟨b1, 0, none⟩) sB := ho2.sl.ext ((E4'.trans e5_1).trans e5_3)
 have hS3 : TSl encS4 4 w5_3 (some ⟨b3, 0, none⟩) sS := ho4.sl.ext (e5_1.trans e5_3)
 have hSN : TSl encS4 4 w5_3 (some ⟨b5_1, 0, none⟩) sN := OwnT.sl (B := 0) (OwnT.of1 encS4 4 (⟨5, 0, 0, 0⟩ : St4) (hB5_1.ext e5_3) (Nat.zero_le _) rfl rfl)
 have hYN : Blk w5_3 b5_3 (.cells #[.slice (some ⟨b5_1, 0, none⟩) 1 1] 29 (0, 0)) := hB5_3
 clear hB5_3 hB5_1
 refine V.regionD (T := Ext) mixed 16 (by kernel_rfl) rfl (fun us => VD.callX (fun _ => fun u w' => PrU u w') (DepS.const _) (fun u x y _ h eb => h.ext eb) Tryz.call24 rfl (fun wq eq hq => pair_spec wq) (VD.callX (fun _ => fun u w' => EiU u w') (DepS.const _) (fun u x y _ h eb => h.ext eb) Tryz.call25 rfl (fun wq eq hq => either_spec wq) (VD.callX (fun _ => fun u w' => SpU sP u w') (DepS.const _) (fun u x y _ h eb => h.ext eb) Tryz.call23 rfl (fun wq eq hq => steps_u wq) (VD.callX (fun _ => fun u _ => u = .bool true) (DepS.const _) (fun u x y _ h eb => h) Tryz.call14 rfl (fun wq eq hq => (chkU true false wP sP kP _ _ _ B wq (hq 0 (by kernel_rfl)) (hq 1 (by kernel_rfl)).wy (hq 2 (by kernel_rfl)) (Nat.le_trans hB (Vc.Mod.size (E5.trans eq))) (hT.ext hB (E5.trans eq)))) (VD.spec (fun _ => fun u _ => u = .bool true) (DepS.const _) (fun u x y _ h eb => h) rfl (fun wq eq hq => yieldsR_op (R.mvB (hq 3 (by kernel_rfl))) ⟨rfl, Turn.refl _⟩) (VD.specG (fun _ => fun u w' => PrU u w') (DepS.const _) (fun u x y _ h eb => h.ext eb) (fun wq eq hq => wanted_of rfl (hq 4 (by kernel_rfl))) (fun wq eq hq => yieldsR_call Tryz.call24 rfl (pair_spec wq)) (VD.specG (fun _ => fun u w' => EiU u w') (DepS.const _) (fun u x y _ h eb => h.ext eb) (fun wq eq hq => wanted_of rfl (hq 4 (by kernel_rfl))) (fun wq eq hq => yieldsR_call Tryz.call25 rfl (either_spec wq)) (VD.specG (fun _ => fun u w' => E1U u w') (DepS.const _) (fun u x y _ h eb => h.ext eb) (fun wq eq hq => wanted_of rfl (hq 4 (by kernel_rfl))) (fun wq eq hq => by
    obtain ⟨a, W, hu, k2, k3, k4, k5⟩ := hq 6 (by kernel_rfl)
    exact yieldsR_op (R.slHi Tryz.runUnderlying26 Tryz.sizeOf37 hu rfl (by decide) (by decide)) ⟨E1U.of k2 k3 k4 k5, Turn.refl _⟩) (VD.specG (fun _ => fun u w' => SpU sB u w') (DepS.const _) (fun u x y _ h eb => h.ext eb) (fun wq eq hq => wanted_of rfl (hq 4 (by kernel_rfl))) (fun wq eq hq => yieldsR_op (R.ldA Tryz.isAgg29 Tryz.sizeOf29 rfl rfl (show RowAt _ _ _ [Value.slice (some ⟨b1, 0, none⟩) 5 5] from (hY1.ext eq).rowAt 0 1) rfl) ⟨⟨_, 5, rfl, hS1.ext eq, by decide⟩, Turn.refl _⟩) (VD.specG (fun _ => fun u _ => u = .bool false) (DepS.const _) (fun u x y _ h eb => h) (fun wq eq hq => wanted_of rfl (hq 4 (by kernel_rfl))) (fun wq eq hq => yieldsR_call Tryz.call14 rfl ((chkU false false (wP.take 1) sB kB _ _ _ B wq (hq 5 (by kernel_rfl)) (hq 7 (by kernel_rfl)).wy (hq 8 (by kernel_rfl)) (Nat.le_trans hB (Vc.Mod.size (E5.trans eq))) (hT.ext hB (E5.trans eq))))) (VD.specG (fun _ => fun u _ => u = .bool true) (DepS.const _) (fun u x y _ h eb => h) (fun wq eq hq => wanted_of rfl (hq 4 (by kernel_rfl))) (fun wq eq hq => yieldsR_op (R.not (hq 9 (by kernel_rfl))) ⟨rfl, Turn.refl _⟩) (VD.spec (fun _ => fun u _ => u = .bool true) (DepS.const _) (fun u x y _ h eb => h) rfl (fun wq eq hq => yieldsR_op (R.pickTB (hq 4 (by kernel_rfl)) (hq 10 (by kernel_rfl))) ⟨rfl, Turn.refl _⟩) (VD.spec (fun _ => fun u _ => u = .bool true) (DepS.const _) (fun u x y _ h eb => h) rfl (fun wq eq hq => yieldsR_op (R.mvB (hq 11 (by kernel_rfl))) ⟨rfl, Turn.refl _⟩) (VD.specG (fun _ => fun u w' => PrU u w') (DepS.const _) (fun u x y _ h eb => h.ext eb) (fun wq eq hq => wanted_of rfl (hq 12 (by kernel_rfl))) (fun wq eq hq => yieldsR_call Tryz.call24 rfl (pair_spec wq)) (VD.specG (fun _ => fun u w' => EiU u w') (DepS.const _) (fun u x y _ h eb => h.ext eb) (fun wq eq hq => wanted_of rfl (hq 12 (by kernel_rfl))) (fun wq eq hq => yieldsR_call Tryz.call25 rfl (either_spec wq)) (VD.specG (fun _ => fun u w' => SpU sS u w') (DepS.const _) (fun u x y _ h eb => h.ext eb) (fun wq eq hq => wanted_of rfl (hq 12 (by kernel_rfl))) (fun wq eq hq => yieldsR_op (R.ldA Tryz.isAgg29 Tryz.sizeOf29 rfl rfl (show RowAt _ _ _ [Value.slice (some ⟨b3, 0, none⟩) 5 5] from (hY3.ext eq).rowAt 0 1) rfl) ⟨⟨_, 5, rfl, hS3.ext eq, by decide⟩, Turn.refl _⟩) (VD.nil (fun w6 e6 h6 => ?_)))))))))))))))))) rfl
 have q12 : us 12 = .bool true := h6 12
 rw [q12]
 have E6 : Ext w w6 := E5.trans e6
 refine VL.gT rfl rfl (VL.callP Tryz.call14 rfl ((chkU false false wP sS kS _ _ _ B w6 (h6 13) (h6 14).wy (h6 15) (Nat.le_trans hB E6.size) (hT.ext hB E6))) fun w6_16 e6_16 => VL.gT rfl rfl (VL.op (R.not rfl) (VL.op (R.pickTB rfl rfl) (VL.op (R.mvB rfl) (VL.gT rfl rfl (VL.callX Tryz.call24 rfl (pairX _) fun g20 w20 k20 e20 => VL.gT rfl rfl (VL.callX Tryz.call25 rfl (eitherX _) fun x21 w21 k21 e21 => VL.gT rfl rfl (VL.callX Tryz.call23 rfl (steps_spec _) fun b22 w22 k22 e22 => VL.gT rfl rfl (VL.callP Tryz.call14 rfl ((chkU false true wP sP kT _ _ _ B w22 (k20.ext (e21.trans e22)) (k21.1.ext e22).wy ⟨_, _, rfl, k22.sl, by decide⟩ (Nat.le_trans hB (Vc.Mod.size (((E6.trans e6_16).trans e20).trans (e21.trans e22)))) (hT.ext hB (((E6.trans e6_16).trans e20).trans (e21.trans e22))))) fun w6_23 e6_23 => VL.gT rfl rfl (VL.op (R.not rfl) (VL.op (R.pickTB rfl rfl) (VL.op (R.asB rfl) (VL.nil (V.seq (?_)))))))))))))))
 have E7 : Ext w6 w6_23 := (e6_16.trans (e20.trans (e21.trans e22))).trans e6_23
 have F7 : Ext w w6_23 := E6.trans E7
 refine V.region (VL.callX Tryz.call24 rfl (pairX _) fun g30 w30 k30 e30 => VL.callX Tryz.call25 rfl (eitherX _) fun x31 w31 k31 e31 => VL.op (R.slHi Tryz.runUnderlying26 Tryz.sizeOf37 rfl rfl (by omega) (by omega)) (VL.buildSl Tryz.runUnderlying22 Tryz.sizeOf3 Tryz.zeroValue3 rfl rfl rfl fun b7_3 w7_3 hb7_3 e7_3 hB7_3 => VL.buildSl Tryz.runUnderlying22 Tryz.sizeOf3 Tryz.zeroValue3 rfl rfl rfl fun b7_4 w7_4 hb7_4 e7_4 hB7_4 => VL.op (R.build Tryz.zeroValue31 Tryz.runUnderlying31 pl31 rfl) (VL.callP Tryz.call16 rfl ((clmU true (wP.take 1) ⟨2, some ⟨b7_3, 0, none⟩, 1, [0], some ⟨b7_4, 0, none⟩, 1, [1], none, 0, []⟩ cP _ _ B w7_4 (k30.ext (e31.trans (e7_3.trans e7_4))) (k31.2.ext (e7_3.trans e7_4)).wy ⟨(litI (l := [0]) hB7_3 rfl (by decide)).ext e7_4, litI (l := [1]) hB7_4 rfl (by decide), TSl.nil _ _ _ _⟩ ⟨Nat.le_of_ble_eq_true rfl, Nat.le_of_ble_eq_true rfl, Nat.le_of_ble_eq_true rfl⟩ (Nat.le_trans hB (Vc.Mod.size (F7.trans ((e30.trans e31).trans (e7_3.trans e7_4))))) (hT.ext hB (F7.trans ((e30.trans e31).trans (e7_3.trans e7_4)))))) fun w7_6 e7_6 => VL.op (R.mvB rfl) (VL.gT rfl rfl (VL.callX Tryz.call24 rfl (pairX _) fun g32 w32 k32 e32 => VL.gT rfl rfl (VL.callX Tryz.call25 rfl (eitherX _) fun x33 w33 k33 e33 => VL.gT rfl rfl (VL.buildSl Tryz.runUnderlying22 Tryz.sizeOf3 Tryz.zeroValue3 rfl rfl rfl fun b7_10 w7_10 hb7_10 e7_10 hB7_10 => VL.gT rfl rfl (VL.callX Tryz.call23 rfl (steps_spec _) fun b34 w34 k34 e34 => VL.gT rfl rfl (VL.op (R.build Tryz.zeroValue31 Tryz.runUnderlying31 pl31 rfl) (VL.gT rfl rfl (VL.callP Tryz.call16 rfl ((clmU true wP ⟨1, some ⟨b7_10, 0, none⟩, 1, [1], none, 0, [], some ⟨b34, 0, none⟩, 5, sP⟩ cC _ _ B w34 (k32.ext (e33.trans (e7_10.trans e34))) (k33.1.ext (e7_10.trans e34)).wy ⟨(litI (l := [1]) hB7_10 rfl (by decide)).ext e34, TSl.nil _ _ _ _, k34.sl⟩ ⟨Nat.le_of_ble_eq_true rfl, Nat.le_of_ble_eq_true rfl, Nat.le_of_ble_eq_true rfl⟩ (Nat.le_trans hB (Vc.Mod.size (F7.trans (((e30.trans e31).trans (e7_3.trans e7_4)).trans (e7_6.trans ((e32.trans e33).trans (e7_10.trans e34))))))) (hT.ext hB (F7.trans (((e30.trans e31).trans (e7_3.trans e7_4)).trans (e7_6.trans ((e32.trans e33).trans (e7_10.trans e34)))))))) fun w7_13 e7_13 => VL.op (R.pickTB rfl rfl) (VL.op (R.asB rfl) (VL.nil (V.seq (?_)))))))))))))))
 have E7b : Ext w6_23 w7_13 := ((e30.trans e31).trans (e7_3.trans e7_4)).trans (e7_6.trans (((e32.trans e33).trans (e7_10.trans e34)).trans e7_13))
 have EE : Ext w5_3 w7_13 := e6.trans (E7.trans E7b)
 have F8 : Ext w w7_13 := F7.trans E7b
 clear h6
 refine V.regionD (T := Ext) mixed 14 (by kernel_rfl) rfl (fun us => VD.callX (fun _ => fun u w' => PrU u w') (DepS.const _) (fun u x y _ h eb => h.ext eb) Tryz.call24 rfl (fun wq eq hq => pair_spec wq) (VD.spec (fun _ => fun u _ => u = .agg #[.slice (some ⟨b5_1, 0, none⟩) 1 1]) (DepS.const _) (fun u x y _ h eb => h) rfl (fun wq eq hq => yieldsR_op (R.ldA Tryz.isAgg29 Tryz.sizeOf29 rfl rfl (show RowAt _ _ _ [Value.slice (some ⟨b5_1, 0, none⟩) 1 1] from (hYN.ext (EE.trans eq)).rowAt 0 1) rfl) ⟨rfl, Turn.refl _⟩) (VD.callX (fun _ => fun u _ => u = .bool true) (DepS.const _) (fun u x y _ h eb => h) Tryz.call14 rfl (fun wq eq hq => by
    have q1 : us 1 = .agg #[.slice (some ⟨b5_1, 0, none⟩) 1 1] := hq 1 (by kernel_rfl)
    rw [q1]
    exact chkU true true [] sN kN _ _ _ B wq (hq 0 (by kernel_rfl)) (nil_wy wq) ⟨_, 1, rfl, hSN.ext (EE.trans eq), by decide⟩ (Nat.le_trans hB (Vc.Mod.size (F8.trans eq))) (hT.ext hB (F8.trans eq))) (VD.spec (fun _ => fun u _ => u = .bool true) (DepS.const _) (fun u x y _ h eb => h) rfl (fun wq eq hq => yieldsR_op (R.mvB (hq 2 (by kernel_rfl))) ⟨rfl, Turn.refl _⟩) (VD.specG (fun _ => fun u w' => PrU u w') (DepS.const _) (fun u x y _ h eb => h.ext eb) (fun wq eq hq => wanted_of rfl (hq 3 (by kernel_rfl))) (fun wq eq hq => yieldsR_call Tryz.call24 rfl (pair_spec wq)) (VD.specG (fun _ => fun u w' => ∃ b, u = .slice (some ⟨b, 0, none⟩) 1 1 ∧ IntSl w' (some ⟨b, 0, none⟩) [0]) (DepS.const _) (fun u x y _ ⟨b, h1, h2⟩ eb => ⟨b, h1, h2.ext eb⟩) (fun wq eq hq => wanted_of rfl (hq 3 (by kernel_rfl))) (fun wq eq hq => yieldsR_build1 (enc := Vc.encI) (B := 0) Tryz.runUnderlying22 Tryz.sizeOf3 Tryz.zeroValue3 rfl rfl rfl (0 : Int) rfl rfl rfl (Nat.zero_le _) fun b w'' ho he => ⟨⟨b, rfl, OwnT.sl ho⟩, he⟩) (VD.specG (fun _ => fun u _ => u = .agg #[.slice (some ⟨b5_1, 0, none⟩) 1 1]) (DepS.const _) (fun u x y _ h eb => h) (fun wq eq hq => wanted_of rfl (hq 3 (by kernel_rfl))) (fun wq eq hq => yieldsR_op (R.ldA Tryz.isAgg29 Tryz.sizeOf29 rfl rfl (show RowAt _ _ _ [Value.slice (some ⟨b5_1, 0, none⟩) 1 1] from (hYN.ext (EE.trans eq)).rowAt 0 1) rfl) ⟨rfl, Turn.refl _⟩) (VD.specG (fun _ => fun u w' => ∃ b, u = .agg (encCl ⟨3, none, 0, [], some ⟨b, 0, none⟩, 1, [0], some ⟨b5_1, 0, none⟩, 1, sN⟩).toArray ∧ IntSl w' (some ⟨b, 0, none⟩) [0]) (DepS.const _) (fun u x y _ ⟨b, h1, h2⟩ eb => ⟨b, h1, h2.ext eb⟩) (fun wq eq hq => wanted_of rfl (hq 3 (by kernel_rfl))) (fun wq eq hq => by
     obtain ⟨b, q5, hI⟩ := hq 5 (by kernel_rfl)
     have q6 : us 6 = .agg #[.slice (some ⟨b5_1, 0, none⟩) 1 1] := hq 6 (by kernel_rfl)
     refine yieldsR_op (v := .agg (encCl ⟨3, none, 0, [], some ⟨b, 0, none⟩, 1, [0], some ⟨b5_1, 0, none⟩, 1, sN⟩).toArray) ((R.build Tryz.zeroValue31 Tryz.runUnderlying31 pl31 (by show bldOk _ _ [(0, .int .i64 3), (2, us 5), (3, us 6)] = true; rw [q5, q6]; rfl)).trans ?_) ⟨⟨b, rfl, hI⟩, Turn.refl _⟩
     refine congrArg (fun v => Result.ok (Next.value v) wq) ?_
     show Value.agg (bld _ _ [(0, .int .i64 3), (2, us 5), (3, us 6)]).toArray = _
     rw [q5, q6]
     rfl) (VD.specG (fun _ => fun u _ => u = .bool true) (DepS.const _) (fun u x y _ h eb => h) (fun wq eq hq => wanted_of rfl (hq 3 (by kernel_rfl))) (fun wq eq hq => by
     obtain ⟨b, q7, hI⟩ := hq 7 (by kernel_rfl)
     refine yieldsR_call (vs := [us 4, .slice none 0 0, us 7]) Tryz.call16 rfl ?_
     rw [q7]
     exact clmU true [] ⟨3, none, 0, [], some ⟨b, 0, none⟩, 1, [0], some ⟨b5_1, 0, none⟩, 1, sN⟩ cN _ _ B wq (hq 4 (by kernel_rfl)) (nil_wy wq) ⟨TSl.nil _ _ _ _, hI, hSN.ext (EE.trans eq)⟩ ⟨Nat.le_of_ble_eq_true rfl, Nat.le_of_ble_eq_true rfl, Nat.le_of_ble_eq_true rfl⟩ (Nat.le_trans hB (Vc.Mod.size (F8.trans eq))) (hT.ext hB (F8.trans eq))) (VD.spec (fun _ => fun u _ => u = .bool true) (DepS.const _) (fun u x y _ h eb => h) rfl (fun wq eq hq => yieldsR_op (R.pickTB (hq 3 (by kernel_rfl)) (hq 8 (by kernel_rfl))) ⟨rfl, Turn.refl _⟩) (VD.spec (fun _ => fun u _ => u = .bool true) (DepS.const _) (fun u x y _ h eb => h) rfl (fun wq eq hq => yieldsR_op (R.mvB (hq 9 (by kernel_rfl))) ⟨rfl, Turn.refl _⟩) (VD.specG (fun _ => fun u w' => PrU u w') (DepS.const _) (fun u x y _ h eb => h.ext eb) (fun wq eq hq => wanted_of rfl (hq 10 (by kernel_rfl))) (fun wq eq hq => yieldsR_call Tryz.call24 rfl (pair_spec wq)) (VD.specG (fun _ => fun u _ => u = .agg #[.slice (some ⟨b5_1, 0, none⟩) 1 1]) (DepS.const _) (fun u x y _ h eb => h) (fun wq eq hq => wanted_of rfl (hq 10 (by kernel_rfl))) (fun wq eq hq => yieldsR_op (R.ldA Tryz.isAgg29 Tryz.sizeOf29 rfl rfl (show RowAt _ _ _ [Value.slice (some ⟨b5_1, 0, none⟩) 1 1] from (hYN.ext (EE.trans eq)).rowAt 0 1) rfl) ⟨rfl, Turn.refl _⟩) (VD.specG (fun _ => fun u _ => u = .agg (encCl ⟨3, none, 0, [], none, 0, [], some ⟨b5_1, 0, none⟩, 1, sN⟩).toArray) (DepS.const _) (fun u x y _ h eb => h) (fun wq eq hq => wanted_of rfl (hq 10 (by kernel_rfl))) (fun wq eq hq => by
     have q12 : us 12 = .agg #[.slice (some ⟨b5_1, 0, none⟩) 1 1] := hq 12 (by kernel_rfl)
     refine yieldsR_op (v := .agg (encCl ⟨3, none, 0, [], none, 0, [], some ⟨b5_1, 0, none⟩, 1, sN⟩).toArray) ((R.build Tryz.zeroValue31 Tryz.runUnderlying31 pl31 (by show bldOk _ _ [(0, .int .i64 3), (3, us 12)] = true; rw [q12]; rfl)).trans ?_) ⟨rfl, Turn.refl _⟩
     refine congrArg (fun v => Result.ok (Next.value v) wq) ?_
     show Value.agg (bld _ _ [(0, .int .i64 3), (3, us 12)]).toArray = _
     rw [q12]
     rfl) (VD.nil (fun w8 e8 h8 => ?_)))))))))))))))) rfl
 have r10 : us 10 = .bool true := h8 10
 have r13 : us 13 = .agg (encCl ⟨3, none, 0, [], none, 0, [], some ⟨b5_1, 0, none⟩, 1, sN⟩).toArray := h8 13
 rw [r10, r13]
 have F9 : Ext w w8 := F8.trans e8
 refine VL.gT rfl rfl (VL.callP Tryz.call16 rfl ((clmU false [] ⟨3, none, 0, [], none, 0, [], some ⟨b5_1, 0, none⟩, 1, sN⟩ cM _ _ B w8 (h8 11) (nil_wy w8) ⟨TSl.nil _ _ _ _, TSl.nil _ _ _ _, hSN.ext (EE.trans e8)⟩ ⟨Nat.le_of_ble_eq_true rfl, Nat.le_of_ble_eq_true rfl, Nat.le_of_ble_eq_true rfl⟩ (Nat.le_trans hB F9.size) (hT.ext hB F9))) fun w8_14 e8_14 => VL.gT rfl rfl (VL.op (R.not rfl) (VL.op (R.pickTB rfl rfl) (VL.op (R.asB rfl) (VL.nil (V.seq (?_)))))))
 have F10 : Ext w w8_14 := F9.trans e8_14
 refine V.region (VL.op (R.mvB rfl) (VL.op (R.mvB rfl) (VL.gT rfl rfl (VL.op (R.mvB rfl) (VL.op (R.pickTB rfl rfl) (VL.op (R.mvB rfl) (VL.gT rfl rfl (VL.op (R.mvB rfl) (VL.op (R.pickTB rfl rfl) (VL.op (R.mvB rfl) (VL.gT rfl rfl (VL.buildSl Tryz.runUnderlying22 Tryz.sizeOf3 Tryz.zeroValue3 rfl rfl rfl fun b9_8 w9_8 hb9_8 e9_8 hB9_8 => VL.gT rfl rfl (VL.buildSl Tryz.runUnderlying22 Tryz.sizeOf3 Tryz.zeroValue3 rfl rfl rfl fun b9_9 w9_9 hb9_9 e9_9 hB9_9 => VL.gT rfl rfl (VL.op (R.build Tryz.zeroValue37 Tryz.runUnderlying37 pl37 rfl) (VL.gT rfl rfl (VL.buildSl Tryz.runUnderlying22 Tryz.sizeOf3 Tryz.zeroValue3 rfl rfl rfl fun b9_11 w9_11 hb9_11 e9_11 hB9_11 => VL.gT rfl rfl (VL.callP Tryz.call12 rfl ((holds30_spec ⟨⟨some ⟨b9_8, 0, none⟩, 1, [1]⟩, ⟨some ⟨b9_9, 0, none⟩, 1, [0]⟩⟩ (some ⟨b9_11, 0, none⟩) 2 [1, 2] w9_11 ⟨(litI (l := [1]) hB9_8 rfl (by decide)).ext (e9_9.trans e9_11), (litI (l := [0]) hB9_9 rfl (by decide)).ext e9_11⟩ ⟨Nat.le_of_ble_eq_true rfl, Nat.le_of_ble_eq_true rfl⟩ (litI (l := [1, 2]) hB9_11 rfl (by decide)) (Nat.le_of_ble_eq_true rfl))) fun w9_12 e9_12 => VL.op (R.pickTB rfl rfl) (VL.op (R.mvB rfl) (VL.gT rfl rfl (VL.buildSl Tryz.runUnderlying22 Tryz.sizeOf3 Tryz.zeroValue3 rfl rfl rfl fun b9_15 w9_15 hb9_15 e9_15 hB9_15 => VL.gT rfl rfl (VL.op (R.build Tryz.zeroValue37 Tryz.runUnderlying37 pl37 rfl) (VL.gT rfl rfl (VL.buildSl Tryz.runUnderlying22 Tryz.sizeOf3 Tryz.zeroValue3 rfl rfl rfl fun b9_17 w9_17 hb9_17 e9_17 hB9_17 => VL.gT rfl rfl (VL.callP Tryz.call12 rfl ((holds30_spec ⟨default, ⟨some ⟨b9_15, 0, none⟩, 1, [1]⟩⟩ (some ⟨b9_17, 0, none⟩) 1 [1] w9_17 ⟨TSl.nil _ _ _ _, (litI (l := [1]) hB9_15 rfl (by decide)).ext e9_17⟩ ⟨Nat.le_of_ble_eq_true rfl, Nat.le_of_ble_eq_true rfl⟩ (litI (l := [1]) hB9_17 rfl (by decide)) (Nat.le_of_ble_eq_true rfl))) fun w9_18 e9_18 => VL.gT rfl rfl (VL.op (R.not rfl) (VL.op (R.pickTB rfl rfl) (VL.op (R.asB rfl) (VL.nil (V.ret (fret1 (v := .bool _) rfl rfl rfl (⟨rfl, F10.trans ((((((e9_8.trans e9_9).trans e9_11).trans e9_12).trans e9_15).trans e9_17).trans e9_18)⟩)))))))))))))))))))))))))))))))
end Go.Proofs.YtmglkjigmcikdaaGreatDoor
