/- Cluster: components, the first part of the walk. -/
import Derived.Test.YtglaigeellpikaaXC4c
import Derived.Test.YtglaigeellpikaaXVcGrp
import Derived.Test.YtglaigeellpikaaXVcClear
namespace Go.Proofs.Ytglaigeellpikaa
open Go.Vc

/-- The state of the loop: places, evidence, lists. -/
structure NbM (w0 : World) (sa : Option Addr) (n cs r1 r2 b1 b3 rn B : Nat) (W : List ((Int × Int) × Int)) (A : List ((Int × Int) × Bool)) (M : List (Int × Sl)) (w : World) : Prop where
  e : Ext w0 w
  ev : EvAt w r1 r2 W A
  hb1 : Blk w b1 (.cells #[.slice sa n cs, .map (some r1), .map (some r2)] 52 (0, 0))
  hb3 : Blk w b3 (.cells #[.map (some rn)] 70 (0, 0))
  near : NearAt w rn B M
  hB : B ≤ w.heap.size
  lo : r1 < rn ∧ r2 < rn ∧ b1 < rn ∧ rn < b3 ∧ b3 < B ∧ w0.heap.size ≤ rn
section
variable {w0 w w' : World} {sa : Option Addr} {n cs r1 r2 b1 b3 rn B : Nat} {W : List ((Int × Int) × Int)} {A : List ((Int × Int) × Bool)} {D : List ((Int × Int) × Int)} {M : List (Int × Sl)}
theorem NbM.mod {S : Nat → Prop} (h : NbM w0 sa n cs r1 r2 b1 b3 rn B W A M w) (m : Vc.Mod S w w') (hS : ∀ x, S x → b3 < x ∧ ∀ k, ¬ aBlk (slOf M k).a x) : NbM w0 sa n cs r1 r2 b1 b3 rn B W A M w' := by
  have hlo := h.lo
  have l0 := h.e.size
  have no : ∀ x, x ≤ b3 → ¬ S x := fun x hx hs => by have := (hS x hs).1; omega
  exact ⟨h.e.ownA m fun x hx => by have := (hS x hx).1; omega, h.ev.mod m (no _ (by omega)) (no _ (by omega)), h.hb1.mod m (no _ (by omega)), h.hb3.mod m (no _ (by omega)),
    ⟨h.near.map.mod m (no _ (by omega)), fun k => (h.near.own k).mod m fun x hx hs => (hS x hs).2 k hx, h.near.sep⟩, by have := h.hB; have := m.size; omega, hlo⟩
theorem NbM.ext (h : NbM w0 sa n cs r1 r2 b1 b3 rn B W A M w) (e : Ext w w') : NbM w0 sa n cs r1 r2 b1 b3 rn B W A M w' := h.mod e fun _ hx => hx.elim
theorem NbM.add {w6 w7 w8 : World} (h : NbM w0 sa n cs r1 r2 b1 b3 rn B W A M w) {K X : Int} {a' : Option Addr} {c' : Nat} (h6 : Ext w w6) (ho : OwnT encI 1 3 B w7 a' c' ((slOf M K).l ++ [X])) (m7 : Vc.Mod (aBlk (slOf M K).a) w6 w7) (hf : ∀ b, aBlk a' b → aBlk (slOf M K).a b ∨ w6.heap.size ≤ b)
    (hM : MapIs w8 rn vI (mset (tenc encSl M) K (encSl ⟨a', c', (slOf M K).l ++ [X]⟩))) (m8 : Vc.Mod (one rn) w7 w8) :
    NbM w0 sa n cs r1 r2 b1 b3 rn B W A (tset M K ⟨a', c', (slOf M K).l ++ [X]⟩) w8 ∧ ∀ b T fr c, b ≠ rn → (∀ k, ¬ aBlk (slOf M k).a b) → Blk w b (.cells c T fr) → Blk w8 b (.cells c T fr) := by
  have hlo := h.lo
  have h2 := h.ext h6
  have l0 := h2.e.size
  have hge := (h2.near.own K).ge
  have nK : ∀ x, x < B → ¬ aBlk (slOf M K).a x := fun x hx hs => by have := hge x hs; omega
  have nR : ∀ x, x ≠ rn → ¬ one rn x := fun x hx hs => hx hs
  refine ⟨⟨(h2.e.ownA m7 fun x hx => by have := hge x hx; omega).ownA m8 fun x hx => by have hx : x = rn := hx; omega, (h2.ev.mod m7 (nK _ (by omega)) (nK _ (by omega))).mod m8 (nR _ (by omega)) (nR _ (by omega)), (h2.hb1.mod m7 (nK _ (by omega))).mod m8 (nR _ (by omega)),
    (h2.hb3.mod m7 (nK _ (by omega))).mod m8 (nR _ (by omega)), NearAt.add h2.near ho m7 hf hM m8 (by omega), by have := h2.hB; have := m7.size; have := m8.size; omega, hlo⟩, fun b T fr c hb hk hB => ((hB.ext h6).mod m7 (hk K)).mod m8 (nR _ hb)⟩
end
structure NbJ (w0 : World) (sa : Option Addr) (n cs r1 r2 b1 b3 rn B : Nat) (W : List ((Int × Int) × Int)) (A : List ((Int × Int) × Bool)) (D : List ((Int × Int) × Int)) (M : List (Int × Sl)) (w : World) : Prop where
  m : NbM w0 sa n cs r1 r2 b1 b3 rn B W A M w
  ok : NbOk M D
  len : ∀ c, (slOf M c).l.length ≤ 2 * D.length
theorem NbOk.nil : NbOk [] [] := fun c d => by simp [slOf, tget]
set_option maxHeartbeats 4000000 in
theorem components_spec (sa : Option Addr) (cs r1 r2 : Nat) (same : List Int) (W : List ((Int × Int) × Int)) (A : List ((Int × Int) × Bool)) (w : World) (hm : same.length ≤ 1000) (hW : W.length ≤ 1000)
    (hE : EvAt w r1 r2 W A) (hI : IntSl w sa same)
    (hv : ∀ i, i < same.length → 0 ≤ same.getD i default ∧ same.getD i default ≤ i ∧ same.getD (same.getD i default).toNat default = same.getD i default) (hWk : WOk same W) :
    RetsX Try.prog 31 #[evV sa same.length cs r1 r2] w (fun x : Nat => .slice (some ⟨x, 0, none⟩) same.length same.length) (fun x w' => OwnT encI 1 3 x w' (some ⟨x, 0, none⟩) same.length (marksF same W) ∧ w.heap.size ≤ x) := by
  refine enter (args := [_]) Try.func31 rfl Try.ntmps31 (by kernel_rfl) rfl ?_
  refine V.seq (V.region (VL.box (v := .agg _) rfl fun b1 w1 hb1 e1 hB1 => VL.op (R.asS rfl) (VL.nil (V.seq (?_)))))
  have hB1 : Blk w1 b1 (.cells #[.slice sa same.length cs, .map (some r1), .map (some r2)] 52 (0, 0)) := hB1
  have z1 := e1.size
  have l1 := hE.wt.lt
  have l2 := hE.ap.lt
  have lb1 := hB1.lt
  refine V.region (VL.makeMap fun rn wn hrn en hRn => VL.allocSt (v := .map _) Try.zeroValue70 Try.sizeOf70 rfl rfl rfl rfl rfl fun b3 w3 hb3 e3 hB3 => VL.nil (V.cut [1, 3] (fun _ : Unit => [.pointer (some ⟨b1, 0, none⟩), .pointer (some ⟨b3, 0, none⟩)]) (fun _ w' => ∃ B M, NbJ w sa same.length cs r1 r2 b1 b3 rn B W A W M w') (V.seq (V.region (VL.op (R.fld' (o := 1) Try.runUnderlying52 rfl rfl Try.sizeOf49 rfl rfl) (VL.op (R.ld1 Try.isAgg49 rfl ((hB1.ext (en.trans e3)).cell 1)) (VL.range Try.runUnderlying49 rfl ((hE.wt.ext (e1.trans (en.trans e3)))) fun it w4 hit e4 hI4 => VL.nil (V.block (?_))))))) (fun rgB0 xB0 wBB0 hBB0 => V.seq (?_))))
  · have hB3 : Blk w3 b3 (.cells #[.map (some rn)] 70 (0, 0)) := hB3
    have zn := en.size
    have z3 := e3.size
    have ln := hRn.lt
    have l3 := hB3.lt
    have E3 := e1.trans (en.trans e3)
    have z4 := e4.size
    have lit := hI4.lt
    have hne : it ≠ r1 := by omega
    have hJ0 : NbJ w sa same.length cs r1 r2 b1 b3 rn w4.heap.size W A [] [] w4 :=
      ⟨⟨E3.trans e4, hE.ext (E3.trans e4), hB1.ext (en.trans (e3.trans e4)), hB3.ext e4, ⟨(MapIs.empty hRn).ext (e3.trans e4), fun k => OwnT.nil _ _ _ _ _, fun k k' _ => Sep.nil _⟩, Nat.le_refl _, by omega⟩, NbOk.nil, fun c => by simp [slOf, tget]⟩
    refine V.loop [1, 3, 14] (fun x : List ((Int × Int) × Int) × List ((Int × Int) × Int) × List (Int × Sl) => [.pointer (some ⟨b1, 0, none⟩), .pointer (some ⟨b3, 0, none⟩), .pointer (some ⟨it, 0, none⟩)])
      (fun x w' => (x.2.1 ++ x.1).Perm W ∧ NbJ w sa same.length cs r1 r2 b1 b3 rn w4.heap.size W A x.2.1 x.2.2 w' ∧ ∃ last, IterAt w' it r1 encP (tenc vI W) (tenc vI x.1) last) (fun x => x.1.length) (W, [], []) rfl ⟨by simp, hJ0, _, hI4⟩ ?_
    rintro ρ ⟨rm, D, M⟩ w2 ⟨hP, hJ, last, hI⟩
    dsimp only at hP hJ hI ⊢
    have zJ := hJ.m.hB
    have hlo := hJ.m.lo
    have hnit : ∀ k, ¬ aBlk (slOf M k).a it := fun k h => by have := (hJ.m.near.own k).ge _ h; omega
    refine V.seq (V.region (VL.nextT rfl (hI) (hne) (fun h0_3_0 => VL.op (R.extr rfl rfl) (VL.nil (V.seq (V.condF rfl (V.exit (?_)))))) (fun i hi w5 m5 hs5 hI5 => VL.op (R.extr rfl rfl) (VL.nil (V.seq (V.condT rfl (V.skip (V.block (V.seq (V.region (VL.op (R.entry rfl (hI5)) (VL.op (R.extr rfl rfl) (VL.op (R.extr rfl rfl) (VL.allocSt (v := .agg (encPr rm[i].1).toArray) Try.zeroValue42 Try.sizeOf42 rfl rfl rfl rfl rfl fun b4_3 w4_3 hb4_3 e4_3 hB4_3 => VL.op (R.asI rfl) (VL.nil (V.seq (V.region (VL.op (R.mvI rfl) (VL.op (R.gtr rfl rfl) (VL.nil (V.condP rfl (fun c21 => V.seq (?_)) (fun c21 => V.skip (⟨(rm.eraseIdx i, rm[i] :: D, M), rfl, ⟨?_, ?_, ?_⟩, ?_⟩)))))))))))))))))))))))
    · subst h0_3_0
      simp only [List.append_nil] at hP
      exact ⟨(), rfl, w4.heap.size, M, hJ.m, hJ.ok.perm hP, fun c => by have := hJ.len c; have := hP.length_eq; omega⟩
    · have hM5 := hJ.m.mod m5 (fun x hx => by have hx : x = it := hx; subst hx; exact ⟨by omega, hnit⟩)
      have hM4 := hM5.ext e4_3
      have hB4 : Blk w4_3 b4_3 (.cells #[.int .i64 rm[i].1.1, .int .i64 rm[i].1.2] 42 (0, 0)) := hB4_3
      have hpe : (rm[i] :: rm.eraseIdx i).Perm rm := erase_perm rm hi
      have hle := hpe.length_eq
      rw [List.length_cons] at hle
      have hDl : D.length + rm.length = W.length := by have := hP.length_eq; simpa using this
      have hl1 := hJ.len rm[i].1.1
      have nb4 : ∀ k, ¬ aBlk (slOf M k).a b4_3 := fun k h => by have := (hM5.near.own k).lt _ h; omega
      have hx6 := hM4.near.own rm[i].1.1
      have hz6 := hM4.hB
      have nK6 : ∀ q, q < w4.heap.size → ¬ aBlk (slOf M rm[i].1.1).a q := fun q hq h => by have := hx6.ge q h; omega
      refine V.regionT (T := (TA encI 1 3 w4.heap.size (slOf M rm[i].1.1).a (slOf M rm[i].1.1).cap (slOf M rm[i].1.1).l rm[i].1.2)) mixed 11 (by kernel_rfl) rfl (fun us => VT.op (fun wq eq => R.ld1 Try.isAgg70 rfl ((show wq.cell? ⟨b3, 0, none⟩ = some (Value.map (some rn)) from (hM4.hb3.mod eq.m (nK6 _ (by omega))).cell 0))) (VT.op (fun wq eq => R.ixA Try.runUnderlying42 Try.sizeOf3 rfl rfl (by decide) (by decide)) (VT.op (fun wq eq => R.ld1 Try.isAgg3 rfl ((show wq.cell? ⟨b4_3, 0 + Int.toNat 0 * 1, none⟩ = some (.int .i64 rm[i].1.1) from (hB4.mod eq.m (nb4 rm[i].1.1)).cell _))) (VT.op (fun wq eq => R.ld1 Try.isAgg70 rfl ((show wq.cell? ⟨b3, 0, none⟩ = some (Value.map (some rn)) from (hM4.hb3.mod eq.m (nK6 _ (by omega))).cell 0))) (VT.op (fun wq eq => R.ixA Try.runUnderlying42 Try.sizeOf3 rfl rfl (by decide) (by decide)) (VT.op (fun wq eq => R.ld1 Try.isAgg3 rfl ((show wq.cell? ⟨b4_3, 0 + Int.toNat 0 * 1, none⟩ = some (.int .i64 rm[i].1.1) from (hB4.mod eq.m (nb4 rm[i].1.1)).cell _))) (VT.op (fun wq eq => R.lookupV key3 Try.runUnderlying70 Try.zeroValue23 (hM4.near.map.mod eq.m (nK6 _ (by omega))) (slOf_val M rm[i].1.1) rfl rfl) (VT.op (fun wq eq => R.ixA Try.runUnderlying42 Try.sizeOf3 rfl rfl (by decide) (by decide)) (VT.op (fun wq eq => R.ld1 Try.isAgg3 rfl ((show wq.cell? ⟨b4_3, 0 + Int.toNat 1 * 1, none⟩ = some (.int .i64 rm[i].1.2) from (hB4.mod eq.m (nb4 rm[i].1.1)).cell _))) (VT.spec (SB1 encI 1 3 w4_3.heap.size (rm[i].1.2)) (fun u x y _ ⟨bb, h1, h2⟩ eb => ⟨bb, h1, h2.mod eb.m fun k hk hs => by have := OwnT.ge h2 k hk; have := hx6.lt k hs; omega⟩) rfl (fun wq eq hq => yieldsR_build1 Try.runUnderlying23 Try.sizeOf3 Try.zeroValue3 rfl rfl rfl (rm[i].1.2) rfl rfl rfl eq.m.size fun b w2 ho he => ⟨⟨b, rfl, ho⟩, Turn.ext he⟩) (VT.spec (SA encI 1 3 w4.heap.size w4_3.heap.size (slOf M rm[i].1.1).a (slOf M rm[i].1.1).cap (slOf M rm[i].1.1).l (rm[i].1.2)) (SA.mono hx6) rfl (fun wq eq hq => ?_) (VT.nil (fun w6 e6 h6 => ?_))))))))))))) rfl
      · obtain ⟨bb, hb, hB⟩ := hq 9 (by kernel_rfl)
        refine yieldsR_app1 (a := (slOf M rm[i].1.1).a) (cap := (slOf M rm[i].1.1).cap) (b := bb) (l := (slOf M rm[i].1.1).l) (u := (rm[i].1.2)) el23 (fun _ => rfl) hx6 eq ?_ ?_ hB.sl (by omega) (by unfold maxLen; omega) (by omega)
        · rfl
        · exact hb
      obtain ⟨a6, c6, hu6, hO6, hd6⟩ := h6 10
      rw [hu6]
      have hn6 : (slOf M rm[i].1.1).l.length + 1 = ((slOf M rm[i].1.1).l ++ [rm[i].1.2]).length := by simp
      rw [hn6]
      refine VL.mapUpdate key3 Try.runUnderlying70 rfl (k := rm[i].1.1) rfl rfl ((hM4.near.map.mod e6.m (nK6 _ (by omega)))) fun w6c hM6 m6c => VL.nil (?_)
      obtain ⟨hM7, kp⟩ := hM4.add (Mod.refl _ _) hO6 e6.m (fun q hq => by rcases hd6 with ⟨e1, _⟩ | h; exact .inl (e1 ▸ hq); exact .inr (h q hq)) hM6 m6c
      have hB7 := kp _ _ _ _ (by omega) nb4 hB4
      obtain ⟨M1, hM1⟩ : ∃ M1, M1 = tset M rm[i].1.1 ⟨a6, c6, (slOf M rm[i].1.1).l ++ [rm[i].1.2]⟩ := ⟨_, rfl⟩
      rw [← hM1] at hM7
      have hs1 : ∀ c, (slOf M1 c).l = if c = rm[i].1.1 then (slOf M rm[i].1.1).l ++ [rm[i].1.2] else (slOf M c).l := fun c => by rw [hM1, slOf_set]; split <;> rfl
      have hl2 : (slOf M1 rm[i].1.2).l.length ≤ 2 * D.length + 1 := by rw [hs1]; have := hJ.len rm[i].1.2; split <;> simp <;> omega
      have nb7 : ∀ k, ¬ aBlk (slOf M1 k).a b4_3 := fun k h => by
        rw [hM1, slOf_set] at h
        split at h
        · rcases hd6 with ⟨e1, _⟩ | h'
          · exact nb4 _ (e1 ▸ h)
          · have := h' _ h; have := hB4.lt; omega
        · exact nb4 _ h
      have hx7 := hM7.near.own rm[i].1.2
      have hz7 := hM7.hB
      have nK7 : ∀ q, q < w4.heap.size → ¬ aBlk (slOf M1 rm[i].1.2).a q := fun q hq h => by have := hx7.ge q h; omega
      refine V.regionT (T := (TA encI 1 3 w4.heap.size (slOf M1 rm[i].1.2).a (slOf M1 rm[i].1.2).cap (slOf M1 rm[i].1.2).l rm[i].1.1)) mixed 11 (by kernel_rfl) rfl (fun us => VT.op (fun wq eq => R.ld1 Try.isAgg70 rfl ((show wq.cell? ⟨b3, 0, none⟩ = some (Value.map (some rn)) from (hM7.hb3.mod eq.m (nK7 _ (by omega))).cell 0))) (VT.op (fun wq eq => R.ixA Try.runUnderlying42 Try.sizeOf3 rfl rfl (by decide) (by decide)) (VT.op (fun wq eq => R.ld1 Try.isAgg3 rfl ((show wq.cell? ⟨b4_3, 0 + Int.toNat 1 * 1, none⟩ = some (.int .i64 rm[i].1.2) from (hB7.mod eq.m (nb7 rm[i].1.2)).cell _))) (VT.op (fun wq eq => R.ld1 Try.isAgg70 rfl ((show wq.cell? ⟨b3, 0, none⟩ = some (Value.map (some rn)) from (hM7.hb3.mod eq.m (nK7 _ (by omega))).cell 0))) (VT.op (fun wq eq => R.ixA Try.runUnderlying42 Try.sizeOf3 rfl rfl (by decide) (by decide)) (VT.op (fun wq eq => R.ld1 Try.isAgg3 rfl ((show wq.cell? ⟨b4_3, 0 + Int.toNat 1 * 1, none⟩ = some (.int .i64 rm[i].1.2) from (hB7.mod eq.m (nb7 rm[i].1.2)).cell _))) (VT.op (fun wq eq => R.lookupV key3 Try.runUnderlying70 Try.zeroValue23 (hM7.near.map.mod eq.m (nK7 _ (by omega))) (slOf_val M1 rm[i].1.2) rfl rfl) (VT.op (fun wq eq => R.ixA Try.runUnderlying42 Try.sizeOf3 rfl rfl (by decide) (by decide)) (VT.op (fun wq eq => R.ld1 Try.isAgg3 rfl ((show wq.cell? ⟨b4_3, 0 + Int.toNat 0 * 1, none⟩ = some (.int .i64 rm[i].1.1) from (hB7.mod eq.m (nb7 rm[i].1.2)).cell _))) (VT.spec (SB1 encI 1 3 w6c.heap.size (rm[i].1.1)) (fun u x y _ ⟨bb, h1, h2⟩ eb => ⟨bb, h1, h2.mod eb.m fun k hk hs => by have := OwnT.ge h2 k hk; have := hx7.lt k hs; omega⟩) rfl (fun wq eq hq => yieldsR_build1 Try.runUnderlying23 Try.sizeOf3 Try.zeroValue3 rfl rfl rfl (rm[i].1.1) rfl rfl rfl eq.m.size fun b w2 ho he => ⟨⟨b, rfl, ho⟩, Turn.ext he⟩) (VT.spec (SA encI 1 3 w4.heap.size w6c.heap.size (slOf M1 rm[i].1.2).a (slOf M1 rm[i].1.2).cap (slOf M1 rm[i].1.2).l (rm[i].1.1)) (SA.mono hx7) rfl (fun wq eq hq => ?_) (VT.nil (fun w7 e7 h7 => ?_))))))))))))) rfl
      · obtain ⟨bb, hb, hB⟩ := hq 9 (by kernel_rfl)
        refine yieldsR_app1 (a := (slOf M1 rm[i].1.2).a) (cap := (slOf M1 rm[i].1.2).cap) (b := bb) (l := (slOf M1 rm[i].1.2).l) (u := (rm[i].1.1)) el23 (fun _ => rfl) hx7 eq ?_ ?_ hB.sl (by omega) (by unfold maxLen; omega) (by omega)
        · rfl
        · exact hb
      obtain ⟨a7, c7, hu7, hO7, hd7⟩ := h7 10
      rw [hu7]
      have hn7 : (slOf M1 rm[i].1.2).l.length + 1 = ((slOf M1 rm[i].1.2).l ++ [rm[i].1.1]).length := by simp
      rw [hn7]
      refine VL.mapUpdate key3 Try.runUnderlying70 rfl (k := rm[i].1.2) rfl rfl ((hM7.near.map.mod e7.m (nK7 _ (by omega)))) fun w7c hM7' m7c => VL.nil (⟨(rm.eraseIdx i, rm[i] :: D, tset M1 rm[i].1.2 ⟨a7, c7, (slOf M1 rm[i].1.2).l ++ [rm[i].1.1]⟩), rfl, ⟨?_, ?_, ?_⟩, ?_⟩)
      · exact (List.perm_middle.symm.trans ((List.Perm.append_left D hpe))).trans hP
      · dsimp only
        obtain ⟨hM8, _⟩ := hM7.add (Mod.refl _ _) hO7 e7.m (fun q hq => by rcases hd7 with ⟨e1, _⟩ | h; exact .inl (e1 ▸ hq); exact .inr (h q hq)) hM7' m7c
        have hs2 : ∀ c, (slOf (tset M1 rm[i].1.2 ⟨a7, c7, (slOf M1 rm[i].1.2).l ++ [rm[i].1.1]⟩) c).l = if c = rm[i].1.2 then (slOf M1 rm[i].1.2).l ++ [rm[i].1.1] else (slOf M1 c).l := fun c => by rw [slOf_set]; split <;> rfl
        refine ⟨hM8, hJ.ok.add c21 hs1 hs2, fun c => ?_⟩
        rw [hs2, List.length_cons]
        have h1 := hJ.len c
        have h2 := hJ.len rm[i].1.1
        split
        · rw [List.length_append, List.length_singleton]; omega
        · rw [hs1]; split
          · rw [List.length_append, List.length_singleton]; omega
          · omega
      · have no : ∀ b, b ≠ rn → ¬ one rn b := fun b h e => h e
        exact ⟨_, ((((hI5.ext e4_3).mod e6.m (nK6 _ lit) (nK6 _ (by omega))).mod m6c (no _ (by omega)) (no _ (by omega))).mod e7.m (nK7 _ lit) (nK7 _ (by omega))).mod m7c (no _ (by omega)) (no _ (by omega))⟩
      · dsimp only; omega
    · exact (List.perm_middle.symm.trans ((List.Perm.append_left D (erase_perm rm hi)))).trans hP
    · have hM5 := hJ.m.mod m5 (fun x hx => by have hx : x = it := hx; subst hx; exact ⟨by omega, hnit⟩)
      dsimp only
      exact ⟨hM5.ext e4_3, hJ.ok.skip c21, fun c => by rw [List.length_cons]; have := hJ.len c; omega⟩
    · exact ⟨_, hI5.ext e4_3⟩
    · have hle := (erase_perm rm hi).length_eq
      rw [List.length_cons] at hle
      dsimp only; omega
  obtain ⟨B, M, hJ⟩ := hBB0
  have hlo := hJ.m.lo
  have hBs := hJ.m.hB
  have hI1 := hI.ext hJ.m.e
  refine V.region (VL.op (R.fld' (o := 0) Try.runUnderlying52 rfl rfl Try.sizeOf23 rfl rfl) (VL.op (R.ld1 Try.isAgg23 rfl (hJ.m.hb1.cell 0)) (VL.op (R.lenS Try.runUnderlying23 rfl) (VL.makeSl (enc := encI ) el23 ( 0) rfl rfl rfl (by omega) (by unfold maxLen; omega) (Nat.le_refl _) fun bm wm hbm em hom => VL.allocSt (v := .slice _ _ _) Try.zeroValue23 Try.sizeOf23 rfl rfl rfl rfl rfl fun b6 w6 hb6 e6 hB6 => VL.nil (V.seq (V.seq (?_)))))))
  have hB6 : Blk w6 b6 (.cells #[.slice (some ⟨bm, 0, none⟩) same.length same.length] 23 (0, 0)) := hB6
  have hbms : wBB0.heap.size = bm := hbm.symm
  have zm := em.size
  have z6 := e6.size
  have l6 := hB6.lt
  have lm : bm < wm.heap.size := hom.lt bm ⟨_, rfl, rfl⟩
  have hom6 := (hom.ext e6).weaken (B' := bm) (by omega)
  refine V.region (VL.op (R.ld1 Try.isAgg23 rfl (hB6.cell 0)) (VL.op (R.lenS Try.runUnderlying23 rfl) (VL.op (R.mvI rfl) (VL.nil (V.block (?_))))))
  refine V.loop [1, 3, 6, 48, 49, 50] (fun x : Nat × List Int => [.pointer (some ⟨b1, 0, none⟩), .pointer (some ⟨b3, 0, none⟩), .pointer (some ⟨b6, 0, none⟩), .slice (some ⟨bm, 0, none⟩) same.length same.length, .int .i64 same.length, .int .i64 x.1])
    (fun x w' => x.1 ≤ same.length ∧ Vc.Mod (one bm) w6 w' ∧ w6.heap.size ≤ w'.heap.size ∧ OwnT encI 1 3 bm w' (some ⟨bm, 0, none⟩) same.length x.2 ∧ x.2.length = same.length ∧ ∀ j, j < x.1 → x.2.getD j default = -1) (fun x => same.length - x.1) (0, _) rfl ⟨Nat.zero_le _, Mod.refl _ _, Nat.le_refl _, hom6, by simp, fun j hj => absurd hj (Nat.not_lt_zero _)⟩ ?_
  rintro ρ ⟨k, mk⟩ w2 ⟨hk, m2, z2, ho2, hl2, hf2⟩
  dsimp only at hk m2 z2 ho2 hl2 hf2 ⊢
  refine V.seq (V.region (VL.op (R.lss rfl rfl) (VL.nil (V.seq (V.condP rfl (fun c51 => V.skip (V.seq (V.block (V.seq (V.region (VL.op (R.mvI rfl) (VL.op (R.asI rfl) (VL.nil (V.region (VL.op (R.ld1 Try.isAgg23 rfl ((hB6.mod m2 (fun h => by have h : b6 = bm := h; omega)).cell 0)) (VL.op (R.mvI rfl) (VL.op (R.ixS Try.runUnderlying23 Try.sizeOf3 rfl rfl (by omega) (by omega) ((ho2.sl).some (i := k) (by omega))) (VL.ownSt eltI (v := .int _ _) Try.sizeOf3 (ho2) k 0 (-1) rfl rfl (by omega) rfl rfl rfl rfl rfl fun w3 ho3 m3 hs3 => VL.nil (V.region (VL.op (R.add rfl rfl (by omega) (by omega)) (VL.op (R.mvI rfl) (VL.nil (⟨(k + 1, mk.set k (-1)), rfl, ⟨?_, ?_, ?_, ho3, ?_, ?_⟩, ?_⟩)))))))))))))))))) (fun c51 => V.exit (V.seq (?_))))))))
  · dsimp only; omega
  · exact m2.then m3 fun x _ hx => aBlk_some hx
  · have := m3.size; omega
  · dsimp only; rw [List.length_set]; exact hl2
  · intro j hj
    dsimp only at hj ⊢
    rw [set_get (by omega)]
    by_cases e : j = k
    · rw [if_pos e]
    · rw [if_neg e]; exact hf2 j (by omega)
  · dsimp only; omega
  have hfa : ∀ x : Nat, x < same.length → mk.getD x default < 0 := fun x hx => by rw [hf2 x (by omega)]; decide
  have hnbm : ∀ k, ¬ aBlk (slOf M k).a bm := fun k h => by have := (hJ.m.near.own k).lt _ h; omega
  have hne : ∀ b, b ≠ bm → ¬ one bm b := fun b h e => h e
  have E6 := em.trans e6
  refine V.region (VL.alloc Try.zeroValue71 fun b8 w8 hb8 e8 hB8 => VL.nil (V.seq (V.region (VL.op (R.mkFn rfl rfl) (VL.store (v := .func _ _ _) Try.sizeOf71 rfl rfl rfl rfl hB8 rfl rfl fun w15_1 m15_1 hs15_1 hB15_1 => VL.nil (V.seq (V.seq (?_))))))))
  have z8 := e8.size
  have z15 := m15_1.size
  have hne8 : ∀ b, b ≠ b8 → ¬ one b8 b := fun b h e => h e
  have h1A : Blk w15_1 b1 (.cells #[.slice sa same.length cs, .map (some r1), .map (some r2)] 52 (0, 0)) := (((hJ.m.hb1.ext E6).mod m2 (hne _ (by omega))).ext e8).mod m15_1 (hne8 _ (by omega))
  have hV : VsM b3 b6 b8 rn B bm same.length M mk w15_1 := by
    refine ⟨(((hJ.m.hb3.ext E6).mod m2 (hne _ (by omega))).ext e8).mod m15_1 (hne8 _ (by omega)), ((hB6.mod m2 (hne _ (by omega))).ext e8).mod m15_1 (hne8 _ (by omega)), hB15_1,
      ⟨(((hJ.m.near.map.ext E6).mod m2 (hne _ (by omega))).ext e8).mod m15_1 (hne8 _ (by omega)), fun k => ((((hJ.m.near.own k).ext E6).mod m2 (fun x hx hs => hnbm k ((show x = bm from hs) ▸ hx))).ext e8).mod m15_1 (fun x hx hs => by have hs : x = b8 := hs; have := (hJ.m.near.own k).lt _ hx; omega), hJ.m.near.sep⟩,
      (ho2.ext e8).mod m15_1 (fun x hx hs => by have hs : x = b8 := hs; have := aBlk_some hx; omega), hl2, ⟨by omega, by omega, by omega, by omega⟩, hnbm⟩
  have hEA : Ext w w15_1 := (((hJ.m.e.trans E6).ownA m2 fun x hx => by have hx : x = bm := hx; have := hJ.m.e.size; omega).trans e8).ownA m15_1 fun x hx => by have hx : x = b8 := hx; have := hJ.m.e.size; omega
  have hnb : ∀ a, ∀ d ∈ (slOf M a).l, 0 ≤ a ∧ a < same.length ∧ 0 ≤ d ∧ d < same.length ∧ at_ same a = a ∧ at_ same d = d ∧ a ∈ (slOf M d).l := fun a d hd => by
    obtain ⟨q, h1, h2, h3⟩ := (hJ.ok a d).1 hd
    obtain ⟨a1, a2, a3, a4, a5⟩ := hWk q h1
    have hs : a ∈ (slOf M d).l := (hJ.ok d a).2 ⟨q, h1, h2, h3.symm⟩
    rcases h3 with h3 | h3 <;> (rw [h3] at a1 a2 a3 a4 a5; dsimp only at a1 a2 a3 a4 a5; exact ⟨by omega, by omega, by omega, by omega, by assumption, by assumption, hs⟩)
  have hvis := visit_spec b3 b6 b8 rn B bm same.length M hm (fun c => by have := hJ.len c; omega) (fun c d hd => ⟨(hnb c d hd).2.2.1, (hnb c d hd).2.2.2.1⟩)
  refine V.region (VL.op (R.fld' (o := 0) Try.runUnderlying52 rfl rfl Try.sizeOf23 rfl rfl) (VL.op (R.ld1 Try.isAgg23 rfl (h1A.cell 0)) (VL.op (R.lenS Try.runUnderlying23 rfl) (VL.op (R.mvI rfl) (VL.nil (V.block (?_)))))))
  refine V.loop [6, 8, 59, 60, 61] (fun x : Nat × List Int => [.pointer (some ⟨b6, 0, none⟩), .pointer (some ⟨b8, 0, none⟩), .slice sa same.length cs, .int .i64 same.length, .int .i64 x.1])
    (fun x w' => x.1 ≤ same.length ∧ VsM b3 b6 b8 rn B bm same.length M x.2 w' ∧ Vc.Mod (one bm) w15_1 w' ∧ CmpK same (fun c => (slOf M c).l) x.2 x.1) (fun x => same.length - x.1) (0, mk) rfl ⟨Nat.zero_le _, hV, Mod.refl _ _, CmpK.start hl2 hfa⟩ ?_
  rintro ρ ⟨i, mk1⟩ w2 ⟨hi, hV1, m1, hK⟩
  dsimp only at hi hV1 m1 hK ⊢
  have hE2 : Ext w w2 := hEA.ownA m1 fun x hx => by have hx : x = bm := hx; have := hJ.m.e.size; omega
  have hI2 : IntSl w2 sa same := hI.ext hE2
  have hvi := hv i
  refine V.seq (V.region (VL.op (R.lss rfl rfl) (VL.nil (V.seq (V.condP rfl (fun c62 => V.skip (V.seq (V.block (V.seq (V.region (VL.op (R.mvI rfl) (VL.op (R.ixS Try.runUnderlying23 Try.sizeOf3 rfl rfl (by omega) (by omega) ((hI2).some (i := i) (by omega))) (VL.op (R.ld1 Try.isAgg3 rfl (((((hI2).ext (Mod.refl _ _)).row (i := i) (by omega)).cell (i := 0) rfl))) (VL.op (R.asI rfl) (VL.op (R.asI rfl) (VL.nil (V.seq (?_))))))))))))) (fun c62 => V.exit (V.seq (?_))))))))
  · have hin : i < same.length := by omega
    have hvi := hvi hin
    have hvs := hvis (unv mk1 same.length) mk1 (same.getD i default) (same.getD i default) w2 hV1 (Nat.le_refl _) (by omega) (by omega) (by omega)
    refine V.region (VL.op (R.ld1 Try.isAgg71 rfl (hV1.hb8.cell 0)) (VL.op (R.mvI rfl) (VL.op (R.mvI rfl) (VL.callCY rfl (Try.call51) rfl (hvs) fun mk2 w19 ⟨hV2, hVi, m2'⟩ => VL.nil (?_)))))
    have hl2' := hV2.len
    refine V.regionQ mixed 6 (by kernel_rfl) rfl (fun w' => Ext _ w') (Ext.drawn _) (VQ.op (fun wq eq => R.ld1 Try.isAgg23 rfl ((hV2.hb6.ext eq).cell 0)) (VQ.op (fun wq eq => R.mvI rfl) (VQ.op (fun wq eq => R.ld1 Try.isAgg23 rfl ((hV2.hb6.ext eq).cell 0)) (VQ.op (fun wq eq => R.mvI rfl) (VQ.op (fun wq eq => R.ixS Try.runUnderlying23 Try.sizeOf3 rfl rfl (by omega) (by omega) ((hV2.own.sl).some (i := (same.getD i default).toNat) (by omega))) (VQ.op (fun wq eq => R.ld1 Try.isAgg3 rfl (((((hV2.own.sl).ext eq).row (i := (same.getD i default).toNat) (by omega)).cell (i := 0) rfl))) (VQ.nil fun w20q e20q => VL.op (R.ixS Try.runUnderlying23 Try.sizeOf3 rfl rfl (by omega) (by omega) ((hV2.own.sl).some (i := i) (by omega))) (VL.ownSt eltI (v := .int _ _) Try.sizeOf3 ((hV2.own.ext e20q)) i 0 (mk2.getD (same.getD i default).toNat default) rfl rfl (by omega) rfl rfl rfl rfl rfl fun w21 ho21 m21 hs21 => VL.nil (V.region (VL.op (R.add rfl rfl (by omega) (by omega)) (VL.op (R.mvI rfl) (VL.nil (⟨(i + 1, mk2.set i (mk2.getD (same.getD i default).toNat default)), rfl, ⟨?_, ?_, ?_, ?_⟩, ?_⟩)))))))))))))
    · dsimp only; omega
    · exact (hV2.ext e20q).turn (m21.weaken fun x _ hx => aBlk_some hx) ho21 (by rw [List.length_set]; exact hl2')
    · exact (((m1.then m2' fun _ _ h => h).ext e20q).then m21 fun x _ hx => aBlk_some hx)
    · exact hK.step hin hv hnb hVi
    · dsimp only; omega
  · have hin : i = same.length := by omega
    subst hin
    have hmk := hK.done hJ.ok hWk hv
    subst hmk
    refine V.region (VL.op (R.ld1 Try.isAgg23 rfl (hV1.hb6.cell 0)) (VL.op (R.asS rfl) (VL.nil (V.ret (fret1 (v := .slice _ _ _) rfl rfl rfl (⟨bm, rfl, ⟨hV1.own, by have := hJ.m.e.size; omega⟩, hE2⟩))))))
end Go.Proofs.Ytglaigeellpikaa

/- Cluster: members: the records with each mark. -/
namespace Go.Proofs.Ytglaigeellpikaa
open Go.Vc
def encSlL (x : Sl) : List Value := [encSl x]
theorem eltSl : Elt encSlL 1 := ⟨fun _ => rfl, fun _ => rfl, by decide⟩
def vN (n : Nat) : Value := .int .i64 (n : Nat)
def vals (z : List Sl) : List (List Int) := z.map (·.l)
theorem gmap {α β : Type} [Inhabited α] [Inhabited β] (f : α → β) (l : List α) (i : Nat) (h : i < l.length) : (l.map f).getD i default = f (l.getD i default) := by simp [List.getD, h]
/-- A list of lists, all of the call's own, no two of them in one place. -/
structure GLs (B : Nat) (w : World) (a : Option Addr) (c : Nat) (z : List Sl) : Prop where
  own : OwnT encSlL 1 23 B w a c z
  each : ∀ i, OwnT encI 1 3 B w (z.getD i default).a (z.getD i default).cap (z.getD i default).l
  out : ∀ i, Sep a (z.getD i default).a
  sep : ∀ i j, i ≠ j → Sep (z.getD i default).a (z.getD j default).a
theorem GLs.ext {B : Nat} {w w' : World} {a : Option Addr} {c : Nat} {z : List Sl} (h : GLs B w a c z) (e : Ext w w') : GLs B w' a c z :=
  ⟨h.own.ext e, fun i => (h.each i).ext e, h.out, h.sep⟩
theorem GLs.mod {B : Nat} {w w' : World} {a : Option Addr} {c : Nat} {z : List Sl} {S : Nat → Prop} (h : GLs B w a c z) (m : Vc.Mod S w w') (hS : ∀ k, S k → k < B) : GLs B w' a c z :=
  ⟨h.own.mod m fun k h1 h2 => by have := h.own.ge k h1; have := hS k h2; omega, fun i => (h.each i).mod m fun k h1 h2 => by have := (h.each i).ge k h1; have := hS k h2; omega, h.out, h.sep⟩
theorem GLs.nil (B : Nat) (w : World) : GLs B w none 0 [] :=
  ⟨OwnT.nil _ _ _ _ _, fun _ => OwnT.nil _ _ _ _ _, fun _ => Sep.nil _, fun _ _ _ => Sep.nil _⟩
theorem getD_snoc (z : List Sl) (i : Nat) : (z ++ [default]).getD i default = z.getD i default := by
  rcases Nat.lt_trichotomy i z.length with h | h | h
  · simp [List.getD, List.getElem?_append_left h]
  · subst h; simp [List.getD]
  · simp [List.getD, List.getElem?_eq_none (show z.length ≤ i by omega), List.getElem?_eq_none (show (z ++ [default]).length ≤ i by simp; omega)]
theorem GLs.add {B : Nat} {w w' : World} {a a' : Option Addr} {c c' : Nat} {z : List Sl} (h : GLs B w a c z) (ho : OwnT encSlL 1 23 B w' a' c' (z ++ [default])) (m : Vc.Mod (aBlk a) w w') (hf : ∀ k, aBlk a' k → aBlk a k ∨ w.heap.size ≤ k) : GLs B w' a' c' (z ++ [default]) :=
  ⟨ho, fun i => by rw [getD_snoc]; exact (h.each i).mod m fun k h1 h2 => h.out i k h2 h1, fun i => by rw [getD_snoc]; exact (h.out i).grown hf (h.each i).lt, fun i j hij => by rw [getD_snoc, getD_snoc]; exact h.sep i j hij⟩
theorem GLs.app {B : Nat} {w w1 w2 : World} {a a' : Option Addr} {c c' : Nat} {z : List Sl} {k : Nat} {l : List Int} (h : GLs B w a c z) (hk : k < z.length) (ho : OwnT encI 1 3 B w1 a' c' l) (m : Vc.Mod (aBlk (z.getD k default).a) w w1) (hf : ∀ x, aBlk a' x → aBlk (z.getD k default).a x ∨ w.heap.size ≤ x)
    (ho2 : OwnT encSlL 1 23 B w2 a c (z.set k ⟨a', c', l⟩)) (m2 : Vc.Mod (aBlk a) w1 w2) : GLs B w2 a c (z.set k ⟨a', c', l⟩) := by
  have hg : ∀ i, (z.set k (⟨a', c', l⟩ : Sl)).getD i default = if i = k then ⟨a', c', l⟩ else z.getD i default := fun i => by
    by_cases e : i = k
    · subst e; simp [List.getD, hk]
    · rw [if_neg e]; simp [List.getD, List.getElem?_set_ne (Ne.symm e)]
  have hs1 : Sep a' a := ((h.out k).symm).grown hf h.own.lt
  have hs2 : ∀ i, i ≠ k → Sep a' (z.getD i default).a := fun i hi => (h.sep k i (Ne.symm hi)).grown hf (h.each i).lt
  refine ⟨ho2, fun i => ?_, fun i => ?_, fun i j hij => ?_⟩
  · rw [hg]
    split
    · exact ho.mod m2 fun k h1 h2 => hs1 k h1 h2
    · rename_i e
      exact ((h.each i).mod m fun x h1 h2 => h.sep i k e x h1 h2).mod m2 fun x h1 h2 => h.out i x h2 h1
  · rw [hg]
    split
    · exact hs1.symm
    · exact h.out i
  · rw [hg, hg]
    split
    · split
      · omega
      · rename_i e; exact hs2 _ e
    · split
      · rename_i e _; exact (hs2 _ e).symm
      · exact h.sep i j hij
theorem GLs.weaken {B B' : Nat} {w : World} {a : Option Addr} {c : Nat} {z : List Sl} (h : GLs B w a c z) (hB : B' ≤ B) : GLs B' w a c z := ⟨h.own.weaken hB, fun i => (h.each i).weaken hB, h.out, h.sep⟩
set_option maxHeartbeats 4000000 in
theorem members_spec (a : Option Addr) (ca N : Nat) (r : Nat → Nat) (w : World) (hN : N ≤ 1000) (hle : ∀ i, i < N → r i ≤ i) (hid : ∀ i, i < N → r (r i) = r i) (hS : IntSl w a ((List.range N).map fun i => ((r i : Nat) : Int))) :
    RetsX Try.prog 30 #[.slice a N ca] w (fun z : List Sl × Option Addr × Nat => .slice z.2.1 z.1.length z.2.2) (fun z w' => vals z.1 = grpsK r N ∧ GLs w.heap.size w' z.2.1 z.2.2 z.1) := by
  have hln : ((List.range N).map fun i => ((r i : Nat) : Int)).length = N := by simp
  have hgi : ∀ i, i < N → ((List.range N).map fun i => ((r i : Nat) : Int)).getD i default = ((r i : Nat) : Int) := fun i hi => by simp [List.getD, hi]
  obtain ⟨mk, hmk⟩ : ∃ mk, mk = (List.range N).map fun i => ((r i : Nat) : Int) := ⟨_, rfl⟩
  rw [← hmk] at hS hln hgi
  refine enter (args := [_]) Try.func30 rfl Try.ntmps30 (by kernel_rfl) rfl ?_
  refine V.seq (V.region (VL.op (R.asS rfl) (VL.nil (V.seq (V.region (VL.makeMap fun rm wm hrm em hRm => VL.op (R.asM rfl) (VL.nil (V.seq (V.region (VL.op (R.asS rfl) (VL.nil (V.seq (V.seq (V.region (VL.op (R.mvS rfl) (VL.op (R.lenS Try.runUnderlying23 rfl) (VL.op (R.mvI rfl) (VL.nil (V.block (?_))))))))))))))))))))
  have zm := em.size
  have lm := hRm.lt
  refine V.loop [3, 4, 10, 11, 12] (fun x : Nat × (List Sl × Option Addr × Nat) × List (Int × Nat) => [.map (some rm), .slice x.2.1.2.1 x.2.1.1.length x.2.1.2.2, .slice a N ca, .int .i64 N, .int .i64 (x.1 : Nat)])
    (fun x w' => x.1 ≤ N ∧ Ext w w' ∧ GLs (rm + 1) w' x.2.1.2.1 x.2.1.2.2 x.2.1.1 ∧ vals x.2.1.1 = grpsK r x.1 ∧ MapIs w' rm vI (tenc vN x.2.2) ∧ PlaceM r x.1 x.2.2 ∧ rm + 1 ≤ w'.heap.size)
    (fun x => N - x.1) (0, ([], none, 0), []) rfl ⟨Nat.zero_le _, em, GLs.nil _ _, rfl, MapIs.empty hRm, PlaceM.zero r, by omega⟩ ?_
  rintro ρ ⟨k, ⟨z, a4, c4⟩, m⟩ w5 ⟨hk, e, hG, hz, hM, hP, hs5⟩
  dsimp only at hk e hG hz hM hP hs5 ⊢
  refine V.seq (V.region (VL.op (R.lss rfl rfl) (VL.nil (V.seq (V.condP rfl (fun c13 => V.skip (V.seq (V.block (V.seq (V.region (VL.op (R.mvI rfl) (VL.op (R.ixS Try.runUnderlying23 Try.sizeOf3 rfl rfl (by omega) (by omega) ((hS.ext e).some (i := k) (by omega))) (VL.op (R.ld1 Try.isAgg3 rfl (((((hS.ext e).ext (Mod.refl _ _)).row (i := k) (by omega)).cell (i := 0) rfl))) (VL.op (R.asI rfl) (VL.op (R.asI rfl) (VL.nil (V.seq (?_))))))))))))) (fun c13 => V.exit (V.seq (?_))))))))
  · have hkN : k < N := by omega
    rw [hgi k hkN]
    have hle' : ∀ i, i < k → r i ≤ i := fun i hi => hle i (by omega)
    have hzl : z.length = (hdsK r k).length := by rw [← grpsK_len, ← hz, vals, List.length_map]
    have hhl := hdsK_len r k
    have hget : mget (tenc vN m) (((r k : Nat) : Int)) = (if r k ∈ hdsK r k then some (((hdsK r k).idxOf (r k) : Nat) : Int) else none).map fun i : Int => Value.int .i64 i := by
      rw [tget_enc, hP]
      split <;> rfl
    refine V.region (VL.op (R.mvM rfl) (VL.op (R.mvI rfl) (VL.op (R.lookupOkI key3 Try.runUnderlying68 Try.zeroValue3 (hM) ((if r k ∈ hdsK r k then some (((hdsK r k).idxOf (r k) : Nat) : Int) else none)) (hget) rfl rfl) (VL.op (R.mvT rfl) (VL.op (R.extr rfl rfl) (VL.op (R.extr rfl rfl) (VL.op (R.asI rfl) (VL.op (R.asB rfl) (VL.nil (V.cut [3, 4, 5, 7, 10, 11, 12] (fun x : Nat × (List Sl × Option Addr × Nat) × List (Int × Nat) => [.map (some rm), .slice x.2.1.2.1 x.2.1.1.length x.2.1.2.2, .int .i64 (k : Nat), .int .i64 (x.1 : Nat), .slice a N ca, .int .i64 N, .int .i64 (k : Nat)]) (fun x w' => x.1 < x.2.1.1.length ∧ x.2.1.1.length ≤ k + 1 ∧ (x.2.1.1.getD x.1 default).l.length ≤ k ∧ (vals x.2.1.1).set x.1 ((x.2.1.1.getD x.1 default).l ++ [(k : Int)]) = grpsK r (k + 1) ∧ Ext w w' ∧ GLs (rm + 1) w' x.2.1.2.1 x.2.1.2.2 x.2.1.1 ∧ MapIs w' rm vI (tenc vN x.2.2) ∧ PlaceM r (k + 1) x.2.2 ∧ rm + 1 ≤ w'.heap.size) (V.seq (V.region (VL.op (R.mvB rfl) (VL.op (R.not rfl) (VL.nil (V.cond rfl (fun c24 => V.seq (?_)) (fun c24 => V.skip (?_)))))))) (fun rgC24 xC24 wBC24 hBC24 => ?_)))))))))))
    · have hnew : r k ∉ hdsK r k := fun h => by rw [if_pos h] at c24; cases c24
      have hk1 := hle k hkN
      have hk2 : r k = k := by
        by_cases e : r k = k
        · exact e
        · exact absurd (hdsK_mem.2 ⟨by omega, hid k hkN⟩) hnew
      obtain ⟨hd1, hd2, hg1⟩ := grpsK_new hk2 hle'
      refine V.region (VL.op (R.mvS rfl) (VL.op (R.lenS Try.runUnderlying34 rfl) (VL.op (R.asI rfl) (VL.nil (V.seq (V.region (VL.op (R.mvM rfl) (VL.op (R.mvI rfl) (VL.op (R.mvI rfl) (VL.mapUpdate key3 Try.runUnderlying68 rfl (k := ((r k : Nat) : Int)) rfl rfl (hM) fun w28 hm28 m28 => VL.nil (V.region (VL.op (R.mvS rfl) (VL.append1 el34 Try.runUnderlying34 Try.sizeOf23 Try.zeroValue23 rfl ((default : Sl)) rfl rfl rfl (hG.own.mod m28 fun q h1 (h2 : q = rm) => by have := hG.own.ge q h1; omega) rfl rfl rfl (by omega) (by unfold maxLen; omega) (Nat.le_trans hs5 m28.size) fun a29 c29 w29 vt29 ho29 m29 hf29 => VL.op (R.asS rfl) (VL.nil (?_)))))))))))))))
      have hG28 := hG.mod m28 fun q (h2 : q = rm) => by omega
      refine ⟨(z.length, (z ++ [default], a29, c29), tset m (k : Int) z.length), ?_, ?_, ?_, ?_, ?_, ?_, hG28.add ho29 m29 hf29, ?_, ?_, Nat.le_trans hs5 (Nat.le_trans m28.size m29.size)⟩
      · dsimp only; rw [List.length_append]; rfl
      · dsimp only; rw [List.length_append, List.length_singleton]; omega
      · dsimp only; rw [List.length_append, List.length_singleton]; omega
      · dsimp only; rw [getD_snoc]; simp [List.getD]; exact Nat.zero_le _
      · dsimp only
        rw [hg1, ← hz, ← hzl, getD_snoc]
        simp [List.getD, vals]
        rfl
      · exact (e.ownA m28 fun q (h2 : q = rm) => by omega).ownA m29 fun q hq => by have := hG28.own.ge q hq; omega
      · dsimp only
        rw [tset_enc, ← hk2]
        rw [hk2] at hm28 ⊢
        exact hm28.mod m29 fun h => by have := hG28.own.ge _ h; omega
      · dsimp only
        rw [hzl]; exact hP.new hk2 hle'
    · have hold : r k ∈ hdsK r k := Classical.byContradiction fun h => by rw [if_neg h] at c24; cases c24
      obtain ⟨hd1, hg1⟩ := grpsK_old hold
      have hil : (hdsK r k).idxOf (r k) < z.length := by rw [hzl]; exact List.idxOf_lt_length_iff.2 hold
      have hzg : (z.getD ((hdsK r k).idxOf (r k)) default).l = memsK r k (r k) := by rw [← grpsK_at hold, ← hz, vals, gmap _ _ _ hil]
      refine ⟨((hdsK r k).idxOf (r k), (z, a4, c4), m), ?_, hil, by dsimp only; omega, ?_, ?_, e, hG, hM, hP.old hold, hs5⟩
      · rw [if_pos hold]; rfl
      · dsimp only; rw [hzg]; exact memsK_len _ _ _
      · dsimp only; rw [hzg, hg1, hz]
    · obtain ⟨hp1, hp2, hp3, hp4, hJ6, hG6, hM6, hP6, hs6⟩ := hBC24
      obtain ⟨q, ⟨z6, a6, c6⟩, m6⟩ := xC24
      dsimp only at hp1 hp2 hp3 hp4 hJ6 hG6 hM6 hP6 hs6 ⊢
      refine V.region (VL.op (R.mvS rfl) (VL.op (R.mvI rfl) (VL.op (R.mvS rfl) (VL.op (R.mvI rfl) (VL.op (R.ixS Try.runUnderlying34 Try.sizeOf23 rfl rfl (by omega) (by omega) ((hG6.own.sl).some (i := q) (by omega))) (VL.op (R.ld1 Try.isAgg23 rfl (((((hG6.own.sl).ext (Mod.refl _ _)).row (i := q) (by omega)).cell (i := 0) rfl))) (VL.op (R.mvI rfl) (VL.append1 el23 Try.runUnderlying23 Try.sizeOf3 Try.zeroValue3 rfl (((k : Nat) : Int)) rfl rfl rfl (hG6.each q) rfl rfl rfl (by omega) (by unfold maxLen; omega) hs6 fun a8 c8 w8 vt8 ho8 m8 hf8 => VL.op (R.ixS Try.runUnderlying34 Try.sizeOf23 rfl rfl (by omega) (by omega) ((hG6.own.sl).some (i := q) (by omega))) (VL.ownSt eltSl (v := .slice _ _ _) Try.sizeOf23 ((hG6.own.mod m8 (hG6.out q))) q 0 (Sl.mk a8 c8 ((z6.getD q default).l ++ [((k : Nat) : Int)])) rfl rfl (by omega) rfl rfl rfl rfl (by show [Value.slice a8 ((z6.getD q default).l ++ [((k : Nat) : Int)]).length c8] = _; rw [List.length_append]; rfl) fun w9 ho9 m9 hs9 => VL.nil (V.region (VL.op (R.add rfl rfl (by omega) (by omega)) (VL.op (R.mvI rfl) (VL.nil (?_))))))))))))))
      refine ⟨(k + 1, (z6.set q ⟨a8, c8, (z6.getD q default).l ++ [((k : Nat) : Int)]⟩, a6, c6), m6), by dsimp only; rw [List.length_set]; rfl, ⟨by dsimp only; omega, ?_, hG6.app hp1 ho8 m8 hf8 ho9 m9, ?_, ?_, hP6, ?_⟩, by dsimp only; omega⟩
      · exact (hJ6.ownA m8 fun x hx => by have := (hG6.each q).ge x hx; omega).ownA m9 fun x hx => by have := hG6.own.ge x hx; omega
      · dsimp only
        rw [← hp4]; unfold vals; rw [List.map_set]
      · exact (hM6.mod m8 fun h => by have := (hG6.each q).ge _ h; omega).mod m9 fun h => by have := hG6.own.ge _ h; omega
      · have h1 := m8.size
        have h2 := m9.size
        omega
  · have hkN : k = N := by omega
    subst hkN
    refine V.region (VL.op (R.mvS rfl) (VL.op (R.asS rfl) (VL.nil (V.ret (fret1 (v := .slice _ _ _) rfl rfl rfl (⟨(z, a4, c4), rfl, ⟨hz, hG.weaken (by omega)⟩, e⟩))))))
end Go.Proofs.Ytglaigeellpikaa

/- Cluster: Clone, DeleteFunc, Components. -/
namespace Go.Proofs.Ytglaigeellpikaa
open Go.Vc Go.Sort

theorem capLe {α : Type} {enc : α → List Value} {s e B cap : Nat} {w : World} {a : Option Addr} {l : List α} (h : OwnT enc s e B w a cap l) : l.length ≤ cap := by
  rcases h.own.2 with ⟨_, h0⟩ | ⟨g, cap', cur, hv, hB, hg, hn, hcs, hc, ht⟩
  · rw [List.length_map] at h0; omega
  · injection hv with ha hn' hcap
    simp only [List.length_map] at hn
    omega
theorem cutA0 {b off s c : Nat} : cutA (some ⟨b, off, none⟩) s 0 c = some ⟨b, off, none⟩ := by
  unfold cutA
  split
  · rfl
  · simp [Addr.add]
theorem Srt.modT {w w' : World} {a : Option Addr} {d : Array (Int)} {T : Nat → Prop} (h : Srt encI 1 w a d w) (m : Vc.Mod T w w') (hT : ∀ k, aBlk a k → ¬ T k) : Srt encI 1 w' a d w' := by
  obtain ⟨blk, off, c, ty, ha, hB, hc⟩ := h.c
  exact ⟨Mod.refl _ _, blk, off, c, ty, ha, hB.mod m (hT blk ⟨_, ha, rfl⟩), hc⟩
theorem indexFn_spec (g : FuncId) (Cv : List Value) (f : Int → Bool) (S : World → Prop) (T : Nat → Prop) (a : Option Addr) (ca : Nat) (l : List (Int)) (w : World) (hfn : IsFn Try.prog g)
    (hdo : ∀ w p, p ∈ l → S w → RetsY Try.prog g ([Value.int .i64 p] ++ Cv).toArray w (fun _ : Unit => .bool (f p)) (fun _ w' => S w' ∧ Vc.Mod T w w'))
    (_hSe : ∀ w w', S w → Ext w w' → S w') (h0 : S w) (hL : IntSl w a l) (hLT : ∀ k, aBlk a k → ¬ T k) (hm : l.length ≤ 1000000) :
    RetsY Try.prog 52 #[.slice a l.length ca, .func (.func g) #[] Cv.toArray] w (fun _ : Unit => .int .i64 (match l.findIdx? f with | some i => (i : Int) | none => -1)) (fun _ w' => S w' ∧ Vc.Mod T w w') := by
  refine enter (args := [_, _]) Try.func52 rfl Try.ntmps52 (by kernel_rfl) rfl ?_
  refine V.seq (V.region (VL.op (R.asI rfl) (VL.nil (V.seq (V.seq (V.region (VL.op (R.mvS rfl) (VL.op (R.lenS Try.runUnderlying23 rfl) (VL.op (R.mvI rfl) (VL.nil (V.block (?_))))))))))))
  refine V.loop [0, 1, 7, 8] (fun k : Nat => [.slice a l.length ca, .func (.func g) #[] Cv.toArray, .int .i64 l.length, .int .i64 (k : Nat)])
    (fun k w' => k ≤ l.length ∧ S w' ∧ Vc.Mod T w w' ∧ IntSl w' a l ∧ ∀ i, i < k → f (l.getD i default) = false) (fun k => l.length - k) 0 rfl ⟨Nat.zero_le _, h0, Mod.refl _ _, hL, fun i h => absurd h (Nat.not_lt_zero i)⟩ ?_
  rintro ρ k w2 ⟨hk, hS, m2, hL2, hf⟩
  have hmem : k < l.length → l.getD k default ∈ l := fun h => by rw [show l.getD k default = l[k] by simp [List.getD, h]]; exact List.getElem_mem _
  refine V.seq (V.region (VL.op (R.lss rfl rfl) (VL.nil (V.seq (V.condP rfl (fun c9 => V.skip (V.seq (V.block (V.seq (V.region (VL.op (R.mvI rfl) (VL.op (R.asI rfl) (VL.nil (V.seq (?_)))))))))) (fun c9 => V.exit (V.seq (?_))))))))
  · have hkn : k < l.length := by omega
    refine V.region (VL.op (R.mvF rfl) (VL.op (R.mvS rfl) (VL.op (R.mvI rfl) (VL.op (R.ixS Try.runUnderlying23 Try.sizeOf3 rfl rfl (by omega) (by omega) (hL2.some (i := k) hkn)) (VL.op (R.ld1 Try.isAgg3 rfl (((hL2.row (i := k) hkn).cell (i := 0) rfl))) (VL.callCY rfl (hfn) rfl (hdo w2 (l.getD k default) (hmem hkn) hS) fun _ w4 ⟨hS4, m4⟩ => VL.nil (V.cond rfl (fun c16 => V.seq (V.region (VL.op (R.mvI rfl) (VL.op (R.asI rfl) (VL.nil (V.ret (fret1 (v := .int _ _) rfl rfl rfl (?_)))))))) (fun c16 => V.skip (V.region (VL.op (R.add rfl rfl (by omega) (by omega)) (VL.op (R.mvI rfl) (VL.nil (?_)))))))))))))
    · have e := findIdx_at f l k hkn hf (by assumption)
      exact ⟨(), by rw [e], hS4, m2.then m4 fun _ _ h => h⟩
    · refine ⟨k + 1, rfl, ⟨by omega, hS4, m2.then m4 fun _ _ h => h, hL2.mod m4 fun ad had h => hLT _ ⟨ad, had, rfl⟩ h, fun i hi => ?_⟩, by omega⟩
      by_cases h : i = k
      · subst h; assumption
      · exact hf i (by omega)
  · have hkn : k = l.length := by omega
    subst hkn
    have e := findIdx_none f l hf
    refine V.region (VL.op (R.asI rfl) (VL.nil (V.ret (fret1 (v := .int _ _) rfl rfl rfl (?_)))))
    exact ⟨(), by rw [e], hS, m2⟩
/-- What is kept of the first 'm'. -/
def kpF (f : Int → Bool) (l : List (Int)) (m : Nat) : List (Int) := (l.take m).filter fun p => !f p
theorem kpF_len (f : Int → Bool) (l : List (Int)) (m : Nat) : (kpF f l m).length ≤ m := by
  unfold kpF
  have := List.length_filter_le (fun p => !f p) (l.take m)
  rw [List.length_take] at this; omega
theorem kpF_succ (f : Int → Bool) (l : List (Int)) (m : Nat) (hm : m < l.length) : kpF f l (m + 1) = kpF f l m ++ (if f (l.getD m default) then [] else [l.getD m default]) := by
  unfold kpF
  rw [List.take_succ_eq_append_getElem hm, List.filter_append]
  congr 1
  rw [show l.getD m default = l[m] by simp [List.getD, hm]]
  cases h : f l[m] <;> simp [h]
theorem kpF_short (f : Int → Bool) (l : List (Int)) (k m : Nat) (hk : k < l.length) (hf : f (l.getD k default) = true) (hm : k + 1 ≤ m) (hml : m ≤ l.length) : (kpF f l m).length < m := by
  induction m with
  | zero => omega
  | succ m ih =>
    rw [kpF_succ f l m (by omega)]
    by_cases h : m = k
    · subst h
      rw [if_pos hf, List.append_nil]
      have := kpF_len f l m; omega
    · have := ih (by omega) (by omega)
      rw [List.length_append]; split <;> simp <;> omega
/-- What the row holds while it is deleted from. -/
structure DlJ (f : Int → Bool) (l : List (Int)) (a : Option Addr) (m : Nat) (d : Array (Int)) (w : World) : Prop where
  s : Srt encI 1 w a d w
  sz : d.size = l.length
  lo : ∀ q, q < (kpF f l m).length → d[q]! = (kpF f l m).getD q default
  hi : ∀ q, m ≤ q → q < l.length → d[q]! = l.getD q default
set_option maxRecDepth 100000 in
set_option maxHeartbeats 4000000 in
theorem deleteFn_spec (g : FuncId) (Cv : List Value) (f : Int → Bool) (S : World → Prop) (T : Nat → Prop) (a : Option Addr) (cap B : Nat) (l : List (Int)) (w : World) (hfn : IsFn Try.prog g)
    (hdo : ∀ w p, p ∈ l → S w → RetsY Try.prog g ([Value.int .i64 p] ++ Cv).toArray w (fun _ : Unit => .bool (f p)) (fun _ w' => S w' ∧ Vc.Mod T w w'))
    (hSe : ∀ w w', S w → Vc.Mod (aBlk a) w w' → S w') (h0 : S w) (hO : OwnT encI 1 3 B w a cap l) (hLT : ∀ k, aBlk a k → ¬ T k) (_hT : ∀ k, T k → k < w.heap.size) (hm : l.length ≤ 1000000) :
    RetsY Try.prog 32 #[.slice a l.length cap, .func (.func g) #[] Cv.toArray] w (fun _ : Unit => .slice a (l.filter fun p => !f p).length cap) (fun _ w' => S w' ∧ Vc.Mod (fun k => aBlk a k ∨ T k) w w' ∧ (0 < (l.filter fun p => !f p).length → Srt encI 1 w' a (l.filter fun p => !f p).toArray w')) := by
  have hcap := capLe hO
  have elt := eltI
  have hix := indexFn_spec g Cv f S T a cap l w hfn hdo (fun w w' h e => hSe w w' h (Ext.mod e)) h0 hO.sl hLT hm
  have hkl : kpF f l l.length = l.filter fun p => !f p := by unfold kpF; rw [List.take_length]
  cases hfi : l.findIdx? f with
  | none =>
    rw [hfi] at hix
    dsimp only at hix
    have hall : (l.filter fun p => !f p) = l := by
      rw [List.findIdx?_eq_none_iff] at hfi
      exact List.filter_eq_self.2 fun x hx => by rw [hfi x hx]; rfl
    refine enter (args := [_, _]) Try.func32 rfl Try.ntmps32 (by kernel_rfl) rfl ?_
    refine V.seq (V.region (VL.op (R.asS rfl) (VL.nil (V.seq (V.region (VL.op (R.mvS rfl) (VL.op (R.mvF rfl) (VL.callY Try.call52 rfl (hix) fun _ w1 ⟨hS1, m1⟩ => VL.op (R.asI rfl) (VL.nil (V.seq (V.seq (V.region (VL.op (R.mvI rfl) (VL.op (R.eql rfl rfl) (VL.nil (V.condP rfl (fun c12 => V.seq (V.region (VL.op (R.mvS rfl) (VL.op (R.asS rfl) (VL.nil (V.ret (fret1 (v := .slice _ _ _) rfl rfl rfl (?_)))))))) (fun c12 => V.skip (V.seq (V.seq (?_))))))))))))))))))))
    · exact ⟨(), by rw [hall], hS1, m1.weaken fun _ _ h => .inr h, by rw [hall]; exact fun h => Srt.modT (Srt.of_own (d := l.toArray) eltI (by simpa using hO) (by simpa using h)) m1 hLT⟩
    · exact absurd rfl ‹¬ ((-1 : Int) = -1)›
  | some i =>
    rw [hfi] at hix
    dsimp only at hix
    obtain ⟨hi, hfi1, hfi2⟩ := List.findIdx?_eq_some_iff_getElem.1 hfi
    have hf1 : f (l.getD i default) = true := by rw [show l.getD i default = l[i] by simp [List.getD, hi]]; exact hfi1
    have hk0 : kpF f l i = l.take i := by
      unfold kpF
      refine List.filter_eq_self.2 fun x hx => ?_
      obtain ⟨j, hj, rfl⟩ := List.mem_iff_getElem.1 hx
      rw [List.length_take] at hj
      have := hfi2 j (by omega)
      rw [List.getElem_take]
      simpa using this
    have hk1 : kpF f l (i + 1) = l.take i := by rw [kpF_succ f l i hi, if_pos hf1, List.append_nil, hk0]
    have hsO := Srt.of_own (d := l.toArray) eltI (by simpa using hO) (by simp; omega)
    refine enter (args := [_, _]) Try.func32 rfl Try.ntmps32 (by kernel_rfl) rfl ?_
    refine V.seq (V.region (VL.op (R.asS rfl) (VL.nil (V.seq (V.region (VL.op (R.mvS rfl) (VL.op (R.mvF rfl) (VL.callY Try.call52 rfl (hix) fun _ w1 ⟨hS1, m1⟩ => VL.op (R.asI rfl) (VL.nil (V.seq (V.seq (V.region (VL.op (R.mvI rfl) (VL.op (R.eql rfl rfl) (VL.nil (V.condP rfl (fun c12 => V.seq (V.region (VL.op (R.mvS rfl) (VL.op (R.asS rfl) (VL.nil (V.ret (fret1 (v := .slice _ _ _) rfl rfl rfl (?_)))))))) (fun c12 => V.skip (V.seq (V.seq (?_))))))))))))))))))))
    · exact absurd ‹_› (show ¬ ((i : Int) = -1) by omega)
    have hJ1 : DlJ f l a (i + 1) l.toArray w1 := ⟨Srt.modT hsO m1 hLT, by simp, fun q hq => ?_, fun q h1 h2 => by rw [← getD_bang]⟩
    · refine V.region (VL.op (R.mvI rfl) (VL.op (R.add rfl rfl (by omega) (by omega)) (VL.op (R.asI rfl) (VL.nil (V.block (?_))))))
      refine V.loop [0, 1, 5, 6] (fun x : Nat × Array (Int) => [.slice a l.length cap, .func (.func g) #[] Cv.toArray, .int .i64 ((kpF f l x.1).length : Nat), .int .i64 (x.1 : Nat)])
        (fun x w' => i + 1 ≤ x.1 ∧ x.1 ≤ l.length ∧ S w' ∧ Vc.Mod (fun k => aBlk a k ∨ T k) w w' ∧ DlJ f l a x.1 x.2 w') (fun x => l.length - x.1) (i + 1, l.toArray) (by dsimp only; rw [hk1, List.length_take, Nat.min_eq_left (by omega)]; rfl) ⟨Nat.le_refl _, hi, hS1, m1.weaken fun _ _ h => .inr h, hJ1⟩ ?_
      rintro ρ ⟨m, d⟩ w2 ⟨g1, g2, hS2, m2, hJ⟩
      dsimp only at g1 g2 hS2 m2 hJ ⊢
      have hsz := hJ.sz
      have hsh := kpF_short f l i m hi hf1 g1 g2
      refine V.seq (V.seq (V.region (VL.op (R.mvI rfl) (VL.op (R.mvS rfl) (VL.op (R.lenS Try.runUnderlying23 rfl) (VL.op (R.lss rfl rfl) (VL.nil (V.condP rfl (fun c19 => V.skip (V.seq (V.block (V.seq (V.region (VL.op (R.mvS rfl) (VL.op (R.mvI rfl) (VL.op (R.ixS Try.runUnderlying23 Try.sizeOf3 rfl rfl (by omega) (by omega) (hJ.s.ad)) (VL.op (R.ld1 Try.isAgg3 rfl (((hJ.s.row elt (i := m) rfl (by omega)).cell (i := 0) rfl))) (VL.op (R.asI rfl) (VL.nil (V.seq (?_))))))))))))) (fun c19 => V.exit (V.seq (?_)))))))))))
      · have hml : m < l.length := by omega
        have hdm : d[m]! = l.getD m default := hJ.hi m (Nat.le_refl _) hml
        have hmem : d[m]! ∈ l := by rw [hdm, show l.getD m default = l[m] by simp [List.getD, hml]]; exact List.getElem_mem _
        refine V.region (VL.op (R.mvF rfl) (VL.op (R.mvI rfl) (VL.callCY rfl (hfn) rfl (hdo w2 d[m]! hmem hS2) fun _ w8 ⟨hS8, m8⟩ => VL.op (R.not rfl) (VL.nil (V.cond rfl (fun c29 => V.seq (?_)) (fun c29 => V.skip (V.region (VL.op (R.mvI rfl) (VL.op (R.add rfl rfl (by omega) (by omega)) (VL.op (R.asI rfl) (VL.nil (?_))))))))))))
        · have hfm : f d[m]! = false := by revert c29; cases f d[m]! <;> simp
          have hS8s := Srt.modT hJ.s m8 hLT
          have hnew : kpF f l (m + 1) = kpF f l m ++ [d[m]!] := by rw [kpF_succ f l m hml, ← hdm, hfm]; rfl
          have hlen : (kpF f l (m + 1)).length = (kpF f l m).length + 1 := by rw [hnew]; simp
          refine V.region (VL.op (R.mvS rfl) (VL.op (R.mvI rfl) (VL.op (R.mvI rfl) (VL.op (R.ixS Try.runUnderlying23 Try.sizeOf3 rfl rfl (by omega) (by omega) hS8s.ad) (VL.storeSt elt Try.sizeOf3 hS8s rfl (i := (kpF f l m).length) rfl (by omega) rfl fun w9 hs9 => VL.nil (V.region (VL.op (R.mvI rfl) (VL.op (R.add rfl rfl (by omega) (by omega)) (VL.op (R.asI rfl) (VL.nil (V.region (VL.op (R.mvI rfl) (VL.op (R.add rfl rfl (by omega) (by omega)) (VL.op (R.asI rfl) (VL.nil (?_))))))))))))))))
          refine ⟨(m + 1, d.setIfInBounds (kpF f l m).length d[m]!), by dsimp only; rw [hlen]; rfl, ⟨by dsimp only; omega, by dsimp only; omega, hSe _ _ hS8 hs9.m, (m2.then m8 fun _ _ h => .inr h).then hs9.m fun _ _ h => .inl h, ⟨hs9.rb, by simp [hsz], fun q hq => ?_, fun q h1 h2 => ?_⟩⟩, by dsimp only; omega⟩
          · dsimp only at hq ⊢
            rw [hlen] at hq
            by_cases hqe : q = (kpF f l m).length
            · subst hqe
              rw [getElem!_pos _ _ (by simp; omega), Array.getElem_setIfInBounds_self, hnew]
              simp [List.getD]
            · rw [getElem!_pos _ q (by simp; omega), Array.getElem_setIfInBounds_ne (by omega) (Ne.symm hqe), ← getElem!_pos d q (by omega), hJ.lo q (by omega), hnew]
              simp [List.getD, List.getElem?_append_left (show q < (kpF f l m).length by omega)]
          · dsimp only at h1 ⊢
            rw [getElem!_pos _ q (by simp; omega), Array.getElem_setIfInBounds_ne (by omega) (by omega), ← getElem!_pos d q (by omega)]
            exact hJ.hi q (by omega) h2
        · have hfm : f d[m]! = true := by revert c29; cases f d[m]! <;> simp
          have hnew : kpF f l (m + 1) = kpF f l m := by rw [kpF_succ f l m hml, ← hdm, if_pos hfm, List.append_nil]
          refine ⟨(m + 1, d), by dsimp only; rw [hnew]; rfl, ⟨by dsimp only; omega, by dsimp only; omega, hS8, m2.then m8 fun _ _ h => .inr h, ⟨Srt.modT hJ.s m8 hLT, hsz, fun q hq => ?_, fun q h1 h2 => ?_⟩⟩, by dsimp only; omega⟩
          · dsimp only at hq ⊢
            rw [hnew] at hq ⊢
            exact hJ.lo q hq
          · dsimp only at h1
            exact hJ.hi q (by omega) h2
      · have hme : m = l.length := by omega
        subst hme
        have hs2 := hJ.s
        refine V.region (VL.op (R.mvS rfl) (VL.op (R.mvI rfl) (VL.op (R.slLo Try.runUnderlying23 Try.sizeOf3 rfl rfl (by omega) (by omega)) (VL.clearS eltI Try.runUnderlying23 Try.zeroValue3 rfl rfl (hs2) rfl (by omega) (Or.inl (by omega)) fun w11 d3 hz3 hq3 hs3 => VL.nil (V.seq (V.region (VL.op (R.mvS rfl) (VL.op (R.mvI rfl) (VL.op (R.slHi Try.runUnderlying23 Try.sizeOf3 rfl rfl (by omega) (by omega)) (VL.op (R.asS rfl) (VL.nil (V.ret (fret1 (v := .slice _ _ _) rfl rfl rfl (?_))))))))))))))
        have hlq : d3.toList = l.filter fun p => !f p := by
          rw [← hkl]
          refine List.ext_getElem (by simpa using hz3) fun q h1 h2 => ?_
          have h4 := hJ.lo q h2
          rw [← hq3 q h2, getElem!_pos d3 q (by simpa using h1)] at h4
          have h5 : d3.toList[q] = d3[q]'(by simpa using h1) := by simp
          rw [h5, h4]
          simp [List.getD, h2]
        obtain ⟨b0, o0, ha⟩ := hs2.ad
        refine ⟨(), ?_, hSe _ _ hS2 hs3.m, m2.then hs3.m fun _ _ h => .inl h, ?_⟩
        · rw [← hkl, ha, cutA0]; rfl
        · intro _
          have := hs3.rb
          rw [← hlq]; simpa using this
    · rw [hk1] at hq ⊢
      rw [← getD_bang]
      rw [List.length_take] at hq
      simp [List.getD, show q < i by omega]
theorem cloneI_spec (a : Option Addr) (ca : Nat) (l : List Int) (w : World) (hm : l.length ≤ 1000000) (hS : IntSl w a l) :
    RetsX Try.prog 29 #[.slice a l.length ca] w (fun x : Option Addr × Nat => .slice x.1 l.length x.2) (fun x w' => OwnT encI 1 3 w.heap.size w' x.1 x.2 l) := by
  refine enter (args := [_]) Try.func29 rfl Try.ntmps29 (by kernel_rfl) rfl ?_
  refine V.seq (V.region (VL.op (R.asS rfl) (VL.nil (V.seq (V.seq (V.region (VL.op (R.mvS rfl) (VL.op (R.eqlNil Try.runUnderlying23 rfl rfl) (VL.nil (V.cond rfl (fun c4 => V.seq (V.region (VL.op (R.asS rfl) (VL.nil (V.ret (fret1 (v := .slice _ _ _) rfl rfl rfl (?_))))))) (fun c4 => V.skip (V.seq (V.region (VL.buildSl Try.runUnderlying23 Try.sizeOf3 Try.zeroValue3 rfl rfl rfl fun b5 w5 hb5 e5 hX5 => VL.op (R.mvS rfl) (VL.appendT el23 (fun _ => rfl) rfl (rfl) ((OwnT.of0 encI 1 hX5 (Nat.le_of_eq (Eq.symm hb5)))) rfl (rfl) ((hS.ext e5)) ((fun h => absurd h (of_decide_eq_false c4))) (by simp; omega) (by simp [maxLen]; omega) (e5).size rfl fun a6 c6 w6 ho6 m6 hf6 => VL.op (R.asS rfl) (VL.nil (V.ret (fret1 (v := .slice _ _ _) rfl rfl rfl (?_)))))))))))))))))))
  · have ha : a = none := of_decide_eq_true c4
    have hl : l = [] := by
      cases l with
      | nil => rfl
      | cons x l => obtain ⟨b, o, h⟩ := TSl.some (i := 0) hS (by simp); rw [ha] at h; cases h
    subst hl
    exact ⟨(none, 0), rfl, OwnT.nil encI 1 3 _ _, Mod.refl _ _⟩
  · exact ⟨(a6, c6), by rw [Nat.zero_add], ho6, Mod.ownA e5 m6 fun k hk => by have := aBlk_some hk; omega⟩

theorem tset_mem {κ α : Type} [DecidableEq κ] : ∀ {l : List (κ × α)} {k : κ} {v : α} {q : κ × α}, q ∈ tset l k v → q = (k, v) ∨ q ∈ l
  | [], k, v, q, h => by simp [tset] at h; exact .inl h
  | (k', v') :: l, k, v, q, h => by
    unfold tset at h
    split at h
    · rcases List.mem_cons.1 h with h | h
      · exact .inl h
      · exact .inr (List.mem_cons_of_mem _ h)
    · rcases List.mem_cons.1 h with h | h
      · exact .inr (h ▸ List.mem_cons_self)
      · rcases tset_mem h with h | h
        · exact .inl h
        · exact .inr (List.mem_cons_of_mem _ h)
theorem tset_len {κ α : Type} [DecidableEq κ] : ∀ (l : List (κ × α)) (k : κ) (v : α), (tset l k v).length ≤ l.length + 1
  | [], k, v => by simp [tset]
  | (k', v') :: l, k, v => by
    unfold tset
    split
    · simp
    · have := tset_len l k v; simp; omega
theorem gW_len (same : List Int) (edges : List Ed) : (gW same edges).length ≤ edges.length := by
  refine rev_ind (M := fun edges => (gW same edges).length ≤ edges.length) (by simp [gW]) (fun l x ih => ?_) edges
  have e : gW same (l ++ [x]) = gWs same (gW same l) x := by unfold gW; rw [List.foldl_append]; rfl
  rw [e, List.length_append, List.length_singleton]
  unfold gWs
  split
  · have := tset_len (gW same l) (ordF (at_ same x.a) (at_ same x.b)) ((tget (gW same l) (ordF (at_ same x.a) (at_ same x.b))).getD 0 + x.w); omega
  · omega
theorem gW_ok {same : List Int} {edges : List Ed} (hv : ∀ i, i < same.length → 0 ≤ same.getD i default ∧ same.getD i default ≤ i ∧ same.getD (same.getD i default).toNat default = same.getD i default)
    (hl : ∀ e ∈ edges, 0 ≤ e.a ∧ 0 ≤ e.b ∧ e.a < same.length ∧ e.b < same.length) : WOk same (gW same edges) := by
  refine rev_ind (M := fun edges : List Ed => (∀ e ∈ edges, 0 ≤ e.a ∧ 0 ≤ e.b ∧ e.a < same.length ∧ e.b < same.length) → WOk same (gW same edges)) (fun _ q hq => by simp [gW] at hq) (fun l x ih hl => ?_) edges hl
  have e : gW same (l ++ [x]) = gWs same (gW same l) x := by unfold gW; rw [List.foldl_append]; rfl
  have ih := ih fun e he => hl e (List.mem_append_left _ he)
  rw [e]
  unfold gWs
  split
  · rename_i hne
    intro q hq
    rcases tset_mem hq with h | h
    · obtain ⟨h1, h2, h3, h4⟩ := hl x (by simp)
      have va := hv x.a.toNat (by omega)
      have vb := hv x.b.toNat (by omega)
      rw [h]
      dsimp only
      unfold at_ at hne ⊢
      unfold ordF
      dsimp only
      generalize same.getD x.a.toNat default = A at *
      generalize same.getD x.b.toNat default = B at *
      rcases Int.le_total A B with hab | hab
      · rw [Int.min_eq_left hab, Int.max_eq_right hab]; exact ⟨by omega, by omega, by omega, va.2.2, vb.2.2⟩
      · rw [Int.min_eq_right hab, Int.max_eq_left hab]; exact ⟨by omega, by omega, by omega, vb.2.2, va.2.2⟩
    · exact ih q h
  · exact ih
/-- The components. -/
def compsF (same : List Int) (edges : List Ed) : List (List Int) := if validB same = true ∧ linkB same.length edges = true then grpsK (cmpR same (gW same edges)) same.length else []
theorem comps_spec (a sa : Option Addr) (c cs : Nat) (edges : List Ed) (same : List Int) (w : World) (hm : edges.length ≤ 1000) (hms : same.length ≤ 1000) (hS : EdSl w a edges) (hI : IntSl w sa same) :
    RetsX Try.prog 20 #[.slice a edges.length c, .slice sa same.length cs] w (fun z : List Sl × Option Addr × Nat => .slice z.2.1 z.1.length z.2.2) (fun z w' => vals z.1 = compsF same edges ∧ GLs w.heap.size w' z.2.1 z.2.2 z.1) := by
  refine enter (args := [_, _]) Try.func20 rfl Try.ntmps20 (by kernel_rfl) rfl ?_
  refine V.seq (V.region (VL.op (R.asS rfl) (VL.nil (V.seq (V.seq (V.region (VL.op (R.mvS rfl) (VL.callP Try.call25 rfl (valid_spec sa cs same _ (by omega) (hI.ext (Mod.refl _ _))) fun w1_1 e1_1 => VL.op (R.not rfl) (VL.op (R.mvB rfl) (VL.or rfl rfl (fun g1_3 => VL.op (R.mvS rfl) (VL.gT rfl rfl (VL.op (R.lenS Try.runUnderlying23 rfl) (VL.gT rfl rfl (VL.op (R.mvS rfl) (VL.gT rfl rfl (VL.callP Try.call26 rfl (linked_spec _ a c edges _ (hS.ext e1_1) (by omega)) fun w1_7 e1_7 => VL.gT rfl rfl (VL.op (R.not rfl) (VL.op (R.pickFB rfl rfl) (VL.nil (V.cond rfl (fun c14 => V.seq (V.region (VL.op (R.asS rfl) (VL.nil (V.ret (fret1 (v := .slice _ _ _) rfl rfl rfl (?_))))))) (fun c14 => V.skip (V.seq (?_)))))))))))))) (fun g1_3 => VL.gF rfl rfl (VL.gF rfl rfl (VL.gF rfl rfl (VL.gF rfl rfl (VL.op (R.pickTB rfl rfl) (VL.nil (V.condT rfl (V.seq (V.region (VL.op (R.asS rfl) (VL.nil (V.ret (fret1 (v := .slice _ _ _) rfl rfl rfl (?_))))))))))))))))))))))))
  · have : compsF same edges = [] := by unfold compsF; rw [if_neg (fun h => by rw [h.2] at c14; cases c14)]
    exact ⟨([], none, 0), rfl, ⟨this.symm, GLs.nil _ _⟩, e1_1.trans e1_7⟩
  · have v1 : validB same = true := by simpa using g1_3
    have v2 : linkB (same.length : Int) edges = true := by simpa using c14
    have hv := (validB_iff.1 v1).1
    have hl := (linkB_iff.1 v2).2
    have hok := gW_ok hv fun e he => ⟨(hl e he).1, (hl e he).2.1, (hl e he).2.2.1, (hl e he).2.2.2.1⟩
    have hlen := gW_len same edges
    have hc := cmpR_is hv hok
    have E1 := e1_1.trans e1_7
    refine V.region (VL.op (R.mvS rfl) (VL.op (R.mvS rfl) (VL.callX Try.call28 rfl (gather_spec a sa none c cs 0 edges same [] _ hm (by simp) v2 rfl (hS.ext (E1.trans (Mod.refl _ _))) (hI.ext (E1.trans (Mod.refl _ _))) (TSl.nil _ _ _ _)) fun x w3 hx e3 => VL.callX Try.call31 rfl (components_spec sa cs x.1 x.2 same (gW same edges) (gA same []) _ hms (by omega) hx.1 (hI.ext (E1.trans e3)) hv hok) fun x2 w4 hx2 e4 => VL.callX Try.call30 rfl (members_spec (some ⟨x2, 0, none⟩) same.length same.length (cmpR same (gW same edges)) _ hms hc.le hc.idem hx2.1.sl) fun z w5 hz e5 => VL.op (R.asS rfl) (VL.nil (V.ret (fret1 (v := .slice _ _ _) rfl rfl rfl (?_)))))))
    have z1 := E1.size
    have z3 := e3.size
    have z4 := e4.size
    refine ⟨z, rfl, ⟨?_, hz.2.weaken (by omega)⟩, E1.trans (e3.trans (e4.trans e5))⟩
    rw [hz.1]; unfold compsF; rw [if_pos ⟨v1, v2⟩]
  · have : compsF same edges = [] := by unfold compsF; rw [if_neg (fun h => by rw [h.1] at g1_3; cases g1_3)]
    exact ⟨([], none, 0), rfl, ⟨this.symm, GLs.nil _ _⟩, e1_1⟩
end Go.Proofs.Ytglaigeellpikaa

/- Cluster: clash. -/
namespace Go.Proofs.Ytglaigeellpikaa
open Go.Vc

/-- The weight of a pair in order, and whether two classes are decided to be different. -/
def wtM (W : List ((Int × Int) × Int)) (a b : Int) : Int := (tget W (a, b)).getD 0
def apM (A : List ((Int × Int) × Bool)) (a b : Int) : Bool := (tget A (ordF a b)).getD false
theorem ap_val (A : List ((Int × Int) × Bool)) (a b : Int) : (mget (tenc vB A) (ordF a b)).getD (.bool false) = .bool (apM A a b) := by
  rw [tget_enc]; unfold apM; cases tget A (ordF a b) <;> rfl
theorem wt_val (W : List ((Int × Int) × Int)) (a b : Int) : (mget (tenc vI W) (a, b)).getD (.int .i64 0) = .int .i64 (wtM W a b) := by
  rw [tget_enc]; unfold wtM; cases tget W (a, b) <;> rfl
set_option maxHeartbeats 1000000 in
theorem clash_spec (sa ca ha : Option Addr) (n cs r1 r2 cc hc : Nat) (W : List ((Int × Int) × Int)) (A : List ((Int × Int) × Bool)) (cls hs : List Int) (at_' : Nat) (w : World) (hm : cls.length ≤ 1000000) (hE : EvAt w r1 r2 W A) (hC : IntSl w ca cls) (hH : IntSl w ha hs) (hl : hs.length = cls.length) (ha' : at_' < cls.length) :
    RetsP Try.prog 65 #[evV sa n cs r1 r2, .slice ca cls.length cc, .slice ha hs.length hc, .int .i64 (at_' : Nat)] w (.bool (clashF (apM A) cls hs at_')) := by
  refine enter (args := [_, _, _, _]) Try.func65 rfl Try.ntmps65 (by kernel_rfl) rfl ?_
  refine V.seq (V.region (VL.box (v := .agg _) rfl fun b1 w1 hb1 e1 hB1 => VL.op (R.asB rfl) (VL.nil (V.seq (V.seq (V.region (VL.op (R.mvI rfl) (VL.op (R.mvI rfl) (VL.nil (V.block (?_)))))))))))
  have hB1 : Blk w1 b1 (.cells #[.slice sa n cs, .map (some r1), .map (some r2)] 52 (0, 0)) := hB1
  have hE1 := hE.ext e1
  have hC1 := hC.ext e1
  have hH1 := hH.ext e1
  refine V.loop [1, 2, 3, 4, 10, 11] (fun k : Nat => [.slice ca cls.length cc, .slice ha hs.length hc, .int .i64 (at_' : Nat), .pointer (some ⟨b1, 0, none⟩), .int .i64 (at_' : Nat), .int .i64 k])
    (fun k w' => k ≤ at_' ∧ (∀ i, i < k → (decide (hs.getD i default = hs.getD at_' default) && apM A (cls.getD i default) (cls.getD at_' default)) = false) ∧ Ext w1 w') (fun k => at_' - k) 0 rfl ⟨by omega, by intro i hi; omega, Mod.refl _ _⟩ ?_
  rintro ρ k w2 ⟨hk, hi, e⟩
  refine V.seq (V.region (VL.op (R.lss rfl rfl) (VL.nil (V.seq (V.condP rfl (fun c12 => V.skip (V.seq (V.block (V.seq (V.region (VL.op (R.mvI rfl) (VL.op (R.asI rfl) (VL.nil (V.seq (V.regionQCut mixed 23 (by kernel_rfl) rfl (fun w' => Ext _ w') (Ext.drawn _) [14, 15, 16, 17, 18, 19, 20, 21, 22, 23, 24, 25, 26, 27, 28, 29, 30, 31, 32, 33, 34, 35, 36] 36 (.bool (decide (hs.getD k default = hs.getD at_' default) && apM A (cls.getD k default) (cls.getD at_' default))) rfl (VQ.op (fun wq eq => R.mvS rfl) (VQ.op (fun wq eq => R.mvI rfl) (VQ.op (fun wq eq => R.ixS Try.runUnderlying23 Try.sizeOf3 rfl rfl (by omega) (by omega) ((hH1).some (i := k) (by omega))) (VQ.op (fun wq eq => R.ld1 Try.isAgg3 rfl (((((hH1).ext (e.trans eq)).row (i := k) (by omega)).cell (i := 0) rfl))) (VQ.op (fun wq eq => R.mvS rfl) (VQ.op (fun wq eq => R.mvI rfl) (VQ.op (fun wq eq => R.ixS Try.runUnderlying23 Try.sizeOf3 rfl rfl (by omega) (by omega) ((hH1).some (i := at_') (by omega))) (VQ.op (fun wq eq => R.ld1 Try.isAgg3 rfl (((((hH1).ext (e.trans eq)).row (i := at_') (by omega)).cell (i := 0) rfl))) (VQ.op (fun wq eq => R.eql rfl rfl) (VQ.op (fun wq eq => R.mvB rfl) (VQ.andP rfl rfl (fun g4_9 => VQ.op (fun wq eq => R.fld' (o := 2) Try.runUnderlying52 rfl rfl Try.sizeOf50 rfl rfl) (VQ.gT rfl rfl (VQ.op (fun wq eq => R.ld1 Try.isAgg50 rfl ((hB1.ext (e.trans eq)).cell 2)) (VQ.gT rfl rfl (VQ.op (fun wq eq => R.mvS rfl) (VQ.gT rfl rfl (VQ.op (fun wq eq => R.mvI rfl) (VQ.gT rfl rfl (VQ.op (fun wq eq => R.ixS Try.runUnderlying23 Try.sizeOf3 rfl rfl (by omega) (by omega) ((hC1).some (i := k) (by omega))) (VQ.gT rfl rfl (VQ.op (fun wq eq => R.ld1 Try.isAgg3 rfl (((((hC1).ext (e.trans eq)).row (i := k) (by omega)).cell (i := 0) rfl))) (VQ.gT rfl rfl (VQ.op (fun wq eq => R.mvS rfl) (VQ.gT rfl rfl (VQ.op (fun wq eq => R.mvI rfl) (VQ.gT rfl rfl (VQ.op (fun wq eq => R.ixS Try.runUnderlying23 Try.sizeOf3 rfl rfl (by omega) (by omega) ((hC1).some (i := at_') (by omega))) (VQ.gT rfl rfl (VQ.op (fun wq eq => R.ld1 Try.isAgg3 rfl (((((hC1).ext (e.trans eq)).row (i := at_') (by omega)).cell (i := 0) rfl))) (VQ.gT rfl rfl (VQ.callP (fun _ _ h k => Mod.trans h k) Try.call50 rfl (fun wq eq => ordered_spec _ _ _) (VQ.gT rfl rfl (VQ.op (fun wq eq => R.lookupV key42 Try.runUnderlying50 Try.zeroValue4 (hE1.ap.ext (e.trans eq)) (ap_val A _ _) rfl rfl) (VQ.op (fun wq eq => R.pickTB rfl rfl) (VQ.nil (cutB rfl ?_)))))))))))))))))))))))))) (fun g4_9 => VQ.gF rfl rfl (VQ.gF rfl rfl (VQ.gF rfl rfl (VQ.gF rfl rfl (VQ.gF rfl rfl (VQ.gF rfl rfl (VQ.gF rfl rfl (VQ.gF rfl rfl (VQ.gF rfl rfl (VQ.gF rfl rfl (VQ.gF rfl rfl (VQ.op (fun wq eq => R.pickFB rfl rfl) (VQ.nil (cutB rfl ?_))))))))))))))))))))))))) (fun rg4 w4c e4c => V.cond rfl (fun c36 => V.seq (V.region (VL.op (R.asB rfl) (VL.nil (V.ret (fret1 (v := .bool _) rfl rfl rfl (⟨?_, e1.trans (e.trans e4c)⟩))))))) (fun c36 => V.skip (V.region (VL.op (R.add rfl rfl (by omega) (by omega)) (VL.op (R.mvI rfl) (VL.nil (⟨k + 1, rfl, ⟨by omega, ?_, (e.trans e4c)⟩, by omega⟩))))))))))))))))) (fun c12 => V.exit (V.seq (?_))))))))
  · rw [decide_eq_true g4_9, Bool.true_and]
  · rw [decide_eq_false g4_9, Bool.false_and]
  · rw [Bool.and_eq_true, decide_eq_true_eq] at c36
    rw [clashF_iff.2 ⟨k, by omega, c36.1, c36.2⟩]
  · intro i hik
    by_cases h : i = k
    · subst h; exact c36
    · exact hi i (by omega)
  · have hkl : k = at_' := by omega
    subst hkl
    refine V.region (VL.op (R.asB rfl) (VL.nil (V.ret (fret1 (v := .bool _) rfl rfl rfl (⟨?_, e1.trans (e.trans (Mod.refl _ _))⟩)))))
    have : clashF (apM A) cls hs k = false := by
      rw [← Bool.not_eq_true, clashF_iff]
      rintro ⟨i, h1, h2, h3⟩
      have := hi i h1
      rw [h3, Bool.and_true] at this
      exact of_decide_eq_false this h2
    rw [this]
end Go.Proofs.Ytglaigeellpikaa
