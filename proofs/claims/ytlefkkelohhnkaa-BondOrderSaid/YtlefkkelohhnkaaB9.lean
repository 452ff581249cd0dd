/- Bond: the walks of slices.Compact and of sorted. -/
import Derived.Test.YtlefkkelohhnkaaB8
namespace Go.Proofs.Ytlefkkelohhnkaa
open Go.Vc Go.Sort

theorem cutA0 {b off s c : Nat} : cutA (some ⟨b, off, none⟩) s 0 c = some ⟨b, off, none⟩ := by
  unfold cutA
  split
  · rfl
  · simp [Addr.add]
theorem cutA_some {b off s l c : Nat} (h : c ≠ l) : cutA (some ⟨b, off, none⟩) s l c = some ⟨b, off + l * s, none⟩ := by
  unfold cutA
  rw [if_neg h, Option.map_some]
  unfold Addr.add
  split
  · rename_i h0; rw [h0]; rfl
  · rfl
theorem arr_get (d : Array (Int × Int)) (i : Nat) : d.toList.getD i default = d[i]! := getD_bang d i
/-- What the row holds while it is compacted: 'm' have been seen. -/
structure CpJ (l : List (Int × Int)) (w0 : World) (a : Option Addr) (m : Nat) (d : Array (Int × Int)) (w : World) : Prop where
  s : Srt encPr 2 w0 a d w
  sz : d.size = l.length
  lo : ∀ q, q < (cpK l m).length → d[q]! = (cpK l m).getD q default
  hi : ∀ q, m - 1 ≤ q → q < l.length → d[q]! = l.getD q default
theorem Srt.rowCut {w0 w : World} {a : Option Addr} {d : Array (Int × Int)} (h : Srt encPr 2 w0 a d w) {k c q : Nat} (hc : c ≠ k) (hq : k + q < d.size) : RowAt w (eAddr (cutA a 2 k c) 2 q).block (eAddr (cutA a 2 k c) 2 q).off (encPr d[k + q]!) := by
  obtain ⟨b, off, ha⟩ := h.ad
  have h1 := h.row eltPr (j := k + q) (i := k + q) rfl hq
  subst ha
  rw [cutA_some hc]
  have e : off + k * 2 + q * 2 = off + (k + q) * 2 := by omega
  show RowAt w b (off + k * 2 + q * 2) _
  rw [e]; exact h1
theorem cpK_short (l : List (Int × Int)) {k : Nat} (hk : 0 < k) (he : l.getD k default = l.getD (k - 1) default) (m : Nat) (hm : k + 1 ≤ m) : (cpK l m).length < m := by
  induction m with
  | zero => omega
  | succ m ih =>
    by_cases h : m = k
    · subst h
      have hnc : ¬ (m = 0 ∨ l.getD m default ≠ l.getD (m - 1) default) := fun h => h.elim (by omega) (fun h => h he)
      rw [cpK, if_neg hnc]
      have := cpK_len l m; omega
    · have := ih (by omega)
      rw [cpK]; split
      · rw [List.length_append, List.length_singleton]; omega
      · omega
set_option maxRecDepth 100000 in
set_option maxHeartbeats 4000000 in
theorem compact_spec (a : Option Addr) (cap : Nat) (d : Array (Int × Int)) (w0 w : World) (hs : Srt encPr 2 w0 a d w) (h0 : 0 < d.size) (hcap : d.size ≤ cap) (hm : d.size ≤ 1000000) :
    RetsY Try.prog 44 #[.slice a d.size cap] w (fun _ : Array (Int × Int) => .slice a (cpF d.toList).length cap) (fun d' w' => Srt encPr 2 w0 a d' w' ∧ d'.toList = cpF d.toList) := by
  obtain ⟨b0, o0, ha⟩ := hs.ad
  obtain ⟨l, hl⟩ : ∃ l, l = d.toList := ⟨_, rfl⟩
  have hll : l.length = d.size := by rw [hl]; simp
  have hget : ∀ i, l.getD i default = d[i]! := fun i => by rw [hl]; exact getD_bang d i
  have elt := eltPr
  rw [← hl]
  refine enter (args := [_]) Try.func44 rfl Try.ntmps44 (by kernel_rfl) rfl ?_
  refine V.seq (V.region (VL.op (R.asS rfl) (VL.nil (V.seq (V.seq (V.region (VL.op (R.mvS rfl) (VL.op (R.lenS Try.runUnderlying27 rfl) (VL.op (R.lss rfl rfl) (VL.nil (V.condP rfl (fun c8 => V.seq (V.region (VL.op (R.mvS rfl) (VL.op (R.asS rfl) (VL.nil (V.ret (fret1 (v := .slice _ _ _) rfl rfl rfl (?_)))))))) (fun c8 => V.skip (V.seq (V.seq (V.region (VL.op (R.asI rfl) (VL.nil (V.block (?_)))))))))))))))))))
  · have h1 : cpF l = l := by
      unfold cpF
      rw [cpK_take l l.length (Nat.le_refl _) (fun j h1 h2 => by omega), List.take_length]
    exact ⟨d, by rw [h1, hll], hs, by rw [h1, hl]⟩
  refine V.loop [0, 3] (fun k : Nat => [.slice a d.size cap, .int .i64 (k : Nat)]) (fun k w' => 0 < k ∧ k ≤ d.size ∧ (∀ j, 0 < j → j < k → l.getD j default ≠ l.getD (j - 1) default) ∧ Ext w w') (fun k => d.size - k) 1 rfl ⟨by omega, by omega, fun j h1 h2 => by omega, Mod.refl _ _⟩ ?_
  rintro ρ k w1 ⟨hk0, hk, hne, e⟩
  refine V.seq (V.seq (V.region (VL.op (R.mvI rfl) (VL.op (R.mvS rfl) (VL.op (R.lenS Try.runUnderlying27 rfl) (VL.op (R.lss rfl rfl) (VL.nil (V.condP rfl (fun c13 => V.skip (V.seq (V.block (V.seq (V.regionQ mixed 10 (by kernel_rfl) rfl (fun w' => Ext _ w') (Ext.drawn _) (VQ.op (fun wq eq => R.mvS rfl) (VQ.op (fun wq eq => R.mvI rfl) (VQ.op (fun wq eq => R.ixS Try.runUnderlying27 Try.sizeOf48 rfl rfl (by omega) (by omega) (hs.ad)) (VQ.op (fun wq eq => R.ldA Try.isAgg48 Try.sizeOf48 rfl rfl (((hs.ext (e.trans eq)).row elt (i := k) rfl (by omega))) rfl) (VQ.op (fun wq eq => R.mvS rfl) (VQ.op (fun wq eq => R.mvI rfl) (VQ.op (fun wq eq => R.subE (z := ((k - 1 : Nat) : Int)) rfl rfl (by omega) (by omega) (by omega)) (VQ.op (fun wq eq => R.ixS Try.runUnderlying27 Try.sizeOf48 rfl rfl (by omega) (by omega) (hs.ad)) (VQ.op (fun wq eq => R.ldA Try.isAgg48 Try.sizeOf48 rfl rfl (((hs.ext (e.trans eq)).row elt (i := k - 1) rfl (by omega))) rfl) (VQ.op (fun wq eq => R.eqlK key48 Try.eqGuardType48 encP_agg (d[k]!) (d[k - 1]!) rfl rfl) (VQ.nil fun w6q e6q => VL.nil (V.condP rfl (fun c25 => V.seq (?_)) (fun c25 => V.skip (V.region (VL.op (R.mvI rfl) (VL.op (R.add rfl rfl (by omega) (by omega)) (VL.op (R.asI rfl) (VL.nil (⟨k + 1, rfl, ⟨by omega, by omega, ?_, (e.trans e6q)⟩, by omega⟩)))))))))))))))))))))))) (fun c13 => V.exit (V.seq (V.region (VL.op (R.mvS rfl) (VL.op (R.asS rfl) (VL.nil (V.ret (fret1 (v := .slice _ _ _) rfl rfl rfl (?_)))))))))))))))))
  · have hk2 : k < d.size := by omega
    have hdup : l.getD k default = l.getD (k - 1) default := by rw [hget, hget]; exact c25
    have hck : cpK l k = l.take k := cpK_take l k (by omega) hne
    have hnc : ¬ (k = 0 ∨ l.getD k default ≠ l.getD (k - 1) default) := fun h => h.elim (by omega) (fun h => h hdup)
    have hck1 : cpK l (k + 1) = l.take k := by rw [cpK, if_neg hnc, hck]
    have hckl : (cpK l (k + 1)).length = k := by rw [hck1]; simp; omega
    have hshort := cpK_short l hk0 hdup
    have hE := e.trans e6q
    have hs1 := hs.ext hE
    refine V.region (VL.op (R.mvS rfl) (VL.op (R.mvI rfl) (VL.op (R.slLo Try.runUnderlying27 Try.sizeOf48 rfl rfl (by omega) (by omega)) (VL.op (R.asS rfl) (VL.nil (V.cut [0, 3] (fun _ : Array (Int × Int) => [.slice a d.size cap, .int .i64 ((cpK l d.size).length : Nat)]) (fun d2 w' => CpJ l w0 a d.size d2 w') (V.seq (V.region (VL.op (R.asI rfl) (VL.nil (V.block (?_)))))) (fun rgB2 xB2 wBB2 hBB2 => V.seq (?_))))))))
    · refine V.loop [0, 3, 4, 5] (fun x : Nat × Array (Int × Int) => [.slice a d.size cap, .int .i64 ((cpK l (k + x.1)).length : Nat), .slice (cutA a 2 k cap) (d.size - k) (cap - k), .int .i64 (x.1 : Nat)])
        (fun x w' => 1 ≤ x.1 ∧ k + x.1 ≤ d.size ∧ CpJ l w0 a (k + x.1) x.2 w') (fun x => d.size - x.1) (1, d) (by dsimp only; rw [hckl]; rfl) ⟨by dsimp only; omega, by dsimp only; omega, hs1, hll.symm, ?_, fun q h1 h2 => (hget q).symm⟩ ?_
      · dsimp only
        intro q hq
        rw [hckl] at hq
        rw [hck1, ← hget]
        simp [List.getD, hq]
      rintro ρ ⟨k2, d2⟩ w2 ⟨g1, g2, hJ⟩
      dsimp only at g1 g2 hJ ⊢
      have hsz := hJ.sz
      have hsh := hshort (k + k2) (by omega)
      have hcapk : cap ≠ k := by omega
      have hsome : ∃ b off, cutA a 2 k cap = some ⟨b, off, none⟩ := by rw [ha]; exact ⟨_, _, cutA_some hcapk⟩
      have hdif : ((d.size - k : Nat) : Int) = (d.size : Int) - k := by omega
      have hv1 : k2 < d.size - k → d2[k + k2]! = l.getD (k + k2) default := fun h => hJ.hi _ (by omega) (by omega)
      have hv2 : k2 < d.size - k → d2[k + (k2 - 1)]! = l.getD (k + (k2 - 1)) default := fun h => hJ.hi _ (by omega) (by omega)
      refine V.seq (V.seq (V.region (VL.op (R.mvI rfl) (VL.op (R.mvS rfl) (VL.op (R.lenS Try.runUnderlying27 rfl) (VL.op (R.lss rfl rfl) (VL.nil (V.condP rfl (fun c32 => V.skip (V.seq (V.block (V.seq (V.regionQ mixed 10 (by kernel_rfl) rfl (fun w' => Ext _ w') (Ext.drawn _) (VQ.op (fun wq eq => R.mvS rfl) (VQ.op (fun wq eq => R.mvI rfl) (VQ.op (fun wq eq => R.ixS Try.runUnderlying27 Try.sizeOf48 rfl rfl (by omega) (by omega) (hsome)) (VQ.op (fun wq eq => R.ldA Try.isAgg48 Try.sizeOf48 rfl rfl ((Srt.rowCut (hJ.s.ext eq) (q := k2) hcapk (by omega))) rfl) (VQ.op (fun wq eq => R.mvS rfl) (VQ.op (fun wq eq => R.mvI rfl) (VQ.op (fun wq eq => R.subE (z := ((k2 - 1 : Nat) : Int)) rfl rfl (by omega) (by omega) (by omega)) (VQ.op (fun wq eq => R.ixS Try.runUnderlying27 Try.sizeOf48 rfl rfl (by omega) (by omega) (hsome)) (VQ.op (fun wq eq => R.ldA Try.isAgg48 Try.sizeOf48 rfl rfl ((Srt.rowCut (hJ.s.ext eq) (q := k2 - 1) hcapk (by omega))) rfl) (VQ.op (fun wq eq => R.neqK key48 Try.eqGuardType48 encP_agg (d2[k + k2]!) (d2[k + (k2 - 1)]!) rfl rfl) (VQ.nil fun w11q e11q => VL.nil (V.condP rfl (fun c44 => V.seq (V.region (VL.op (R.mvS rfl) (VL.op (R.mvI rfl) (VL.op (R.mvS rfl) (VL.op (R.mvI rfl) (VL.op (R.ixS Try.runUnderlying27 Try.sizeOf48 rfl rfl (by omega) (by omega) (hsome)) (VL.op (R.ldA Try.isAgg48 Try.sizeOf48 rfl rfl ((Srt.rowCut (hJ.s.ext e11q) (q := k2) hcapk (by omega))) rfl) (VL.op (R.ixS Try.runUnderlying27 Try.sizeOf48 rfl rfl (by omega) (by omega) hJ.s.ad) (VL.storeSt elt Try.sizeOf48 (hJ.s.ext e11q) rfl (i := (cpK l (k + k2)).length) rfl (by omega) rfl fun w12 hs12 => VL.nil (V.region (VL.op (R.mvI rfl) (VL.op (R.add rfl rfl (by omega) (by omega)) (VL.op (R.asI rfl) (VL.nil (V.region (VL.op (R.mvI rfl) (VL.op (R.add rfl rfl (by omega) (by omega)) (VL.op (R.asI rfl) (VL.nil (?_))))))))))))))))))))) (fun c44 => V.skip (V.region (VL.op (R.mvI rfl) (VL.op (R.add rfl rfl (by omega) (by omega)) (VL.op (R.asI rfl) (VL.nil (?_)))))))))))))))))))))))) (fun c32 => V.exit (?_))))))))))
      · have hnew : cpK l (k + (k2 + 1)) = cpK l (k + k2) ++ [l.getD (k + k2) default] := by
          rw [show k + (k2 + 1) = k + k2 + 1 by omega, cpK, if_pos]
          right
          rw [← hv1 (by omega), show k + k2 - 1 = k + (k2 - 1) by omega, ← hv2 (by omega)]
          exact c44
        have hlen : (cpK l (k + (k2 + 1))).length = (cpK l (k + k2)).length + 1 := by rw [hnew]; simp
        refine ⟨(k2 + 1, d2.setIfInBounds (cpK l (k + k2)).length d2[k + k2]!), by dsimp only; rw [hlen]; rfl, ⟨by dsimp only; omega, by dsimp only; omega, ⟨hs12, by simp [hsz], fun q hq => ?_, fun q h1 h2 => ?_⟩⟩, by dsimp only; omega⟩
        · dsimp only at hq ⊢
          rw [hlen] at hq
          by_cases hqe : q = (cpK l (k + k2)).length
          · subst hqe
            rw [getElem!_pos _ _ (by simp; omega), Array.getElem_setIfInBounds_self, hv1 (by omega), hnew]
            simp [List.getD]
          · rw [getElem!_pos _ q (by simp; omega), Array.getElem_setIfInBounds_ne (by omega) (Ne.symm hqe), ← getElem!_pos d2 q (by omega), hJ.lo q (by omega), hnew]
            simp [List.getD, List.getElem?_append_left (show q < (cpK l (k + k2)).length by omega)]
        · dsimp only at h1 ⊢
          rw [getElem!_pos _ q (by simp; omega), Array.getElem_setIfInBounds_ne (by omega) (by omega), ← getElem!_pos d2 q (by omega)]
          exact hJ.hi q (by omega) h2
      · have hnew : cpK l (k + (k2 + 1)) = cpK l (k + k2) := by
          rw [show k + (k2 + 1) = k + k2 + 1 by omega, cpK, if_neg]
          rintro (h | h)
          · omega
          · rw [← hv1 (by omega), show k + k2 - 1 = k + (k2 - 1) by omega, ← hv2 (by omega)] at h
            exact c44 h
        refine ⟨(k2 + 1, d2), by dsimp only; rw [hnew]; rfl, ⟨by dsimp only; omega, by dsimp only; omega, ⟨hJ.s.ext e11q, hsz, fun q hq => ?_, fun q h1 h2 => ?_⟩⟩, by dsimp only; omega⟩
        · dsimp only at hq ⊢
          rw [hnew] at hq ⊢
          exact hJ.lo q hq
        · dsimp only at h1
          exact hJ.hi q (by omega) h2
      · have hme : k + k2 = d.size := by omega
        rw [hme] at hJ ⊢
        exact ⟨d2, rfl, hJ⟩
    · have hlt : (cpK l d.size).length < d.size := hshort d.size (by omega)
      have hsz := hBB2.sz
      have hs2 := hBB2.s
      refine V.region (VL.op (R.mvS rfl) (VL.op (R.mvI rfl) (VL.op (R.slLo Try.runUnderlying27 Try.sizeOf48 rfl rfl (by omega) (by omega)) (VL.clearS eltPr Try.runUnderlying27 Try.zeroValue48 rfl rfl (hs2) rfl (by rw [hsz, hll]; omega) (Or.inl (by omega)) fun w14 d3 hz3 hq3 hs3 => VL.nil (V.seq (V.region (VL.op (R.mvS rfl) (VL.op (R.mvI rfl) (VL.op (R.slHi Try.runUnderlying27 Try.sizeOf48 rfl rfl (by omega) (by omega)) (VL.op (R.asS rfl) (VL.nil (V.ret (fret1 (v := .slice _ _ _) rfl rfl rfl (?_))))))))))))))
      have hcl : (cpF l).length = (cpK l d.size).length := by unfold cpF; rw [hll]
      refine ⟨d3, ?_, hs3, ?_⟩
      · rw [hcl, ha, cutA0]; rfl
      · refine List.ext_getElem (by rw [hcl]; simpa using hz3) fun q h1 h2 => ?_
        have h3 : q < (cpK l d.size).length := by rw [← hcl]; exact h2
        have h4 := hBB2.lo q h3
        rw [← hq3 q h3, getElem!_pos d3 q (by simpa using h1)] at h4
        have h5 : d3.toList[q] = d3[q]'(by simpa using h1) := by simp
        rw [h5, h4]
        unfold cpF
        simp only [hll]
        simp [List.getD, h3]
  · intro j h1 h2
    by_cases hjk : j = k
    · subst hjk; rw [hget, hget]; exact c25
    · exact hne j h1 (by omega)
  · have hkn : k = d.size := by omega
    have h1 : cpF l = l := by
      unfold cpF
      rw [cpK_take l l.length (Nat.le_refl _) (fun j h1 h2 => hne j h1 (by omega)), List.take_length]
    exact ⟨d, by rw [h1, hll], hs.ext e, by rw [h1, hl]⟩
end Go.Proofs.Ytlefkkelohhnkaa
