/- Bond: the walk of split. -/
import Derived.Test.YtlefkkelohhnkaaB12
import Derived.Test.YtlefkkelohhnkaaB5
namespace Go.Proofs.Ytlefkkelohhnkaa
open Go.Vc

/-- The heads when some pairs have been joined. -/
def hdF : List (Nat × Nat) → Nat → Nat → Nat
  | _, 0, j => j
  | es, i + 1, j => if hdF es i j = max (hdF es i (es.getD i (0, 0)).1) (hdF es i (es.getD i (0, 0)).2) then min (hdF es i (es.getD i (0, 0)).1) (hdF es i (es.getD i (0, 0)).2) else hdF es i j
def prs (es : List (Nat × Nat)) (i : Nat) : List (Int × Int) := (es.take i).map fun p => mkP (p.1 : Nat) (p.2 : Nat)
theorem prs_succ (es : List (Nat × Nat)) (i : Nat) {p : Nat × Nat} (h : es[i]? = some p) : prs es (i + 1) = prs es i ++ [mkP (p.1 : Nat) (p.2 : Nat)] := by
  obtain ⟨hi, e⟩ := List.getElem?_eq_some_iff.1 h
  unfold prs
  rw [List.take_succ_eq_append_getElem hi, List.map_append, e]; rfl
theorem ev_lt {recs : List Rec} {kind : Int} {l : List Dec} {i : Nat} {p : Nat × Nat} (h : (evs recs kind l)[i]? = some p) : p.1 < recs.length ∧ p.2 < recs.length := by
  have := List.mem_of_getElem? h
  unfold evs at this
  obtain ⟨d, _, hd⟩ := List.mem_filterMap.1 this
  unfold ev at hd
  split at hd
  · rename_i hh
    injection hd with hd
    subst hd
    have h1 := idxF_lt recs d.a
    have h2 := idxF_lt recs d.b
    dsimp only; omega
  · cases hd
/-- The classes while they are joined. -/
structure JnS (es : List (Nat × Nat)) (n B : Nat) (a : Option Addr) (cap i : Nat) (c : List Int) (w : World) : Prop where
  own : OwnT encI 1 3 B w a cap c
  cls : Cls c
  len : c.length = n
  root : ∀ j, j < n → rootF c j = hdF es i j
/-- The pairs while they are gathered. -/
structure GaS (es : List (Nat × Nat)) (b B i : Nat) (x : Option Addr × Nat) (w : World) : Prop where
  cell : Blk w b (.cells #[.slice x.1 (prs es i).length x.2] 27 (0, 0))
  own : OwnT encPr 2 48 B w x.1 x.2 (prs es i)
  lt : b < B
theorem gather_spec (es : List (Nat × Nat)) (b B i : Nat) (x : Option Addr × Nat) (w : World) (p : Nat × Nat) (hp : es[i]? = some p) (hS : GaS es b B i x w) (hm : es.length ≤ 1000000) (hB : B ≤ w.heap.size) :
    RetsY Try.prog 40 #[.int .i64 (p.1 : Nat), .int .i64 (p.2 : Nat), .pointer (some ⟨b, 0, none⟩)] w (fun _ : Option Addr × Nat => .tuple #[]) (fun x' w' => GaS es b B (i + 1) x' w' ∧ Vc.Mod (fun k => k = b ∨ aBlk x.1 k) w w' ∧ ∀ k, (k = b ∨ aBlk x'.1 k) → (k = b ∨ aBlk x.1 k) ∨ w.heap.size ≤ k) := by
  have hi : i < es.length := (List.getElem?_eq_some_iff.1 hp).1
  have hl : (prs es i).length ≤ 1000000 := by unfold prs; simp; omega
  refine enter (args := [_, _, _]) Try.func40 rfl Try.ntmps40 (by kernel_rfl) rfl ?_
  refine V.region (VL.op (R.ld1 Try.isAgg27 rfl (hS.cell.cell 0)) (VL.op (R.mvI rfl) (VL.op (R.mvI rfl) (VL.op (R.min rfl rfl) (VL.op (R.mvI rfl) (VL.op (R.mvI rfl) (VL.op (R.max rfl rfl) (VL.op (R.buildArr Try.zeroValue48 Try.runUnderlying48 Try.sizeOf3 rfl) (VL.append1 el27 Try.runUnderlying27 Try.sizeOf48 Try.zeroValue48 rfl (mkP (p.1 : Nat) (p.2 : Nat)) rfl rfl rfl hS.own rfl rfl rfl (by omega) (by unfold maxLen; omega) hB fun a3 c3 w3 vt3 ho3 m3 hf3 => VL.store (v := .slice _ _ _) Try.sizeOf27 rfl rfl rfl rfl (hS.cell.mod m3 (fun h => by have := hS.own.ge _ h; have := hS.lt; omega)) rfl rfl fun w4 m4 s4 hB4 => VL.nil (fend0 rfl (?_)))))))))))
  have hn := prs_succ es i hp
  have hln : (prs es (i + 1)).length = (prs es i).length + 1 := by rw [hn]; simp
  refine ⟨(a3, c3), rfl, ⟨by rw [hln]; exact hB4, ?_, hS.lt⟩, ?_, ?_⟩
  · rw [hn]
    exact ho3.mod m4 fun k h1 h2 => by
      have h2 : k = b := h2
      rcases hf3 k h1 with h | h
      · have := hS.own.ge k h; have := hS.lt; omega
      · have := hS.cell.lt; omega
  · exact (m3.weaken fun k _ h => .inr h).then m4 fun k _ h => .inl h
  · rintro k (h | h)
    · exact .inl (.inl h)
    · rcases hf3 k h with h | h
      · exact .inl (.inr h)
      · exact .inr h
theorem el49 : ElT Try.prog 49 3 1 8 (Try.t3.zero.getD undef) := ⟨Try.underlying49, ⟨_, by unfold Tables.info?; rw [if_pos (by rw [Try.types_size]; decide)]; exact Try.type3, rfl, rfl, rfl⟩, rfl, by decide⟩
theorem evs_len (recs : List Rec) (kind : Int) (l : List Dec) : (evs recs kind l).length ≤ l.length := List.length_filterMap_le _ _
theorem join_step (es : List (Nat × Nat)) (n B i : Nat) (a : Option Addr) (cap : Nat) (c : List Int) (w : World) (p : Nat × Nat) (hp : es[i]? = some p) (h : JnS es n B a cap i c w) (hm : n ≤ 1000000) (hl : p.1 < n ∧ p.2 < n) :
    RetsY Try.prog 39 #[.slice a n cap, .int .i64 (p.1 : Nat), .int .i64 (p.2 : Nat)] w (fun _ : List Int => .tuple #[]) (fun c' w' => JnS es n B a cap (i + 1) c' w' ∧ Vc.Mod (aBlk a) w w' ∧ w'.heap.size = w.heap.size) := by
  obtain ⟨ho, hc, hcl, hr⟩ := h
  subst hcl
  refine Rets.mono (join_spec a cap B c p.1 p.2 w ho hc hl.1 hl.2 hm) ?_
  rintro u w' ⟨d, rfl, ho', hj, m, hs⟩
  refine ⟨d, rfl, ⟨ho', hj.cls, hj.len, fun j hjn => ?_⟩, m, hs⟩
  rw [hj.root j hjn, hr j hjn, hr _ hl.1, hr _ hl.2]
  show _ = hdF es (i + 1) j
  have e : es.getD i (0, 0) = p := by simp [List.getD, hp]
  rw [hdF, e]
/-- The classes and the pairs that split returns. -/
structure SplitR (recs : List Rec) (l : List Dec) (B : Nat) (x : (Option Addr × Nat) × (Option Addr × Nat)) (w : World) : Prop where
  cls : ∃ c, JnS (evs recs 1 (effL l)) recs.length B x.1.1 x.1.2 (evs recs 1 (effL l)).length c w
  prs : OwnT encPr 2 48 B w x.2.1 x.2.2 (prs (evs recs 2 (effL l)) (evs recs 2 (effL l)).length)
  sep : Sep x.1.1 x.2.1
set_option maxRecDepth 100000 in
set_option maxHeartbeats 4000000 in
theorem split_spec (recs : List Rec) (l : List Dec) (ra la : Option Addr) (rc lc : Nat) (w : World) (hm1 : recs.length ≤ 1000000) (hm2 : l.length ≤ 1000000) (hR : RecSl w ra recs) (hL : DecSl w la l) :
    RetsX Try.prog 26 #[.slice ra recs.length rc, .slice la l.length lc] w (fun x : (Option Addr × Nat) × (Option Addr × Nat) => .tuple #[.slice x.1.1 recs.length x.1.2, .slice x.2.1 (prs (evs recs 2 (effL l)) (evs recs 2 (effL l)).length).length x.2.2]) (fun x w' => SplitR recs l w.heap.size x w') := by
  refine enter (args := [_, _]) Try.func26 rfl Try.ntmps26 (by kernel_rfl) rfl ?_
  refine V.seq (V.region (VL.op (R.asS rfl) (VL.op (R.asS rfl) (VL.nil (V.seq (V.region (VL.op (R.mvS rfl) (VL.op (R.lenS Try.runUnderlying22 rfl) (VL.makeSl (enc := encI ) el49 ( (0 : Int)) rfl rfl rfl (by omega) (by unfold maxLen; omega) (Nat.le_refl _) fun b1 w1 hb1 e1 ho1 => VL.op (R.asS rfl) (VL.nil (V.cut [0, 1, 6] (fun _ : Unit => [.slice ra recs.length rc, .slice la l.length lc, .slice (some ⟨b1, 0, none⟩) recs.length recs.length]) (fun _ w' => Ext w w' ∧ ∃ c, OwnT encI 1 3 w.heap.size w' (some ⟨b1, 0, none⟩) recs.length c ∧ c.length = recs.length ∧ ∀ j, j < recs.length → c.getD j default = (j : Int)) (V.seq (V.region (VL.op (R.mvS rfl) (VL.op (R.lenS Try.runUnderlying49 rfl) (VL.op (R.mvI rfl) (VL.nil (V.block (?_)))))))) (fun rgB0 xB0 wBB0 hBB0 => V.seq (?_)))))))))))))
  · refine V.loop [0, 1, 6, 13, 14, 15] (fun k : Nat => [.slice ra recs.length rc, .slice la l.length lc, .slice (some ⟨b1, 0, none⟩) recs.length recs.length, .slice (some ⟨b1, 0, none⟩) recs.length recs.length, .int .i64 recs.length, .int .i64 (k : Nat)])
      (fun k w' => k ≤ recs.length ∧ Ext w w' ∧ ∃ c, OwnT encI 1 3 w.heap.size w' (some ⟨b1, 0, none⟩) recs.length c ∧ c.length = recs.length ∧ ∀ j, j < k → c.getD j default = (j : Int)) (fun k => recs.length - k) 0 rfl ⟨Nat.zero_le _, e1, _, ho1, by simp, fun j h => absurd h (Nat.not_lt_zero j)⟩ ?_
    rintro ρ k w2 ⟨hk, e, c, ho, hcl, hcv⟩
    refine V.seq (V.region (VL.op (R.lss rfl rfl) (VL.nil (V.seq (V.condP rfl (fun c16 => V.skip (V.seq (V.block (V.seq (V.region (VL.op (R.mvI rfl) (VL.op (R.asI rfl) (VL.nil (V.region (VL.op (R.mvS rfl) (VL.op (R.mvI rfl) (VL.op (R.mvI rfl) (VL.op (R.ixS Try.runUnderlying49 Try.sizeOf3 rfl rfl (by omega) (by omega) ⟨_, _, rfl⟩) (VL.ownSt eltI (v := .int _ _) Try.sizeOf3 (ho) k 0 ((k : Nat) : Int) rfl rfl (by omega) rfl rfl rfl rfl rfl fun w5 ho5 m5 hs5 => VL.nil (V.region (VL.op (R.add rfl rfl (by omega) (by omega)) (VL.op (R.mvI rfl) (VL.nil (⟨k + 1, rfl, ⟨by omega, (Mod.ownA e m5 (fun k hk => (OwnSl.blk ho k hk).1)), _, ho5, by simp [hcl], ?_⟩, by omega⟩))))))))))))))))))) (fun c16 => V.exit (?_)))))))
    · intro j hj
      by_cases hjk : j = k
      · subst hjk; simp [List.getD, show j < c.length by omega]
      · have := hcv j (by omega)
        simpa [List.getD, List.getElem?_set, Ne.symm hjk] using this
    · have hkn : k = recs.length := by omega
      subst hkn
      exact ⟨(), rfl, e, c, ho, hcl, hcv⟩
  obtain ⟨e0, c0, ho0, hc0l, hc0v⟩ := hBB0
  have hls := evs_len recs 1 (effL l)
  have hls2 := evs_len recs 2 (effL l)
  have hel := effK_len l l.length
  have hel : (effL l).length ≤ l.length := hel
  have hcls0 : Cls c0 := fun i hi => by rw [hc0v i (by omega)]; omega
  have hpar0 : ∀ j, j < recs.length → par c0 j = j := fun j hj => by unfold par; rw [hc0v j hj]; rfl
  have hJ0 : JnS (evs recs 1 (effL l)) recs.length w.heap.size (some ⟨b1, 0, none⟩) recs.length 0 c0 wBB0 := ⟨ho0, hcls0, hc0l, fun j hj => rootF_self hcls0 (by omega) (hpar0 j hj)⟩
  have hRr : RecSl wBB0 ra recs := hR.ext e0
  refine V.region (VL.op (R.mvS rfl) (VL.callX Try.call16 rfl (effective_spec la lc l _ hm2 (hL.ext (e0.trans (Mod.refl _ _)))) fun y w7 ⟨hF, hFf⟩ e7 => VL.op (R.asS rfl) (VL.nil (V.seq (?_)))))
  have hJ0 : JnS (evs recs 1 (effL l)) recs.length w.heap.size (some ⟨b1, 0, none⟩) recs.length 0 c0 w7 := ⟨hJ0.own.ext e7, hJ0.cls, hJ0.len, hJ0.root⟩
  have E7 := e0.trans e7
  have hR7 := hR.ext E7
  have hb1w : b1 = w.heap.size := hb1
  have hb1' : b1 < wBB0.heap.size := by have := (hJ0.own.lt b1 ⟨_, rfl, rfl⟩); have := e1.size; have := ho0.lt b1 ⟨_, rfl, rfl⟩; omega
  have hTe : (fun k => k = b1) = aBlk (some ⟨b1, 0, none⟩) := by funext k; exact propext ⟨fun h => ⟨_, rfl, h.symm⟩, fun ⟨ad, h, h2⟩ => by injection h with h; subst h; exact h2.symm⟩
  have hs1 := each_spec (S := fun i c w' => JnS (evs recs 1 (effL l)) recs.length w.heap.size (some ⟨b1, 0, none⟩) recs.length i c w') (T := fun _ => aBlk (some ⟨b1, 0, none⟩)) 39 [.slice (some ⟨b1, 0, none⟩) recs.length recs.length] [] recs (effL l) 1 ra y.1 rc y.2 w7 c0 Try.call39
    (fun i x w w' h e => ⟨h.own.ext e, h.cls, h.len, h.root⟩)
    (fun i c w' p hp h => Rets.mono (join_step _ _ _ _ _ _ c w' p hp h hm1 (ev_lt hp)) fun u w'' ⟨c', hu, h1, h2, h3⟩ => ⟨c', hu, h1, h2, fun k hk => .inl hk⟩) hJ0 hR7 hF (fun _ k hk h => by rw [← hTe] at h; have := hFf k hk; omega) (fun k hk => hJ0.own.lt k hk) hm1 (by omega)
  refine V.region (VL.op (R.mvS rfl) (VL.op (R.mvS rfl) (VL.op (R.mvS rfl) (VL.op (R.mkFn rfl rfl) (VL.callY Try.call38 rfl (hs1) fun c8 w8 ⟨hJ8, m8, _⟩ => VL.nil (V.seq (V.region (VL.alloc Try.zeroValue27 fun b9_0 w9_0 hb9_0 e9_0 hB9_0 => VL.nil (V.seq (?_))))))))))
  have hge : ∀ k, aBlk y.1 k → ¬ aBlk (some ⟨b1, 0, none⟩) k := fun k hk h => by rw [← hTe] at h; have := hFf k hk; omega
  have E8 : Ext w w8 := Mod.ownA E7 m8 fun k hk => hJ0.own.ge k hk
  have E9 : Ext w w9_0 := E8.trans e9_0
  have hS9 := w8.heap.size
  have hs78 : w7.heap.size ≤ w8.heap.size := m8.size
  have hs89 : w8.heap.size ≤ w9_0.heap.size := e9_0.size
  have hlt9 := hB9_0.lt
  have hb1lt := hJ0.own.lt b1 ⟨_, rfl, rfl⟩
  have hw0 := e0.size
  have hF8 : DecSl w8 y.1 (effL l) := hF.mod m8 fun ad had h => hge ad.block ⟨ad, had, rfl⟩ h
  have hJ9 := hJ8.own.ext e9_0
  have hG0 : GaS (evs recs 2 (effL l)) b9_0 w9_0.heap.size 0 (none, 0) w9_0 := ⟨hB9_0, OwnT.nil encPr 2 48 _ w9_0, hlt9⟩
  have hs2 := each_spec (S := fun i x w' => w9_0.heap.size ≤ w'.heap.size ∧ GaS (evs recs 2 (effL l)) b9_0 w9_0.heap.size i x w') (T := fun x k => k = b9_0 ∨ aBlk x.1 k) 40 [] [.pointer (some ⟨b9_0, 0, none⟩)] recs (effL l) 2 ra y.1 rc y.2 w9_0 (none, 0) Try.call40
    (fun i x w w' h e => ⟨Nat.le_trans h.1 e.size, h.2.cell.ext e, h.2.own.ext e, h.2.lt⟩)
    (fun i x w' p hp h => Rets.mono (gather_spec _ b9_0 _ i x w' p hp h.2 (by omega) h.1) fun u w'' ⟨c', hu, h1, h2, h3⟩ => ⟨c', hu, ⟨Nat.le_trans h.1 h2.size, h1⟩, h2, h3⟩) ⟨Nat.le_refl _, hG0⟩ (hR.ext E9) (hF8.ext e9_0) (fun h0 k hk h => by
      rcases h with h | ⟨ad, h, _⟩
      · obtain ⟨ad, h1, h2⟩ := hk
        have := hF8.lt h0
        rw [h1] at this
        have : ad.block < w8.heap.size := this
        omega
      · cases h) (fun k hk => by
      rcases hk with h | ⟨ad, h, _⟩
      · omega
      · cases h) hm1 (by omega)
  refine V.region (VL.op (R.mvS rfl) (VL.op (R.mvS rfl) (VL.op (R.mkFn rfl rfl) (VL.callY Try.call38 rfl (hs2) fun x10 w10 ⟨⟨hs10, hG⟩, m10, hT10⟩ => VL.nil (V.seq (V.regionQ mixed 4 (by kernel_rfl) rfl (fun w' => Ext _ w') (Ext.drawn _) (VQ.op (fun wq eq => R.mvS rfl) (VQ.op (fun wq eq => R.ld1 Try.isAgg27 rfl ((hG.cell.ext eq).cell 0)) (VQ.op (fun wq eq => R.asS rfl) (VQ.op (fun wq eq => R.asS rfl) (VQ.nil fun w11q e11q => VL.nil (V.ret (fret2 (v := .slice _ _ _) (x := .slice _ _ _) rfl rfl rfl rfl rfl (?_))))))))))))))
  have hJ10 := hJ9.mod m10 fun k hk h => by
    rw [← hTe] at hk
    rcases h with h | ⟨ad, h, _⟩
    · omega
    · cases h
  refine ⟨((some ⟨b1, 0, none⟩, recs.length), x10), rfl, ?_, ?_⟩
  · refine ⟨⟨c8, ⟨hJ10.ext e11q, hJ8.cls, hJ8.len, hJ8.root⟩⟩, (hG.own.ext e11q).weaken (by omega), fun k hk h => ?_⟩
    rw [← hTe] at hk
    have := hG.own.ge k h
    omega
  · refine (Mod.ownA E9 m10 fun k hk => ?_).trans e11q
    have := E8.size
    rcases hk with h | ⟨ad, h, _⟩
    · omega
    · cases h
end Go.Proofs.Ytlefkkelohhnkaa
