/- Golden: the fifth law (splits). -/
import Derived.Test.YtckihgamnmmbnaaM6
namespace Go.Proofs.Ytckihgamnmmbnaa
open Go.Vc Go.Sort

theorem take_one {α : Type} [Inhabited α] {l : List α} {k : Nat} (h : k < l.length) : (l.drop k).take 1 = [l.getD k default] := by
  rw [List.drop_eq_getElem_cons h, gget h]; rfl
theorem cutA_zero (a : Option Addr) (s c : Nat) : cutA a s 0 c = a := by
  unfold cutA
  split
  · rfl
  · rw [Nat.zero_mul]
    cases a with
    | none => rfl
    | some ad => show some (ad.add 0) = _; rfl
theorem off_le (s : Set_) (recs : List Rec) (L : List Int) {pre post : List Int} (h : hsF s recs L = pre ++ post) : off s recs L pre ≤ (allF s recs L).length := by
  unfold off allF
  rw [h, List.flatMap_append]; simp
set_option maxRecDepth 100000 in
set_option maxHeartbeats 8000000 in
theorem law7_spec (s : Set_) (recs : List Rec) (L : List Int) (ra la : Option Addr) (rc lc : Nat) (w : World) (hi : InOk s recs) (hl : L.length ≤ 9223372036854775807) (hS : SetW w s) (hR : RecsW w ra recs) (hL : IntSl w la L) :
    RetsP Try.prog 7 #[.agg (encSet s).toArray, .slice ra recs.length rc, .slice la L.length lc] w (.bool true) := by
  refine enter (args := [_, _, _]) Try.func7 rfl Try.ntmps7 (by kernel_rfl) rfl ?_
  refine V.seq (V.region (VL.box (v := .agg _) rfl fun b1 w1 hb1 e1 hX1 => VL.op (R.asB rfl) (VL.nil (V.seq (V.region (VL.callP Try.call9 rfl (head_spec _) fun w1_0 e1_0 => VL.op (R.asB rfl) (VL.nil (V.seq (V.seq (V.region (VL.op (R.ldA Try.isAgg32 Try.sizeOf32 rfl rfl ((show RowAt _ _ _ (encSet s) from (hX1.ext e1_0).rowAt 0 7)) rfl) (VL.op (R.mvS rfl) (VL.callX Try.call10 rfl (few_spec s recs ra rc 40 _ (hS.ext (e1.trans e1_0)) (hR.ext (e1.trans e1_0)) hi.nt hi.na hi.nr) fun few w2 hf e2 => VL.op (R.not rfl) (VL.op (R.mvB rfl) (VL.or rfl rfl (fun g2_4 => VL.op (R.mvS rfl) (VL.gT rfl rfl (VL.op (R.lenS Try.runUnderlying34 rfl) (VL.gT rfl rfl (VL.op (R.gtr rfl rfl) (VL.op (R.pickFB rfl rfl) (VL.nil (V.condP rfl (fun c29 => V.seq (?_)) (fun c29 => V.skip (V.seq (V.seq (?_)))))))))))) (fun g2_4 => VL.gF rfl rfl (VL.gF rfl rfl (VL.op (R.pickTB rfl rfl) (VL.nil (V.condT rfl (V.seq (?_))))))))))))))))))))))
  · refine V.region (VL.op (R.mvB rfl) (VL.op (R.asB rfl) (VL.nil (V.ret (fret1 (v := .bool _) rfl rfl rfl (⟨rfl, e1.trans (e1_0.trans e2)⟩))))))
  · have hfo := hf (by simpa using g2_4)
    have hsL := hfo.small (L := L) (by omega)
    have E2 := e1.trans (e1_0.trans e2)
    have hS := hS.ext E2
    have hR := hR.ext E2
    have hL := hL.ext E2
    have hX := hX1.ext (e1_0.trans e2)
    have hnk := hfo.nk
    have hnr := hfo.nr
    refine V.region (VL.op (R.asI rfl) (VL.nil (V.block (?_))))
    refine V.loop [1, 2, 3, 7, 8] (fun k : Nat => [.slice ra recs.length rc, .slice la L.length lc, .pointer (some ⟨b1, 0, none⟩), .bool true, .int .i64 (k : Nat)]) (fun k w' => k ≤ s.keeps.length ∧ (∀ i, i < k → 1 ≤ (s.keeps.getD i default).by_ ∧ (s.keeps.getD i default).by_ ≤ 6) ∧ Ext w2 w') (fun k => s.keeps.length - k) 0 rfl ⟨by omega, fun i h => absurd h (Nat.not_lt_zero i), Mod.refl _ _⟩ ?_
    rintro ρ k w3 ⟨hk, hik, e3⟩
    have hX3 := hX.ext e3
    have hS3 := hS.ext e3
    refine V.seq (V.seq (V.region (VL.op (R.mvI rfl) (VL.op (R.fld' (o := 4) Try.runUnderlying32 rfl rfl Try.sizeOf28 rfl rfl) (VL.op (R.ld1 Try.isAgg28 rfl (((hX3.ext (Mod.refl _ _)).cell 4))) (VL.op (R.lenS Try.runUnderlying28 rfl) (VL.op (R.lss rfl rfl) (VL.nil (V.condP rfl (fun c35 => V.skip (V.seq (V.block (V.seq (?_))))) (fun c35 => V.exit (V.seq (V.seq (?_)))))))))))))
    · have hkl : k < s.keeps.length := by omega
      refine V.regionCut [38, 39, 40, 41, 42, 43, 44, 45, 46, 47, 48, 49, 50, 51, 52, 53] 53 (.bool (!decide (1 ≤ (s.keeps.getD k default).by_ ∧ (s.keeps.getD k default).by_ ≤ 6))) (fun w' => Ext _ w') rfl (VL.op (R.fld' (o := 4) Try.runUnderlying32 rfl rfl Try.sizeOf28 rfl rfl) (VL.op (R.ld1 Try.isAgg28 rfl (((hX3.ext (Mod.refl _ _)).cell 4))) (VL.op (R.mvI rfl) (VL.op (R.ixS Try.runUnderlying28 Try.sizeOf62 rfl rfl (by omega) (by omega) ((hS3.keeps).some (i := k) (by omega))) (VL.op (R.fld' (o := 2) Try.runUnderlying62 rfl rfl Try.sizeOf3 rfl rfl) (VL.op (R.ld1 Try.isAgg3 rfl (((((hS3.keeps).ext (Mod.refl _ _)).row (i := k) (by omega)).cell (i := 2) rfl))) (VL.op (R.lss rfl rfl) (VL.op (R.mvB rfl) (VL.orP rfl rfl (fun g7_7 => VL.op (R.fld' (o := 4) Try.runUnderlying32 rfl rfl Try.sizeOf28 rfl rfl) (VL.gT rfl rfl (VL.op (R.ld1 Try.isAgg28 rfl (((hX3.ext (Mod.refl _ _)).cell 4))) (VL.gT rfl rfl (VL.op (R.mvI rfl) (VL.gT rfl rfl (VL.op (R.ixS Try.runUnderlying28 Try.sizeOf62 rfl rfl (by omega) (by omega) ((hS3.keeps).some (i := k) (by omega))) (VL.gT rfl rfl (VL.op (R.fld' (o := 2) Try.runUnderlying62 rfl rfl Try.sizeOf3 rfl rfl) (VL.gT rfl rfl (VL.op (R.ld1 Try.isAgg3 rfl (((((hS3.keeps).ext (Mod.refl _ _)).row (i := k) (by omega)).cell (i := 2) rfl))) (VL.gT rfl rfl (VL.op (R.gtr rfl rfl) (VL.op (R.pickFB rfl rfl) (VL.nil ⟨rfl, cutB rfl ?_, Mod.refl _ _⟩))))))))))))))) (fun g7_7 => VL.gF rfl rfl (VL.gF rfl rfl (VL.gF rfl rfl (VL.gF rfl rfl (VL.gF rfl rfl (VL.gF rfl rfl (VL.op (R.pickTB rfl rfl) (VL.nil ⟨rfl, cutB rfl ?_, Mod.refl _ _⟩))))))))))))))))) (fun rg7 w7c e7c => V.cond rfl (fun c53 => V.seq (V.region (VL.op (R.mvB rfl) (VL.op (R.asB rfl) (VL.nil (V.ret (fret1 (v := .bool _) rfl rfl rfl (⟨rfl, E2.trans (e3.trans e7c)⟩)))))))) (fun c53 => V.skip (V.region (VL.op (R.mvI rfl) (VL.op (R.add rfl rfl (by omega) (by omega)) (VL.op (R.asI rfl) (VL.nil (⟨k + 1, rfl, ⟨by omega, fun i h => ?_, e3.trans e7c⟩, by omega⟩))))))))
      · by_cases h : 6 < (s.keeps.getD k default).by_
        · rw [decide_eq_true h, decide_eq_false (by omega)]; rfl
        · rw [decide_eq_false h, decide_eq_true (by omega)]; rfl
      · rw [decide_eq_false (by omega)]; rfl
      · by_cases e : i = k
        · subst e; simpa using c53
        · exact hik i (by omega)
    · have hkl : k = s.keeps.length := by omega
      subst hkl
      have hR3 := hR.ext e3
      refine V.region (VL.op (R.asI rfl) (VL.nil (V.block (?_))))
      refine V.loop [1, 2, 3, 7, 9] (fun r : Nat => [.slice ra recs.length rc, .slice la L.length lc, .pointer (some ⟨b1, 0, none⟩), .bool true, .int .i64 (r : Nat)]) (fun r w' => r ≤ recs.length ∧ (∀ i, i < r → ∀ c ∈ (recs.getD i default).cells, validV c.val = true) ∧ Ext w3 w') (fun r => recs.length - r) 0 rfl ⟨by omega, fun i h => absurd h (Nat.not_lt_zero i), Mod.refl _ _⟩ ?_
      rintro ρ2 r w4 ⟨hr, hir, e4⟩
      have hR4 := hR3.ext e4
      refine V.seq (V.seq (V.region (VL.op (R.mvI rfl) (VL.op (R.mvS rfl) (VL.op (R.lenS Try.runUnderlying33 rfl) (VL.op (R.lss rfl rfl) (VL.nil (V.condP rfl (fun c58 => V.skip (V.seq (V.block (V.seq (?_))))) (fun c58 => V.exit (V.seq (?_)))))))))))
      · have hrl : r < recs.length := by omega
        have hcl := hfo.nc _ (gmem hrl)
        refine V.region (VL.op (R.asI rfl) (VL.nil (V.block (?_))))
        refine V.loop [1, 2, 3, 7, 9, 10] (fun c : Nat => [.slice ra recs.length rc, .slice la L.length lc, .pointer (some ⟨b1, 0, none⟩), .bool true, .int .i64 (r : Nat), .int .i64 (c : Nat)]) (fun c w' => c ≤ (recs.getD r default).cells.length ∧ (∀ i, i < c → validV ((recs.getD r default).cells.getD i default).val = true) ∧ Ext w4 w') (fun c => (recs.getD r default).cells.length - c) 0 rfl ⟨by omega, fun i h => absurd h (Nat.not_lt_zero i), Mod.refl _ _⟩ ?_
        rintro ρ3 c w5 ⟨hc, hic, e5⟩
        have hR5 := hR4.ext e5
        have hrc := hR5.cell hrl
        refine V.seq (V.seq (V.region (VL.op (R.mvI rfl) (VL.op (R.mvS rfl) (VL.op (R.mvI rfl) (VL.op (R.ixS Try.runUnderlying33 Try.sizeOf53 rfl rfl (by omega) (by omega) ((hR5.sl).some (i := r) (by omega))) (VL.op (R.fld' (o := 5) Try.runUnderlying53 rfl rfl Try.sizeOf51 rfl rfl) (VL.op (R.ld1 Try.isAgg51 rfl (((((hR5.sl).ext (Mod.refl _ _)).row (i := r) (by omega)).cell (i := 5) rfl))) (VL.op (R.lenS Try.runUnderlying51 rfl) (VL.op (R.lss rfl rfl) (VL.nil (V.condP rfl (fun c68 => V.skip (V.seq (V.block (V.seq (?_))))) (fun c68 => V.exit (V.region (VL.op (R.mvI rfl) (VL.op (R.add rfl rfl (by omega) (by omega)) (VL.op (R.asI rfl) (VL.nil (⟨r + 1, rfl, ⟨by omega, fun i h => ?_, e4.trans e5⟩, by omega⟩)))))))))))))))))))
        · have hcc : c < (recs.getD r default).cells.length := by omega
          refine V.region (VL.op (R.mvS rfl) (VL.op (R.mvI rfl) (VL.op (R.ixS Try.runUnderlying33 Try.sizeOf53 rfl rfl (by omega) (by omega) ((hR5.sl).some (i := r) (by omega))) (VL.op (R.fld' (o := 5) Try.runUnderlying53 rfl rfl Try.sizeOf51 rfl rfl) (VL.op (R.ld1 Try.isAgg51 rfl (((((hR5.sl).ext (Mod.refl _ _)).row (i := r) (by omega)).cell (i := 5) rfl))) (VL.op (R.mvI rfl) (VL.op (R.ixS Try.runUnderlying51 Try.sizeOf57 rfl rfl (by omega) (by omega) ((hrc).some (i := c) (by omega))) (VL.op (R.fld' (o := 0) Try.runUnderlying57 rfl rfl Try.sizeOf55 rfl rfl) (VL.op (R.ldA Try.isAgg55 Try.sizeOf55 rfl rfl ((show RowAt _ _ _ (encVal ((recs.getD r default).cells.getD c default).val) from ((((hrc).ext (Mod.refl _ _)).row (i := c) (by omega)).sub 0 3 rfl))) rfl) (VL.allocSt (v := .agg (encVal ((recs.getD r default).cells.getD c default).val).toArray) Try.zeroValue55 Try.sizeOf55 rfl rfl rfl rfl rfl fun b15_9 w15_9 hb15_9 e15_9 hB15_9 => VL.nil (V.seq (V.region (VL.op (R.fld' (o := 0) Try.runUnderlying55 rfl rfl Try.sizeOf3 rfl rfl) (VL.op (R.ld1 Try.isAgg3 rfl ((hB15_9.cell _))) (VL.op (R.ldA Try.isAgg55 Try.sizeOf55 rfl rfl ((show RowAt _ _ _ (encVal ((recs.getD r default).cells.getD c default).val) from (hB15_9.rowAt 0 3))) rfl) (VL.callP Try.call19 rfl (fit_spec ((recs.getD r default).cells.getD c default).val _) fun w16_3 e16_3 => VL.op (R.not rfl) (VL.nil (V.cond rfl (fun c84 => V.seq (V.region (VL.op (R.mvB rfl) (VL.op (R.asB rfl) (VL.nil (V.ret (fret1 (v := .bool _) rfl rfl rfl (⟨rfl, E2.trans (e3.trans (e4.trans (e5.trans (e15_9.trans e16_3))))⟩)))))))) (fun c84 => V.skip (V.region (VL.op (R.mvI rfl) (VL.op (R.add rfl rfl (by omega) (by omega)) (VL.op (R.asI rfl) (VL.nil (⟨c + 1, rfl, ⟨by omega, fun i h => ?_, e5.trans (e15_9.trans e16_3)⟩, by omega⟩)))))))))))))))))))))))))
          by_cases e : i = c
          · subst e; simpa using c84
          · exact hic i (by omega)
        · by_cases e : i = r
          · subst e
            intro x hx
            obtain ⟨q, hq, rfl⟩ := List.getElem_of_mem hx
            have := hic q (by omega)
            rwa [gget hq] at this
          · exact hir i (by omega)
      · have hrl : r = recs.length := by omega
        subst hrl
        have hFit : FitOk s recs := ⟨fun x hx => by
          obtain ⟨q, hq, rfl⟩ := List.getElem_of_mem hx
          have := hik q (by omega)
          rwa [show s.keeps.getD q default = s.keeps[q] by simp [List.getD, hq]] at this, fun x hx => by
          obtain ⟨q, hq, rfl⟩ := List.getElem_of_mem hx
          have := hir q (by omega)
          rwa [show recs.getD q default = recs[q] by simp [List.getD, hq]] at this⟩
        have E4 := E2.trans (e3.trans e4)
        have hS4 := hS.ext (e3.trans e4)
        have hL4 := hL.ext (e3.trans e4)
        have hX4 := hX.ext (e3.trans e4)
        refine V.region (VL.op (R.ldA Try.isAgg32 Try.sizeOf32 rfl rfl ((show RowAt _ _ _ (encSet s) from (hX4.ext (Mod.refl _ _)).rowAt 0 7)) rfl) (VL.op (R.mvS rfl) (VL.op (R.mvS rfl) (VL.callX Try.call13 rfl (gfacts_spec s recs L ra la rc lc _ hsL (hS4.ext (Mod.refl _ _)) (hR4.ext (Mod.refl _ _)) (hL4.ext (Mod.refl _ _))) fun xc wc hc ec => VL.op (R.mvT rfl) (VL.op (R.extr rfl rfl) (VL.op (R.extr rfl rfl) (VL.op (R.asS rfl) (VL.op (R.asI rfl) (VL.nil (V.seq (V.seq (?_))))))))))))
        obtain ⟨lf, ac, cc⟩ := xc
        obtain ⟨hc, hcq⟩ := hc
        dsimp only at hc hcq ⊢
        refine V.region (VL.op (R.mvI rfl) (VL.op (R.neq rfl rfl) (VL.nil (V.condP rfl (fun c94 => V.seq (?_)) (fun c94 => V.skip (V.seq (?_)))))))
        · refine V.region (VL.op (R.mvB rfl) (VL.op (R.asB rfl) (VL.nil (V.ret (fret1 (v := .bool _) rfl rfl rfl (⟨rfl, E4.trans ec⟩))))))
        · have h0 : (resF s recs L).2 = 0 := Classical.not_not.1 c94
          obtain ⟨hE, hF, _⟩ := resF_ok h0
          rw [hF] at hcq
          have hlen := hE.len
          have hfl : lf.length = (allF s recs L).length := by have h1 := congrArg List.length hcq; rw [List.length_map] at h1; exact h1
          have hcl : lf.length ≤ 4000 := by omega
          have hC := fctL_of (L := L) hfo (by omega) hc (by rw [hF]; exact hcq)
          have hR6 := hR4.ext ec
          have hL6 := hL4.ext ec
          have E5 := E4.trans ec
          have hsm := hsL.nm
          refine V.region (VL.op (R.asI rfl) (VL.nil (V.seq (V.block (?_)))))
          refine V.loop [1, 2, 7, 12, 14] (fun pre : List Int => [.slice ra recs.length rc, .slice la L.length lc, .bool true, .slice ac lf.length cc, .int .i64 (off s recs L pre : Nat)]) (fun pre w' => (∃ post, hsF s recs L = pre ++ post) ∧ Ext wc w') (fun pre => (hsF s recs L).length - pre.length) [] rfl ⟨⟨_, rfl⟩, Mod.refl _ _⟩ ?_
          rintro ρ3 pre w5 ⟨⟨post, hpost⟩, e5⟩
          have hoff := off_le s recs L hpost
          refine V.seq (V.seq (V.region (VL.op (R.mvI rfl) (VL.op (R.mvS rfl) (VL.op (R.lenS Try.runUnderlying41 rfl) (VL.op (R.lss rfl rfl) (VL.nil (V.condP rfl (fun c99 => V.skip (V.block (V.seq (?_)))) (fun c99 => V.exit (V.seq (V.region (VL.op (R.mvB rfl) (VL.op (R.asB rfl) (VL.nil (V.ret (fret1 (v := .bool _) rfl rfl rfl (⟨rfl, E5.trans e5⟩)))))))))))))))))
          have hol : off s recs L pre < lf.length := by omega
          obtain ⟨x, post', rfl⟩ : ∃ x p, post = x :: p := by
            cases post with
            | nil =>
              rw [List.append_nil] at hpost
              have := off_all (s := s) (recs := recs) (L := L)
              rw [hpost] at this
              omega
            | cons x p => exact ⟨x, p, rfl⟩
          have hx := mem_split hpost
          have hxh := hE.mem hx
          have hn0 := ent_pos (s := s) (recs := recs) (L := L) x
          have hat0 := all_at hpost hn0
          rw [Nat.add_zero, ← fct_at hcq hol] at hat0
          have hent : (lf.getD (off s recs L pre) default).f.ent = x := by rw [hat0.1]; exact (ent_same hE hx hn0).2.1
          have hC5 := hC.ext e5
          have hL5 := hL6.ext e5
          have hR5 := hR6.ext e5
          refine V.region (VL.op (R.mvS rfl) (VL.op (R.mvS rfl) (VL.op (R.mvI rfl) (VL.op (R.ixS Try.runUnderlying41 Try.sizeOf48 rfl rfl (by omega) (by omega) ((hC5.sl).some (i := off s recs L pre) (by omega))) (VL.op (R.fld' (o := 1) Try.runUnderlying48 rfl rfl Try.sizeOf3 rfl rfl) (VL.op (R.ld1 Try.isAgg3 rfl (((((hC5.sl).ext (Mod.refl _ _)).row (i := off s recs L pre) (by omega)).cell (i := 1) rfl))) (VL.callX Try.call18 rfl (rmem_spec L (lf.getD (off s recs L pre) default).f.ent la lc _ (by omega) hL5) fun y w6 hy e6 => VL.op (R.asS rfl) (VL.nil (V.seq (?_))))))))))
          rw [hent] at hy ⊢
          have hC6 := hC5.ext e6
          have hgl := grpF_len L x L.length
          have hin := fun (i : Nat) (h1 : off s recs L pre ≤ i) (h2 : i < off s recs L pre + (entF s recs L x).length) => by
            have hk : i - off s recs L pre < (entF s recs L x).length := by omega
            have e := (all_at hpost hk).1
            rw [show off s recs L pre + (i - off s recs L pre) = i by omega, ← fct_at hcq (by omega)] at e
            exact (show (lf.getD i default).f = (entF s recs L x).getD (i - off s recs L pre) default from e)
          have hnx := all_next hE hpost
          have hnl := hat0.2
          obtain ⟨n, hn⟩ : ∃ n, n = (entF s recs L x).length := ⟨_, rfl⟩
          obtain ⟨o, ho⟩ : ∃ o, o = off s recs L pre := ⟨_, rfl⟩
          obtain ⟨mem, hmem⟩ : ∃ mem, mem = grpF L x L.length := ⟨_, rfl⟩
          have hone := ent_one hFit hE hxh
          have hmany := ent_many (s := s) (recs := recs) (L := L) (x := x)
          have hgo := grp_ok hE.len hE.at_ hxh
          have hnext : ∀ w', Ext w5 w' → ∃ i' : List Int, off s recs L i' = o + n ∧ ((∃ post, hsF s recs L = i' ++ post) ∧ Ext wc w') ∧ (hsF s recs L).length - i'.length < (hsF s recs L).length - pre.length := fun w' e' => ⟨pre ++ [x], by rw [off_succ, ho, hn], ⟨⟨post', by rw [hpost]; simp⟩, e5.trans e'⟩, by rw [hpost]; simp; omega⟩
          rw [← ho, ← hn] at hin hnx hnl
          rw [← ho] at hol hent hat0 ⊢
          rw [← hmem] at hone hmany hgo hy hgl ⊢
          rw [← hn] at hone hmany hn0
          clear hoff
          refine V.region (VL.op (R.mvI rfl) (VL.op (R.asI rfl) (VL.nil (V.seq (V.block (?_))))))
          refine V.loop [1, 2, 7, 12, 14, 15, 16] (fun q : Nat => [.slice ra recs.length rc, .slice la L.length lc, .bool true, .slice ac lf.length cc, .int .i64 (o : Nat), .slice y.1 mem.length y.2, .int .i64 (q : Nat)]) (fun q w' => o ≤ q ∧ q ≤ o + n ∧ Ext w6 w') (fun q => o + n - q) o rfl ⟨Nat.le_refl _, by omega, Mod.refl _ _⟩ ?_
          rintro ρ4 q w7 ⟨hq1, hq2, e7⟩
          have hC7 := hC6.ext e7
          refine V.seq (V.seq (V.regionQCut mixed 17 (by kernel_rfl) rfl (fun w' => Ext _ w') (Ext.drawn _) [108, 109, 110, 111, 112, 113, 114, 115, 116, 117, 118, 119, 120, 121, 122, 123, 124] 124 (.bool (decide (q < o + n))) rfl (VQ.op (fun wq eq => R.mvI rfl) (VQ.op (fun wq eq => R.mvS rfl) (VQ.op (fun wq eq => R.lenS Try.runUnderlying41 rfl) (VQ.op (fun wq eq => R.lss rfl rfl) (VQ.op (fun wq eq => R.mvB rfl) (VQ.andP rfl rfl (fun g25_4 => VQ.op (fun wq eq => R.mvS rfl) (VQ.gT rfl rfl (VQ.op (fun wq eq => R.mvI rfl) (VQ.gT rfl rfl (VQ.op (fun wq eq => R.ixS Try.runUnderlying41 Try.sizeOf48 rfl rfl (by omega) (by omega) ((hC7.sl).some (i := q) (by omega))) (VQ.gT rfl rfl (VQ.op (fun wq eq => R.fld' (o := 1) Try.runUnderlying48 rfl rfl Try.sizeOf3 rfl rfl) (VQ.gT rfl rfl (VQ.op (fun wq eq => R.ld1 Try.isAgg3 rfl (((((hC7.sl).ext eq).row (i := q) (by omega)).cell (i := 1) rfl))) (VQ.gT rfl rfl (VQ.op (fun wq eq => R.mvS rfl) (VQ.gT rfl rfl (VQ.op (fun wq eq => R.mvI rfl) (VQ.gT rfl rfl (VQ.op (fun wq eq => R.ixS Try.runUnderlying41 Try.sizeOf48 rfl rfl (by omega) (by omega) ((hC7.sl).some (i := o) (by omega))) (VQ.gT rfl rfl (VQ.op (fun wq eq => R.fld' (o := 1) Try.runUnderlying48 rfl rfl Try.sizeOf3 rfl rfl) (VQ.gT rfl rfl (VQ.op (fun wq eq => R.ld1 Try.isAgg3 rfl (((((hC7.sl).ext eq).row (i := o) (by omega)).cell (i := 1) rfl))) (VQ.gT rfl rfl (VQ.op (fun wq eq => R.eql rfl rfl) (VQ.op (fun wq eq => R.pickTB rfl rfl) (VQ.nil (cutB rfl ?_)))))))))))))))))))))))) (fun g25_4 => VQ.gF rfl rfl (VQ.gF rfl rfl (VQ.gF rfl rfl (VQ.gF rfl rfl (VQ.gF rfl rfl (VQ.gF rfl rfl (VQ.gF rfl rfl (VQ.gF rfl rfl (VQ.gF rfl rfl (VQ.gF rfl rfl (VQ.op (fun wq eq => R.pickFB rfl rfl) (VQ.nil (cutB rfl ?_))))))))))))))))))) (fun rg25 w25c e25c => V.condP rfl (fun c124 => V.skip (V.block (?_))) (fun c124 => V.exit (V.seq (V.seq (?_)))))))
          · rw [hent]
            refine decide_eq_decide.2 ⟨fun h => ?_, fun h => ?_⟩
            · by_cases hqn : q < o + n
              · exact hqn
              · have hqe : q = o + n := by omega
                subst hqe
                rw [fct_at hcq (by omega)] at h
                exact absurd h (hnx (by omega))
            · rw [hin q hq1 h]
              exact (ent_same hE hx (by omega)).2.1
          · exact (decide_eq_false (by omega)).symm
          · refine V.region (VL.op (R.mvI rfl) (VL.op (R.add rfl rfl (by omega) (by omega)) (VL.op (R.asI rfl) (VL.nil (⟨q + 1, rfl, ⟨by omega, by omega, e7.trans e25c⟩, by omega⟩)))))
          have hqe : q = o + n := by omega
          subst hqe
          have hC8 := hC7.ext e25c
          have hR8 := hR5.ext (e6.trans (e7.trans e25c))
          have hy8 := hy.ext (e7.trans e25c)
          have hcap := ownT_le hy
          have E8 := e6.trans (e7.trans e25c)
          refine V.region (VL.op (R.mvS rfl) (VL.op (R.lenS Try.runUnderlying34 rfl) (VL.op (R.eql rfl rfl) (VL.nil (V.condP rfl (fun c129 => V.seq (V.seq (?_))) (fun c129 => V.skip (V.seq (V.seq (?_)))))))))
          · have hm1 : mem.length = 1 := by omega
            obtain ⟨hn1, hrow⟩ := hone hm1
            have hsh := (hC8.short _ (gmem hol)).1
            obtain ⟨m0, m1, m2⟩ := hgo.mem _ (gmem (show 0 < mem.length by omega))
            refine V.regionQ mixed 16 (by kernel_rfl) rfl (fun w' => Ext _ w') (Ext.drawn _) (VQ.op (fun wq eq => R.mvI rfl) (VQ.op (fun wq eq => R.mvI rfl) (VQ.op (fun wq eq => R.add rfl rfl (by omega) (by omega)) (VQ.op (fun wq eq => R.lit (R.neq rfl rfl) ((decide_eq_false (by omega)))) (VQ.op (fun wq eq => R.mvB rfl) (VQ.gT rfl rfl (VQ.op (fun wq eq => R.mvS rfl) (VQ.gT rfl rfl (VQ.op (fun wq eq => R.mvS rfl) (VQ.gT rfl rfl (VQ.op (fun wq eq => R.ixS Try.runUnderlying34 Try.sizeOf3 rfl rfl (by omega) (by omega) (hy8.sl.some (i := 0) (by omega))) (VQ.gT rfl rfl (VQ.op (fun wq eq => R.ld1 Try.isAgg3 rfl ((((hy8.sl.ext eq).row (i := 0) (by omega)).cell (i := 0) rfl))) (VQ.gT rfl rfl (VQ.op (fun wq eq => R.mvS rfl) (VQ.gT rfl rfl (VQ.op (fun wq eq => R.mvI rfl) (VQ.gT rfl rfl (VQ.op (fun wq eq => R.ixS Try.runUnderlying41 Try.sizeOf48 rfl rfl (by omega) (by omega) ((hC8.sl).some (i := o) (by omega))) (VQ.gT rfl rfl (VQ.op (fun wq eq => R.ldA Try.isAgg48 Try.sizeOf48 rfl rfl ((show RowAt _ _ _ (encFct (lf.getD o default)) from (((hC8.sl).ext eq).row (i := o) (by omega)))) rfl) (VQ.gT rfl rfl (VQ.callP (fun _ _ h k => Mod.trans h k) Try.call20 rfl (fun wq eq => (isRow_spec recs ra rc (mem.getD 0 default) (lf.getD o default) wq (hR8.ext eq) ((hC8.each _ (gmem hol)).ext eq) m0 m1 (by omega) (by omega) (by rw [hat0.1]; exact hrow))) (VQ.gT rfl rfl (VQ.op (fun wq eq => R.not rfl) (VQ.op (fun wq eq => R.pickFB rfl rfl) (VQ.nil fun w28q e28q => VL.nil (V.condF rfl (V.skip (V.seq (?_)))))))))))))))))))))))))))))))
            obtain ⟨i', hi1, hi2, hi3⟩ := hnext _ (E8.trans e28q)
            refine V.region (VL.op (R.mvI rfl) (VL.op (R.asI rfl) (VL.nil (V.exit (⟨i', by rw [hi1]; rfl, hi2, hi3⟩)))))
          · have hm1 : mem.length ≠ 1 := by omega
            obtain ⟨hn1, hsp⟩ := hmany hm1
            refine V.region (VL.op (R.mvI rfl) (VL.op (R.mvI rfl) (VL.op (R.sub rfl rfl (by omega) (by omega)) (VL.op (R.mvS rfl) (VL.op (R.lenS Try.runUnderlying34 rfl) (VL.op (R.add rfl rfl (by omega) (by omega)) (VL.op (R.lit (R.lss rfl rfl) ((decide_eq_false (by omega)))) (VL.nil (V.condF rfl (V.skip (V.seq (V.seq (V.region (VL.op (R.asI rfl) (VL.nil (V.block (?_)))))))))))))))))
            refine V.loop [1, 2, 7, 12, 14, 15, 16, 17] (fun k : Nat => [.slice ra recs.length rc, .slice la L.length lc, .bool true, .slice ac lf.length cc, .int .i64 (o : Nat), .slice y.1 mem.length y.2, .int .i64 (o + n : Nat), .int .i64 (k : Nat)]) (fun k w' => k ≤ mem.length ∧ Ext w25c w') (fun k => mem.length - k) 0 rfl ⟨by omega, Mod.refl _ _⟩ ?_
            rintro ρ5 k w9 ⟨hk9, e9⟩
            have hC9 := hC8.ext e9
            have hR9 := hR8.ext e9
            have hy9 := hy8.ext e9
            refine V.seq (V.seq (V.region (VL.op (R.mvI rfl) (VL.op (R.mvS rfl) (VL.op (R.lenS Try.runUnderlying34 rfl) (VL.op (R.lss rfl rfl) (VL.nil (V.condP rfl (fun c157 => V.skip (V.seq (V.block (V.seq (?_))))) (fun c157 => V.exit (?_))))))))))
            · have hkm : k < mem.length := by omega
              have hix : (((o + n : Nat) : Int) - (mem.length : Nat) + (k : Nat)).toNat = o + (n - mem.length + k) := by omega
              have hfx := hin (o + (n - mem.length + k)) (by omega) (by omega)
              rw [show o + (n - mem.length + k) - o = n - mem.length + k by omega] at hfx
              have hfs := hsp k hkm
              rw [hfs, ← hix] at hfx
              have hil : (((o + n : Nat) : Int) - (mem.length : Nat) + (k : Nat)).toNat < lf.length := by omega
              obtain ⟨z, hz⟩ : ∃ z, z = lf.getD (((o + n : Nat) : Int) - (mem.length : Nat) + (k : Nat)).toNat default := ⟨_, rfl⟩
              have hzW := hC9.each _ (gmem hil)
              have hzS := hC9.short _ (gmem hil)
              rw [← hz] at hfx hzW hzS
              have hz1 := hzS.1
              have hz2 := hzS.2
              obtain ⟨m0, m1, m2⟩ := hgo.mem _ (gmem hkm)
              refine V.region (VL.op (R.mvS rfl) (VL.op (R.mvI rfl) (VL.op (R.mvS rfl) (VL.op (R.lenS Try.runUnderlying34 rfl) (VL.op (R.sub rfl rfl (by omega) (by omega)) (VL.op (R.mvI rfl) (VL.op (R.add rfl rfl (by omega) (by omega)) (VL.op (R.ixS Try.runUnderlying41 Try.sizeOf48 rfl rfl (by omega) (by omega) ((hC9.sl).some (i := (((o + n : Nat) : Int) - (mem.length : Nat) + (k : Nat)).toNat) (by omega))) (VL.op (R.ldA Try.isAgg48 Try.sizeOf48 rfl rfl ((show RowAt _ _ _ (encFct (lf.getD (((o + n : Nat) : Int) - (mem.length : Nat) + (k : Nat)).toNat default)) from (((hC9.sl).ext (Mod.refl _ _)).row (i := (((o + n : Nat) : Int) - (mem.length : Nat) + (k : Nat)).toNat) (by omega)))) rfl) (VL.allocSt (v := .agg (encFct (lf.getD (((o + n : Nat) : Int) - (mem.length : Nat) + (k : Nat)).toNat default)).toArray) Try.zeroValue48 Try.sizeOf48 rfl rfl rfl rfl rfl fun b36_9 w36_9 hb36_9 e36_9 hB36_9 => VL.nil (V.seq (?_))))))))))))
              rw [← hz] at hB36_9
              have hB := hB36_9
              have hzW := hzW.ext e36_9
              have hR10 := hR9.ext e36_9
              have hy10 := hy9.ext e36_9
              refine V.region (VL.op (R.asI rfl) (VL.nil (V.cut [1, 2, 7, 12, 14, 15, 16, 17, 18, 19] (fun _ : Unit => [.slice ra recs.length rc, .slice la L.length lc, .bool true, .slice ac lf.length cc, .int .i64 (o : Nat), .slice y.1 mem.length y.2, .int .i64 (o + n : Nat), .int .i64 (k : Nat), .pointer (some ⟨b36_9, 0, none⟩), .int .i64 (if k = 0 then 2 else 0)]) (fun _ w' => Ext _ w') (V.seq (V.region (VL.op (R.mvI rfl) (VL.op (R.eql rfl rfl) (VL.nil (V.condP rfl (fun c170 => V.region (VL.op (R.asI rfl) (VL.nil (⟨(), (by first | (rw [if_pos (by omega)]; rfl) | (rw [if_neg (by omega)]; rfl)), Mod.refl _ _⟩)))) (fun c170 => V.skip (⟨(), (by first | (rw [if_pos (by omega)]; rfl) | (rw [if_neg (by omega)]; rfl)), Mod.refl _ _⟩)))))))) (fun rgC170 _ wBC170 eBC170 => V.seq (?_)))))
              have hB := hB.ext eBC170
              have hzW := hzW.ext eBC170
              have hR11 := hR10.ext eBC170
              have hy11 := hy10.ext eBC170
              have e1 : ((k : Int) + 1).toNat - (k : Int).toNat = 1 := by omega
              have hone1 : TSl encI 1 wBC170 (cutA y.1 1 (k : Int).toNat y.2) [mem.getD k default] := by
                have h := (hy11.sl.drop k y.2 hcap).take 1 0
                rw [cutA_zero, take_one hkm] at h
                exact h
              refine V.regionQ mixed 30 (by kernel_rfl) rfl (fun w' => Ext _ w') (Ext.drawn _) (VQ.op (fun wq eq => R.fld' (o := 2) Try.runUnderlying48 rfl rfl Try.sizeOf3 rfl rfl) (VQ.op (fun wq eq => R.ld1 Try.isAgg3 rfl (((hB.ext eq).cell 2))) (VQ.op (fun wq eq => R.lit (R.neq rfl rfl) ((by rw [hfx]; rfl))) (VQ.op (fun wq eq => R.mvB rfl) (VQ.gT rfl rfl (VQ.op (fun wq eq => R.fld' (o := 4) Try.runUnderlying48 rfl rfl Try.sizeOf3 rfl rfl) (VQ.gT rfl rfl (VQ.op (fun wq eq => R.ld1 Try.isAgg3 rfl (((hB.ext eq).cell 4))) (VQ.gT rfl rfl (VQ.op (fun wq eq => R.mvI rfl) (VQ.gT rfl rfl (VQ.op (fun wq eq => R.lit (R.neq rfl rfl) ((by rw [hfx]; exact decide_eq_false (fun h => h rfl)))) (VQ.op (fun wq eq => R.pickFB rfl rfl) (VQ.op (fun wq eq => R.mvB rfl) (VQ.gT rfl rfl (VQ.op (fun wq eq => R.fld' (o := 5) Try.runUnderlying48 rfl rfl Try.sizeOf34 rfl rfl) (VQ.gT rfl rfl (VQ.op (fun wq eq => R.ld1 Try.isAgg34 rfl (((hB.ext eq).cell 5))) (VQ.gT rfl rfl (VQ.op (fun wq eq => R.mvS rfl) (VQ.gT rfl rfl (VQ.op (fun wq eq => R.mvI rfl) (VQ.gT rfl rfl (VQ.op (fun wq eq => R.mvI rfl) (VQ.gT rfl rfl (VQ.op (fun wq eq => R.add rfl rfl (by omega) (by omega)) (VQ.gT rfl rfl (VQ.op (fun wq eq => R.slLH Try.runUnderlying34 Try.sizeOf3 rfl rfl rfl (by omega) (by omega) (by omega)) (VQ.gT rfl rfl (VQ.callP (fun _ _ h k => Mod.trans h k) Try.call17 rfl (fun wq eq => (by
                  rw [e1]
                  have h := ints_spec z.fa (cutA y.1 1 (k : Int).toNat y.2) z.fc (y.2 - (k : Int).toNat) z.f.frm [mem.getD k default] wq (by omega) (by simp) (hzW.frm.ext eq) (hone1.ext eq)
                  rw [decide_eq_true (by rw [hfx]; rfl)] at h
                  exact h)) (VQ.gT rfl rfl (VQ.op (fun wq eq => R.not rfl) (VQ.op (fun wq eq => R.pickFB rfl rfl) (VQ.op (fun wq eq => R.mvB rfl) (VQ.gT rfl rfl (VQ.op (fun wq eq => R.mvS rfl) (VQ.gT rfl rfl (VQ.op (fun wq eq => R.mvS rfl) (VQ.gT rfl rfl (VQ.op (fun wq eq => R.mvI rfl) (VQ.gT rfl rfl (VQ.op (fun wq eq => R.ixS Try.runUnderlying34 Try.sizeOf3 rfl rfl (by omega) (by omega) ((hy11.sl).some (i := k) (by omega))) (VQ.gT rfl rfl (VQ.op (fun wq eq => R.ld1 Try.isAgg3 rfl (((((hy11.sl).ext eq).row (i := k) (by omega)).cell (i := 0) rfl))) (VQ.gT rfl rfl (VQ.op (fun wq eq => R.ldA Try.isAgg48 Try.sizeOf48 rfl rfl ((show RowAt _ _ _ (encFct z) from (hB.ext eq).rowAt 0 6)) rfl) (VQ.gT rfl rfl (VQ.callP (fun _ _ h k => Mod.trans h k) Try.call20 rfl (fun wq eq => (isRow_spec recs ra rc (mem.getD k default) z wq (hR11.ext eq) (hzW.ext eq) m0 m1 (by omega) (by omega) (by rw [hfx]; rfl))) (VQ.gT rfl rfl (VQ.op (fun wq eq => R.not rfl) (VQ.op (fun wq eq => R.pickFB rfl rfl) (VQ.nil fun w40q e40q => VL.nil (V.condF rfl (V.skip (V.region (VL.op (R.mvI rfl) (VL.op (R.add rfl rfl (by omega) (by omega)) (VL.op (R.asI rfl) (VL.nil (⟨k + 1, rfl, ⟨by omega, e9.trans (e36_9.trans (eBC170.trans e40q))⟩, by omega⟩))))))))))))))))))))))))))))))))))))))))))))))))))))))))))))
            · obtain ⟨i', hi1, hi2, hi3⟩ := hnext _ (E8.trans e9)
              refine V.region (VL.op (R.mvI rfl) (VL.op (R.asI rfl) (VL.nil (⟨i', by rw [hi1]; rfl, hi2, hi3⟩))))
  · refine V.region (VL.op (R.mvB rfl) (VL.op (R.asB rfl) (VL.nil (V.ret (fret1 (v := .bool _) rfl rfl rfl (⟨rfl, e1.trans (e1_0.trans e2)⟩))))))
end Go.Proofs.Ytckihgamnmmbnaa
