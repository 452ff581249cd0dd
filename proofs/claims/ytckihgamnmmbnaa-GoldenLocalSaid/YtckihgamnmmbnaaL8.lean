/- Golden: the sixth law (one entity alone). -/
import Derived.Test.YtckihgamnmmbnaaM8
namespace Go.Proofs.Ytckihgamnmmbnaa
open Go.Vc Go.Sort
theorem eltR : Elt encRec 6 := ⟨fun _ => rfl, fun _ => rfl, by decide⟩
/-- A fact with other members. -/
def cpF (y : Fct) (frm : List Int) (fa : Option Addr) (fc : Nat) : Fct := ⟨{ y.f with ent := 0, frm := frm }, y.ra, y.rc, fa, fc⟩
/-- The fact while its members are put together. -/
structure XJ (y : Fct) (b B2 : Nat) (w3 : World) (frm : List Int) (fa : Option Addr) (fc : Nat) (w : World) : Prop where
  ex : Ext w3 w
  blk : Blk w b (.cells (encFct (cpF y frm fa fc)).toArray 48 (0, 0))
  own : OwnT encI 1 3 B2 w fa fc frm
  sz : B2 ≤ w.heap.size
  bl : b < B2
  b0 : w3.heap.size ≤ b
theorem XJ.ext {y : Fct} {b B2 : Nat} {w3 w w' : World} {frm : List Int} {fa : Option Addr} {fc : Nat} (h : XJ y b B2 w3 frm fa fc w) (e : Ext w w') : XJ y b B2 w3 frm fa fc w' :=
  ⟨h.ex.trans e, h.blk.ext e, h.own.ext e, Nat.le_trans h.sz e.size, h.bl, h.b0⟩
theorem XJ.next {y : Fct} {b B2 : Nat} {w3 w w1 w2 : World} {frm frm' : List Int} {fa fa' : Option Addr} {fc fc' : Nat} (h : XJ y b B2 w3 frm fa fc w) (ho : OwnT encI 1 3 B2 w1 fa' fc' frm') (m : Vc.Mod (aBlk fa) w w1) (m2 : Vc.Mod (one b) w1 w2) (hB : Blk w2 b (.cells (encFct (cpF y frm' fa' fc')).toArray 48 (0, 0))) : XJ y b B2 w3 frm' fa' fc' w2 :=
  ⟨Mod.own (Mod.ownA h.ex m fun k hk => by have := h.own.ge k hk; have := h.bl; have := h.b0; omega) m2 h.b0, hB,
    ho.mod m2 fun k hk e => by have e : k = b := e; have := ho.ge k hk; have := h.bl; omega, by have := m.size; have := m2.size; have := h.sz; omega, h.bl, h.b0⟩
theorem all_frm {s : Set_} {recs : List Rec} {L : List Int} (h : EOk s recs L) {f : Fac} (hf : f ∈ allF s recs L) : f.frm.length ≤ L.length + 1 := by
  obtain ⟨x, hx, k, hk, rfl⟩ := all_mem h hf
  have hl := grpF_len L x L.length
  rcases facts_at hk with ⟨_, e⟩ | ⟨_, _, c, i, _, _, e⟩ | ⟨_, _, e⟩
  · unfold entF; rw [e]; show (grpF L x L.length).length ≤ _; omega
  · unfold entF; rw [e]; show (grpF L x L.length).length ≤ _; omega
  · unfold entF; rw [e]; show 1 ≤ _; omega
theorem headOf {s : Set_} {recs : List Rec} {L : List Int} (h : EOk s recs L) {q : Nat} (hq : q < L.length) : L.getD q default ∈ headsF L L.length := by
  have h1 := (h.at_ q hq).1
  exact headsF_mem.2 ⟨(L.getD q default).toNat, by omega, by rw [h1.2.2]; omega, by omega⟩
set_option maxRecDepth 100000 in
set_option maxHeartbeats 16000000 in
theorem law8_spec (s : Set_) (recs : List Rec) (L : List Int) (v : Int) (ra la : Option Addr) (rc lc : Nat) (w : World) (hv0 : 0 ≤ v) (hv1 : v ≤ 255) (hi : InOk s recs) (hl : L.length ≤ 9223372036854775807) (hS : SetW w s) (hR : RecsW w ra recs) (hL : IntSl w la L) :
    RetsP Try.prog 8 #[.agg (encSet s).toArray, .slice ra recs.length rc, .slice la L.length lc, .int .u8 v] w (.bool true) := by
  refine enter (args := [_, _, _, _]) Try.func8 rfl Try.ntmps8 (by kernel_rfl) rfl ?_
  refine V.seq (V.region (VL.box (v := .agg _) rfl fun b1 w1 hb1 e1 hX1 => VL.op (R.asB rfl) (VL.nil (V.seq (V.region (VL.callP Try.call9 rfl (head_spec _) fun w1_0 e1_0 => VL.op (R.asB rfl) (VL.nil (V.seq (V.seq (V.region (VL.op (R.ldA Try.isAgg32 Try.sizeOf32 rfl rfl ((show RowAt _ _ _ (encSet s) from (hX1.ext e1_0).rowAt 0 7)) rfl) (VL.op (R.mvS rfl) (VL.callX Try.call10 rfl (few_spec s recs ra rc 40 _ (hS.ext (e1.trans e1_0)) (hR.ext (e1.trans e1_0)) hi.nt hi.na hi.nr) fun few w2 hf e2 => VL.op (R.not rfl) (VL.op (R.mvB rfl) (VL.or rfl rfl (fun g2_4 => VL.op (R.mvS rfl) (VL.gT rfl rfl (VL.op (R.lenS Try.runUnderlying34 rfl) (VL.gT rfl rfl (VL.op (R.gtr rfl rfl) (VL.op (R.pickFB rfl rfl) (VL.op (R.mvB rfl) (VL.orP rfl rfl (fun g2_9 => VL.op (R.mvS rfl) (VL.gT rfl rfl (VL.op (R.lenS Try.runUnderlying33 rfl) (VL.gT rfl rfl (VL.op (R.eql rfl rfl) (VL.op (R.pickFB rfl rfl) (VL.nil (V.condP rfl (fun c37 => V.seq (?_)) (fun c37 => V.skip (V.seq (?_))))))))))) (fun g2_9 => VL.gF rfl rfl (VL.gF rfl rfl (VL.op (R.pickTB rfl rfl) (VL.nil (V.condT rfl (V.seq (?_))))))))))))))) (fun g2_4 => VL.gF rfl rfl (VL.gF rfl rfl (VL.op (R.pickTB rfl rfl) (VL.op (R.mvB rfl) (VL.gF rfl rfl (VL.gF rfl rfl (VL.gF rfl rfl (VL.op (R.pickTB rfl rfl) (VL.nil (V.condT rfl (V.seq (?_)))))))))))))))))))))))))))
  · refine V.region (VL.op (R.mvB rfl) (VL.op (R.asB rfl) (VL.nil (V.ret (fret1 (v := .bool _) rfl rfl rfl (⟨rfl, e1.trans (e1_0.trans e2)⟩))))))
  · have hfo := hf (by simpa using g2_4)
    have hsL := hfo.small (L := L) (by omega)
    have E2 := e1.trans (e1_0.trans e2)
    have hS := hS.ext E2
    have hR := hR.ext E2
    have hL := hL.ext E2
    have hX := hX1.ext (e1_0.trans e2)
    refine V.region (VL.op (R.ldA Try.isAgg32 Try.sizeOf32 rfl rfl ((show RowAt _ _ _ (encSet s) from (hX.ext (Mod.refl _ _)).rowAt 0 7)) rfl) (VL.op (R.mvS rfl) (VL.op (R.mvS rfl) (VL.callX Try.call13 rfl (gfacts_spec s recs L ra la rc lc _ hsL (hS.ext (Mod.refl _ _)) (hR.ext (Mod.refl _ _)) (hL.ext (Mod.refl _ _))) fun xc wc hc ec => VL.op (R.mvT rfl) (VL.op (R.extr rfl rfl) (VL.op (R.extr rfl rfl) (VL.op (R.asS rfl) (VL.op (R.asI rfl) (VL.nil (V.seq (V.seq (?_))))))))))))
    obtain ⟨lf, ac, cc⟩ := xc
    obtain ⟨hc, hcq⟩ := hc
    dsimp only at hc hcq ⊢
    refine V.region (VL.op (R.mvI rfl) (VL.op (R.neq rfl rfl) (VL.nil (V.condP rfl (fun c47 => V.seq (?_)) (fun c47 => V.skip (V.seq (?_)))))))
    · refine V.region (VL.op (R.mvB rfl) (VL.op (R.asB rfl) (VL.nil (V.ret (fret1 (v := .bool _) rfl rfl rfl (⟨rfl, E2.trans ec⟩))))))
    · have h0 : (resF s recs L).2 = 0 := Classical.not_not.1 c47
      obtain ⟨hE, hF, _⟩ := resF_ok h0
      rw [hF] at hcq
      have hlen := hE.len
      have hfl : lf.length = (allF s recs L).length := by have h1 := congrArg List.length hcq; rw [List.length_map] at h1; exact h1
      have hcl : lf.length ≤ 4000 := by omega
      have hC := fctL_of (L := L) hfo (by omega) hc (by rw [hF]; exact hcq)
      have hS := hS.ext ec
      have hR := hR.ext ec
      have hL := hL.ext ec
      have hX := hX.ext ec
      have E3 := E2.trans ec
      have hsm := hsL.nm
      have hsr := hsL.nr
      have hLpos : 0 < L.length := by omega
      obtain ⟨q, hqm, hq⟩ : ∃ q : Nat, v % (L.length : Int) = q ∧ q < L.length := ⟨(v % (L.length : Int)).toNat, by have := Int.emod_nonneg v (show (L.length : Int) ≠ 0 by omega); omega, by have := Int.emod_nonneg v (show (L.length : Int) ≠ 0 by omega); have := Int.emod_lt_of_pos v (show 0 < (L.length : Int) by omega); omega⟩
      obtain ⟨x, hx⟩ : ∃ x, x = L.getD q default := ⟨_, rfl⟩
      have hxh : x ∈ headsF L L.length := hx ▸ headOf hE hq
      refine V.region (VL.op (R.mvS rfl) (VL.op (R.mvI rfl) (VL.op (R.conv Try.runUnderlying5 Try.runUnderlying3 rfl (by rw [wrap_i64] <;> omega)) (VL.op (R.mvS rfl) (VL.op (R.lenS Try.runUnderlying34 rfl) (VL.op (R.remE (z := ((q : Nat) : Int)) rfl rfl (by omega) (by omega) hqm) (VL.op (R.ixS Try.runUnderlying34 Try.sizeOf3 rfl rfl (by omega) (by omega) ((hL).some (i := q) (by omega))) (VL.op (R.ld1 Try.isAgg3 rfl (((((hL).ext (Mod.refl _ _)).row (i := q) (by omega)).cell (i := 0) rfl))) (VL.op (R.asI rfl) (VL.nil (V.seq (V.region (VL.op (R.mvS rfl) (VL.op (R.mvI rfl) (VL.callX Try.call18 rfl (rmem_spec L (L.getD q default) la lc _ (by omega) (hL.ext (Mod.refl _ _))) fun y w4 hy e4 => VL.op (R.asS rfl) (VL.nil (V.seq (?_))))))))))))))))))
      rw [← hx] at hy ⊢
      have hgl := grpF_len L x L.length
      have hgo := grp_ok hE.len hE.at_ hxh
      have hws := want_all hE hxh (grpF L x L.length)
      have hrs := res_som hE hxh
      obtain ⟨mem, hmem⟩ : ∃ mem, mem = grpF L x L.length := ⟨_, rfl⟩
      rw [← hmem] at hy hgl hgo hws hrs ⊢
      have hLe : L.length ≤ 60 := by omega
      clear hq hqm
      have hS := hS.ext e4
      have hR := hR.ext e4
      have hX := hX.ext e4
      have hC := hC.ext e4
      refine V.region (VL.op (R.asS rfl) (VL.nil (V.seq (V.seq (V.region (VL.op (R.asI rfl) (VL.nil (V.block (?_)))))))))
      refine V.loop [1, 4, 9, 10, 12, 13, 14, 15] (fun z : Nat × Option Addr × Nat => [.slice ra recs.length rc, .pointer (some ⟨b1, 0, none⟩), .bool true, .slice ac lf.length cc, .int .i64 x, .slice y.1 mem.length y.2, .slice z.2.1 (somR recs (mem.take z.1)).length z.2.2, .int .i64 (z.1 : Nat)])
        (fun z w' => z.1 ≤ mem.length ∧ Ext w4 w' ∧ OwnT encRec 6 53 w4.heap.size w' z.2.1 z.2.2 (somR recs (mem.take z.1))) (fun z => mem.length - z.1) (0, none, 0) rfl ⟨Nat.zero_le _, Mod.refl _ _, OwnT.nil encRec 6 53 _ _⟩ ?_
      rintro ρ ⟨k, a, ca⟩ w5 ⟨hk, e5, hO⟩
      dsimp only at hk e5 hO ⊢
      have hR5 := hR.ext e5
      have hy5 := hy.ext e5
      have hsl : (somR recs (mem.take k)).length = k := by unfold somR; simp; omega
      refine V.seq (V.seq (V.region (VL.op (R.mvI rfl) (VL.op (R.mvS rfl) (VL.op (R.lenS Try.runUnderlying34 rfl) (VL.op (R.lss rfl rfl) (VL.nil (V.condP rfl (fun c63 => V.skip (V.seq (V.block (?_)))) (fun c63 => V.exit (V.seq (?_)))))))))))
      · have hkl : k < mem.length := by omega
        obtain ⟨m0, m1, m2⟩ := hgo.mem _ (gmem hkl)
        have n1 : somR recs (mem.take (k + 1)) = somR recs (mem.take k) ++ [recs.getD (mem.getD k default).toNat default] := map_take (fun m : Int => recs.getD m.toNat default) mem k hkl
        refine V.region (VL.op (R.mvS rfl) (VL.op (R.mvS rfl) (VL.op (R.mvS rfl) (VL.op (R.mvI rfl) (VL.op (R.ixS Try.runUnderlying34 Try.sizeOf3 rfl rfl (by omega) (by omega) ((hy5.sl).some (i := k) (by omega))) (VL.op (R.ld1 Try.isAgg3 rfl (((((hy5.sl).ext (Mod.refl _ _)).row (i := k) (by omega)).cell (i := 0) rfl))) (VL.op (R.ixS Try.runUnderlying33 Try.sizeOf53 rfl rfl (by omega) (by omega) (hR5.sl.some (i := (mem.getD k default).toNat) (by omega))) (VL.op (R.ldA Try.isAgg53 Try.sizeOf53 rfl rfl ((show RowAt _ _ _ (encRec (recs.getD (mem.getD k default).toNat default)) from ((hR5.sl.ext (Mod.refl _ _)).row (i := (mem.getD k default).toNat) (by omega)))) rfl) (VL.append1 el33 Try.runUnderlying33 Try.sizeOf53 Try.zeroValue53 rfl ((recs.getD (mem.getD k default).toNat default)) rfl rfl rfl (hO.ext (Mod.refl _ _)) rfl rfl rfl (by omega) (by unfold maxLen; omega) (by have := e5.size; omega) fun a6 ca6 w6 vt6 ho6 m6 hf6 => VL.op (R.asS rfl) (VL.nil (V.region (VL.op (R.mvI rfl) (VL.op (R.add rfl rfl (by omega) (by omega)) (VL.op (R.asI rfl) (VL.nil (⟨(k + 1, a6, ca6), ?_, ⟨by dsimp only; omega, Mod.ownA e5 m6 hO.ge, ?_⟩, by dsimp only; omega⟩))))))))))))))))
        · dsimp only; rw [n1, List.length_append]; rfl
        · dsimp only; rw [n1]; exact ho6
      · have hkl : k = mem.length := by omega
        subst hkl
        rw [List.take_length] at hO hsl ⊢
        have hS5 := hS.ext e5
        have hX5 := hX.ext e5
        have hRs : RecsW w5 a (somR recs mem) := ⟨hO.sl, fun r hr => by
          obtain ⟨m, hm, rfl⟩ := List.mem_map.1 hr
          exact hR5.cells _ (gmem (hgo.mem m hm).2.1)⟩
        have hel : (entF s recs L x).length ≤ 4000 := by
          obtain ⟨pre, post, hsp⟩ := List.append_of_mem ((hsF_mem hE.heads).2 hxh)
          have := (all_at hsp (ent_pos (s := s) (recs := recs) (L := L) x)).2
          omega
        rw [if_pos hel] at hrs
        have hss : Small s (somR recs mem) (List.replicate mem.length (0 : Int)) := ⟨by simp; omega, by rw [hsl]; omega, hsL.nk, hsL.no, hsL.nt, fun r hr => by
          obtain ⟨m, hm, rfl⟩ := List.mem_map.1 hr
          exact hsL.nc _ (gmem (hgo.mem m hm).2.1)⟩
        rw [hsl]
        refine V.regionS mixed 10 (by kernel_rfl) rfl (fun us => VS.op (fun wq eq => R.ldA Try.isAgg32 Try.sizeOf32 rfl rfl ((show RowAt _ _ _ (encSet s) from (hX5.ext eq).rowAt 0 7)) rfl) (VS.op (fun wq eq => R.mvS rfl) (VS.op (fun wq eq => R.mvS rfl) (VS.op (fun wq eq => R.lenS Try.runUnderlying33 rfl) (VS.spec (fun u w' => ∃ b, u = .slice (some ⟨b, 0, none⟩) mem.length mem.length ∧ OwnT encI 1 3 w5.heap.size w' (some ⟨b, 0, none⟩) mem.length (List.replicate mem.length (0 : Int))) (fun u a b _ ⟨c, hc, h1⟩ eb => ⟨c, hc, h1.ext eb⟩) rfl (fun wq eq hq => by
            exact yieldsR_make el34 (0 : Int) rfl rfl rfl (by omega) (by unfold maxLen; omega) eq.size fun b w' hb he hO => ⟨⟨b, rfl, hO⟩, he⟩) (VS.callX (fun u w' => ∃ z : List Fct × Option Addr × Nat, u = .tuple #[.slice z.2.1 z.1.length z.2.2, .int .i64 0] ∧ FctsW w' w5.heap.size z.2.1 z.2.2 z.1 ∧ z.1.map (·.f) = (entF s recs L x).map (reF mem)) (fun u a b _ ⟨z, hz, h1, h2⟩ eb => ⟨z, hz, h1.ext eb, h2⟩) Try.call13 rfl (fun wq eq hq => by
            obtain ⟨b, hb, hZ⟩ := hq 4 (by kernel_rfl)
            rw [hb]
            have h := gfacts_spec s (somR recs mem) (List.replicate mem.length (0 : Int)) a (some ⟨b, 0, none⟩) ca mem.length wq hss (hS5.ext eq) (hRs.ext eq) hZ.sl
            simp only [hrs, hsl, List.length_replicate] at h
            refine Rets.mono h ?_
            rintro u w' ⟨z, rfl, ⟨h1, h2⟩, he⟩
            exact ⟨⟨z, rfl, h1.weaken eq.size, h2⟩, he⟩) (VS.spec (fun u w' => ∃ z : List Fct × Option Addr × Nat, u = .tuple #[.slice z.2.1 z.1.length z.2.2, .int .i64 0] ∧ FctsW w' w5.heap.size z.2.1 z.2.2 z.1 ∧ z.1.map (·.f) = (entF s recs L x).map (reF mem)) (fun u a b _ ⟨z, hz, h1, h2⟩ eb => ⟨z, hz, h1.ext eb, h2⟩) rfl (fun wq eq hq => by
            obtain ⟨z, hz, h1, h2⟩ := hq 5 (by kernel_rfl)
            exact yieldsR_run (R.mv hz) ⟨⟨z, rfl, h1, h2⟩, Mod.refl _ _⟩) (VS.spec (fun u w' => ∃ z : List Fct × Option Addr × Nat, u = .slice z.2.1 z.1.length z.2.2 ∧ FctsW w' w5.heap.size z.2.1 z.2.2 z.1 ∧ z.1.map (·.f) = (entF s recs L x).map (reF mem)) (fun u a b _ ⟨z, hz, h1, h2⟩ eb => ⟨z, hz, h1.ext eb, h2⟩) rfl (fun wq eq hq => by
            obtain ⟨z, hz, h1, h2⟩ := hq 6 (by kernel_rfl)
            exact yieldsR_run (R.extr hz rfl) ⟨⟨z, rfl, h1, h2⟩, Mod.refl _ _⟩) (VS.spec (fun u _ => u = .int .i64 0) (fun u a b _ h eb => h) rfl (fun wq eq hq => by
            obtain ⟨z, hz, h1, h2⟩ := hq 6 (by kernel_rfl)
            exact yieldsR_run (R.extr hz rfl) ⟨rfl, Mod.refl _ _⟩) (VS.spec (fun u w' => ∃ z : List Fct × Option Addr × Nat, u = .slice z.2.1 z.1.length z.2.2 ∧ FctsW w' w5.heap.size z.2.1 z.2.2 z.1 ∧ z.1.map (·.f) = (entF s recs L x).map (reF mem)) (fun u a b _ ⟨z, hz, h1, h2⟩ eb => ⟨z, hz, h1.ext eb, h2⟩) rfl (fun wq eq hq => by
            obtain ⟨z, hz, h1, h2⟩ := hq 7 (by kernel_rfl)
            exact yieldsR_run (R.as hz) ⟨⟨z, rfl, h1, h2⟩, Mod.refl _ _⟩) (VS.nil (fun w6 e6 h6 => ?_)))))))))))) rfl
        obtain ⟨⟨lo, ao, co⟩, hz, hO1, hO2⟩ := h6 9
        have hz0 : us 8 = .int .i64 0 := h6 8
        dsimp only at hz hO1 hO2
        rw [hz, hz0]
        refine VL.op (R.asI rfl) (VL.nil (V.seq (V.seq (?_))))
        have hC6 := hC.ext (e5.trans e6)
        have hy6 := hy5.ext e6
        refine V.region (VL.op (R.mvI rfl) (VL.op (R.lit (R.neq rfl rfl) ((by decide))) (VL.nil (V.condF rfl (V.skip (V.seq (V.region (VL.op (R.asS rfl) (VL.nil (V.seq (V.seq (V.region (VL.op (R.asI rfl) (VL.nil (V.block (?_))))))))))))))))
        refine V.loop [9, 10, 12, 13, 16, 18, 19] (fun z : Nat × List Fct × Option Addr × Nat => [.bool true, .slice ac lf.length cc, .int .i64 x, .slice y.1 mem.length y.2, .slice ao lo.length co, .slice z.2.2.1 z.2.1.length z.2.2.2, .int .i64 (z.1 : Nat)])
          (fun z w' => z.1 ≤ lf.length ∧ Ext w6 w' ∧ FctsW w' w2.heap.size z.2.2.1 z.2.2.2 z.2.1 ∧ z.2.1.map (·.f) = wantF (allF s recs L) mem x z.1 ∧ ∀ j, aBlk z.2.2.1 j → w6.heap.size ≤ j) (fun z => lf.length - z.1) (0, [], none, 0) rfl ⟨Nat.zero_le _, Mod.refl _ _, FctsW.nil _ _, rfl, fun j h => by obtain ⟨_, h, _⟩ := h; cases h⟩ ?_
        rintro ρ2 ⟨k, lw, aw, cw⟩ w7 ⟨hk, e7, hW, hWq, hWb⟩
        dsimp only at hk e7 hW hWq hWb ⊢
        have hC7 := hC6.ext e7
        have hy7 := hy6.ext e7
        have hwl := wantF_len (allF s recs L) mem x k
        have hwl2 : lw.length = (wantF (allF s recs L) mem x k).length := by rw [← hWq, List.length_map]
        have Ew2 : Ext w2 w7 := ec.trans (e4.trans (e5.trans (e6.trans e7)))
        have Ewc : Ext wc w7 := e4.trans (e5.trans (e6.trans e7))
        refine V.seq (V.seq (V.region (VL.op (R.mvI rfl) (VL.op (R.mvS rfl) (VL.op (R.lenS Try.runUnderlying41 rfl) (VL.op (R.lss rfl rfl) (VL.nil (V.condP rfl (fun c90 => V.skip (V.seq (V.block (V.seq (V.seq (?_)))))) (fun c90 => V.exit (V.seq (?_)))))))))))
        · have hkl : k < lf.length := by omega
          have hst := wantF_succ (allF s recs L) mem x (k := k) (by omega)
          rw [← fct_at hcq hkl] at hst
          refine V.region (VL.op (R.mvS rfl) (VL.op (R.mvI rfl) (VL.op (R.ixS Try.runUnderlying41 Try.sizeOf48 rfl rfl (by omega) (by omega) ((hC7.sl).some (i := k) (by omega))) (VL.op (R.fld' (o := 1) Try.runUnderlying48 rfl rfl Try.sizeOf3 rfl rfl) (VL.op (R.ld1 Try.isAgg3 rfl (((((hC7.sl).ext (Mod.refl _ _)).row (i := k) (by omega)).cell (i := 1) rfl))) (VL.op (R.mvI rfl) (VL.op (R.neq rfl rfl) (VL.nil (V.condP rfl (fun c99 => V.exit (V.region (VL.op (R.mvI rfl) (VL.op (R.add rfl rfl (by omega) (by omega)) (VL.op (R.asI rfl) (VL.nil (?_))))))) (fun c99 => V.skip (V.seq (?_))))))))))))
          · rw [if_neg c99, List.append_nil] at hst
            exact ⟨(k + 1, lw, aw, cw), rfl, ⟨by dsimp only; omega, e7, hW, by dsimp only; rw [hst]; exact hWq, hWb⟩, by dsimp only; omega⟩
          rw [if_pos (Classical.not_not.1 c99)] at hst
          have hyW := hC7.each _ (gmem hkl)
          have hyS := hC7.short _ (gmem hkl)
          have hyB := hc.each _ (gmem hkl)
          have hyL := hc.lo _ (gmem hkl)
          refine V.region (VL.op (R.mvS rfl) (VL.op (R.mvI rfl) (VL.op (R.ixS Try.runUnderlying41 Try.sizeOf48 rfl rfl (by omega) (by omega) ((hC7.sl).some (i := k) (by omega))) (VL.op (R.ldA Try.isAgg48 Try.sizeOf48 rfl rfl ((show RowAt _ _ _ (encFct (lf.getD k default)) from (((hC7.sl).ext (Mod.refl _ _)).row (i := k) (by omega)))) rfl) (VL.allocSt (v := .agg (encFct (lf.getD k default)).toArray) Try.zeroValue48 Try.sizeOf48 rfl rfl rfl rfl rfl fun b22_4 w22_4 hb22_4 e22_4 hB22_4 => VL.nil (V.seq (?_)))))))
          obtain ⟨f, hf⟩ : ∃ f, f = lf.getD k default := ⟨_, rfl⟩
          rw [← hf] at hst hyW hyS hyB hyL hB22_4
          have hfs2 := hyS.2
          have hfl60 : f.f.frm.length ≤ 61 := by have := all_frm hE (hf ▸ fct_mem hcq hkl); omega
          have hB := hB22_4
          obtain ⟨b, hb⟩ : ∃ b, b = b22_4 := ⟨_, rfl⟩
          rw [← hb] at hB hb22_4 ⊢
          refine V.region (VL.op (R.fld' (o := 1) Try.runUnderlying48 rfl rfl Try.sizeOf3 rfl rfl) (VL.store (v := .int _ _) Try.sizeOf3 rfl rfl rfl rfl hB rfl rfl fun w8 m8 hs8 hB8 => VL.nil (V.seq (?_))))
          refine V.region (VL.op (R.fld' (o := 5) Try.runUnderlying48 rfl rfl Try.sizeOf34 rfl rfl) (VL.store (v := .slice _ _ _) Try.sizeOf34 rfl rfl rfl rfl hB8 rfl rfl fun w9 m9 hs9 hB9 => VL.nil (V.seq (V.seq (V.region (VL.op (R.asI rfl) (VL.nil (V.block (?_)))))))))
          have hX9 : XJ f b w9.heap.size w7 [] none 0 w9 := ⟨Mod.own (Mod.own e22_4 m8 (show w7.heap.size ≤ b by omega)) m9 (show w7.heap.size ≤ b by omega), hB9, OwnT.nil encI 1 3 _ _, Nat.le_refl _, hB9.lt, by omega⟩
          obtain ⟨B2, hB2⟩ : ∃ B2, B2 = w9.heap.size := ⟨_, rfl⟩
          rw [← hB2] at hX9
          refine V.loop [9, 10, 12, 13, 16, 18, 19, 20, 21] (fun z : Nat × Option Addr × Nat => [.bool true, .slice ac lf.length cc, .int .i64 x, .slice y.1 mem.length y.2, .slice ao lo.length co, .slice aw lw.length cw, .int .i64 (k : Nat), .pointer (some ⟨b, 0, none⟩), .int .i64 (z.1 : Nat)])
            (fun z w' => z.1 ≤ f.f.frm.length ∧ XJ f b B2 w7 (frmK mem f.f.frm z.1) z.2.1 z.2.2 w') (fun z => f.f.frm.length - z.1) (0, none, 0) rfl ⟨Nat.zero_le _, hX9⟩ ?_
          rintro ρ3 ⟨j, fa, fc⟩ w10 ⟨hj, hJ⟩
          dsimp only at hj hJ ⊢
          have hC10 := hC7.ext hJ.ex
          refine V.seq (V.seq (V.region (VL.op (R.mvI rfl) (VL.op (R.mvS rfl) (VL.op (R.mvI rfl) (VL.op (R.ixS Try.runUnderlying41 Try.sizeOf48 rfl rfl (by omega) (by omega) ((hC10.sl).some (i := k) (by omega))) (VL.op (R.fld' (o := 5) Try.runUnderlying48 rfl rfl Try.sizeOf34 rfl rfl) (VL.op (R.ld1 Try.isAgg34 rfl (((((hC10.sl).ext (Mod.refl _ _)).row (i := k) (by omega)).cell (i := 5) rfl))) (VL.op (R.lenS Try.runUnderlying34 rfl) (VL.op (R.lss rfl rfl) (VL.nil (V.condP rfl (fun c113 => V.skip (V.seq (V.block (V.seq (?_))))) (fun c113 => V.exit (?_))))))))))))))
          · have hjl : j < f.f.frm.length := by rw [hf]; omega
            have hks := frmK_succ mem f.f.frm hjl
            have hkn := frmK_len mem f.f.frm 60 (by omega) j
            refine V.region (VL.op (R.asI rfl) (VL.nil (V.block (?_))))
            refine V.loop [9, 10, 12, 13, 16, 18, 19, 20, 21, 22] (fun z : Nat × Option Addr × Nat => [.bool true, .slice ac lf.length cc, .int .i64 x, .slice y.1 mem.length y.2, .slice ao lo.length co, .slice aw lw.length cw, .int .i64 (k : Nat), .pointer (some ⟨b, 0, none⟩), .int .i64 (j : Nat), .int .i64 (z.1 : Nat)])
              (fun z w' => z.1 ≤ mem.length ∧ XJ f b B2 w7 (frmK mem f.f.frm j ++ posK mem (f.f.frm.getD j default) z.1) z.2.1 z.2.2 w') (fun z => mem.length - z.1) (0, fa, fc) rfl ⟨Nat.zero_le _, by show XJ f b B2 w7 (frmK mem f.f.frm j ++ []) fa fc w10; rw [List.append_nil]; exact hJ⟩ ?_
            rintro ρ4 ⟨n, fa, fc⟩ w11 ⟨hn, hJ6⟩
            dsimp only at hn hJ6 ⊢
            have hC11 := hC7.ext hJ6.ex
            have hy11 := hy7.ext hJ6.ex
            have hpn := posK_succ mem (f.f.frm.getD j default) n
            have hpl := posK_len mem (f.f.frm.getD j default) n
            have hln : (frmK mem f.f.frm j ++ posK mem (f.f.frm.getD j default) n).length ≤ 4000 := by
              rw [List.length_append]
              have : j * 60 ≤ 61 * 60 := Nat.mul_le_mul_right _ (by omega)
              omega
            refine V.seq (V.seq (V.region (VL.op (R.mvI rfl) (VL.op (R.mvS rfl) (VL.op (R.lenS Try.runUnderlying34 rfl) (VL.op (R.lss rfl rfl) (VL.nil (V.condP rfl (fun c119 => V.skip (V.seq (V.block (V.seq (?_))))) (fun c119 => V.exit (V.region (VL.op (R.mvI rfl) (VL.op (R.add rfl rfl (by omega) (by omega)) (VL.op (R.asI rfl) (VL.nil (?_)))))))))))))))
            · have hnl : n < mem.length := by omega
              refine V.regionQCut mixed 13 (by kernel_rfl) rfl (fun w' => Ext _ w') (Ext.drawn _) [122, 123, 124, 125, 126, 127, 128, 129, 130, 131, 132, 133, 134] 134 (.bool (decide (mem.getD n default = (lf.getD k default).f.frm.getD j default))) rfl (VQ.op (fun wq eq => R.mvS rfl) (VQ.op (fun wq eq => R.mvI rfl) (VQ.op (fun wq eq => R.ixS Try.runUnderlying34 Try.sizeOf3 rfl rfl (by omega) (by omega) ((hy11.sl).some (i := n) (by omega))) (VQ.op (fun wq eq => R.ld1 Try.isAgg3 rfl (((((hy11.sl).ext eq).row (i := n) (by omega)).cell (i := 0) rfl))) (VQ.op (fun wq eq => R.mvS rfl) (VQ.op (fun wq eq => R.mvI rfl) (VQ.op (fun wq eq => R.ixS Try.runUnderlying41 Try.sizeOf48 rfl rfl (by omega) (by omega) ((hC11.sl).some (i := k) (by omega))) (VQ.op (fun wq eq => R.fld' (o := 5) Try.runUnderlying48 rfl rfl Try.sizeOf34 rfl rfl) (VQ.op (fun wq eq => R.ld1 Try.isAgg34 rfl (((((hC11.sl).ext eq).row (i := k) (by omega)).cell (i := 5) rfl))) (VQ.op (fun wq eq => R.mvI rfl) (VQ.op (fun wq eq => R.ixS Try.runUnderlying34 Try.sizeOf3 rfl rfl (by omega) (by omega) (((hC11.each _ (gmem hkl)).frm).some (i := j) (by omega))) (VQ.op (fun wq eq => R.ld1 Try.isAgg3 rfl ((((((hC11.each _ (gmem hkl)).frm).ext eq).row (i := j) (by omega)).cell (i := 0) rfl))) (VQ.op (fun wq eq => R.eql rfl rfl) (VQ.nil (cutB rfl ?_))))))))))))))) (fun rg31 w31c e31c => V.condP rfl (fun c134 => ?_) (fun c134 => V.skip (V.region (VL.op (R.mvI rfl) (VL.op (R.add rfl rfl (by omega) (by omega)) (VL.op (R.asI rfl) (VL.nil (?_))))))))
              · rfl
              · rw [← hf] at c134
                rw [if_pos c134] at hpn
                have hJ7 := hJ6.ext e31c
                have hln2 : (cpF f (frmK mem f.f.frm j ++ posK mem (f.f.frm.getD j default) n) fa fc).f.frm.length ≤ 4000 := hln
                refine V.region (VL.op (R.fld' (o := 5) Try.runUnderlying48 rfl rfl Try.sizeOf34 rfl rfl) (VL.op (R.ld1 Try.isAgg34 rfl (((hJ7.blk.ext (Mod.refl _ _)).cell 5))) (VL.op (R.mvI rfl) (VL.append1 el34 Try.runUnderlying34 Try.sizeOf3 Try.zeroValue3 rfl ((n : Int)) rfl rfl rfl hJ7.own rfl rfl rfl (by omega) (by unfold maxLen; omega) hJ7.sz fun a12 c12 w12 vt12 ho12 m12 hf12 => VL.op (R.fld' (o := 5) Try.runUnderlying48 rfl rfl Try.sizeOf34 rfl rfl) (VL.store (v := .slice _ _ _) Try.sizeOf34 rfl rfl rfl rfl (hJ7.blk.mod m12 fun hk => by have := hJ7.own.ge b hk; have := hJ7.bl; omega) rfl rfl fun w13 m13 hs13 hB13 => VL.nil (V.region (VL.op (R.mvI rfl) (VL.op (R.add rfl rfl (by omega) (by omega)) (VL.op (R.asI rfl) (VL.nil (?_)))))))))))
                refine ⟨(n + 1, a12, c12), rfl, ⟨by dsimp only; omega, ?_⟩, by dsimp only; omega⟩
                dsimp only
                rw [hpn, ← List.append_assoc]
                refine hJ7.next ho12 m12 m13 ?_
                have e : (cpF f (frmK mem f.f.frm j ++ posK mem (f.f.frm.getD j default) n ++ [(n : Int)]) a12 c12).f.frm.length = (frmK mem f.f.frm j ++ posK mem (f.f.frm.getD j default) n).length + 1 := by
                  show (frmK mem f.f.frm j ++ posK mem (f.f.frm.getD j default) n ++ [(n : Int)]).length = _
                  rw [List.length_append]; rfl
                unfold encFct
                rw [e]
                exact hB13
              · rw [← hf] at c134
                rw [if_neg c134, List.append_nil] at hpn
                exact ⟨(n + 1, fa, fc), rfl, ⟨by dsimp only; omega, by dsimp only; rw [hpn]; exact hJ6.ext e31c⟩, by dsimp only; omega⟩
            · have hnl : n = mem.length := by omega
              subst hnl
              exact ⟨(j + 1, fa, fc), rfl, ⟨by dsimp only; omega, by dsimp only; rw [hks]; exact hJ6⟩, by dsimp only; omega⟩
          · have hjl : j = f.f.frm.length := by rw [hf] at hj ⊢; omega
            subst hjl
            rw [frmK_all] at hJ
            have hflt : (f.f.frm.flatMap (pos mem)).length ≤ 4000 := by
              have := frmK_len mem f.f.frm 60 (by omega) f.f.frm.length
              rw [frmK_all] at this
              have : f.f.frm.length * 60 ≤ 61 * 60 := Nat.mul_le_mul_right _ (by omega)
              omega
            obtain ⟨nf, hnf⟩ : ∃ nf, nf = f.f.frm.flatMap (pos mem) := ⟨_, rfl⟩
            rw [← hnf] at hJ hflt
            have hW10 := hW.ext hJ.ex
            have hx10 : FctW w10 (cpF f nf fa fc) := ⟨(hyW.ext hJ.ex).row, hJ.own.sl, fun z hz => (hyW.ext hJ.ex).rlt z hz, fun z hz => hJ.own.lt z hz⟩
            have hcs := Ewc.size
            have hes := e4.trans (e5.trans e6) |>.size
            have h67 := e7.size
            have hw2 := ec.size
            have hb0 := hJ.b0
            have hbl := hJ.bl
            refine V.region (VL.op (R.mvS rfl) (VL.op (R.ldA Try.isAgg48 Try.sizeOf48 rfl rfl ((show RowAt _ _ _ (encFct (cpF f nf fa fc)) from (hJ.blk.ext (Mod.refl _ _)).rowAt 0 6)) rfl) (VL.append1 el41 Try.runUnderlying41 Try.sizeOf48 Try.zeroValue48 rfl ((cpF f nf fa fc)) rfl rfl rfl hW10.own rfl rfl rfl (by omega) (by unfold maxLen; omega) (by have := hJ.ex.size; omega) fun a12 c12 w12 vt12 ho12 m12 hf12 => VL.op (R.asS rfl) (VL.nil (V.region (VL.op (R.mvI rfl) (VL.op (R.add rfl rfl (by omega) (by omega)) (VL.op (R.asI rfl) (VL.nil (?_))))))))))
            have hsn := hW10.snoc hx10 ⟨fun z h1 h2 => by have := hWb z h1; have := hyB.rlt z h2; omega, fun z h1 h2 => by have := hW.own.lt z h1; have := hJ.own.ge z h2; omega⟩ ⟨fun z hz => hyL.1 z hz, fun z hz => by have := hJ.own.ge z hz; omega⟩ ho12 m12 hf12
            refine ⟨(k + 1, lw ++ [cpF f nf fa fc], a12, c12), ?_, ⟨by dsimp only; omega, Mod.ownA (e7.trans hJ.ex) m12 fun z hz => hWb z hz, hsn, ?_, fun z hz => ?_⟩, by dsimp only; omega⟩
            · dsimp only; rw [List.length_append]; rfl
            · dsimp only; rw [List.map_append, hWq, hst, hnf]; rfl
            · rcases hf12 z hz with h | h
              · exact hWb z h
              · have := hJ.ex.size; omega
        · have hkl : k = lf.length := by omega
          subst hkl
          rw [hfl, hws] at hWq
          have hsh : ∀ l : List Fct, l.map (·.f) = (entF s recs L x).map (reF mem) → ∀ z ∈ l, ShortF z.f := fun l hl z hz => by
            have hm : z.f ∈ (entF s recs L x).map (reF mem) := hl ▸ List.mem_map_of_mem hz
            obtain ⟨g, hg, e⟩ := List.mem_map.1 hm
            have hga : g ∈ allF s recs L := List.mem_flatMap.2 ⟨x, (hsF_mem hE.heads).2 hxh, hg⟩
            have h1 := res_short hfo (by omega) g (hF ▸ hga)
            have h2 := all_frm hE hga
            rw [← e]
            refine ⟨h1.1, ?_⟩
            show (g.frm.flatMap (pos mem)).length ≤ 1000000
            have := frmK_len mem g.frm 60 (by omega) g.frm.length
            rw [frmK_all] at this
            have : g.frm.length * 60 ≤ 61 * 60 := Nat.mul_le_mul_right _ (by omega)
            omega
          have hol : lo.length ≤ 4000 := by have := congrArg List.length hO2; rw [List.length_map, List.length_map] at this; omega
          have hA : FctL w7 ao lo := ⟨(hO1.ext e7).own.sl, (hO1.ext e7).each, hsh lo hO2⟩
          have hBB : FctL w7 aw lw := ⟨hW.own.sl, hW.each, hsh lw hWq⟩
          have hwl3 : lw.length ≤ 4000 := by have := congrArg List.length hWq; rw [List.length_map, List.length_map] at this; omega
          refine V.region (VL.op (R.mvB rfl) (VL.op (R.mvB rfl) (VL.and rfl rfl (fun g34_1 => VL.op (R.mvS rfl) (VL.gT rfl rfl (VL.op (R.mvS rfl) (VL.gT rfl rfl (VL.callP Try.call16 rfl (same_ex ao aw co cw lo lw _ (by omega) (by omega) (hA.ext (Mod.refl _ _)) (hBB.ext (Mod.refl _ _)) (hO2.trans hWq.symm)) fun w34_4 e34_4 => VL.op (R.pickTB rfl rfl) (VL.op (R.asB rfl) (VL.nil (V.ret (fret1 (v := .bool _) rfl rfl rfl (⟨?_, E3.trans (e4.trans (e5.trans (e6.trans (e7.trans e34_4))))⟩)))))))))) (fun g34_1 => VL.gF rfl rfl (VL.gF rfl rfl (VL.op (R.pickFB rfl rfl) (VL.op (R.asB rfl) (VL.nil (V.ret (fret1 (v := .bool _) rfl rfl rfl (⟨?_, E3.trans (e4.trans (e5.trans (e6.trans (e7.trans (Mod.refl _ _)))))⟩)))))))))))
          · rfl
          · cases g34_1
  · refine V.region (VL.op (R.mvB rfl) (VL.op (R.asB rfl) (VL.nil (V.ret (fret1 (v := .bool _) rfl rfl rfl (⟨rfl, e1.trans (e1_0.trans e2)⟩))))))
  · refine V.region (VL.op (R.mvB rfl) (VL.op (R.asB rfl) (VL.nil (V.ret (fret1 (v := .bool _) rfl rfl rfl (⟨rfl, e1.trans (e1_0.trans e2)⟩))))))
end Go.Proofs.Ytckihgamnmmbnaa
