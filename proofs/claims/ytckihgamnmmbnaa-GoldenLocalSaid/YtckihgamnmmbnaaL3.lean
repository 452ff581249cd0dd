/- Golden: the first law. -/
import Derived.Test.YtckihgamnmmbnaaG22
namespace Go.Proofs.Ytckihgamnmmbnaa
open Go.Vc Go.Sort
/-- What comes in is not too long. -/
structure InOk (s : Set_) (recs : List Rec) : Prop where
  nt : s.tabs.length ≤ 9223372036854775807
  na : ∀ t ∈ s.tabs, t.attrs.length ≤ 9223372036854775807
  nr : recs.length ≤ 9223372036854775807
theorem FewOk.small {s : Set_} {recs : List Rec} (h : FewOk s recs 40) {L : List Int} (hL : L.length ≤ 60) : Small s recs L :=
  ⟨by omega, by have := h.nr; omega, by have := h.nk; omega, by have := h.no; omega, by have := h.nt; omega, fun r hr => by have := h.nc r hr; omega⟩
theorem vIn_mem {recs : List Rec} {mem : List Int} {t : Int} {base : List Val} {c : Nat} {oth : List Int} {f : Fac} : ∀ {j : Nat} {o : List Fac}, f ∈ vIn recs mem t base c oth j o → f ∈ o ∨ ∃ i n, f = varF recs mem t base c i n := by
  intro j
  induction j with
  | zero => exact fun h => .inl h
  | succ j ih =>
    intro o h
    rw [vIn] at h
    split at h
    · rcases List.mem_append.1 h with h | h
      · exact ih h
      · rw [List.mem_singleton] at h; exact .inr ⟨_, _, h⟩
    · exact ih h
theorem vOut_mem {s : Set_} {recs : List Rec} {mem : List Int} {t : Int} {f : Fac} : ∀ {c : Nat}, f ∈ vOut s recs mem t c → f.row.length = ncol s t ∧ f.frm = mem := by
  intro c
  induction c with
  | zero =>
    intro h
    rw [vOut, List.mem_singleton] at h
    rw [h]
    exact ⟨baseG_len s recs mem t, rfl⟩
  | succ c ih =>
    intro h
    rw [vOut] at h
    rcases vIn_mem h with h | ⟨i, n, rfl⟩
    · exact ih h
    · exact ⟨by unfold varF; rw [List.length_set, baseG_len], rfl⟩
theorem factsG_short {s : Set_} {recs : List Rec} {mem : List Int} {t : Int} (hs : Small s recs mem) (hok : EntOk s recs mem t) : ∀ f ∈ factsG s recs mem t, ShortF f := by
  intro f hf
  unfold factsG at hf
  have hnc := hok.ncol_le hs
  rcases List.mem_append.1 hf with h | h
  · obtain ⟨h1, h2⟩ := vOut_mem h
    exact ⟨by omega, by rw [h2]; exact hs.nm⟩
  · split at h
    · cases h
    · obtain ⟨k, hk, rfl⟩ := List.mem_map.1 h
      have hkl := List.mem_range.1 hk
      obtain ⟨_, h2, h3⟩ := hok.mem _ (gmem hkl)
      refine ⟨?_, by simp [spF]⟩
      show (rowG (recs.getD (mem.getD k default).toNat default)).length ≤ _
      have : (rowG (recs.getD (mem.getD k default).toNat default)).length = (recs.getD (mem.getD k default).toNat default).cells.length := by simp [rowG]
      omega
theorem res_short {s : Set_} {recs : List Rec} {L : List Int} (h : FewOk s recs 40) (hL : L.length ≤ 60) : ∀ f ∈ (resF s recs L).1, ShortF f := by
  intro f hf
  unfold resF at hf
  split at hf
  · rename_i hb
    obtain ⟨hlen, ha⟩ := of_decide_eq_true hb
    split at hf
    · unfold allF at hf
      obtain ⟨x, hx, hf⟩ := List.mem_flatMap.1 hf
      have hx := (hsF_mem (heads_ok hlen ha)).1 hx
      have hgl := grpF_len L x L.length
      exact factsG_short (h.small (L := grpF L x L.length) (by omega)) (grp_ok hlen ha hx) f hf
    · cases hf
  · cases hf
theorem resF_len (s : Set_) (recs : List Rec) (L : List Int) : (resF s recs L).1.length ≤ 4000 := by
  unfold resF
  split
  · split
    · assumption
    · simp
  · simp
theorem fctL_of {s : Set_} {recs : List Rec} {L : List Int} (h : FewOk s recs 40) (hL : L.length ≤ 60) {w : World} {B : Nat} {a : Option Addr} {cap : Nat} {l : List Fct} (hF : FctsW w B a cap l) (he : l.map (·.f) = (resF s recs L).1) : FctL w a l :=
  ⟨hF.own.sl, hF.each, fun x hx => res_short h hL _ (he ▸ List.mem_map_of_mem hx)⟩
set_option maxRecDepth 100000 in
set_option maxHeartbeats 8000000 in
theorem law3_spec (s : Set_) (recs : List Rec) (mem L : List Int) (ra ma la : Option Addr) (rc mc lc : Nat) (w : World) (hi : InOk s recs) (hm : mem.length ≤ 9223372036854775807) (hl : L.length ≤ 9223372036854775807) (hS : SetW w s) (hR : RecsW w ra recs) (hM : IntSl w ma mem) (hL : IntSl w la L) :
    RetsP Try.prog 3 #[.agg (encSet s).toArray, .slice ra recs.length rc, .slice ma mem.length mc, .slice la L.length lc] w (.bool true) := by
  refine enter (args := [_, _, _, _]) Try.func3 rfl Try.ntmps3 (by kernel_rfl) rfl ?_
  refine V.seq (V.region (VL.box (v := .agg _) rfl fun b1 w1 hb1 e1 hX1 => VL.op (R.asB rfl) (VL.nil (V.seq (V.region (VL.callP Try.call9 rfl (head_spec _) fun w1_0 e1_0 => VL.op (R.asB rfl) (VL.nil (V.seq (V.seq (V.region (VL.op (R.ldA Try.isAgg32 Try.sizeOf32 rfl rfl ((show RowAt _ _ _ (encSet s) from (hX1.ext e1_0).rowAt 0 7)) rfl) (VL.op (R.mvS rfl) (VL.callX Try.call10 rfl (few_spec s recs ra rc 40 _ (hS.ext (e1.trans e1_0)) (hR.ext (e1.trans e1_0)) hi.nt hi.na hi.nr) fun few w2 hf e2 => VL.op (R.not rfl) (VL.op (R.mvB rfl) (VL.or rfl rfl (fun g2_4 => VL.op (R.mvS rfl) (VL.gT rfl rfl (VL.op (R.lenS Try.runUnderlying34 rfl) (VL.gT rfl rfl (VL.op (R.gtr rfl rfl) (VL.op (R.pickFB rfl rfl) (VL.op (R.mvB rfl) (VL.orP rfl rfl (fun g2_9 => VL.op (R.mvS rfl) (VL.gT rfl rfl (VL.op (R.lenS Try.runUnderlying34 rfl) (VL.gT rfl rfl (VL.op (R.gtr rfl rfl) (VL.op (R.pickFB rfl rfl) (VL.nil (V.condP rfl (fun c32 => V.seq (?_)) (fun c32 => V.skip (V.seq (?_))))))))))) (fun g2_9 => VL.gF rfl rfl (VL.gF rfl rfl (VL.op (R.pickTB rfl rfl) (VL.nil (V.condT rfl (V.seq (?_))))))))))))))) (fun g2_4 => VL.gF rfl rfl (VL.gF rfl rfl (VL.op (R.pickTB rfl rfl) (VL.op (R.mvB rfl) (VL.gF rfl rfl (VL.gF rfl rfl (VL.gF rfl rfl (VL.op (R.pickTB rfl rfl) (VL.nil (V.condT rfl (V.seq (?_)))))))))))))))))))))))))))
  · refine V.region (VL.op (R.mvB rfl) (VL.op (R.asB rfl) (VL.nil (V.ret (fret1 (v := .bool _) rfl rfl rfl (⟨rfl, e1.trans (e1_0.trans e2)⟩))))))
  · have hfo := hf (by simpa using g2_4)
    have hsM := hfo.small (L := mem) (by omega)
    have hsL := hfo.small (L := L) (by omega)
    have E2 := e1.trans (e1_0.trans e2)
    have hS := hS.ext E2
    have hR := hR.ext E2
    have hM := hM.ext E2
    have hL := hL.ext E2
    have hX := hX1.ext (e1_0.trans e2)
    refine V.region (VL.op (R.ldA Try.isAgg32 Try.sizeOf32 rfl rfl ((show RowAt _ _ _ (encSet s) from (hX.ext (Mod.refl _ _)).rowAt 0 7)) rfl) (VL.op (R.mvS rfl) (VL.op (R.mvS rfl) (VL.callX Try.call11 rfl (gbase_spec s recs mem ra ma rc mc _ hsM hS hR hM) fun xa wa ha ea => VL.op (R.mvT rfl) (VL.op (R.extr rfl rfl) (VL.op (R.extr rfl rfl) (VL.op (R.asS rfl) (VL.op (R.asI rfl) (VL.nil (V.seq (V.region (VL.op (R.ldA Try.isAgg32 Try.sizeOf32 rfl rfl ((show RowAt _ _ _ (encSet s) from (hX.ext ea).rowAt 0 7)) rfl) (VL.op (R.mvS rfl) (VL.op (R.mvS rfl) (VL.callX Try.call12 rfl (rbase_spec s recs mem ra ma rc mc _ hsM (hS.ext ea) (hR.ext ea) (hM.ext ea)) fun xb wb hb eb => VL.op (R.mvT rfl) (VL.op (R.extr rfl rfl) (VL.op (R.extr rfl rfl) (VL.op (R.asS rfl) (VL.op (R.asI rfl) (VL.nil (V.seq (V.region (VL.op (R.ldA Try.isAgg32 Try.sizeOf32 rfl rfl ((show RowAt _ _ _ (encSet s) from (hX.ext (ea.trans eb)).rowAt 0 7)) rfl) (VL.op (R.mvS rfl) (VL.op (R.mvS rfl) (VL.callX Try.call13 rfl (gfacts_spec s recs L ra la rc lc _ hsL (hS.ext (ea.trans eb)) (hR.ext (ea.trans eb)) (hL.ext (ea.trans eb))) fun xc wc hc ec => VL.op (R.mvT rfl) (VL.op (R.extr rfl rfl) (VL.op (R.extr rfl rfl) (VL.op (R.asS rfl) (VL.op (R.asI rfl) (VL.nil (V.seq (V.region (VL.op (R.ldA Try.isAgg32 Try.sizeOf32 rfl rfl ((show RowAt _ _ _ (encSet s) from (hX.ext ((ea.trans eb).trans ec)).rowAt 0 7)) rfl) (VL.op (R.mvS rfl) (VL.op (R.mvS rfl) (VL.callX Try.call14 rfl (rfacts_spec s recs L ra la rc lc _ hsL (.inl (by omega)) (hS.ext ((ea.trans eb).trans ec)) (hR.ext ((ea.trans eb).trans ec)) (hL.ext ((ea.trans eb).trans ec))) fun xd wd hd ed => VL.op (R.mvT rfl) (VL.op (R.extr rfl rfl) (VL.op (R.extr rfl rfl) (VL.op (R.asS rfl) (VL.op (R.asI rfl) (VL.nil (V.seq (?_))))))))))))))))))))))))))))))))))))))))))))
    obtain ⟨bv, hbv⟩ : ∃ bv, bv = (if memB s recs mem = true then baseG s recs mem (recs.getD (mem.getD 0 default).toNat default).table else []) := ⟨_, rfl⟩
    have hbl : bv.length ≤ 1000000 := by
      rw [hbv]
      split
      · rename_i hmb
        rw [baseG_len]
        exact (memB_ok hmb).ncol_le hsM
      · simp
    rw [← hbv] at ha hb ⊢
    obtain ⟨lc', ac, cc⟩ := xc
    obtain ⟨ld, ad, cd⟩ := xd
    obtain ⟨hc, hcq⟩ := hc
    obtain ⟨hd, hdq⟩ := hd
    dsimp only at hc hcq hd hdq ⊢
    have hcl : lc'.length ≤ 4000 := by have h1 := congrArg List.length hcq; rw [List.length_map] at h1; have := resF_len s recs L; omega
    have hdl : ld.length ≤ 4000 := by have h1 := congrArg List.length hdq; rw [List.length_map] at h1; have := resF_len s recs L; omega
    have ha := ha.ext (eb.trans (ec.trans ed))
    have hb := hb.ext (ec.trans ed)
    have hC := fctL_of hfo (by omega) (hc.ext ed) hcq
    have hD := fctL_of hfo (by omega) hd hdq
    have E := E2.trans (ea.trans (eb.trans (ec.trans ed)))
    refine V.region (VL.op (R.mvB rfl) (VL.op (R.mvB rfl) (VL.and rfl rfl (fun g8_1 => VL.op (R.mvI rfl) (VL.gT rfl rfl (VL.op (R.mvI rfl) (VL.gT rfl rfl (VL.op (R.eql rfl rfl) (VL.op (R.pickTB rfl rfl) (VL.op (R.mvB rfl) (VL.andP rfl rfl (fun g8_6 => VL.op (R.mvS rfl) (VL.gT rfl rfl (VL.op (R.mvS rfl) (VL.gT rfl rfl (VL.callP Try.call15 rfl (rows_spec xa.1 xb.1 xa.2 xb.2 bv bv _ (by omega) (by omega) (ha.sl.ext (Mod.refl _ _)) (hb.sl.ext (Mod.refl _ _))) fun w8_9 e8_9 => VL.op (R.pickTB rfl rfl) (VL.op (R.mvB rfl) (VL.and rfl rfl (fun g8_11 => VL.op (R.mvI rfl) (VL.gT rfl rfl (VL.op (R.mvI rfl) (VL.gT rfl rfl (VL.op (R.eql rfl rfl) (VL.op (R.pickTB rfl rfl) (VL.op (R.mvB rfl) (VL.andP rfl rfl (fun g8_16 => VL.op (R.mvS rfl) (VL.gT rfl rfl (VL.op (R.mvS rfl) (VL.gT rfl rfl (VL.callP Try.call16 rfl (same_ex ac ad cc cd lc' ld _ (by omega) (by omega) (hC.ext e8_9) (hD.ext e8_9) (hcq.trans hdq.symm)) fun w8_19 e8_19 => VL.op (R.pickTB rfl rfl) (VL.op (R.asB rfl) (VL.nil (V.ret (fret1 (v := .bool _) rfl rfl rfl (⟨?_, E.trans (e8_9.trans e8_19)⟩)))))))))) (fun g8_16 => VL.gF rfl rfl (VL.gF rfl rfl (VL.op (R.pickFB rfl rfl) (VL.op (R.asB rfl) (VL.nil (V.ret (fret1 (v := .bool _) rfl rfl rfl (⟨?_, E.trans e8_9⟩)))))))))))))))) (fun g8_11 => VL.gF rfl rfl (VL.gF rfl rfl (VL.op (R.pickFB rfl rfl) (VL.op (R.mvB rfl) (VL.gF rfl rfl (VL.gF rfl rfl (VL.gF rfl rfl (VL.op (R.pickFB rfl rfl) (VL.op (R.asB rfl) (VL.nil (V.ret (fret1 (v := .bool _) rfl rfl rfl (⟨?_, E.trans e8_9⟩)))))))))))))))))))) (fun g8_6 => VL.gF rfl rfl (VL.gF rfl rfl (VL.op (R.pickFB rfl rfl) (VL.op (R.mvB rfl) (VL.gF rfl rfl (VL.gF rfl rfl (VL.gF rfl rfl (VL.op (R.pickFB rfl rfl) (VL.op (R.mvB rfl) (VL.gF rfl rfl (VL.gF rfl rfl (VL.gF rfl rfl (VL.op (R.pickFB rfl rfl) (VL.op (R.asB rfl) (VL.nil (V.ret (fret1 (v := .bool _) rfl rfl rfl (⟨?_, E.trans (Mod.refl _ _)⟩)))))))))))))))))))))))))) (fun g8_1 => VL.gF rfl rfl (VL.gF rfl rfl (VL.op (R.pickFB rfl rfl) (VL.op (R.mvB rfl) (VL.gF rfl rfl (VL.gF rfl rfl (VL.gF rfl rfl (VL.op (R.pickFB rfl rfl) (VL.op (R.mvB rfl) (VL.gF rfl rfl (VL.gF rfl rfl (VL.gF rfl rfl (VL.op (R.pickFB rfl rfl) (VL.op (R.mvB rfl) (VL.gF rfl rfl (VL.gF rfl rfl (VL.gF rfl rfl (VL.op (R.pickFB rfl rfl) (VL.op (R.asB rfl) (VL.nil (V.ret (fret1 (v := .bool _) rfl rfl rfl (⟨?_, E.trans (Mod.refl _ _)⟩))))))))))))))))))))))))))
    · rfl
    · exact absurd rfl g8_16
    · exact absurd rfl (of_decide_eq_false g8_11)
    · exact absurd rfl g8_6
    · cases g8_1
  · refine V.region (VL.op (R.mvB rfl) (VL.op (R.asB rfl) (VL.nil (V.ret (fret1 (v := .bool _) rfl rfl rfl (⟨rfl, e1.trans (e1_0.trans e2)⟩))))))
  · refine V.region (VL.op (R.mvB rfl) (VL.op (R.asB rfl) (VL.nil (V.ret (fret1 (v := .bool _) rfl rfl rfl (⟨rfl, e1.trans (e1_0.trans e2)⟩))))))
end Go.Proofs.Ytckihgamnmmbnaa
