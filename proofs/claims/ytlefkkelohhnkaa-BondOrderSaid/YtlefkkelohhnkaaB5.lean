/- Bond: Effective's walk. -/
import Derived.Test.YtlefkkelohhnkaaZdG
import Derived.Test.YtlefkkelohhnkaaB4
namespace Go.Proofs.Ytlefkkelohhnkaa
open Go.Vc Go.Sort

theorem swoD {f : Dec → Dec → Int} (h : Cmp f) : SWO (SrtD.ltf f) where
  irrefl x := by simp [SrtD.ltf, h.self]
  trans x y z h1 h2 := by
    simp only [SrtD.ltf, decide_eq_true_eq] at *
    exact h.transL h1 (by omega)
  ntrans x y z h1 h2 := by
    simp only [SrtD.ltf, decide_eq_false_iff_not] at *
    have a1 := h.anti x y
    have a2 := h.anti y z
    have a3 := h.anti x z
    have := h.trans z y x (by omega) (by omega)
    omega
def shut (d : Dec) : Bool := decide (d.kind ≠ 3)
/-- The map while it is read. -/
structure EffJ (l : List Dec) (w0 : World) (B r it : Nat) (R : List ((Key × Key) × Dec)) (o : List Dec) (a : Option Addr) (cap : Nat) (w : World) : Prop where
  e : Ext w0 w
  hI : ∃ last, IterAt w it r encKK (tenc encD (mapK l l.length)) (tenc encD R) last
  own : OwnT encDec 7 39 B w a cap o
  hB : B ≤ w.heap.size
  perm : (o ++ (R.map (·.2)).filter shut).Perm (((mapK l l.length).map (·.2)).filter shut)
theorem mapK_len (l : List Dec) (k : Nat) : (mapK l k).length ≤ k := by
  induction k with
  | zero => simp [mapK]
  | succ k ih =>
    rw [mapK]; split
    · have h := congrArg List.length (tset_keys (mapK l k) (pr (l.getD k default)) (l.getD k default))
      rw [List.length_map] at h
      rw [h]
      split
      · rw [List.length_map]; omega
      · rw [List.length_append, List.length_map, List.length_singleton]; omega
    · omega
theorem out_eff {l : List Dec} {o : List Dec} {d5 : Array Dec} (hp : o.Perm (((mapK l l.length).map (·.2)).filter shut)) (hq : PermIn 0 o.length o.toArray d5) (hs : SortedIn (SrtD.ltf cmpDec) 0 o.length d5) : d5.toList = effL l := by
  obtain ⟨hsz, _, hperm⟩ := hq
  have hsz : d5.size = o.length := by simpa using hsz
  have e1 : d5.extract 0 o.length = d5 := by rw [← hsz]; exact Array.extract_size
  have e2 : o.toArray.extract 0 o.length = o.toArray := by
    have : o.length = o.toArray.size := by simp
    rw [this]; exact Array.extract_size
  rw [e1, e2] at hperm
  have hD : d5.toList.Perm (((mapK l l.length).map (·.2)).filter shut) := by
    have : d5.toList.Perm o := by simpa using hperm
    exact this.trans hp
  have hnd : (d5.toList.map pr).Nodup := by
    have h1 : ((((mapK l l.length).map (·.2)).filter shut).map pr).Nodup := by
      have h2 : ((mapK l l.length).map (·.2)).map pr = (mapK l l.length).map (·.1) := by
        rw [List.map_map]
        exact List.map_congr_left fun x hx => (mapK_pr l (q := x.1) (d := x.2) hx).symm
      exact List.Sublist.nodup (List.Sublist.map _ List.filter_sublist) (h2 ▸ mapK_nodup l l.length)
    exact (hD.map pr).nodup_iff.2 h1
  refine effL_unique ?_ (fun d => ?_)
  · refine List.pairwise_iff_getElem.2 fun i j hi hj hij => ?_
    have h1 := hs i j (Nat.zero_le _) hij (by simpa [hsz] using hj)
    have h1 : ¬ cmpDec d5[j]! d5[i]! < 0 := of_decide_eq_false h1
    have ei : d5[i]! = d5.toList[i] := by rw [getElem!_pos d5 i (by simpa using hi)]; simp
    have ej : d5[j]! = d5.toList[j] := by rw [getElem!_pos d5 j (by simpa using hj)]; simp
    rw [ei, ej] at h1
    have h2 := cmpDec_cmp.anti d5.toList[i] d5.toList[j]
    have h3 : cmpDec d5.toList[i] d5.toList[j] ≠ 0 := fun e => by
      have e := (cmpDec_pr _ _).1 e
      have := List.pairwise_iff_getElem.1 hnd i j (by simpa using hi) (by simpa using hj) hij
      simp only [List.getElem_map] at this
      exact this e
    omega
  · rw [hD.mem_iff, List.mem_filter, ← mapK_mem]
    unfold shut
    rw [decide_eq_true_eq]
set_option maxRecDepth 100000 in
set_option maxHeartbeats 4000000 in
theorem effective_spec (a : Option Addr) (ca : Nat) (l : List Dec) (w : World) (hm : l.length ≤ 1000000) (hS : DecSl w a l) :
    RetsX Try.prog 16 #[.slice a l.length ca] w (fun x : Option Addr × Nat => .slice x.1 (effL l).length x.2) (fun x w' => TSl encDec 7 w' x.1 (effL l) ∧ ∀ k, aBlk x.1 k → w.heap.size ≤ k) := by
  refine enter (args := [_]) Try.func16 rfl Try.ntmps16 (by kernel_rfl) rfl ?_
  refine V.seq (V.region (VL.op (R.asS rfl) (VL.nil (V.seq (V.region (VL.makeMap fun r w1 hr e1 hR1 => VL.op (R.asM rfl) (VL.nil (V.cut [3] (fun _ : Unit => [.map (some r)]) (fun _ w' => Ext w w' ∧ MapIs w' r encKK (tenc encD (mapK l l.length))) (V.seq (V.region (VL.op (R.mvS rfl) (VL.op (R.lenS Try.runUnderlying23 rfl) (VL.op (R.mvI rfl) (VL.nil (V.block (?_)))))))) (fun rgB0 xB0 wBB0 hBB0 => V.seq (?_))))))))))
  · refine V.loop [3, 10, 11, 12] (fun k : Nat => [.map (some r), .slice a l.length ca, .int .i64 l.length, .int .i64 k])
      (fun k w' => k ≤ l.length ∧ Ext w w' ∧ MapIs w' r encKK (tenc encD (mapK l k))) (fun k => l.length - k) 0 rfl ⟨Nat.zero_le _, e1, MapIs.empty hR1⟩ ?_
    rintro ρ k w2 ⟨hk, e, hM⟩
    obtain ⟨d, hd⟩ : ∃ d, d = l.getD k default := ⟨_, rfl⟩
    refine V.seq (V.region (VL.op (R.lss rfl rfl) (VL.nil (V.seq (V.condP rfl (fun c13 => V.skip (V.seq (V.block (V.seq (V.region (VL.op (R.ixS Try.runUnderlying23 Try.sizeOf39 rfl rfl (by omega) (by omega) ((hS).some (i := k) (by omega))) (VL.op (R.ldA Try.isAgg39 Try.sizeOf39 rfl rfl ((((hS).ext e).row (i := k) (by omega))) rfl) (VL.allocSt (v := .agg (encDec (l.getD k default)).toArray) Try.zeroValue39 Try.sizeOf39 rfl rfl rfl rfl rfl fun b4_2 w4_2 hb4_2 e4_2 hB4_2 => VL.nil (V.seq (V.regionCut [16, 17, 18, 19, 20, 21, 22, 23, 24, 25, 26, 27, 28, 29, 30, 31] 31 (.bool (formed (l.getD k default))) (fun w' => Ext _ w') rfl (VL.op (R.fld' (o := 0) Try.runUnderlying39 rfl rfl Try.sizeOf3 rfl rfl) (VL.op (R.ld1 Try.isAgg3 rfl ((hB4_2.cell _))) (VL.op (R.geq rfl rfl) (VL.op (R.mvB rfl) (VL.andP rfl rfl (fun g5_3 => VL.op (R.fld' (o := 0) Try.runUnderlying39 rfl rfl Try.sizeOf3 rfl rfl) (VL.gT rfl rfl (VL.op (R.ld1 Try.isAgg3 rfl ((hB4_2.cell _))) (VL.gT rfl rfl (VL.op (R.leq rfl rfl) (VL.op (R.pickTB rfl rfl) (VL.op (R.mvB rfl) (VL.andP rfl rfl (fun g5_8 => VL.op (R.fld' (o := 1) Try.runUnderlying39 rfl rfl Try.sizeOf37 rfl rfl) (VL.gT rfl rfl (VL.op (R.ldA Try.isAgg37 Try.sizeOf37 rfl rfl ((show RowAt _ _ _ (encKey (l.getD k default).a) from (hB4_2.rowAt 1 3))) rfl) (VL.gT rfl rfl (VL.op (R.fld' (o := 4) Try.runUnderlying39 rfl rfl Try.sizeOf37 rfl rfl) (VL.gT rfl rfl (VL.op (R.ldA Try.isAgg37 Try.sizeOf37 rfl rfl ((show RowAt _ _ _ (encKey (l.getD k default).b) from (hB4_2.rowAt 4 3))) rfl) (VL.gT rfl rfl (VL.callP Try.call30 rfl (order_spec (l.getD k default).a (l.getD k default).b _) fun w5_13 e5_13 => VL.gT rfl rfl (VL.op (R.lss rfl rfl) (VL.op (R.pickTB rfl rfl) (VL.nil ⟨rfl, cutB rfl ?_, e5_13⟩)))))))))))) (fun g5_8 => VL.gF rfl rfl (VL.gF rfl rfl (VL.gF rfl rfl (VL.gF rfl rfl (VL.gF rfl rfl (VL.op (R.pickFB rfl rfl) (VL.nil ⟨rfl, cutB rfl ?_, Mod.refl _ _⟩))))))))))))))) (fun g5_3 => VL.gF rfl rfl (VL.gF rfl rfl (VL.op (R.pickFB rfl rfl) (VL.op (R.mvB rfl) (VL.gF rfl rfl (VL.gF rfl rfl (VL.gF rfl rfl (VL.gF rfl rfl (VL.gF rfl rfl (VL.gF rfl rfl (VL.op (R.pickFB rfl rfl) (VL.nil ⟨rfl, cutB rfl ?_, Mod.refl _ _⟩))))))))))))))))) (fun rg5 w5c e5c => V.cond rfl (fun c31 => V.region (VL.op (R.mvM rfl) (VL.op (R.fld' (o := 1) Try.runUnderlying39 rfl rfl Try.sizeOf37 rfl rfl) (VL.op (R.ldA Try.isAgg37 Try.sizeOf37 rfl rfl ((show RowAt _ _ _ (encKey (l.getD k default).a) from ((hB4_2.ext e5c).rowAt 1 3))) rfl) (VL.op (R.fld' (o := 4) Try.runUnderlying39 rfl rfl Try.sizeOf37 rfl rfl) (VL.op (R.ldA Try.isAgg37 Try.sizeOf37 rfl rfl ((show RowAt _ _ _ (encKey (l.getD k default).b) from ((hB4_2.ext e5c).rowAt 4 3))) rfl) (VL.op (R.buildArr Try.zeroValue57 Try.runUnderlying57 Try.sizeOf37 rfl) (VL.op (R.ldA Try.isAgg39 Try.sizeOf39 rfl rfl ((show RowAt _ _ _ (encDec (l.getD k default)) from ((hB4_2.ext e5c).rowAt 0 7))) rfl) (VL.mapUpdate key57 Try.runUnderlying55 rfl (k := (pr (l.getD k default))) rfl rfl ((hM.ext (e4_2.trans e5c))) fun w6 hM6 m6 => VL.nil (V.region (VL.op (R.add rfl rfl (by omega) (by omega)) (VL.op (R.mvI rfl) (VL.nil (⟨k + 1, rfl, ⟨by omega, (Mod.ownA ((e.trans e4_2).trans e5c) m6 (fun x hx => by have hx : x = r := hx; omega)), ?_⟩, by omega⟩)))))))))))))) (fun c31 => V.skip (V.region (VL.op (R.add rfl rfl (by omega) (by omega)) (VL.op (R.mvI rfl) (VL.nil (⟨k + 1, rfl, ⟨by omega, ((e.trans e4_2).trans e5c), ?_⟩, by omega⟩))))))))))))))))) (fun c13 => V.exit (?_)))))))
    · unfold formed keyLt; rw [decide_eq_true g5_3, decide_eq_true g5_8]; simp
    · unfold formed; rw [decide_eq_false g5_8]; simp
    · unfold formed; rw [decide_eq_false g5_3]; simp
    · rw [mapK, if_pos c31, tset_enc]; exact hM6
    · rw [mapK, if_neg (by rw [c31]; decide)]; exact hM.ext (e4_2.trans e5c)
    · have hkl : k = l.length := by omega
      subst hkl
      exact ⟨(), rfl, e, hM⟩
  obtain ⟨E0, hM⟩ := hBB0
  have hMl := mapK_len l l.length
  have hrlt := hM.lt
  refine V.region (VL.op (R.asS rfl) (VL.nil (V.cut [6] (fun x : List Dec × Option Addr × Nat => [.slice x.2.1 x.1.length x.2.2]) (fun x w' => ∃ it B, w.heap.size ≤ B ∧ EffJ l w B r it [] x.1 x.2.1 x.2.2 w') (V.seq (V.region (VL.op (R.mvM rfl) (VL.range Try.runUnderlying55 rfl (hM) fun it w9 hit e9 hI9 => VL.nil (V.block (?_)))))) (fun rgB2 xB2 wBB2 hBB2 => V.seq (?_)))))
  · have hne : it ≠ r := by omega
    refine V.loop [6, 41] (fun x : List ((Key × Key) × Dec) × List Dec × Option Addr × Nat => [.slice x.2.2.1 x.2.1.length x.2.2.2, .pointer (some ⟨it, 0, none⟩)])
      (fun x w' => x.1.length + x.2.1.length ≤ l.length ∧ EffJ l w w9.heap.size r it x.1 x.2.1 x.2.2.1 x.2.2.2 w') (fun x => x.1.length) (mapK l l.length, [], none, 0) rfl ⟨by simpa using hMl, E0.trans e9, ⟨_, hI9⟩, OwnT.nil _ _ _ _ _, Nat.le_refl _, by simp⟩ ?_
    rintro ρ ⟨rm, o, a2, cap⟩ w2 ⟨hlen, hJ⟩
    dsimp only at hlen hJ ⊢
    obtain ⟨last, hI⟩ := hJ.hI
    have hlt := hI9.lt
    refine V.seq (V.region (VL.nextT rfl (hI) (hne) (fun h0_10_0 => VL.op (R.extr rfl rfl) (VL.nil (V.seq (V.condF rfl (V.exit (?_)))))) (fun i hi w10 m10 hs10 hI10 => VL.op (R.extr rfl rfl) (VL.nil (V.seq (V.condT rfl (V.skip (V.block (V.seq (V.region (VL.op (R.entry rfl (hI10)) (VL.op (R.extr rfl rfl) (VL.allocSt (v := .agg (encDec rm[i].2).toArray) Try.zeroValue39 Try.sizeOf39 rfl rfl rfl rfl rfl fun b11_2 w11_2 hb11_2 e11_2 hB11_2 => VL.nil (V.seq (V.region (VL.op (R.fld' (o := 0) Try.runUnderlying39 rfl rfl Try.sizeOf3 rfl rfl) (VL.op (R.ld1 Try.isAgg3 rfl ((hB11_2.cell _))) (VL.op (R.neq rfl rfl) (VL.nil (V.condP rfl (fun c48 => ?_) (fun c48 => V.skip (⟨(rm.eraseIdx i, o, a2, cap), rfl, ⟨?_, ?_⟩, ?_⟩))))))))))))))))))))))
    · subst h0_10_0
      exact ⟨(o, a2, cap), rfl, it, w9.heap.size, by have := E0.size; have := e9.size; omega, hJ⟩
    · have hp : (rm[i] :: rm.eraseIdx i).Perm rm := erase_perm rm hi
      have hle := hp.length_eq
      rw [List.length_cons] at hle
      have hsh : shut rm[i].2 = true := decide_eq_true c48
      have hab : ∀ k, aBlk a2 k → ¬ one it k := fun k hk e => by
        have e : k = it := e
        have := hJ.own.ge k hk
        omega
      have hown := (hJ.own.mod m10 hab).ext e11_2
      have hB := hJ.hB
      refine V.region (VL.op (R.mvS rfl) (VL.op (R.ldA Try.isAgg39 Try.sizeOf39 rfl rfl ((hB11_2.ext (Mod.refl _ _)).rowAt 0 7) rfl) (VL.append1 el23 Try.runUnderlying23 Try.sizeOf39 Try.zeroValue39 rfl (rm[i].2) rfl rfl rfl hown rfl rfl rfl (by omega) (by unfold maxLen; omega) (by have := e11_2.size; omega) fun a3 cap3 w13 vt ho13 m13 hf13 => VL.op (R.asS rfl) (VL.nil (⟨(rm.eraseIdx i, o ++ [rm[i].2], a3, cap3), by dsimp only; rw [List.length_append]; rfl, ⟨by dsimp only; rw [List.length_append, List.length_singleton]; omega, ?_⟩, by dsimp only; omega⟩)))))
      dsimp only
      have hE := Mod.ownA (Mod.ownA hJ.e m10 (fun x hx => by have hx : x = it := hx; have := E0.size; omega)) (e11_2.mod.then m13 fun k _ h => h) (fun k hk => by have := hJ.own.ge k hk; have := E0.size; have := e9.size; omega)
      refine ⟨hE, ⟨_, (hI10.ext e11_2).mod m13 (fun h => hab _ h rfl) (fun h => by have := hJ.own.ge _ h; have := e9.size; omega)⟩, ho13, by have := m13.size; have := e11_2.size; omega, ?_⟩
      refine List.Perm.trans ?_ hJ.perm
      rw [List.append_assoc]
      refine List.Perm.append_left _ ?_
      have := (hp.map (·.2)).filter shut
      rw [List.map_cons, List.filter_cons, if_pos hsh] at this
      exact this
    · have hp : (rm[i] :: rm.eraseIdx i).Perm rm := erase_perm rm hi
      have hle := hp.length_eq
      rw [List.length_cons] at hle
      dsimp only; omega
    · have hp : (rm[i] :: rm.eraseIdx i).Perm rm := erase_perm rm hi
      have hsh : shut rm[i].2 = false := decide_eq_false c48
      have hab : ∀ k, aBlk a2 k → ¬ one it k := fun k hk e => by
        have e : k = it := e
        have := hJ.own.ge k hk
        omega
      dsimp only
      refine ⟨(Mod.ownA hJ.e m10 (fun x hx => by have hx : x = it := hx; have := E0.size; omega)).trans e11_2, ⟨_, hI10.ext e11_2⟩, (hJ.own.mod m10 hab).ext e11_2, by have := hJ.hB; have := e11_2.size; omega, ?_⟩
      refine List.Perm.trans (List.Perm.append_left _ ?_) hJ.perm
      have := (hp.map (·.2)).filter shut
      rw [List.map_cons, List.filter_cons, if_neg (by rw [hsh]; decide)] at this
      exact this
    · have hp : (rm[i] :: rm.eraseIdx i).Perm rm := erase_perm rm hi
      have hle := hp.length_eq
      rw [List.length_cons] at hle
      dsimp only; omega
  · obtain ⟨o, a2, cap⟩ := xB2
    obtain ⟨it, B, hB0, hJ⟩ := hBB2
    dsimp only at hJ hB0 ⊢
    have hperm := hJ.perm
    simp only [List.map_nil, List.filter_nil, List.append_nil] at hperm
    have hol : o.length ≤ l.length := by
      have h1 := hperm.length_eq
      have h2 := List.length_filter_le shut ((mapK l l.length).map (·.2))
      rw [List.length_map] at h2
      omega
    have hfr : ∀ k, aBlk a2 k → w.heap.size ≤ k := fun k hk => by have := hJ.own.ge k hk; omega
    by_cases h0 : o.length = 0
    · have ho : o = [] := List.eq_nil_of_length_eq_zero h0
      subst ho
      have he : effL l = [] := by
        have := out_eff (l := l) (o := []) (d5 := #[]) hperm ⟨rfl, by simp, by simp⟩ (by intro i j h1 h2 h3; simp at h3)
        exact this.symm
      refine V.region (VL.op (R.mvS rfl) (VL.callP Try.call31 rfl (SrtD.sortF_nil (a := a2) (g := 32) (cb := []) cap _) fun w14_1 e14_1 => VL.nil (V.seq (V.region (VL.op (R.mvS rfl) (VL.op (R.asS rfl) (VL.nil (V.ret (fret1 (v := .slice _ _ _) rfl rfl rfl (?_))))))))))
      exact ⟨(a2, cap), by rw [he], ⟨by rw [he]; exact TSl.nil _ _ _ _, hfr⟩, hJ.e.trans e14_1⟩
    · have hs := Srt.of_own (d := o.toArray) eltDec (by simpa using hJ.own) (by simp; omega)
      have hC : SrtD.CmpOk encDec a2 wBB2 32 [] cmpDec := ⟨eltDec, Try.call32, fun w' m' x y => decOrder_spec x y w'⟩
      have ha : abk a2 < wBB2.heap.size := by
        obtain ⟨b2, o2, he⟩ := hs.ad
        rw [he]
        exact hJ.own.lt b2 ⟨_, he, rfl⟩
      refine V.region (VL.op (R.mvS rfl) (VL.callY Try.call31 rfl (SrtD.sortF_spec hC (swoD cmpDec_cmp) ha cap o.length (by omega) o.toArray _ (hs.ext (Mod.refl _ _)) (by simp)) fun d5 w18 ⟨q1, q2, hs5⟩ => VL.nil (V.seq (V.region (VL.op (R.mvS rfl) (VL.op (R.asS rfl) (VL.nil (V.ret (fret1 (v := .slice _ _ _) rfl rfl rfl (?_))))))))))
      have e := out_eff hperm q1 q2
      have hz5 : d5.size = o.length := by have := q1.1; simpa using this
      have hl5 : (effL l).length = o.length := by rw [← e]; simpa using hz5
      refine ⟨(a2, cap), by dsimp only; rw [hl5], ⟨by rw [← e]; exact hs5.sl eltDec, hfr⟩, Mod.ownA hJ.e hs5.m fun x hx => hfr x hx⟩
end Go.Proofs.Ytlefkkelohhnkaa
