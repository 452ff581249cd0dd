/- Repair: what the search asks of a vertex that is left out. -/
import Derived.Test.YtlnbkoojelhjdaaGreatDoorXN9
import Derived.Test.YtlnbkoojelhjdaaGreatDoorXVcRepP
namespace Go.Proofs.YtlnbkoojelhjdaaGreatDoor
open Go.Vc
theorem outN_out {P : List Int} {v : Nat} (hP : (v : Int) ∉ P) : ∀ {e : List Int}, e.Nodup → outN e P (v + 1) = outN e P v + if (v : Int) ∈ e then 1 else 0 := by
  intro e hn
  unfold outN
  induction e with
  | nil => rfl
  | cons x e ih =>
    obtain ⟨hx, hn⟩ := List.nodup_cons.1 hn
    have ih := ih hn
    simp only [List.filter_cons]
    by_cases hxv : x = (v : Int)
    · have a1 : (decide (x < ((v + 1 : Nat) : Int)) && !decide (x ∈ P)) = true := by rw [hxv, decide_eq_true (by omega), decide_eq_false hP]; rfl
      have a2 : (decide (x < (v : Int)) && !decide (x ∈ P)) = false := by rw [hxv, decide_eq_false (by omega)]; rfl
      rw [a1, a2, if_pos rfl, if_neg (by decide), List.length_cons, ih, if_neg (by rw [← hxv]; exact hx), if_pos (by rw [hxv]; simp)]
    · have a1 : decide (x < ((v + 1 : Nat) : Int)) = decide (x < (v : Int)) := decide_eq_decide.2 (by omega)
      have a2 : ((v : Int) ∈ x :: e) ↔ (v : Int) ∈ e := by rw [List.mem_cons]; exact ⟨fun h => h.resolve_left fun h => hxv h.symm, .inr⟩
      rw [a1]
      simp only [a2]
      split
      · rw [List.length_cons, List.length_cons, ih]; omega
      · exact ih
theorem adj_any (E : List (List Int)) (v : Int) (F : List Int → Bool) : ((adjK E E.length v).any fun x => F (E.getD x.toNat default)) = E.any fun e => decide (v ∈ e) && F e := by
  rw [Bool.eq_iff_iff, List.any_eq_true, List.any_eq_true]
  constructor
  · rintro ⟨x, hx, h⟩
    obtain ⟨i, hi, hv, rfl⟩ := adjK_mem.1 hx
    rw [Int.toNat_natCast] at h
    exact ⟨_, gmem hi, by rw [decide_eq_true hv, h]; rfl⟩
  · rintro ⟨e, he, h⟩
    rw [Bool.and_eq_true, decide_eq_true_eq] at h
    obtain ⟨i, hi, rfl⟩ := List.getElem_of_mem he
    refine ⟨(i : Int), adjK_mem.2 ⟨i, hi, by rw [gget hi]; exact h.1, rfl⟩, ?_⟩
    rw [Int.toNat_natCast, gget hi]; exact h.2
abbrev PtO (w : World) (b oB : Nat) (O : List Int) : Prop := Blk w b (.cells #[.slice (some ⟨oB, 0, none⟩) O.length O.length] 22 (0, 0))
set_option maxRecDepth 100000 in
theorem possible1_spec (ob oB k : Nat) (O : List Int) (w : World) (hb : PtO w ob oB O) (hO : IntSl w (some ⟨oB, 0, none⟩) O) (hk : k < O.length) (_h20 : O.length ≤ 20000) :
    RetsP Tryz.prog 73 #[.int .i64 (k : Nat), .pointer (some ⟨ob, 0, none⟩)] w (.bool (decide (O.getD k default = 1))) := by
  refine enter (args := [_, _]) Tryz.func73 rfl Tryz.ntmps73 (by kernel_rfl) rfl ?_
  refine V.seq (V.region (VL.op (R.asB rfl) (VL.nil (V.seq (V.region (VL.op (R.ld1 Tryz.isAgg22 rfl ((hb.cell _))) (VL.op (R.mvI rfl) (VL.op (R.ixS Tryz.runUnderlying22 Tryz.sizeOf3 rfl rfl (by omega) (by omega) (hO.some (i := k) hk)) (VL.op (R.ld1 Tryz.isAgg3 rfl (((hO.row (i := k) hk).cell (i := 0) rfl))) (VL.op (R.eql rfl rfl) (VL.op (R.asB rfl) (VL.nil (V.ret (fret1 (v := .bool _) rfl rfl rfl (⟨rfl, (Mod.refl _ _)⟩)))))))))))))))
set_option maxRecDepth 100000 in
theorem possible_spec (g : GrW) (B N sb ob oB v : Nat) (s : StW) (P O : List Int) (w : World) (hS : StOk B w g s) (hI : StIs (vals g.edges) N s P) (hs : PtB w sb s) (hb : PtO w ob oB O) (hO : IntSl w (some ⟨oB, 0, none⟩) O) (hE20 : g.edges.length ≤ 20000) (hol : O.length = g.edges.length) (hv : v < N) :
    RetsP Tryz.prog 72 #[.int .i64 (v : Nat), .pointer (some ⟨sb, 0, none⟩), .pointer (some ⟨ob, 0, none⟩)] w (.bool ((adjK (vals g.edges) (vals g.edges).length ((v : Nat) : Int)).any fun x => decide (O.getD x.toNat default = 1))) := by
  have hX := hS.blk
  have hz := hI.zl
  have hzl : (s.z.getD v default).l.length ≤ 20000 := by rw [hI.adj v hv]; have := adjK_len (vals g.edges) (vals g.edges).length ((v : Nat) : Int); rw [List.length_map] at this ⊢; omega
  refine enter (args := [_, _, _]) Tryz.func72 rfl Tryz.ntmps72 (by kernel_rfl) rfl ?_
  refine V.seq (V.region (VL.op (R.asB rfl) (VL.nil (V.seq (V.region (VL.op (R.ld1 Tryz.isAgg54 rfl ((hs.cell _))) (VL.op (R.nilCheck rfl) (VL.op (R.fld' (o := 5) Tryz.runUnderlying59 rfl rfl Tryz.sizeOf23 rfl rfl) (VL.op (R.ld1 Tryz.isAgg23 rfl ((show w.cell? ⟨s.p, 5, none⟩ = some (Value.slice (some ⟨s.ba, 0, none⟩) s.z.length s.z.length) from hX.cell 5))) (VL.op (R.mvI rfl) (VL.op (R.ixS Tryz.runUnderlying23 Tryz.sizeOf22 rfl rfl (by omega) (by omega) (hS.a.own.sl.some (i := v) (by omega))) (VL.op (R.ld1 Tryz.isAgg22 rfl (((hS.a.own.sl.row (i := v) (by omega)).cell (i := 0) rfl))) (VL.op (R.mkFn rfl rfl) (VL.callP Tryz.call69 rfl (containsM_spec 73 [] [.pointer (some ⟨ob, 0, none⟩)] (fun x => decide (O.getD x.toNat default = 1)) (fun w' => PtO w' ob oB O ∧ IntSl w' (some ⟨oB, 0, none⟩) O) (s.z.getD v default).a (s.z.getD v default).c (s.z.getD v default).l _ Tryz.call73
      (fun w' x h hx => by
        rw [hI.adj v hv] at hx
        obtain ⟨i, hi, _, rfl⟩ := adjK_mem.1 hx
        rw [List.length_map] at hi
        exact possible1_spec ob oB i O w' h.1 h.2 (by omega) (by omega)) (fun _ _ h e => ⟨h.1.ext e, h.2.ext e⟩) ⟨hb, hO⟩ ((hS.a.each v).sl) (by omega)) fun w1_8 e1_8 => VL.op (R.asB rfl) (VL.nil (V.ret (fret1 (v := .bool _) rfl rfl rfl (⟨?_, e1_8⟩))))))))))))))))))
  rw [hI.adj v hv]
set_option maxRecDepth 100000 in
theorem every_spec (g : FuncId) (Fv Cv : List Value) (f : Nat → Bool) (S : World → Prop) (a : Option Addr) (n c : Nat) (w : World) (hfn : IsFn Tryz.prog g) (hdo : ∀ k w', k < n → S w' → RetsP Tryz.prog g (Fv ++ [Value.int .i64 (k : Nat)] ++ Cv).toArray w' (.bool (f k)))
    (hSe : ∀ w w', S w → Ext w w' → S w') (h0 : S w) (hm : n ≤ 1000000) :
    RetsP Tryz.prog 75 #[.slice a n c, .func (.func g) Fv.toArray Cv.toArray] w (.bool ((List.range n).all f)) := by
  refine enter (args := [_, _]) Tryz.func75 rfl Tryz.ntmps75 (by kernel_rfl) rfl ?_
  refine V.seq (V.region (VL.op (R.asB rfl) (VL.nil (V.seq (V.seq (V.region (VL.op (R.mvS rfl) (VL.op (R.lenS Tryz.runUnderlying41 rfl) (VL.op (R.mvI rfl) (VL.nil (V.block (?_))))))))))))
  refine V.loop [1, 7, 8] (fun k : Nat => [.func (.func g) Fv.toArray Cv.toArray, .int .i64 (n : Nat), .int .i64 (k : Nat)])
    (fun k w' => k ≤ n ∧ S w' ∧ Ext w w' ∧ ∀ i, i < k → f i = true) (fun k => n - k) 0 rfl ⟨Nat.zero_le _, h0, Vc.Mod.refl _ _, fun i h => absurd h (Nat.not_lt_zero i)⟩ ?_
  rintro ρ k w2 ⟨hk, hS, e2, hf⟩
  refine V.seq (V.region (VL.op (R.lss rfl rfl) (VL.nil (V.seq (V.condP rfl (fun c9 => V.skip (V.seq (V.block (V.seq (V.region (VL.op (R.mvI rfl) (VL.op (R.asI rfl) (VL.nil (V.seq (?_)))))))))) (fun c9 => V.exit (V.seq (?_))))))))
  · have hkn : k < n := by omega
    refine V.region (VL.op (R.mvF rfl) (VL.op (R.mvI rfl) (VL.callCP rfl (hfn) rfl (hdo k w2 hkn hS) fun w4_2 e4_2 => VL.op (R.not rfl) (VL.nil (V.cond rfl (fun c14 => V.seq (V.region (VL.op (R.asB rfl) (VL.nil (V.ret (fret1 (v := .bool _) rfl rfl rfl (?_))))))) (fun c14 => V.skip (V.region (VL.op (R.add rfl rfl (by omega) (by omega)) (VL.op (R.mvI rfl) (VL.nil (?_)))))))))))
    · refine ⟨?_, e2.trans e4_2⟩
      rw [show (List.range n).all f = false from List.all_eq_false.2 ⟨k, List.mem_range.2 hkn, by simpa using c14⟩]
    · refine ⟨k + 1, rfl, ⟨by omega, hSe _ _ hS e4_2, e2.trans e4_2, fun i hi => ?_⟩, by omega⟩
      by_cases h : i = k
      · subst h; simpa using c14
      · exact hf i (by omega)
  · have hkn : k = n := by omega
    subst hkn
    refine V.region (VL.op (R.asB rfl) (VL.nil (V.ret (fret1 (v := .bool _) rfl rfl rfl (?_)))))
    refine ⟨?_, e2⟩
    rw [show (List.range k).all f = true from List.all_eq_true.2 fun i hi => hf i (List.mem_range.1 hi)]
theorem settled_all {E : List (List Int)} {P O : List Int} {k : Nat} (hO : ∀ i, i < E.length → O.getD i default = ((outN (E.getD i default) P k : Nat) : Int)) : ((List.range k).all fun w => decide ((w : Int) ∈ P) || (adjK E E.length ((w : Nat) : Int)).any fun x => decide (O.getD x.toNat default = 1)) = prB E P k := by
  unfold prB
  congr 1
  funext w
  congr 1
  rw [← adj_any]
  rw [Bool.eq_iff_iff, List.any_eq_true, List.any_eq_true]
  refine ⟨fun ⟨x, hx, h⟩ => ⟨x, hx, ?_⟩, fun ⟨x, hx, h⟩ => ⟨x, hx, ?_⟩⟩
  all_goals
    obtain ⟨i, hi, _, rfl⟩ := adjK_mem.1 hx
    rw [Int.toNat_natCast, decide_eq_true_eq] at *
    have := hO i hi
    omega
/-- Whether a vertex below is settled. -/
def setB1 (E : List (List Int)) (P O : List Int) (v : Nat) : Bool := decide ((v : Int) ∈ P) || (adjK E E.length ((v : Nat) : Int)).any fun x => decide (O.getD x.toNat default = 1)
abbrev FnB (w : World) (b : Nat) (f : Nat) (cs : List Value) : Prop := Blk w b (.cells #[.func (.func f) #[] cs.toArray] 60 (0, 0))
set_option maxRecDepth 100000 in
theorem settled_spec (g : GrW) (B N sb pb ob oB v : Nat) (s : StW) (P O : List Int) (w : World) (hS : StOk B w g s) (hI : StIs (vals g.edges) N s P) (hs : PtB w sb s) (hp : FnB w pb 72 [.pointer (some ⟨sb, 0, none⟩), .pointer (some ⟨ob, 0, none⟩)]) (hb : PtO w ob oB O) (hO : IntSl w (some ⟨oB, 0, none⟩) O) (hE20 : g.edges.length ≤ 20000) (_hN : N ≤ 4000) (hol : O.length = g.edges.length) (hv : v < N) :
    RetsP Tryz.prog 76 #[.int .i64 (v : Nat), .pointer (some ⟨sb, 0, none⟩), .pointer (some ⟨pb, 0, none⟩)] w (.bool (setB1 (vals g.edges) P O v)) := by
  have hX := hS.blk
  have hbl := hI.bl
  have hin := hI.in_ v hv
  refine enter (args := [_, _, _]) Tryz.func76 rfl Tryz.ntmps76 (by kernel_rfl) rfl ?_
  refine V.seq (V.region (VL.op (R.asB rfl) (VL.nil (V.seq (V.region (VL.op (R.ld1 Tryz.isAgg54 rfl ((hs.cell _))) (VL.op (R.nilCheck rfl) (VL.op (R.fld' (o := 3) Tryz.runUnderlying59 rfl rfl Tryz.sizeOf41 rfl rfl) (VL.op (R.ld1 Tryz.isAgg41 rfl ((show w.cell? ⟨s.p, 3, none⟩ = some (Value.slice (some ⟨s.bi, 0, none⟩) s.bs.length s.bs.length) from hX.cell 3))) (VL.op (R.mvI rfl) (VL.op (R.ixS Tryz.runUnderlying41 Tryz.sizeOf4 rfl rfl (by omega) (by omega) (hS.i.sl.some (i := v) (by omega))) (VL.op (R.ld1 Tryz.isAgg4 rfl (((hS.i.sl.row (i := v) (by omega)).cell (i := 0) rfl))) (VL.op (R.mvB rfl) (VL.or rfl rfl (fun g1_7 => VL.op (R.ld1 Tryz.isAgg60 rfl ((hp.cell _))) (VL.gT rfl rfl (VL.op (R.mvI rfl) (VL.gT rfl rfl (VL.callCP rfl (Tryz.call72) rfl (possible_spec g B N sb ob oB v s P O w hS hI hs hb hO hE20 hol hv) fun w1_10 e1_10 => VL.op (R.pickFB rfl rfl) (VL.op (R.asB rfl) (VL.nil (V.ret (fret1 (v := .bool _) rfl rfl rfl (?_)))))))))) (fun g1_7 => VL.gF rfl rfl (VL.gF rfl rfl (VL.op (R.pickTB rfl rfl) (VL.op (R.asB rfl) (VL.nil (V.ret (fret1 (v := .bool _) rfl rfl rfl (?_))))))))))))))))))))))
  · refine ⟨?_, e1_10⟩
    unfold setB1
    rw [← hin, g1_7, Bool.false_or]
  · refine ⟨?_, Vc.Mod.refl _ _⟩
    unfold setB1
    rw [← hin, g1_7, Bool.true_or]
end Go.Proofs.YtlnbkoojelhjdaaGreatDoor
