/- Repair: the search. -/
import Derived.Test.YtlnbkoojelhjdaaGreatDoorXR2
namespace Go.Proofs.YtlnbkoojelhjdaaGreatDoor
open Go.Vc
/-- How a part of the search ended. -/
def EndR (J Jx : List SlI → World → Prop) (pre : List SlI) (R : List (List Int)) (b : Bool) (xs : List SlI) (W : World) : Prop :=
  (b = true ∧ vals xs = R ∧ J (pre ++ xs) W) ∨ (b = false ∧ (∃ t, R = vals xs ++ t) ∧ Jx (pre ++ xs) W)
theorem repK_step {E : List (List Int)} {N f v : Nat} {P : List Int} (h : v + (f + 1) = N) : repK E N (f + 1) P = (if blkB E P (v : Int) = true then [] else repK E N f (P ++ [(v : Int)])) ++ if prB E P (v + 1) = true then repK E N f P else [] := by
  rw [repK, show N - (f + 1) = v by omega]
theorem VSt.stT {x : FxR} {w0 W : World} {s : StW} {O P : List Int} (h : VSt x w0 W s O P) : ∀ k, StT s k → x.T k := fun k hk => by
  obtain ⟨g1, g2, _⟩ := h.ok.ge
  have po := h.po; have oU := h.oU; have li := h.ok.li; have lf := h.ok.lf
  left
  rcases hk with rfl | rfl
  · omega
  · omega
theorem VSt.oT {x : FxR} {w0 W : World} {s : StW} {O P : List Int} (h : VSt x w0 W s O P) : x.T x.oB := by
  have := h.out.ge _ ⟨_, rfl, rfl⟩
  exact .inl ⟨this, h.oU⟩
theorem EndR.mod {J Jx : List SlI → World → Prop} {T : Nat → Prop} (hJ : ∀ s A B, J s A → Vc.Mod T A B → J s B) (hJx : ∀ s A B, Jx s A → Vc.Mod T A B → Jx s B) {pre : List SlI} {R : List (List Int)} {b : Bool} {xs : List SlI} {W W' : World} (h : EndR J Jx pre R b xs W) (m : Vc.Mod T W W') : EndR J Jx pre R b xs W' := by
  rcases h with ⟨h1, h2, h3⟩ | ⟨h1, h2, h3⟩
  · exact .inl ⟨h1, h2, hJ _ _ _ h3 m⟩
  · exact .inr ⟨h1, h2, hJx _ _ _ h3 m⟩
theorem EndR.app {J Jx : List SlI → World → Prop} {pre xs1 xs : List SlI} {R1 R2 : List (List Int)} {b : Bool} {W : World} (h1 : vals xs1 = R1) (h : EndR J Jx (pre ++ xs1) R2 b xs W) : EndR J Jx pre (R1 ++ R2) b (xs1 ++ xs) W := by
  rcases h with ⟨h2, h3, h4⟩ | ⟨h2, ⟨t, h3⟩, h4⟩
  · exact .inl ⟨h2, by unfold vals at *; rw [List.map_append, h1, h3], by rw [← List.append_assoc]; exact h4⟩
  · exact .inr ⟨h2, ⟨t, by unfold vals at *; rw [List.map_append, h1, h3, List.append_assoc]⟩, by rw [← List.append_assoc]; exact h4⟩
theorem outN_le (e P : List Int) (k : Nat) : outN e P k ≤ e.length := List.length_filter_le _ _
theorem settled_n {E : List (List Int)} {P O : List Int} {v n : Nat} (hn : n = v + 1) (hO : OIs E O P (v + 1)) : (List.range n).all (setB1 E P O) = prB E P (v + 1) := by
  subst hn
  exact settled_all hO
theorem OIs.in_ {E : List (List Int)} {O P : List Int} {v : Nat} : OIs E O (P ++ [(v : Int)]) (v + 1) ↔ OIs E O P v := by
  unfold OIs
  simp only [outN_in]
set_option maxRecDepth 100000 in
set_option maxHeartbeats 8000000 in
theorem visit_spec (x : FxR) (w0 : World) (hx : x.Ok w0) (mm : Nat) (J Jx : List SlI → World → Prop) (hJ : ∀ s A B, J s A → Vc.Mod x.T A B → J s B) (hJx : ∀ s A B, Jx s A → Vc.Mod x.T A B → Jx s B)
    (all : List (List Int)) (hY : ∀ pre y W1, J pre W1 → (∃ t, all = vals (pre ++ [y]) ++ t) → OwnT Vc.encI 1 3 x.B W1 y.a y.c y.l → (∀ k, aBlk y.a k → ¬ x.T k) → YieldAt Fence.wide mm Tryz.prog x.l #[.slice y.a y.l.length y.c] W1 fun e W' =>
      ((e = .returned (.bool true) ∧ J (pre ++ [y]) W') ∨ (e = .returned (.bool false) ∧ Jx (pre ++ [y]) W')) ∧ Vc.Mod (fun k => x.ne ≤ k ∧ ¬ x.T k) W1 W') :
    ∀ (f v : Nat), v + f = x.N → ∀ s O P pre W, VSt x w0 W s O P → Pre (vals x.g.edges) v P → OIs (vals x.g.edges) O P v → J pre W → (∃ t, all = vals pre ++ (repK (vals x.g.edges) x.N f P ++ t)) →
      RetsY Tryz.prog 74 (.int .i64 (v : Nat) :: x.caps).toArray W (fun z : Bool × StW × List Int × List SlI => .bool z.1)
        (fun z W' => VSt x w0 W' z.2.1 z.2.2.1 P ∧ OIs (vals x.g.edges) z.2.2.1 P v ∧ EndR J Jx pre (repK (vals x.g.edges) x.N f P) z.1 z.2.2.2 W') := by
  have hv := hx.hv
  have hn := costB_iff.1 (validG_iff.1 hv).1
  have hN := hx.hN
  have hN4 : x.N ≤ 4000 := by have h0 : x.g.n ≤ 4000 := hn.2.1; omega
  have hE20 : x.g.edges.length ≤ 20000 := by have := (validG_iff.1 hv).2.1; simpa [grV, vals] using this
  have hnd : ∀ e ∈ vals x.g.edges, e.Nodup := fun e he => inc_nodup ((validG_iff.1 hv).2.2.1 e he).2.1
  have hle : ∀ y ∈ vals x.g.edges, y.length ≤ 1000000 := fun y hy => by
    obtain ⟨z, hz, rfl⟩ := List.mem_map.1 hy
    exact (hx.gl.each z hz).1
  have hT0 : ∀ {A B : World}, Ext A B → Vc.Mod x.T A B := fun h => h.mod
  intro f
  induction f with
  | zero =>
    intro v hvN s O P pre W hV hP hO hj hal
    have hvn : v = x.N := by omega
    have hok := hV.ok
    refine enter (args := [_, _, _, _, _, _, _]) Tryz.func74 rfl Tryz.ntmps74 (by kernel_rfl) rfl ?_
    refine V.seq (V.region (VL.op (R.asB rfl) (VL.nil (V.seq (V.seq (V.region (VL.op (R.mvI rfl) (VL.op (R.fld' (o := 0) Tryz.runUnderlying25 rfl rfl Tryz.sizeOf3 rfl rfl) (VL.op (R.ld1 Tryz.isAgg3 rfl ((show W.cell? ⟨x.gb, 0, none⟩ = some (Value.int .i64 x.g.n) from hV.gb.cell 0))) (VL.op (R.eql rfl rfl) (VL.nil (V.condP rfl (fun c18 => V.seq (?_)) (fun c18 => V.skip (V.seq (V.seq (?_))))))))))))))))
    · refine V.regionMI (mm := mm + 1) mixed 3 (by kernel_rfl) rfl (fun i u w' => match i with | 0 => u = .func (.yield x.l) #[] #[] | 1 => u = .pointer (some ⟨s.p, 0, none⟩) | 2 => ∃ y : SlI, u = .slice y.a y.l.length y.c ∧ OwnT Vc.encI 1 3 W.heap.size w' y.a y.c y.l ∧ y.l = P | _ => True) ?_ (fun us => VMs.op ?_ (VMs.op ?_ (VMs.op ?_ (VMs.nil fun w4 e4 h4 => ?_))))
      · intro i u w1 w2 _ h2 h3
        match i with
        | 0 => exact h2
        | 1 => exact h2
        | 2 => obtain ⟨y, hy, h5, h6⟩ := h2; exact ⟨y, hy, h5.ext h3, h6⟩
        | n + 3 => trivial
      · intro w' e _
        exact yieldsR_op (R.ld1 Tryz.isAgg69 rfl ((hV.yb.ext e).cell _)) ⟨rfl, Vc.Mod.refl _ _⟩
      · intro w' e _
        exact yieldsR_op (R.ld1 Tryz.isAgg54 rfl ((hV.sb.ext e).cell _)) ⟨rfl, Vc.Mod.refl _ _⟩
      · intro w' e h
        have h1 := h 1 (by kernel_rfl)
        refine yieldsR_call Tryz.call43 (vs := [.pointer (some ⟨s.p, 0, none⟩)]) (by rw [← h1]; rfl) ((set_spec x.g x.B x.N s P w' (hok.ext e) hV.st hN4).mono fun u w2 ⟨y, hy, ⟨h5, h6⟩, h7⟩ => ⟨⟨y, hy, h5.weaken e.size, ?_⟩, h7⟩)
        rw [h6]
        exact memK_self hP.inc fun z hz => by have := hP.rng z hz; omega
      · obtain ⟨y, hy, h5, h6⟩ := h4 2 (by omega)
        have h40 := h4 0 (by omega)
        have hV4 := hV.ext hx e4
        have sz := hV.sz
        have hB0 := hx.iy
        have gB := hx.gB
        refine VY.round (v := .slice y.a y.l.length y.c) h40 hy (hY pre y w4 (hJ _ _ _ hj (hT0 e4)) (by obtain ⟨t, ht⟩ := hal; exact ⟨t, by rw [ht]; simp [vals, h6, repK]⟩) (h5.weaken (by omega)) fun k hk hT => ?_) ?_
        · have := h5.ge k hk
          unfold FxR.T at hT
          omega
        · rintro e w5 ⟨h7, hm⟩
          have hV5 := hV4.mod hx hm fun k hk => hk
          rcases h7 with ⟨rfl, h7⟩ | ⟨rfl, h7⟩
          · refine ⟨_, rfl, VY.op (R.asB rfl) (VY.nil (V.ret (fret1 (v := .bool _) rfl rfl rfl ⟨(true, s, O, [y]), rfl, hV5, hO, .inl ⟨rfl, ?_, h7⟩⟩)))⟩
            simp [h6, repK]
          · refine ⟨_, rfl, VY.op (R.asB rfl) (VY.nil (V.ret (fret1 (v := .bool _) rfl rfl rfl ⟨(false, s, O, [y]), rfl, hV5, hO, .inr ⟨rfl, ⟨[], ?_⟩, h7⟩⟩)))⟩
            simp [h6, repK]
    · omega
  | succ f ih =>
    intro v hvN s O P pre W hV hP hO hj hal
    have hvl : v < x.N := by omega
    have hok := hV.ok
    have hst := hV.st
    have hE := hV.E hx
    have hvP : (v : Int) ∉ P := fun h => by have := hP.rng _ h; omega
    rw [repK_step hvN] at hal ⊢
    obtain ⟨R1, hR1⟩ : ∃ R1, R1 = if blkB (vals x.g.edges) P (v : Int) = true then [] else repK (vals x.g.edges) x.N f (P ++ [(v : Int)]) := ⟨_, rfl⟩
    obtain ⟨R2, hR2⟩ : ∃ R2, R2 = if prB (vals x.g.edges) P (v + 1) = true then repK (vals x.g.edges) x.N f P else [] := ⟨_, rfl⟩
    rw [← hR1, ← hR2] at hal ⊢
    obtain ⟨tl, hal⟩ := hal
    rw [List.append_assoc] at hal
    have hmem : ∀ y, y ∈ P ++ [(v : Int)] ↔ y = (v : Int) ∨ y ∈ P := fun y => by rw [List.mem_append, List.mem_singleton]; exact or_comm
    have hih : ∀ s O P pre W, VSt x w0 W s O P → Pre (vals x.g.edges) (v + 1) P → OIs (vals x.g.edges) O P (v + 1) → J pre W → (∃ t, all = vals pre ++ (repK (vals x.g.edges) x.N f P ++ t)) →
      RetsY Tryz.prog 74 (.int .i64 ((v : Int) + 1) :: x.caps).toArray W (fun z : Bool × StW × List Int × List SlI => .bool z.1)
        (fun z W' => VSt x w0 W' z.2.1 z.2.2.1 P ∧ OIs (vals x.g.edges) z.2.2.1 P (v + 1) ∧ EndR J Jx pre (repK (vals x.g.edges) x.N f P) z.1 z.2.2.2 W') := fun s O P pre W h1 h2 h3 h4 h5 => ih (v + 1) (by omega) s O P pre W h1 h2 h3 h4 h5
    refine enter (args := [_, _, _, _, _, _, _]) Tryz.func74 rfl Tryz.ntmps74 (by kernel_rfl) rfl ?_
    refine V.seq (V.region (VL.op (R.asB rfl) (VL.nil (V.seq (V.seq (V.region (VL.op (R.mvI rfl) (VL.op (R.fld' (o := 0) Tryz.runUnderlying25 rfl rfl Tryz.sizeOf3 rfl rfl) (VL.op (R.ld1 Tryz.isAgg3 rfl ((show W.cell? ⟨x.gb, 0, none⟩ = some (Value.int .i64 x.g.n) from hV.gb.cell 0))) (VL.op (R.eql rfl rfl) (VL.nil (V.condP rfl (fun c18 => V.seq (?_)) (fun c18 => V.skip (V.cut [0, 1, 2, 3, 4, 5, 6] (fun z : StW × List Int × List SlI => [.int .i64 (v : Nat), .pointer (some ⟨x.gb, 0, none⟩), .pointer (some ⟨x.yb, 0, none⟩), .pointer (some ⟨x.sb, 0, none⟩), .pointer (some ⟨x.vb, 0, none⟩), .pointer (some ⟨x.ob, 0, none⟩), .pointer (some ⟨x.pb, 0, none⟩)]) (fun z w' => VSt x w0 w' z.1 z.2.1 P ∧ OIs (vals x.g.edges) z.2.1 P v ∧ vals z.2.2 = R1 ∧ J (pre ++ z.2.2) w') (V.seq (V.region (VL.op (R.ld1 Tryz.isAgg54 rfl ((hV.sb.cell _))) (VL.op (R.mvI rfl) (VL.callP Tryz.call41 rfl (blocked_spec x.g x.B x.N s P v _ hok hst hE hx.gl hE20 hnd hvl hvP) fun w3_2 e3_2 => VL.op (R.not rfl) (VL.nil (V.cond rfl (fun c26 => V.seq (?_)) (fun c26 => V.skip (?_))))))))) (fun rgC26 xC26 wBC26 hBC26 => V.cut [0, 1, 2, 3, 4, 5, 6] (fun _ : List Int => [.int .i64 (v : Nat), .pointer (some ⟨x.gb, 0, none⟩), .pointer (some ⟨x.yb, 0, none⟩), .pointer (some ⟨x.sb, 0, none⟩), .pointer (some ⟨x.vb, 0, none⟩), .pointer (some ⟨x.ob, 0, none⟩), .pointer (some ⟨x.pb, 0, none⟩)]) (fun z w' => VSt x w0 w' xC26.1 z P ∧ OIs (vals x.g.edges) z P (v + 1) ∧ J (pre ++ xC26.2.2) w') (V.seq (?_)) (fun rgB0 xB0 wBB0 hBB0 => V.seq (?_)))))))))))))))))
    · omega
    · have hV3 := hV.ext hx e3_2
      have hbf : blkB (vals x.g.edges) P (v : Int) = false := by simpa using c26
      rw [hbf, if_neg (by decide)] at hR1
      have hsz := hV3.sz
      have hB0 := hx.iy
      refine V.region (VL.op (R.ld1 Tryz.isAgg54 rfl ((hV3.sb.cell _))) (VL.op (R.mvI rfl) (VL.callY Tryz.call42 rfl (put_spec x.g x.B x.N s P (P ++ [(v : Int)]) v true _ hV3.ok hst hE20 hle hvl (by omega) (fun j hj => by
          rw [cntE_put hvP hmem (hnd _ (gmem hj))]
          by_cases h : (v : Int) ∈ (vals x.g.edges).getD j default
          · rw [if_pos h, if_pos h, if_pos rfl]; rfl
          · rw [if_neg h, if_neg h]; rfl) (fun j hj => by
          by_cases h : j = v
          · subst h; rw [if_pos rfl]; exact decide_eq_true ((hmem _).2 (.inl rfl))
          · rw [if_neg h]; exact decide_eq_decide.2 ⟨fun h2 => ((hmem _).1 h2).resolve_left (by omega), fun h2 => (hmem _).2 (.inr h2)⟩)) fun z4 w4 h4 => VL.nil (V.seq (?_)))))
      obtain ⟨h41, h42, h43⟩ := h4
      have hV4 := hV3.put hx h41 h42 h43
      have hj4 := hJ _ _ _ (hJ _ _ _ hj (hT0 e3_2)) (h43.weaken fun k _ hk => hV3.stT k hk)
      refine V.region (VL.op (R.ld1 Tryz.isAgg60 rfl ((hV4.vb.cell _))) (VL.op (R.mvI rfl) (VL.op (R.add rfl rfl (by omega) (by omega)) (VL.callCY rfl (Tryz.call74) rfl (hih _ O (P ++ [(v : Int)]) pre w4 hV4 (hP.in_ hbf) (OIs.in_.2 hO) hj4 ⟨R2 ++ tl, by rw [hal, hR1]⟩) fun z5 w5 h5 => VL.op (R.asB rfl) (VL.nil (V.seq (?_)))))))
      obtain ⟨b5, s5, O5, xs5⟩ := z5
      obtain ⟨hV5, hO5, hE5⟩ := h5
      dsimp only at hV5 hO5 hE5 ⊢
      have hsz5 := hV5.sz
      refine V.region (VL.op (R.ld1 Tryz.isAgg54 rfl ((hV5.sb.cell _))) (VL.op (R.mvI rfl) (VL.callY Tryz.call42 rfl (put_spec x.g x.B x.N s5 (P ++ [(v : Int)]) P v false _ hV5.ok hV5.st hE20 hle hvl (by omega) (fun j hj => by
          rw [cntE_put hvP hmem (hnd _ (gmem hj))]
          by_cases h : (v : Int) ∈ (vals x.g.edges).getD j default
          · rw [if_pos h, if_pos h, if_neg (by decide)]; omega
          · rw [if_neg h, if_neg h]; rfl) (fun j hj => by
          by_cases h : j = v
          · subst h; rw [if_pos rfl]; exact decide_eq_false hvP
          · rw [if_neg h]; exact decide_eq_decide.2 ⟨fun h2 => (hmem _).2 (.inr h2), fun h2 => ((hmem _).1 h2).resolve_left (by omega)⟩)) fun z6 w6 h6 => VL.nil (V.seq (V.region (VL.op (R.mvB rfl) (VL.op (R.not rfl) (VL.nil (V.cond rfl (fun c38 => V.seq (V.region (VL.op (R.asB rfl) (VL.nil (V.ret (fret1 (v := .bool _) rfl rfl rfl (?_))))))) (fun c38 => V.skip (?_)))))))))))
      · obtain ⟨h61, h62, h63⟩ := h6
        refine ⟨(false, _, O5, xs5), rfl, hV5.put hx h61 h62 h63, OIs.in_.1 hO5, ?_⟩
        rcases hE5.mod hJ hJx (h63.weaken fun k _ hk => hV5.stT k hk) with ⟨h1, _, _⟩ | ⟨_, ⟨t, ht⟩, h3⟩
        · rw [h1] at c38; cases c38
        · exact .inr ⟨rfl, ⟨t ++ R2, by rw [hR1, ht, List.append_assoc]⟩, h3⟩
      · obtain ⟨h61, h62, h63⟩ := h6
        refine ⟨(_, O5, xs5), rfl, hV5.put hx h61 h62 h63, OIs.in_.1 hO5, ?_⟩
        rcases hE5.mod hJ hJx (h63.weaken fun k _ hk => hV5.stT k hk) with ⟨_, h2, h3⟩ | ⟨h1, _, _⟩
        · exact ⟨by rw [hR1, h2], h3⟩
        · rw [h1] at c38; cases c38
    · have hV3 := hV.ext hx e3_2
      have hbf : blkB (vals x.g.edges) P (v : Int) = true := by simpa using c26
      rw [hbf, if_pos rfl] at hR1
      exact ⟨(s, O, []), rfl, hV3, hO, by rw [hR1]; rfl, by rw [List.append_nil]; exact hJ _ _ _ hj (hT0 e3_2)⟩
    · obtain ⟨s9, O9, xs9⟩ := xC26
      obtain ⟨hV9, hO9, hv9, hj9⟩ := hBC26
      dsimp only at hV9 hO9 hv9 hj9 ⊢
      have hz := hV9.st.zl
      have hzl : (s9.z.getD v default).l.length ≤ 20000 := by rw [hV9.st.adj v hvl]; have := adjK_len (vals x.g.edges) (vals x.g.edges).length ((v : Nat) : Int); rw [List.length_map] at this ⊢; omega
      have hbl := hV9.st.bl
      have hLv : (s9.z.getD v default).l = adjK (vals x.g.edges) (vals x.g.edges).length ((v : Nat) : Int) := hV9.st.adj v hvl
      refine V.region (VL.op (R.ld1 Tryz.isAgg54 rfl ((hV9.sb.cell _))) (VL.op (R.nilCheck rfl) (VL.op (R.fld' (o := 5) Tryz.runUnderlying59 rfl rfl Tryz.sizeOf23 rfl rfl) (VL.op (R.ld1 Tryz.isAgg23 rfl ((show wBC26.cell? ⟨s9.p, 5, none⟩ = some (Value.slice (some ⟨s9.ba, 0, none⟩) s9.z.length s9.z.length) from hV9.ok.blk.cell 5))) (VL.op (R.mvI rfl) (VL.op (R.ixS Tryz.runUnderlying23 Tryz.sizeOf22 rfl rfl (by omega) (by omega) (hV9.ok.a.own.sl.some (i := v) (by omega))) (VL.op (R.ld1 Tryz.isAgg22 rfl (((hV9.ok.a.own.sl.row (i := v) (by omega)).cell (i := 0) rfl))) (VL.op (R.lenS Tryz.runUnderlying22 rfl) (VL.op (R.mvI rfl) (VL.nil (V.block (?_))))))))))))
      refine V.loop [0, 1, 2, 3, 4, 5, 6, 45, 46, 47] (fun z : Nat × List Int => [.int .i64 (v : Nat), .pointer (some ⟨x.gb, 0, none⟩), .pointer (some ⟨x.yb, 0, none⟩), .pointer (some ⟨x.sb, 0, none⟩), .pointer (some ⟨x.vb, 0, none⟩), .pointer (some ⟨x.ob, 0, none⟩), .pointer (some ⟨x.pb, 0, none⟩), .slice (s9.z.getD v default).a (s9.z.getD v default).l.length (s9.z.getD v default).c, .int .i64 ((s9.z.getD v default).l.length : Nat), .int .i64 (z.1 : Nat)])
        (fun z w' => z.1 ≤ (s9.z.getD v default).l.length ∧ VSt x w0 w' s9 z.2 P ∧ (∀ k, k < (vals x.g.edges).length → z.2.getD k default = ((outN ((vals x.g.edges).getD k default) P v : Nat) : Int) + if ((k : Nat) : Int) ∈ (s9.z.getD v default).l.take z.1 then 1 else 0) ∧ J (pre ++ xs9) w') (fun z => (s9.z.getD v default).l.length - z.1) (0, O9) rfl ⟨Nat.zero_le _, hV9, fun k hk => by rw [hO9 k hk]; simp, hj9⟩ ?_
      rintro ρ ⟨i, O⟩ w4 ⟨hi, hV4, hO4, hj4⟩
      dsimp only at hi hV4 hO4 hj4 ⊢
      refine V.seq (V.region (VL.op (R.lss rfl rfl) (VL.nil (V.seq (V.condP rfl (fun c48 => V.skip (V.seq (V.block (V.seq (?_))))) (fun c48 => V.exit (?_)))))))
      · have hil : i < (s9.z.getD v default).l.length := by omega
        have hxi : IntSl w4 (s9.z.getD v default).a (s9.z.getD v default).l := (hV4.ok.a.each v).sl
        have hm := gmem hil
        rw [hLv] at hm
        obtain ⟨k, hk, hvk, hkd⟩ := adjK_mem.1 hm
        rw [← hLv] at hkd
        have hk2 := hk
        rw [List.length_map] at hk2
        have hol := hV4.ol
        have hOk := hO4 k hk
        have hc := outN_le ((vals x.g.edges).getD k default) P v
        have hc2 := hle _ (gmem hk)
        refine V.region (VL.op (R.ixS Tryz.runUnderlying22 Tryz.sizeOf3 rfl rfl (by omega) (by omega) ((hxi).some (i := i) (by omega))) (VL.op (R.ld1 Tryz.isAgg3 rfl (((((hxi).ext (Mod.refl _ _)).row (i := i) (by omega)).cell (i := 0) rfl))) (VL.op (R.asI rfl) (VL.nil (?_)))))
        rw [hkd]
        refine V.region (VL.op (R.ld1 Tryz.isAgg22 rfl ((hV4.ob.cell _))) (VL.op (R.mvI rfl) (VL.op (R.ixS Tryz.runUnderlying22 Tryz.sizeOf3 rfl rfl (by omega) (by omega) (hV4.out.sl.some (i := k) (by omega))) (VL.op (R.ld1 Tryz.isAgg3 rfl (((hV4.out.sl.row (i := k) (by omega)).cell (i := 0) rfl))) (VL.op (R.add rfl rfl (by omega) (by omega)) (VL.op (R.ixS Tryz.runUnderlying22 Tryz.sizeOf3 rfl rfl (by omega) (by omega) (hV4.out.sl.some (i := k) (by omega))) (VL.ownSt eltI (v := .int _ _) Tryz.sizeOf3 (hV4.out) k 0 (O.getD k default + 1) rfl rfl (by omega) rfl rfl rfl rfl rfl fun w7 ho7 m7 hs7 => VL.nil (V.region (VL.op (R.add rfl rfl (by omega) (by omega)) (VL.op (R.mvI rfl) (VL.nil (?_))))))))))))
        have hinc : Inc (s9.z.getD v default).l := by rw [hLv]; exact adjK_inc _ _ _
        have hnew : ((k : Nat) : Int) ∉ (s9.z.getD v default).l.take i := fun h => by
          obtain ⟨j, hj, hjv⟩ := List.getElem_of_mem h
          rw [List.length_take] at hj
          rw [List.getElem_take] at hjv
          have := inc_at hinc (i := j) (j := i) (by omega) hil
          rw [hkd, gget (show j < (s9.z.getD v default).l.length by omega), hjv] at this
          omega
        have ht : (s9.z.getD v default).l.take (i + 1) = (s9.z.getD v default).l.take i ++ [(k : Int)] := by rw [List.take_succ_eq_append_getElem hil, ← hkd, gget hil]
        refine ⟨(i + 1, O.set k (O.getD k default + 1)), rfl, ⟨by dsimp only; omega, hV4.wr hx ho7 (by simp) (m7.weaken fun q _ hq => aBlk_some hq), fun k2 hk2 => ?_, hJ _ _ _ hj4 (m7.weaken fun q _ hq => by rw [aBlk_some hq]; exact hV4.oT)⟩, by dsimp only; omega⟩
        dsimp only
        rw [ht]
        by_cases e : k2 = k
        · subst e
          rw [setD_eq _ (by omega), hOk, if_neg hnew, if_pos (by simp)]; omega
        · rw [setD_ne _ e, hO4 k2 hk2]
          have : ((k2 : Nat) : Int) ∈ (s9.z.getD v default).l.take i ++ [(k : Int)] ↔ ((k2 : Nat) : Int) ∈ (s9.z.getD v default).l.take i := by
            rw [List.mem_append, List.mem_singleton]
            exact ⟨fun h => h.resolve_right (by omega), .inl⟩
          simp only [this]
      · have hke : i = (s9.z.getD v default).l.length := by omega
        subst hke
        refine ⟨O, rfl, hV4, fun k hk => ?_, hj4⟩
        rw [hO4 k hk, List.take_length, hLv, outN_out hvP (hnd _ (gmem hk))]
        by_cases h : (v : Int) ∈ (vals x.g.edges).getD k default
        · rw [if_pos (adjK_mem.2 ⟨k, hk, h, rfl⟩), if_pos h]; rfl
        · rw [if_neg fun h2 => (by obtain ⟨j, _, hj, hjk⟩ := adjK_mem.1 h2; have : k = j := by omega
                                   subst this; exact h hj), if_neg h]; rfl
    · obtain ⟨s9, O9, xs8⟩ := xC26
      obtain ⟨_, _, hv9, _⟩ := hBC26
      obtain ⟨hV0, hO0, hj0⟩ := hBB0
      dsimp only at hv9 hV0 hO0 hj0 ⊢
      have hbl := hV0.st.bl
      have alE : (List.range (((v : Int) + 1).toNat)).all (setB1 (vals x.g.edges) P xB0) = true → all = vals (pre ++ xs8) ++ (repK (vals x.g.edges) x.N f P ++ tl) := fun hc => by
        have hpr : prB (vals x.g.edges) P (v + 1) = true := (settled_n (by omega) hO0).symm.trans hc
        rw [hpr, if_pos rfl] at hR2
        rw [hal, ← hv9, ← hR2]
        simp [vals]
      refine V.region (VL.op (R.asB rfl) (VL.nil (V.cut [0, 1, 2, 3, 4, 5, 6, 12] (fun z : Bool × StW × List Int × List SlI => [.int .i64 (v : Nat), .pointer (some ⟨x.gb, 0, none⟩), .pointer (some ⟨x.yb, 0, none⟩), .pointer (some ⟨x.sb, 0, none⟩), .pointer (some ⟨x.vb, 0, none⟩), .pointer (some ⟨x.ob, 0, none⟩), .pointer (some ⟨x.pb, 0, none⟩), .bool z.1]) (fun z w' => VSt x w0 w' z.2.1 z.2.2.1 P ∧ OIs (vals x.g.edges) z.2.2.1 P (v + 1) ∧ EndR J Jx (pre ++ xs8) R2 z.1 z.2.2.2 w') (V.seq (V.region (VL.op (R.ld1 Tryz.isAgg54 rfl ((hV0.sb.cell _))) (VL.op (R.nilCheck rfl) (VL.op (R.fld' (o := 3) Tryz.runUnderlying59 rfl rfl Tryz.sizeOf41 rfl rfl) (VL.op (R.ld1 Tryz.isAgg41 rfl ((show wBB0.cell? ⟨s9.p, 3, none⟩ = some (Value.slice (some ⟨s9.bi, 0, none⟩) s9.bs.length s9.bs.length) from hV0.ok.blk.cell 3))) (VL.op (R.mvI rfl) (VL.op (R.add rfl rfl (by omega) (by omega)) (VL.op (R.slHi Tryz.runUnderlying41 Tryz.sizeOf4 rfl rfl (by omega) (by omega)) (VL.op (R.mkFn rfl rfl) (VL.callP Tryz.call75 rfl (every_spec 76 [] [.pointer (some ⟨x.sb, 0, none⟩), .pointer (some ⟨x.pb, 0, none⟩)] (setB1 (vals x.g.edges) P xB0) (fun w' => VSt x w0 w' s9 xB0 P) _ _ _ _ Tryz.call76 (fun k w' hk h => settled_spec x.g x.B x.N x.sb x.pb x.ob x.oB k s9 P xB0 w' h.ok h.st h.sb h.pb h.ob h.out.sl hE20 hN4 h.ol (by omega)) (fun _ _ h e => h.ext hx e) hV0 (by omega)) fun w15_8 e15_8 => VL.nil (V.cond rfl (fun c66 => V.region (VL.op (R.ld1 Tryz.isAgg60 rfl (((hV0.ext hx e15_8).vb.cell _))) (VL.op (R.mvI rfl) (VL.op (R.add rfl rfl (by omega) (by omega)) (VL.callCY rfl (Tryz.call74) rfl (hih s9 xB0 P (pre ++ xs8) _ (hV0.ext hx e15_8) (hP.out ((settled_n (by omega) hO0).symm.trans c66)) hO0 (hJ _ _ _ hj0 (hT0 e15_8)) ⟨tl, alE c66⟩) fun z16 w16 h16 => VL.op (R.asB rfl) (VL.nil (?_))))))) (fun c66 => V.skip (?_)))))))))))))) (fun rgC66 xC66 wBC66 hBC66 => V.cut [12] (fun _ : List Int => [.bool xC66.1]) (fun z w' => VSt x w0 w' xC66.2.1 z P ∧ OIs (vals x.g.edges) z P v ∧ EndR J Jx (pre ++ xs8) R2 xC66.1 xC66.2.2.2 w') (V.seq (?_)) (fun rgB2 xB2 wBB2 hBB2 => V.seq (V.region (VL.op (R.mvB rfl) (VL.op (R.asB rfl) (VL.nil (V.ret (fret1 (v := .bool _) rfl rfl rfl (?_))))))))))))
      · have hpr : prB (vals x.g.edges) P (v + 1) = true := (settled_n (by omega) hO0).symm.trans c66
        rw [hpr, if_pos rfl] at hR2
        exact ⟨z16, rfl, h16.1, h16.2.1, by rw [hR2]; exact h16.2.2⟩
      · have hpr : prB (vals x.g.edges) P (v + 1) = false := (settled_n (by omega) hO0).symm.trans c66
        rw [hpr, if_neg (by decide)] at hR2
        exact ⟨(true, s9, xB0, []), rfl, hV0.ext hx e15_8, hO0, .inl ⟨rfl, by rw [hR2]; rfl, by rw [List.append_nil]; exact hJ _ _ _ hj0 (hT0 e15_8)⟩⟩
      · obtain ⟨b9, s9, O9, xs9⟩ := xC66
        obtain ⟨hV9, hO9, hj9⟩ := hBC66
        obtain ⟨pre9, hpre9⟩ : ∃ pre9, pre9 = pre ++ xs8 := ⟨_, rfl⟩
        dsimp only at hV9 hO9 hj9 ⊢
        rw [← hpre9] at hj9 ⊢
        have hz := hV9.st.zl
        have hzl : (s9.z.getD v default).l.length ≤ 20000 := by rw [hV9.st.adj v hvl]; have := adjK_len (vals x.g.edges) (vals x.g.edges).length ((v : Nat) : Int); rw [List.length_map] at this ⊢; omega
        have hLv : (s9.z.getD v default).l = adjK (vals x.g.edges) (vals x.g.edges).length ((v : Nat) : Int) := hV9.st.adj v hvl
        refine V.region (VL.op (R.ld1 Tryz.isAgg54 rfl ((hV9.sb.cell _))) (VL.op (R.nilCheck rfl) (VL.op (R.fld' (o := 5) Tryz.runUnderlying59 rfl rfl Tryz.sizeOf23 rfl rfl) (VL.op (R.ld1 Tryz.isAgg23 rfl ((show wBC66.cell? ⟨s9.p, 5, none⟩ = some (Value.slice (some ⟨s9.ba, 0, none⟩) s9.z.length s9.z.length) from hV9.ok.blk.cell 5))) (VL.op (R.mvI rfl) (VL.op (R.ixS Tryz.runUnderlying23 Tryz.sizeOf22 rfl rfl (by omega) (by omega) (hV9.ok.a.own.sl.some (i := v) (by omega))) (VL.op (R.ld1 Tryz.isAgg22 rfl (((hV9.ok.a.own.sl.row (i := v) (by omega)).cell (i := 0) rfl))) (VL.op (R.lenS Tryz.runUnderlying22 rfl) (VL.op (R.mvI rfl) (VL.nil (V.block (?_))))))))))))
        refine V.loop [5, 12, 77, 78, 79] (fun z : Nat × List Int => [.pointer (some ⟨x.ob, 0, none⟩), .bool b9, .slice (s9.z.getD v default).a (s9.z.getD v default).l.length (s9.z.getD v default).c, .int .i64 ((s9.z.getD v default).l.length : Nat), .int .i64 (z.1 : Nat)])
          (fun z w' => z.1 ≤ (s9.z.getD v default).l.length ∧ VSt x w0 w' s9 z.2 P ∧ (∀ k, k < (vals x.g.edges).length → z.2.getD k default = ((outN ((vals x.g.edges).getD k default) P (v + 1) : Nat) : Int) + if ((k : Nat) : Int) ∈ (s9.z.getD v default).l.take z.1 then -1 else 0) ∧ EndR J Jx pre9 R2 b9 xs9 w') (fun z => (s9.z.getD v default).l.length - z.1) (0, O9) rfl ⟨Nat.zero_le _, hV9, fun k hk => by rw [hO9 k hk]; simp, hj9⟩ ?_
        rintro ρ ⟨i, O⟩ w4 ⟨hi, hV4, hO4, hj4⟩
        dsimp only at hi hV4 hO4 hj4 ⊢
        refine V.seq (V.region (VL.op (R.lss rfl rfl) (VL.nil (V.seq (V.condP rfl (fun c80 => V.skip (V.seq (V.block (V.seq (?_))))) (fun c80 => V.exit (?_)))))))
        · have hil : i < (s9.z.getD v default).l.length := by omega
          have hxi : IntSl w4 (s9.z.getD v default).a (s9.z.getD v default).l := (hV4.ok.a.each v).sl
          have hm := gmem hil
          rw [hLv] at hm
          obtain ⟨k, hk, hvk, hkd⟩ := adjK_mem.1 hm
          rw [← hLv] at hkd
          have hk2 := hk
          rw [List.length_map] at hk2
          have hol := hV4.ol
          have hOk := hO4 k hk
          have hc := outN_le ((vals x.g.edges).getD k default) P (v + 1)
          have hc2 := hle _ (gmem hk)
          refine V.region (VL.op (R.ixS Tryz.runUnderlying22 Tryz.sizeOf3 rfl rfl (by omega) (by omega) ((hxi).some (i := i) (by omega))) (VL.op (R.ld1 Tryz.isAgg3 rfl (((((hxi).ext (Mod.refl _ _)).row (i := i) (by omega)).cell (i := 0) rfl))) (VL.op (R.asI rfl) (VL.nil (?_)))))
          rw [hkd]
          refine V.region (VL.op (R.ld1 Tryz.isAgg22 rfl ((hV4.ob.cell _))) (VL.op (R.mvI rfl) (VL.op (R.ixS Tryz.runUnderlying22 Tryz.sizeOf3 rfl rfl (by omega) (by omega) (hV4.out.sl.some (i := k) (by omega))) (VL.op (R.ld1 Tryz.isAgg3 rfl (((hV4.out.sl.row (i := k) (by omega)).cell (i := 0) rfl))) (VL.op (R.sub rfl rfl (by omega) (by omega)) (VL.op (R.ixS Tryz.runUnderlying22 Tryz.sizeOf3 rfl rfl (by omega) (by omega) (hV4.out.sl.some (i := k) (by omega))) (VL.ownSt eltI (v := .int _ _) Tryz.sizeOf3 (hV4.out) k 0 (O.getD k default - 1) rfl rfl (by omega) rfl rfl rfl rfl rfl fun w7 ho7 m7 hs7 => VL.nil (V.region (VL.op (R.add rfl rfl (by omega) (by omega)) (VL.op (R.mvI rfl) (VL.nil (?_))))))))))))
          have hinc : Inc (s9.z.getD v default).l := by rw [hLv]; exact adjK_inc _ _ _
          have hnew : ((k : Nat) : Int) ∉ (s9.z.getD v default).l.take i := fun h => by
            obtain ⟨j, hj, hjv⟩ := List.getElem_of_mem h
            rw [List.length_take] at hj
            rw [List.getElem_take] at hjv
            have := inc_at hinc (i := j) (j := i) (by omega) hil
            rw [hkd, gget (show j < (s9.z.getD v default).l.length by omega), hjv] at this
            omega
          have ht : (s9.z.getD v default).l.take (i + 1) = (s9.z.getD v default).l.take i ++ [(k : Int)] := by rw [List.take_succ_eq_append_getElem hil, ← hkd, gget hil]
          refine ⟨(i + 1, O.set k (O.getD k default - 1)), rfl, ⟨by dsimp only; omega, hV4.wr hx ho7 (by simp) (m7.weaken fun q _ hq => aBlk_some hq), fun k2 hk2 => ?_, hj4.mod hJ hJx (m7.weaken fun q _ hq => by rw [aBlk_some hq]; exact hV4.oT)⟩, by dsimp only; omega⟩
          dsimp only
          rw [ht]
          by_cases e : k2 = k
          · subst e
            rw [setD_eq _ (by omega), hOk, if_neg hnew, if_pos (by simp)]; omega
          · rw [setD_ne _ e, hO4 k2 hk2]
            have : ((k2 : Nat) : Int) ∈ (s9.z.getD v default).l.take i ++ [(k : Int)] ↔ ((k2 : Nat) : Int) ∈ (s9.z.getD v default).l.take i := by
              rw [List.mem_append, List.mem_singleton]
              exact ⟨fun h => h.resolve_right (by omega), .inl⟩
            simp only [this]
        · have hke : i = (s9.z.getD v default).l.length := by omega
          subst hke
          refine ⟨O, rfl, hV4, fun k hk => ?_, hj4⟩
          rw [hO4 k hk, List.take_length, hLv, outN_out hvP (hnd _ (gmem hk))]
          by_cases h : (v : Int) ∈ (vals x.g.edges).getD k default
          · rw [if_pos (adjK_mem.2 ⟨k, hk, h, rfl⟩), if_pos h]; omega
          · have hn : ((k : Nat) : Int) ∉ adjK (vals x.g.edges) (vals x.g.edges).length ((v : Nat) : Int) := fun h2 => by
              obtain ⟨j, _, hj, hjk⟩ := adjK_mem.1 h2
              have : k = j := by omega
              subst this; exact h hj
            rw [if_neg h, if_neg hn]; omega
      · exact ⟨(xC66.1, xC66.2.1, xB2, xs8 ++ xC66.2.2.2), rfl, hBB2.1, hBB2.2.1, hBB2.2.2.app hv9⟩
end Go.Proofs.YtlnbkoojelhjdaaGreatDoor
