/- Cluster: the keys of a map, collected. -/
import Derived.Test.YtglaigeellpikaaXC13
import Derived.Test.YtglaigeellpikaaXVcClA
namespace Go.Proofs.Ytglaigeellpikaa
open Go.Vc

set_option maxHeartbeats 4000000 in
theorem keys_seq (m kb r ne : Nat) (A : List ((Int × Int) × Bool)) (w : World) (hkb : Blk w kb (.cells #[.map (some r)] 50 (0, 0))) (hM : MapIs w r encP (tenc vB A)) (_h1 : kb < ne) (h2 : r < ne) (h3 : ne ≤ w.heap.size) :
    SeqT m Try.prog 69 #[.pointer (some ⟨kb, 0, none⟩)] (fun p : Int × Int => #[encP p]) (fun _ _ _ _ => True) ne (fun _ => False) (fun xs => xs.Perm (A.map (·.1))) (fun pre => ∃ t, (pre ++ t).Perm (A.map (·.1))) w := by
  intro l J Jx W hEW hJe hJxe hY h0
  have hWw := hEW.size
  refine Calls.mono (R := fun e' w' => ∃ v, e' = .returned v ∧ ∃ T, OkT (fun _ => False) W.heap.size T ∧ ((∃ xs : List (Int × Int), xs.Perm (A.map (·.1)) ∧ J T xs w') ∨ (∃ pre, (∃ t, (pre ++ t).Perm (A.map (·.1))) ∧ Jx T pre w'))) ?_ (fun e' w' ⟨v, h1, h2⟩ => ⟨⟨v, h1⟩, h2⟩)
  refine enter (args := [.func (.yield l) #[] #[], .pointer (some ⟨kb, 0, none⟩)]) Try.func69 rfl Try.ntmps69 (by kernel_rfl) rfl ?_
  refine V.seq (V.region (VL.op (R.ld1 Try.isAgg50 rfl ((hkb.ext hEW).cell 0)) (VL.range Try.runUnderlying50 rfl ((hM.ext hEW)) fun it w1 hit e1 hI1 => VL.nil (V.block (?_)))))
  have lit := hI1.lt
  have z1 := e1.size
  have hne : it ≠ r := by omega
  obtain ⟨T, hT⟩ : ∃ T : Nat → Prop, T = fun k => k = it := ⟨_, rfl⟩
  have hOT : OkT (fun _ => False) W.heap.size T := fun k hk => by rw [hT] at hk; right; omega
  have hJ0 : J T [] w1 := h0 T w1 hOT (fun k hk => by rw [hT] at hk; omega) e1
  have hJT : ∀ {s : List (Int × Int)} {a b : World} {S : Nat → Prop}, J T s a → Vc.Mod S a b → (∀ k, S k → k = it) → J T s b := fun hj hm hs => hJe T _ _ _ hOT hj (hm.weaken fun k _ hk => by rw [hT]; exact hs k hk)
  refine V.loop [0, 5] (fun x : List ((Int × Int) × Bool) × List (Int × Int) => [.func (.yield l) #[] #[], .pointer (some ⟨it, 0, none⟩)])
    (fun x w' => (x.2 ++ x.1.map (·.1)).Perm (A.map (·.1)) ∧ J T x.2 w' ∧ ∃ last, IterAt w' it r encP (tenc vB A) (tenc vB x.1) last) (fun x => x.1.length) (A, []) rfl ⟨List.Perm.refl _, hJ0, _, hI1⟩ ?_
  rintro ρ ⟨rm, pre⟩ w2 ⟨hP, hj, last, hI⟩
  dsimp only at hP hj hI ⊢
  refine V.seq (V.region (VL.nextT rfl (hI) (hne) (fun h0_1_0 => VL.op (R.extr rfl rfl) (VL.nil (V.seq (V.condF rfl (V.exit (fend0 rfl (?_))))))) (fun i hi w5 m5 hs5 hI5 => VL.op (R.extr rfl rfl) (VL.nil (V.seq (V.condT rfl (V.skip (V.block (V.seq (V.region (VL.op (R.entry rfl (hI5)) (VL.op (R.extr rfl rfl) (VL.allocSt (v := .agg (encPr rm[i].1).toArray) Try.zeroValue42 Try.sizeOf42 rfl rfl rfl rfl rfl fun b2_2 w2_2 hb2_2 e2_2 hB2_2 => VL.nil (V.seq (?_)))))))))))))))
  · subst h0_1_0
    rw [List.map_nil, List.append_nil] at hP
    exact ⟨T, hOT, .inl ⟨pre, hP, hj⟩⟩
  · have hB3 : Blk w2_2 b2_2 (.cells (encPr rm[i].1).toArray 42 (0, 0)) := hB2_2
    have hpe := (erase_perm rm hi)
    have hpk : ((pre ++ [rm[i].1]) ++ (rm.eraseIdx i).map (·.1)).Perm (A.map (·.1)) := by
      have h2 := hpe.map (·.1)
      rw [List.map_cons] at h2
      rw [List.append_assoc, List.singleton_append]
      exact (List.Perm.append_left pre h2).trans hP
    have hj2 : J T pre w2_2 := hJT (hJT hj m5 fun k hk => hk) e2_2 fun k hk => hk.elim
    have hI6 := hI5.ext e2_2
    have hy := hY T pre rm[i].1 w2_2 hOT hj2 trivial ⟨_, hpk⟩
    refine VY.region (m := m + 1) (VY.op (R.mv rfl) (VY.op (R.ldA Try.isAgg42 Try.sizeOf42 rfl rfl (show RowAt _ _ _ (encPr rm[i].1) from hB3.rowAt 0 2) rfl) (VY.round (v := encP rm[i].1) rfl rfl hy ?_)))
    rintro e w7 ⟨h7, hm⟩
    have hI7 := hI6.mod hm (fun h => h.2 (by rw [hT])) (fun h => by have := h.1; omega)
    rcases h7 with ⟨rfl, h7⟩ | ⟨rfl, h7⟩
    · refine ⟨_, rfl, VY.op (R.not rfl) (VY.nil ?_)⟩
      refine V.condF rfl (V.skip ?_)
      refine ⟨(rm.eraseIdx i, pre ++ [rm[i].1]), rfl, ⟨hpk, h7, _, hI7⟩, ?_⟩
      have := hpe.length_eq
      rw [List.length_cons] at this
      dsimp only; omega
    · refine ⟨_, rfl, VY.op (R.not rfl) (VY.nil ?_)⟩
      refine V.condT rfl (V.ret (fret0 rfl ?_))
      exact ⟨T, hOT, .inr ⟨pre ++ [rm[i].1], ⟨_, hpk⟩, h7⟩⟩
theorem keys_spec (r : Nat) (w : World) : RetsX Try.prog 58 #[.map (some r)] w (fun x : Nat => .func (.func 69) #[] #[.pointer (some ⟨x, 0, none⟩)]) (fun x w' => Blk w' x (.cells #[.map (some r)] 50 (0, 0)) ∧ w.heap.size ≤ x) := by
  refine enter (args := [_]) Try.func58 rfl Try.ntmps58 (by kernel_rfl) rfl ?_
  refine V.seq (V.region (VL.box (v := .map _) rfl fun kb w1 hkb e1 hB1 => VL.op (R.as rfl) (VL.nil (V.seq (V.region (VL.op (R.mkFn rfl rfl) (VL.op (R.asF rfl) (VL.nil (V.ret (fret1 (v := .func _ _ _) rfl rfl rfl (⟨kb, rfl, ⟨hB1, by omega⟩, e1⟩)))))))))))
end Go.Proofs.Ytglaigeellpikaa

/- Cluster: slices.Collect of a map's keys. -/
namespace Go.Proofs.Ytglaigeellpikaa
open Go.Vc

structure ApJ (w w4 : World) (b2 : Nat) (T : Nat → Prop) (pre : List (Int × Int)) (W : World) (a : Option Addr) (c : Nat) : Prop where
  h2 : Blk W b2 (.cells #[.slice a pre.length c] 24 (0, 0))
  own : OwnT encPr 2 42 w4.heap.size W a c pre
  nT : ∀ k, aBlk a k → ¬ T k ∧ k ≠ w4.heap.size ∧ k ≠ w4.heap.size + 1
  tS : ∀ k, T k → k < W.heap.size
  m : Vc.Mod (From w.heap.size) w W
set_option maxRecDepth 100000 in
set_option maxHeartbeats 8000000 in
theorem appendSeq_spec (kb r : Nat) (A : List ((Int × Int) × Bool)) (w : World) (hkb : Blk w kb (.cells #[.map (some r)] 50 (0, 0))) (hM : MapIs w r encP (tenc vB A)) (hA : A.length ≤ 100000) :
    RetsX Try.prog 68 #[.slice none 0 0, .func (.func 69) #[] #[.pointer (some ⟨kb, 0, none⟩)]] w (fun x : Option Addr × Nat × List (Int × Int) => .slice x.1 x.2.2.length x.2.1) (fun x w' => PrSl w' x.1 x.2.2 ∧ x.2.2.Perm (A.map (·.1))) := by
  have lkb := hkb.lt
  have lr := hM.lt
  refine enterW (args := [_, _]) 2 Try.func68 rfl Try.ntmps68 rfl ?_
  refine InW.seqV (by kernel_rfl) ?_
  refine V.region (VL.box (v := .slice _ _ _) rfl fun b0_0 w0_0 hb0_0 e0_0 hB0_0 => VL.op (R.asS rfl) (VL.nil (?_)))
  refine InW.seqI (InW.seqV (by kernel_rfl) ?_)
  have hB2 : Blk w0_0 b0_0 (.cells #[.slice none 0 0] 24 (0, 0)) := hB0_0
  have l2 := hB2.lt
  have z0 := e0_0.size
  refine V.region (VL.op (R.mvF rfl) (VL.nil (?_)))
  refine InW.gen fun ρ4 hρ => InW.block ⟨?_⟩
  have s2 : ρ4 2 = .pointer (some ⟨b0_0, 0, none⟩) := by rw [hρ]; rfl
  have s6 : ρ4 6 = .func (.func 69) #[] #[.pointer (some ⟨kb, 0, none⟩)] := by rw [hρ]; rfl
  clear hρ
  obtain ⟨w4, hw4⟩ : ∃ w4, w4 = w0_0 := ⟨_, rfl⟩
  rw [← hw4] at hB2 e0_0 l2 z0 ⊢
  have hseq := keys_seq 1 kb r w.heap.size A w4 (hkb.ext e0_0) (hM.ext e0_0) lkb lr z0
  have offM : ∀ {T : Nat → Prop} {b : Nat}, OkT (fun _ => False) (w4.heap.size + 2) T → b < w4.heap.size → ¬ (T b ∨ b = w4.heap.size ∨ b = w4.heap.size + 1) := fun hT hb h => by
    rcases h with h | h | h
    · rcases hT _ h with h | h
      · exact h
      · omega
    · omega
    · omega
  refine rangeA (m := 1) (gf := 69) (lb := #[.pointer (some ⟨kb, 0, none⟩)]) ((eval_act rfl).trans s6) Try.call69 (ne := w.heap.size) (Lb := fun _ => False) z0 (fun k hk => hk.elim) hseq (fun _ => rfl)
    (fun T pre W => ∃ a c, ApJ w w4 b0_0 T pre W a c) (fun _ _ _ => False) ?hp (fun _ _ _ _ _ h _ => h) (fun _ _ _ _ _ _ _ => trivial) ?h0
    (fun x a₁ W => ∃ b, w4.heap.size + 2 ≤ b ∧ a₁ = act 13 (upd (upd ρ4 7 (encP x)) 5 (.pointer (some ⟨b, 0, none⟩))) ∧ Blk W b (.cells (encPr x).toArray 42 (0, 0))) ?hAS ?hassign ?hbody ?hdone (fun _ _ _ _ _ h _ => h.elim)
  case hp =>
    rintro T pre A' A'' hT ⟨a, c, h⟩ hm
    refine ⟨a, c, h.h2.mod hm (offM hT l2), h.own.mod hm fun k hk hk2 => ?_, h.nT, fun k hk => Nat.lt_of_lt_of_le (h.tS k hk) hm.size, h.m.then hm fun k _ hk => ?_⟩
    · have := h.nT k hk
      rcases hk2 with h1 | h1 | h1
      · exact this.1 h1
      · exact this.2.1 h1
      · exact this.2.2 h1
    · show _ ≤ _
      rcases hk with h1 | h1 | h1
      · rcases hT _ h1 with h2 | h2
        · exact h2.elim
        · omega
      · omega
      · omega
  case h0 =>
    intro T W hT hb hW
    exact ⟨none, 0, hB2.ext hW, OwnT.nil _ _ _ _ _, fun k hk => (by obtain ⟨ad, h, _⟩ := hk; cases h), hb, Ext.mod (e0_0.trans hW)⟩
  case hAS =>
    rintro x a A' A'' ⟨b, h1, h2, h3⟩ hm
    exact ⟨b, h1, h2, h3.mod hm (fun h => by omega)⟩
  case hassign =>
    intro lp x W K hWs hK
    rw [show ((#[7].zip #[encP x]).foldl (fun t (p, v) => t.setIfInBounds p v) (act 13 ρ4).tmps) = (act 13 (upd ρ4 7 (encP x))).tmps from congrArg Act.tmps (one_put (N := 13) (ρ := ρ4) (k := 7) (v := encP x))]
    refine VI.use (N := 13) (ρ := upd ρ4 7 (encP x)) (Q := fun e ρ' W' => e = .normal ∧ K (act 13 ρ') W') (by kernel_rfl) ?_ (fun e ρ' W' ⟨h1, h2⟩ => by subst h1; exact h2)
    refine VI.region (fun _ _ h => by cases h.1) rfl ?_
    refine VL.allocSt (v := .agg (encPr x).toArray) Try.zeroValue42 Try.sizeOf42 rfl rfl rfl rfl rfl fun b w' hb e hB => VL.nil ⟨rfl, ?_⟩
    exact hK _ _ e ⟨b, by omega, rfl, hB⟩
  case hbody =>
    rintro lp T pre x a₁ W hT ⟨a, c, hp⟩ ⟨bx, hbx1, rfl, hBx⟩ _ ⟨t, ht⟩ hWs
    have hpl : pre.length + 1 ≤ 100000 := by
      have := ht.length_eq
      simp at this
      omega
    refine VI.use (Q := fun e _ W' => match e with
      | .normal => (∃ a c, ApJ w w4 b0_0 T (pre ++ [x]) W' a c) ∧ Vc.Mod (fun k => w.heap.size ≤ k ∧ ¬ T k ∧ k ≠ w4.heap.size ∧ k ≠ w4.heap.size + 1) W W'
      | .ret => False
      | _ => False) (by kernel_rfl) ?_ (fun e _ _ h => by cases e <;> first | exact h | exact h.elim)
    obtain ⟨ρ5, h5⟩ : ∃ ρ5, ρ4 = upd ρ5 2 (.pointer (some ⟨b0_0, 0, none⟩)) := ⟨ρ4, by rw [upd_eq s2]⟩
    rw [h5]
    refine VI.block ?_
    refine VI.region (fun _ _ h => h) rfl (VL.op (R.ld1 Try.isAgg24 rfl (hp.h2.cell 0)) (VL.op (R.ldA Try.isAgg42 Try.sizeOf42 rfl rfl ((show RowAt _ _ _ (encPr x) from hBx.rowAt 0 2)) rfl) (VL.append1 el24 Try.runUnderlying24 Try.sizeOf42 Try.zeroValue42 rfl (x) rfl rfl rfl hp.own rfl rfl rfl (by omega) (by unfold maxLen; omega) (by omega) fun a5 c5 w5 vt5 ho5 m5 hf5 => VL.store (v := .slice _ _ _) Try.sizeOf24 rfl rfl rfl rfl (hp.h2.mod m5 (fun h => by have := hp.own.ge _ h; omega)) rfl rfl fun w6 m6 hs6 hB6 => VL.nil (?_))))
    have hnb := offM hT l2
    have s5 := m5.size
    have s6 := m6.size
    refine ⟨⟨a5, c5, by rw [List.length_append]; exact hB6, ho5.mod m6 (fun k hk h => by have h : k = b0_0 := h; have := ho5.ge k hk; omega), fun k hk => ?_, fun k hk => by have := hp.tS k hk; omega, (hp.m.then m5 fun k _ hk => by have := hp.own.ge k hk; show _ ≤ _; omega).then m6 fun k _ hk => ?_⟩, (m5.weaken fun k _ hk => ?_).then m6 fun k _ hk => ?_⟩
    · rcases hf5 k hk with h | h
      · exact hp.nT k h
      · exact ⟨fun hT' => by have := hp.tS k hT'; omega, by omega, by omega⟩
    · have hk : k = b0_0 := hk
      show _ ≤ _
      omega
    · have := hp.own.ge k hk
      have := hp.nT k hk
      exact ⟨by omega, this.1, this.2.1, this.2.2⟩
    · have hk : k = b0_0 := hk
      subst hk
      exact ⟨by omega, fun h => hnb (.inl h), fun h => hnb (.inr (.inl h)), fun h => hnb (.inr (.inr h))⟩
  case hdone =>
    rintro T xs W hT hS ⟨a, c, hp⟩ hK
    obtain ⟨ρ5, h5⟩ : ∃ ρ5, ρ4 = upd ρ5 2 (.pointer (some ⟨b0_0, 0, none⟩)) := ⟨ρ4, by rw [upd_eq s2]⟩
    rw [h5]
    refine retD (by kernel_rfl) (by kernel_rfl) ?_
    refine VL.op (R.ld1 Try.isAgg24 rfl (hp.h2.cell _)) (VL.op (R.asS rfl) (VL.nil ⟨rfl, ?_⟩))
    refine leaves_tmp rfl rfl rfl hK fun W2 hm2 => ?_
    refine ⟨_, rfl, (a, c, xs), rfl, ⟨(hp.own.mod hm2 fun k hk h => (hp.nT k hk).2.1 h).sl, hS⟩, (Mod.ownA (Mod.refl Vc.nob w) hp.m fun k hk => hk).own hm2 z0⟩
theorem collect_spec (kb r : Nat) (A : List ((Int × Int) × Bool)) (w : World) (hkb : Blk w kb (.cells #[.map (some r)] 50 (0, 0))) (hM : MapIs w r encP (tenc vB A)) (hA : A.length ≤ 100000) :
    RetsX Try.prog 57 #[.func (.func 69) #[] #[.pointer (some ⟨kb, 0, none⟩)]] w (fun x : Option Addr × Nat × List (Int × Int) => .slice x.1 x.2.2.length x.2.1) (fun x w' => PrSl w' x.1 x.2.2 ∧ x.2.2.Perm (A.map (·.1))) := by
  refine enter (args := [_]) Try.func57 rfl Try.ntmps57 (by kernel_rfl) rfl ?_
  refine V.seq (V.region (VL.op (R.asS rfl) (VL.nil (V.seq (V.region (VL.op (R.mvF rfl) (VL.callX Try.call68 rfl (appendSeq_spec kb r A _ hkb hM hA) fun x w1 hx e1 => VL.op (R.asS rfl) (VL.nil (V.ret (fret1 (v := .slice _ _ _) rfl rfl rfl (⟨x, rfl, hx, e1⟩)))))))))))
end Go.Proofs.Ytglaigeellpikaa
