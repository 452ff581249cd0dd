/- Hyper: the walk of law HyperSequence. -/
import Derived.Test.YtoengpialdolbaaDoorL4
namespace Go.Proofs.YtoengpialdolbaaDoor
open Go.Vc
/-- The edges in reverse order, each twice, once with its vertices in reverse order. -/
def turnL (L : List (List Int)) : List (List Int) := L.reverse.flatMap fun x => [x.reverse, x]
theorem turnL_cons (x : List Int) (L : List (List Int)) : turnL (x :: L) = turnL L ++ [x.reverse, x] := by unfold turnL; simp [List.flatMap_append]
theorem turnL_mem {e : List Int} {L : List (List Int)} : e ∈ turnL L ↔ ∃ x ∈ L, e = x.reverse ∨ e = x := by
  unfold turnL
  simp only [List.mem_flatMap, List.mem_reverse, List.mem_cons, List.not_mem_nil, or_false]
theorem setF_rev (x : List Int) : setF x.reverse = setF x := setF_congr fun y => by simp
theorem make_turn (n : Int) (cost : List Int) (L : List (List Int)) : makeF n cost (turnL L) = makeF n cost L := by
  have hm : minF (turnL L) = minF L := minF_congr fun e => by
    rw [setsOf_mem, setsOf_mem]
    constructor
    · rintro ⟨x, hx, hn, rfl⟩
      obtain ⟨y, hy, rfl | rfl⟩ := turnL_mem.1 hx
      · exact ⟨y, hy, fun h => hn (by rw [h]; rfl), setF_rev y⟩
      · exact ⟨_, hy, hn, rfl⟩
    · rintro ⟨x, hx, hn, rfl⟩
      exact ⟨x, turnL_mem.2 ⟨x, hx, .inr rfl⟩, hn, rfl⟩
  have ha : (∀ e ∈ turnL L, e ≠ [] ∧ setB (setF e) n = true) ↔ ∀ e ∈ L, e ≠ [] ∧ setB (setF e) n = true := by
    constructor
    · exact fun h e he => h e (turnL_mem.2 ⟨e, he, .inr rfl⟩)
    · intro h e he
      obtain ⟨y, hy, rfl | rfl⟩ := turnL_mem.1 he
      · rw [setF_rev]; exact ⟨fun hh => (h y hy).1 (List.reverse_eq_nil_iff.1 hh), (h y hy).2⟩
      · exact h _ hy
  unfold makeF
  rw [hm]
  by_cases h : costB n cost = true ∧ ∀ e ∈ L, e ≠ [] ∧ setB (setF e) n = true
  · rw [if_pos h, if_pos ⟨h.1, ha.2 h.2⟩]
  · rw [if_neg h, if_neg fun hh => h ⟨hh.1, ha.1 hh.2⟩]
theorem makeF_lens (n : Int) (cost : List Int) (E : List (List Int)) : (makeF n cost E).1.cost.length ≤ cost.length ∧ (makeF n cost E).1.edges.length ≤ 20000 := by
  unfold makeF
  split
  · split
    · rename_i h; exact ⟨Nat.le_refl _, h⟩
    · exact ⟨Nat.zero_le _, Nat.zero_le _⟩
  · exact ⟨Nat.zero_le _, Nat.zero_le _⟩
theorem same_is (g h : GrW) (w w1 w2 : World) (hG : GOk w g) (hH : GOk w h) (hv : grV g = grV h) (N1 : GNew w1 w g ∨ True) (h1 : g.cost.length ≤ 9223372036854775807) (h3 : g.edges.length ≤ 9223372036854775807) (h5 : ∀ x ∈ g.edges, x.l.length ≤ 1000000) (h6 : ∀ x ∈ h.edges, x.l.length ≤ 1000000) :
    RetsP Tryd.prog 20 #[.agg (encGr g).toArray, .agg (encGr h).toArray] w (.bool true) := by
  have e1 : h.cost = g.cost := (congrArg Gr.cost hv).symm
  have e2 : h.edges.length = g.edges.length := by
    have := congrArg (fun x : Gr => x.edges.length) hv
    simp only [grV, vals, List.length_map] at this
    exact this.symm
  have := same_spec g h w hG hH h1 (by rw [e1]; exact h1) h3 (by rw [e2]; exact h3) (fun x hx => Nat.le_trans (h5 x hx) (by decide)) (fun x hx => Nat.le_trans (h6 x hx) (by decide))
  rwa [decide_eq_true hv] at this
/-- A list of lists of which some came in. -/
structure TurnI (B : Nat) (w : World) (a : Option Addr) (c : Nat) (T : List SlI) : Prop where
  own : OwnT encSl 1 27 B w a c T
  each : ∀ x ∈ T, (IntSl w x.a x.l ∧ (x.l = [] ∨ (abk x.a < w.heap.size ∧ ¬ aBlk a (abk x.a)))) ∧ x.l.length ≤ 10 ∧ (x.a = none → x.c = 0)
theorem TurnI.key {w w' : World} {a a' : Option Addr} {x : SlI} (m : Vc.Mod (aBlk a) w w') (hf : ∀ k, aBlk a' k → aBlk a k ∨ w.heap.size ≤ k) (h : IntSl w x.a x.l ∧ (x.l = [] ∨ (abk x.a < w.heap.size ∧ ¬ aBlk a (abk x.a)))) : IntSl w' x.a x.l ∧ (x.l = [] ∨ (abk x.a < w'.heap.size ∧ ¬ aBlk a' (abk x.a))) := by
  rcases h with ⟨h1, h2 | ⟨h2, h3⟩⟩
  · rw [h2]; exact ⟨TSl.nil _ _ _ _, .inl rfl⟩
  · refine ⟨h1.mod m fun ad e hk => ?_, .inr ⟨Nat.lt_of_lt_of_le h2 m.size, fun hk => ?_⟩⟩
    · rw [e] at h3; exact h3 hk
    · rcases hf _ hk with h | h
      · exact h3 h
      · omega
theorem TurnI.ext {B : Nat} {w w' : World} {a : Option Addr} {c : Nat} {T : List SlI} (h : TurnI B w a c T) (e : Ext w w') : TurnI B w' a c T :=
  ⟨h.own.ext e, fun x hx => ⟨⟨(h.each x hx).1.1.ext e, (h.each x hx).1.2.imp_right fun h => ⟨Nat.lt_of_lt_of_le h.1 e.size, h.2⟩⟩, (h.each x hx).2⟩⟩
theorem TurnI.add {B : Nat} {w w' : World} {a a' : Option Addr} {c c' : Nat} {T N : List SlI} (h : TurnI B w a c T) (ho : OwnT encSl 1 27 B w' a' c' (T ++ N)) (m : Vc.Mod (aBlk a) w w') (hf : ∀ k, aBlk a' k → aBlk a k ∨ w.heap.size ≤ k)
    (hx : ∀ x ∈ N, (IntSl w x.a x.l ∧ (x.l = [] ∨ (abk x.a < w.heap.size ∧ ¬ aBlk a (abk x.a)))) ∧ x.l.length ≤ 10 ∧ (x.a = none → x.c = 0)) : TurnI B w' a' c' (T ++ N) :=
  ⟨ho, fun x hm => by
    have := (List.mem_append.1 hm).elim (h.each x) (hx x)
    exact ⟨TurnI.key m hf this.1, this.2⟩⟩
theorem TurnI.nil (B : Nat) (w : World) : TurnI B w none 0 [] := ⟨OwnT.nil _ _ _ _ _, fun x hx => nomatch hx⟩
theorem drop_pred {α : Type} [Inhabited α] {l : List α} {r : Nat} (h0 : 0 < r) (hr : r ≤ l.length) : l.drop (r - 1) = l.getD (((r : Nat) : Int) - 1).toNat default :: l.drop r := by
  have e : (((r : Nat) : Int) - 1).toNat = r - 1 := by omega
  rw [e, List.drop_eq_getElem_cons (show r - 1 < l.length by omega), gget (show r - 1 < l.length by omega), show r - 1 + 1 = r by omega]
theorem slot_pred {r : Nat} (h0 : 0 < r) : ((r : Nat) : Int) - 1 - 1 = ((r - 1 : Nat) : Int) - 1 := by omega
set_option maxRecDepth 100000 in
set_option maxHeartbeats 8000000 in
theorem sequence_law (n : Int) (ca a : Option Addr) (cc c B : Nat) (cost : List Int) (E : List SlI) (w : World) (hC : IntSl w ca cost) (hE : LL w a E) (hcl : cost.length ≤ 9223372036854775807) (hch : ca = none → cc = 0) (hx : EIn E) (hB : B ≤ w.heap.size) (hT : TabW B w) :
    RetsP Tryd.prog 5 #[.int .i64 n, .slice ca cost.length cc, .slice a E.length c] w (.bool true) := by
  refine enter (args := [_, _, _]) Tryd.func5 rfl Tryd.ntmps5 (by kernel_rfl) rfl ?_
  refine V.seq (V.region (VL.op (R.asB rfl) (VL.nil (V.seq (V.region (VL.callP Tryd.call9 rfl (head_spec B _ hB hT) fun w1_0 e1_0 => VL.op (R.asB rfl) (VL.nil (V.seq (V.seq (V.region (VL.op (R.mvS rfl) (VL.callX Tryd.call10 rfl (few_spec E a c 40 _ (hE.ext e1_0) hx.len) fun b2 w2 h2 e2 => VL.op (R.not rfl) (VL.op (R.mvB rfl) (VL.or rfl rfl (fun g2_3 => VL.op (R.mvS rfl) (VL.gT rfl rfl (VL.op (R.lenS Tryd.runUnderlying27 rfl) (VL.gT rfl rfl (VL.op (R.gtr rfl rfl) (VL.op (R.pickFB rfl rfl) (VL.nil (V.condP rfl (fun c24 => V.seq (V.region (VL.op (R.mvB rfl) (VL.op (R.asB rfl) (VL.nil (V.ret (fret1 (v := .bool _) rfl rfl rfl (⟨rfl, (e1_0.trans e2)⟩)))))))) (fun c24 => V.skip (V.seq (?_))))))))))) (fun g2_3 => VL.gF rfl rfl (VL.gF rfl rfl (VL.op (R.pickTB rfl rfl) (VL.nil (V.condT rfl (V.seq (V.region (VL.op (R.mvB rfl) (VL.op (R.asB rfl) (VL.nil (V.ret (fret1 (v := .bool _) rfl rfl rfl (⟨rfl, (e1_0.trans e2)⟩)))))))))))))))))))))))))))
  have hF := h2 (by simpa using g2_3)
  have hF1 := hF.n
  have E2 := e1_0.trans e2
  have hE2 := hE.ext E2
  refine V.region (VL.op (R.asS rfl) (VL.nil (V.cut [0, 1, 2, 7, 8] (fun x : List SlI × Option Addr × Nat => [.int .i64 n, .slice ca cost.length cc, .slice a E.length c, .bool true, .slice x.2.1 x.1.length x.2.2]) (fun x w' => vals x.1 = turnL (vals E) ∧ x.1.length ≤ 80 ∧ TurnI w2.heap.size w' x.2.1 x.2.2 x.1 ∧ Ext w2 w') (V.seq (V.region (VL.op (R.mvS rfl) (VL.op (R.lenS Tryd.runUnderlying22 rfl) (VL.op (R.sub rfl rfl (by omega) (by omega)) (VL.op (R.asI rfl) (VL.nil (V.block (?_))))))))) (fun rgB0 xB0 wBB0 hBB0 => V.seq (?_)))))
  · refine V.loop [0, 1, 2, 7, 8, 9] (fun x : Nat × List SlI × Option Addr × Nat => [.int .i64 n, .slice ca cost.length cc, .slice a E.length c, .bool true, .slice x.2.2.1 x.2.1.length x.2.2.2, .int .i64 (((x.1 : Nat) : Int) - 1)]) (fun x w' => x.1 ≤ E.length ∧ vals x.2.1 = turnL (vals (E.drop x.1)) ∧ x.2.1.length + 2 * x.1 = 2 * E.length ∧ TurnI w2.heap.size w' x.2.2.1 x.2.2.2 x.2.1 ∧ Ext w2 w') (fun x => x.1) (E.length, [], none, 0) rfl ⟨Nat.le_refl _, by dsimp only; rw [List.drop_length]; rfl, by dsimp only; simp, TurnI.nil _ _, Vc.Mod.refl _ _⟩ ?_
    rintro ρ ⟨r, T, a8, c8⟩ w5 ⟨hr, hv, hTl, hI, e5⟩
    dsimp only at hr hv hTl hI e5 ⊢
    have hE5 := hE2.ext e5
    refine V.seq (V.seq (V.region (VL.op (R.mvI rfl) (VL.op (R.geq rfl rfl) (VL.nil (V.condP rfl (fun c30 => V.skip (V.seq (V.block (V.seq (?_))))) (fun c30 => V.exit (?_))))))))
    · have hr0 : 0 < r := by omega
      have hil : (((r : Nat) : Int) - 1).toNat < E.length := by omega
      have hxe := hF.e _ (gmem hil)
      have hxx := hx.each _ (gmem hil)
      have hdr := drop_pred hr0 hr
      refine V.region (VL.op (R.asS rfl) (VL.nil (V.cut [0, 1, 2, 7, 8, 9, 10] (fun f : SlI => [.int .i64 n, .slice ca cost.length cc, .slice a E.length c, .bool true, .slice a8 T.length c8, .int .i64 (((r : Nat) : Int) - 1), .slice f.a f.l.length f.c]) (fun f w' => OwnT Vc.encI 1 3 w5.heap.size w' f.a f.c f.l ∧ f.l = (E.getD (((r : Nat) : Int) - 1).toNat default).l.reverse ∧ Ext w5 w') (V.seq (V.region (VL.op (R.mvS rfl) (VL.op (R.mvI rfl) (VL.op (R.ixS Tryd.runUnderlying22 Tryd.sizeOf27 rfl rfl (by omega) (by omega) ((hE5.sl).some (i := (((r : Nat) : Int) - 1).toNat) (by omega))) (VL.op (R.ld1 Tryd.isAgg27 rfl (((((hE5.sl).ext (Mod.refl _ _)).row (i := (((r : Nat) : Int) - 1).toNat) (by omega)).cell (i := 0) rfl))) (VL.op (R.lenS Tryd.runUnderlying27 rfl) (VL.op (R.sub rfl rfl (by omega) (by omega)) (VL.op (R.asI rfl) (VL.nil (V.block (?_)))))))))))) (fun rgB2 xB2 wBB2 hBB2 => ?_))))
      · refine V.loop [0, 1, 2, 7, 8, 9, 10, 11] (fun x : Nat × SlI => [.int .i64 n, .slice ca cost.length cc, .slice a E.length c, .bool true, .slice a8 T.length c8, .int .i64 (((r : Nat) : Int) - 1), .slice x.2.a x.2.l.length x.2.c, .int .i64 (((x.1 : Nat) : Int) - 1)]) (fun x w' => x.1 ≤ (E.getD (((r : Nat) : Int) - 1).toNat default).l.length ∧ OwnT Vc.encI 1 3 w5.heap.size w' x.2.a x.2.c x.2.l ∧ x.2.l = ((E.getD (((r : Nat) : Int) - 1).toNat default).l.drop x.1).reverse ∧ x.2.l.length + x.1 = (E.getD (((r : Nat) : Int) - 1).toNat default).l.length ∧ Ext w5 w') (fun x => x.1) ((E.getD (((r : Nat) : Int) - 1).toNat default).l.length, default) rfl ⟨Nat.le_refl _, OwnT.nil _ _ _ _ _, by dsimp only; rw [List.drop_length]; rfl, Nat.zero_add _, Vc.Mod.refl _ _⟩ ?_
        rintro ρ ⟨m, f⟩ w6 ⟨hm, ho, hf, hfl, e6⟩
        dsimp only at hm ho hf hfl e6 ⊢
        have hE6 := hE5.ext e6
        refine V.seq (V.seq (V.region (VL.op (R.mvI rfl) (VL.op (R.geq rfl rfl) (VL.nil (V.condP rfl (fun c40 => V.skip (V.seq (V.block (V.region (VL.op (R.mvS rfl) (VL.op (R.mvS rfl) (VL.op (R.mvI rfl) (VL.op (R.ixS Tryd.runUnderlying22 Tryd.sizeOf27 rfl rfl (by omega) (by omega) ((hE6.sl).some (i := (((r : Nat) : Int) - 1).toNat) (by omega))) (VL.op (R.ld1 Tryd.isAgg27 rfl (((((hE6.sl).ext (Mod.refl _ _)).row (i := (((r : Nat) : Int) - 1).toNat) (by omega)).cell (i := 0) rfl))) (VL.op (R.mvI rfl) (VL.op (R.ixS Tryd.runUnderlying27 Tryd.sizeOf3 rfl rfl (by omega) (by omega) ((hE6.at hil).some (i := (((m : Nat) : Int) - 1).toNat) (by omega))) (VL.op (R.ld1 Tryd.isAgg3 rfl (((((hE6.at hil).ext (Mod.refl _ _)).row (i := (((m : Nat) : Int) - 1).toNat) (by omega)).cell (i := 0) rfl))) (VL.append1 el27 Tryd.runUnderlying27 Tryd.sizeOf3 Tryd.zeroValue3 rfl (((E.getD (((r : Nat) : Int) - 1).toNat default).l.getD (((m : Nat) : Int) - 1).toNat default)) rfl rfl rfl ho rfl rfl rfl (by omega) (by unfold maxLen; omega) e6.size fun a12 c12 w12 vt12 ho12 m12 hf12 => VL.op (R.asS rfl) (VL.nil (V.region (VL.op (R.mvI rfl) (VL.op (R.sub rfl rfl (by omega) (by omega)) (VL.op (R.asI rfl) (VL.nil (?_)))))))))))))))))))) (fun c40 => V.exit (?_))))))))
        · have hm0 : 0 < m := by omega
          refine ⟨(m - 1, ⟨a12, c12, f.l ++ [((E.getD (((r : Nat) : Int) - 1).toNat default).l.getD (((m : Nat) : Int) - 1).toNat default)]⟩), by dsimp only; rw [List.length_append, slot_pred hm0]; rfl, ⟨by dsimp only; omega, ho12, ?_, by dsimp only; rw [List.length_append, List.length_singleton]; omega, e6.ownA m12 fun q hq => ho.ge q hq⟩, by dsimp only; omega⟩
          dsimp only
          rw [drop_pred hm0 hm, List.reverse_cons, hf]
        · have hm0 : m = 0 := by omega
          subst hm0
          exact ⟨f, rfl, ho, hf, e6⟩
      · obtain ⟨ho, hf, e6⟩ := hBB2
        have hI6 := hI.ext e6
        have hE6 := hE5.ext e6
        have hfl : xB2.l.length ≤ 10 := by rw [hf, List.length_reverse]; exact hxe
        refine V.region (VL.op (R.mvS rfl) (VL.op (R.mvS rfl) (VL.op (R.mvS rfl) (VL.op (R.mvI rfl) (VL.op (R.ixS Tryd.runUnderlying22 Tryd.sizeOf27 rfl rfl (by omega) (by omega) ((hE6.sl).some (i := (((r : Nat) : Int) - 1).toNat) (by omega))) (VL.op (R.ld1 Tryd.isAgg27 rfl (((((hE6.sl).ext (Mod.refl _ _)).row (i := (((r : Nat) : Int) - 1).toNat) (by omega)).cell (i := 0) rfl))) (VL.buildSl Tryd.runUnderlying22 Tryd.sizeOf27 Tryd.zeroValue27 rfl rfl rfl fun b13_6 w13_6 hb13_6 e13_6 hB13_6 => VL.appendT el22 (fun _ => rfl) rfl (rfl) ((hI6.own.ext e13_6)) rfl (rfl) ((OwnT.sl (B := 0) (OwnT.of_blk (l := [xB2, (E.getD (((r : Nat) : Int) - 1).toNat default)]) hB13_6 (Nat.zero_le _) rfl (fun r hr => by obtain ⟨y, _, rfl⟩ := List.mem_map.1 hr; rfl) (by show 2 ≤ maxLen; decide)))) ((fun h => by cases h)) (by simp; omega) (by simp [maxLen]; omega) (Nat.le_trans e5.size (Nat.le_trans e6.size e13_6.size)) rfl fun a13 c13 w13 ho13 m13 hf13 => VL.op (R.asS rfl) (VL.nil (V.region (VL.op (R.mvI rfl) (VL.op (R.sub rfl rfl (by omega) (by omega)) (VL.op (R.asI rfl) (VL.nil (?_))))))))))))))
        have hI7 := (hI6.ext e13_6).add ho13 m13 hf13 (fun y hy => by
          rcases List.mem_cons.1 hy with e | hy
          · rw [e]
            refine ⟨⟨(OwnT.sl ho).ext e13_6, ?_⟩, hfl, ho.hax⟩
            by_cases h0 : xB2.l = []
            · exact .inl h0
            · right
              have ha : ∃ ad, xB2.a = some ad := Option.ne_none_iff_exists'.1 (addr_some (OwnT.sl ho) h0)
              obtain ⟨ad, had⟩ := ha
              have h1 := ho.lt ad.block ⟨ad, had, rfl⟩
              have h2 := ho.ge ad.block ⟨ad, had, rfl⟩
              have h3 := e13_6.size
              rw [show abk xB2.a = ad.block by rw [had]; rfl]
              exact ⟨by omega, fun h => by have := hI.own.lt _ h; omega⟩
          · rw [List.mem_singleton] at hy
            rw [hy]
            refine ⟨⟨(hE6.ext e13_6).at hil, ?_⟩, hxe, hxx.2.1⟩
            by_cases h0 : (E.getD (((r : Nat) : Int) - 1).toNat default).l = []
            · exact .inl h0
            · right
              have h1 := TSl.lt (hE2.at hil) (List.length_pos_iff.2 h0)
              have h2 := e5.size
              have h3 := e6.size
              have h4 := e13_6.size
              exact ⟨by omega, fun h => by have := hI.own.ge _ h; omega⟩)
        refine ⟨(r - 1, T ++ [xB2, (E.getD (((r : Nat) : Int) - 1).toNat default)], a13, c13), ?_, ⟨by dsimp only; omega, ?_, ?_, hI7, ?_⟩, by dsimp only; omega⟩
        · dsimp only
          rw [List.length_append, slot_pred hr0]; rfl
        · dsimp only
          rw [hdr]
          show vals (T ++ [xB2, (E.getD (((r : Nat) : Int) - 1).toNat default)]) = turnL ((E.getD (((r : Nat) : Int) - 1).toNat default).l :: vals (E.drop r))
          rw [turnL_cons, ← hv, ← hf]; simp [vals]
        · dsimp only; rw [List.length_append]; show T.length + 2 + _ = _; omega
        · exact ((e5.trans e6).trans e13_6).ownA m13 fun q hq => hI.own.ge q hq
    · have hr0 : r = 0 := by omega
      subst hr0
      exact ⟨(T, a8, c8), rfl, hv, (show T.length ≤ 80 by omega), hI, e5⟩
  · obtain ⟨hv, hTl, hI, e5⟩ := hBB0
    obtain ⟨T, a8, c8⟩ := xB0
    dsimp only at hv hTl hI e5 ⊢
    have Ew := E2.trans e5
    have hmk : makeF n cost (vals T) = makeF n cost (vals E) := by rw [hv]; exact make_turn n cost _
    refine V.region (VL.op (R.mvI rfl) (VL.op (R.mvS rfl) (VL.op (R.mvS rfl) (VL.callX Tryd.call18 rfl (make_spec n ca a cc c B cost E wBB0 (hC.ext Ew) (hE.ext Ew) hcl hch ⟨by omega, fun x hx' => ⟨by have := hF.e x hx'; omega, (hx.each x hx').2.1⟩⟩ (Nat.le_trans hB Ew.size) (hT.ext hB Ew)) fun z1 w14 ⟨hz1, hN1⟩ e14 => VL.op (R.mvT rfl) (VL.op (R.extr rfl rfl) (VL.op (R.extr rfl rfl) (VL.allocSt (v := .agg (encGr z1.1).toArray) Tryd.zeroValue33 Tryd.sizeOf33 rfl rfl rfl rfl rfl fun b14_7 w14_7 hb14_7 e14_7 hB14_7 => VL.op (R.asI rfl) (VL.nil (V.seq (V.region (VL.op (R.mvI rfl) (VL.op (R.mvS rfl) (VL.op (R.mvS rfl) (VL.callX Tryd.call18 rfl (make_spec n ca a8 cc c8 B cost T _ (hC.ext (Ew.trans (e14.trans e14_7))) (LL.ext (⟨hI.own.sl, fun x hx => (hI.each x hx).1.1⟩ : LL wBB0 a8 T) (e14.trans e14_7)) hcl hch ⟨by omega, fun x hx' => ⟨by have := (hI.each x hx').2.1; omega, (hI.each x hx').2.2⟩⟩ (Nat.le_trans hB (Ew.trans (e14.trans e14_7)).size) (hT.ext hB (Ew.trans (e14.trans e14_7)))) fun z2 w15 ⟨hz2, hN2⟩ e15 => VL.op (R.mvT rfl) (VL.op (R.extr rfl rfl) (VL.op (R.extr rfl rfl) (VL.allocSt (v := .agg (encGr z2.1).toArray) Tryd.zeroValue33 Tryd.sizeOf33 rfl rfl rfl rfl rfl fun b15_7 w15_7 hb15_7 e15_7 hB15_7 => VL.op (R.asI rfl) (VL.nil (V.seq (V.region (VL.op (R.mvB rfl) (VL.op (R.mvB rfl) (VL.gT rfl rfl (VL.op (R.mvI rfl) (VL.gT rfl rfl (VL.op (R.mvI rfl) (VL.gT rfl rfl (VL.op (R.lit (R.eql rfl rfl) ((decide_eq_true (by have h1 := congrArg Prod.snd hz1; have h2 := congrArg Prod.snd hz2; rw [hmk] at h2; exact h1.trans h2.symm)))) (VL.op (R.pickTB rfl rfl) (VL.op (R.mvB rfl) (VL.gT rfl rfl (VL.op (R.ldA Tryd.isAgg33 Tryd.sizeOf33 rfl rfl ((show RowAt _ _ _ (encGr z1.1) from (((hB14_7.ext e15).ext e15_7).rowAt 0 3))) rfl) (VL.gT rfl rfl (VL.op (R.ldA Tryd.isAgg33 Tryd.sizeOf33 rfl rfl ((show RowAt _ _ _ (encGr z2.1) from (hB15_7.rowAt 0 3))) rfl) (VL.gT rfl rfl (VL.callP Tryd.call20 rfl ((same_is z1.1 z2.1 _ w w (hN1.ok.ext (e14_7.trans (e15.trans e15_7))) (hN2.ok.ext e15_7) (by have h1 := congrArg Prod.fst hz1; have h2 := congrArg Prod.fst hz2; rw [hmk] at h2; exact h1.trans h2.symm) (.inr trivial) (by have h := (makeF_lens n cost (vals E)).1; rw [← hz1] at h; exact Nat.le_trans h hcl) (by have h := (makeF_lens n cost (vals E)).2; rw [← hz1] at h; simp only [grV, vals, List.length_map] at h; omega) (fun x hx => (hN1.each x hx).2) (fun x hx => (hN2.each x hx).2))) fun w16_9 e16_9 => VL.op (R.pickTB rfl rfl) (VL.op (R.asB rfl) (VL.nil (V.ret (fret1 (v := .bool _) rfl rfl rfl (⟨rfl, Ew.trans ((((e14.trans e14_7).trans e15).trans e15_7).trans e16_9)⟩)))))))))))))))))))))))))))))))))))))))))
end Go.Proofs.YtoengpialdolbaaDoor
