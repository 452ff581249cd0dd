/- Cluster: components: marks, and edges within them. No program. -/
import Derived.Test.YtglaigeellpikaaXP8
namespace Go.Proofs.Ytglaigeellpikaa
open Go.Vc

theorem gdE {α : Type} [Inhabited α] {l : List α} {i : Nat} (h : i < l.length) : l.getD i default = l[i] := by simp [List.getD, h]
/-- The edges within components. -/
def insF (r : Nat → Nat) (edges : List Ed) : List Ed := edges.filter fun e => decide (r e.a.toNat = r e.b.toNat)
theorem r_class {same : List Int} {edges : List Ed} {other : List (Int × Int)} (k : OkG same edges other) {x : Int} (h0 : 0 ≤ x) (h1 : x < same.length) : rG same edges (at_ same x).toNat = rG same edges x.toNat := by
  have hci := cmpR_is k.v k.ok
  exact (hci.join _ (jC_mem.2 (.inl ⟨x.toNat, by omega, rfl⟩))).symm
theorem ins_wt {same : List Int} {edges : List Ed} {other : List (Int × Int)} (k : OkG same edges other) (a b : Int) : wtG same (insF (rG same edges) edges) a b = if rG same edges a.toNat = rG same edges b.toNat then wtG same edges a b else 0 := by
  unfold wtG
  rw [gW_val, gW_val]
  unfold insF
  rw [sm_filter]
  have h1 : ∀ e ∈ edges, (if decide (rG same edges e.a.toNat = rG same edges e.b.toNat) = true then (if ofP same e a b then e.w else 0) else 0) = if rG same edges a.toNat = rG same edges b.toNat then (if ofP same e a b then e.w else 0) else 0 := fun e he => by
    obtain ⟨b1, b2, b3, b4⟩ := k.l e he
    have ra := r_class k b1 b3
    have rb := r_class k b2 b4
    by_cases ho : ofP same e a b
    · have hab : (at_ same e.a = a ∧ at_ same e.b = b) ∨ (at_ same e.a = b ∧ at_ same e.b = a) := by
        have := ho.2
        unfold ordF at this; rw [Prod.mk.injEq] at this; omega
      have hiff : rG same edges e.a.toNat = rG same edges e.b.toNat ↔ rG same edges a.toNat = rG same edges b.toNat := by
        rcases hab with ⟨h1, h2⟩ | ⟨h1, h2⟩
        · rw [← ra, ← rb, h1, h2]
        · rw [← ra, ← rb, h1, h2]; exact ⟨fun h => h.symm, fun h => h.symm⟩
      by_cases h : rG same edges a.toNat = rG same edges b.toNat
      · rw [if_pos (decide_eq_true (hiff.2 h)), if_pos h]
      · rw [if_neg (fun q => h (hiff.1 (of_decide_eq_true q))), if_neg h]
    · rw [if_neg ho]; (repeat' split) <;> rfl
  rw [sm_congr _ _ h1]
  by_cases h : rG same edges a.toNat = rG same edges b.toNat
  · rw [if_pos h]; exact sm_congr _ _ fun e _ => by rw [if_pos h]
  · rw [if_neg h]; exact sm_zero _ fun e _ => by rw [if_neg h]
theorem pos_join {same : List Int} {edges : List Ed} {other : List (Int × Int)} (k : OkG same edges other) {a b : Int} (h : 0 < wtG same edges a b) : rG same edges a.toNat = rG same edges b.toNat := (cmpR_is k.v k.ok).join _ ((jC_wt same edges).2 (.inr ⟨a, b, h, rfl⟩))
theorem ins_ok {same : List Int} {edges : List Ed} {other : List (Int × Int)} (k : OkG same edges other) : okB same (insF (rG same edges) edges) other = true := by
  unfold okB
  rw [k.vb, k.pr, show linkB same.length (insF (rG same edges) edges) = true from ?_]
  · rfl
  · have := linkB_iff.1 k.lk
    refine linkB_iff.2 ⟨Nat.le_trans (List.length_filter_le _ _) this.1, fun e he => this.2 e (List.mem_filter.1 he).1⟩
theorem ins_law {same : List Int} {edges : List Ed} {other : List (Int × Int)} {L L' : List Int} {e e' : Int} (k : OkG same edges other) (h : CluR edges same other L e) (h' : CluR (insF (rG same edges) edges) same other L' e') : L = L' ∧ e = e' := by
  have hok : okB same edges other = true := by unfold okB; rw [k.vb, k.lk, k.pr]; rfl
  refine cluR_eq h h' (by rw [hok, ins_ok k]) fun _ k' hc => ?_
  refine clu_congr k k' (fun a b => ?_) (fun g hg hs hsol => ?_) hc
  · rw [ins_wt k]
    constructor
    · intro h; rw [if_pos (pos_join k h)]; exact h
    · intro h
      split at h
      · exact h
      · omega
  · obtain ⟨hd, _, rfl⟩ := List.mem_map.1 hg
    refine sol_congr (grp_facts k.v k.ok hg).1 (fun c hc d hdm _ => ?_) (fun _ _ _ _ => rfl) hsol
    obtain ⟨x, _, hx2, rfl⟩ := memsK_mem.1 (clsG_mem.1 hc).1
    obtain ⟨y, _, hy2, rfl⟩ := memsK_mem.1 (clsG_mem.1 hdm).1
    rw [ins_wt k, if_pos]
    rw [Int.toNat_natCast, Int.toNat_natCast]
    unfold rG
    rw [hx2, hy2]
/-- The place of a record's component. -/
def gIx (r : Nat → Nat) (n x : Nat) : Nat := (hdsK r n).idxOf (r x)
theorem gIx_at {r : Nat → Nat} {n : Nat} (hle : ∀ i, i < n → r i ≤ i) (hid : ∀ i, i < n → r (r i) = r i) {x : Nat} (hx : x < n) : gIx r n x < (hdsK r n).length ∧ (hdsK r n).getD (gIx r n x) default = r x := by
  have hm : r x ∈ hdsK r n := hdsK_mem.2 ⟨by have := hle x hx; omega, hid x hx⟩
  have hl := List.idxOf_lt_length_iff.2 hm
  refine ⟨hl, ?_⟩
  unfold gIx
  simp [List.getD, List.getElem?_eq_getElem hl, List.getElem_idxOf]
theorem gIx_inj {r : Nat → Nat} {n : Nat} (hle : ∀ i, i < n → r i ≤ i) (hid : ∀ i, i < n → r (r i) = r i) {x y : Nat} (hx : x < n) (hy : y < n) : gIx r n x = gIx r n y ↔ r x = r y := by
  constructor
  · intro h
    have h1 := (gIx_at hle hid hx).2
    rw [h, (gIx_at hle hid hy).2] at h1
    exact h1.symm
  · intro h; unfold gIx; rw [h]
theorem gIx_of {r : Nat → Nat} {n : Nat} {i : Nat} (hi : i < (hdsK r n).length) {x : Nat} (h : r x = (hdsK r n).getD i default) : gIx r n x = i := by
  unfold gIx
  rw [h, show (hdsK r n).getD i default = (hdsK r n)[i] by simp [List.getD, hi]]
  have h3 : (hdsK r n).idxOf (hdsK r n)[i] < (hdsK r n).length := List.idxOf_lt_length_iff.2 (List.getElem_mem hi)
  have h4 : (hdsK r n)[(hdsK r n).idxOf (hdsK r n)[i]] = (hdsK r n)[i] := List.getElem_idxOf h3
  have hp := List.pairwise_iff_getElem.1 (hdsK_lt r n)
  rcases Nat.lt_trichotomy ((hdsK r n).idxOf (hdsK r n)[i]) i with h | h | h
  · have := hp _ _ h3 hi h; omega
  · exact h
  · have := hp _ _ hi h3 h; omega
/-- The marks when some lists have been gone through. -/
def mkF (r : Nat → Nat) (n i : Nat) (x : Nat) : Int := if gIx r n x < i then ((gIx r n x : Nat) : Int) + 1 else 0
theorem sm_len (l : List Int) : sm (l.map fun _ => (1 : Int)) = (l.length : Int) := by
  induction l with
  | nil => rfl
  | cons x l ih => show 1 + sm _ = _; rw [ih, List.length_cons]; omega
/-- How many records the first lists have. -/
def cntF (r : Nat → Nat) (n i : Nat) : Int := sm (((grpsK r n).take i).map fun c => sm (c.map fun _ => (1 : Int)))
theorem cntF_succ {r : Nat → Nat} {n i : Nat} (h : i < (grpsK r n).length) : cntF r n (i + 1) = cntF r n i + (((grpsK r n).getD i default).length : Int) := by
  unfold cntF
  rw [List.take_succ_eq_append_getElem h, List.map_append, sm_app, show (grpsK r n).getD i default = (grpsK r n)[i] by simp [List.getD, h]]
  show _ + (sm ((grpsK r n)[i].map fun _ => (1 : Int)) + 0) = _
  rw [sm_len]; omega
theorem cntF_all {r : Nat → Nat} {n : Nat} (hle : ∀ i, i < n → r i ≤ i) (hid : ∀ i, i < n → r (r i) = r i) : cntF r n (grpsK r n).length = (n : Int) := by
  unfold cntF
  rw [List.take_length, sm_grps r (fun _ => (1 : Int)) hle hid]
  have := sm_len ((List.range n).map fun i => ((i : Nat) : Int))
  rw [List.map_map] at this
  rw [List.length_map, List.length_range] at this
  exact this
theorem grps_at {r : Nat → Nat} {n i : Nat} (h : i < (grpsK r n).length) : (grpsK r n).getD i default = memsK r n ((hdsK r n).getD i default) := by
  unfold grpsK; exact gmap _ _ _ (by rw [grpsK_len] at h; exact h)
theorem hds_inc {r : Nat → Nat} {n i : Nat} (h : i + 1 < (hdsK r n).length) : (hdsK r n).getD i default < (hdsK r n).getD (i + 1) default := by
  have := List.pairwise_iff_getElem.1 (hdsK_lt r n) i (i + 1) (by omega) h (by omega)
  simpa [List.getD, h, show i < (hdsK r n).length by omega] using this
end Go.Proofs.Ytglaigeellpikaa

/- Cluster: the walk of ClusterComponents. -/
namespace Go.Proofs.Ytglaigeellpikaa
open Go.Vc

set_option maxRecDepth 100000 in
set_option maxHeartbeats 16000000 in
theorem law7_spec (a sa oa : Option Addr) (c cs co : Nat) (edges : List Ed) (same : List Int) (other : List (Int × Int)) (w : World) (hS : EdSl w a edges) (hI : IntSl w sa same) (hO : PrSl w oa other) :
    RetsP Try.prog 7 #[.slice a edges.length c, .slice sa same.length cs, .slice oa other.length co] w (.bool true) := by
  refine enter (args := [_, _, _]) Try.func7 rfl Try.ntmps7 (by kernel_rfl) rfl ?_
  refine V.seq (V.region (VL.op (R.asB rfl) (VL.nil (V.seq (V.region (VL.callP Try.call10 rfl (head_spec _) fun w1_0 e1_0 => VL.op (R.asB rfl) (VL.nil (V.seq (V.seq (V.regionCut [22, 23, 24, 25, 26] 26 (.bool (!fewB same.length edges.length other.length 30)) (fun w' => Ext _ w') rfl (VL.op (R.mvS rfl) (VL.op (R.mvS rfl) (VL.op (R.mvS rfl) (VL.callP Try.call11 rfl (few_spec a sa oa c cs co edges.length same.length other.length 30 _) fun w2_3 e2_3 => VL.op (R.not rfl) (VL.nil ⟨rfl, cutB rfl ?_, e2_3⟩))))) (fun rg2 w2c e2c => V.cond rfl (fun c26 => V.seq (V.region (VL.op (R.mvB rfl) (VL.op (R.asB rfl) (VL.nil (V.ret (fret1 (v := .bool _) rfl rfl rfl (⟨rfl, (e1_0.trans e2c)⟩)))))))) (fun c26 => V.skip (V.seq (?_))))))))))))))
  · rfl
  have hf := few_iff (k := 30) (by simpa using c26)
  have E0 := e1_0.trans e2c
  have hS := hS.ext E0
  have hI := hI.ext E0
  have hO := hO.ext E0
  refine V.region (VL.op (R.mvS rfl) (VL.op (R.mvS rfl) (VL.op (R.mvS rfl) (VL.callX Try.call12 rfl (cluster_spec a sa oa c cs co edges same other _ (by omega) (by omega) (by omega) hS hI hO) fun u w4 hu e4 => VL.op (R.mvT rfl) (VL.op (R.extr rfl rfl) (VL.op (R.extr rfl rfl) (VL.op (R.asS rfl) (VL.op (R.asI rfl) (VL.nil (V.seq (V.region (VL.op (R.mvS rfl) (VL.op (R.mvS rfl) (VL.callX Try.call20 rfl (comps_spec a sa c cs edges same _ (by omega) (by omega) (hS.ext e4) (hI.ext e4)) fun z w5 hz e5 => VL.op (R.asS rfl) (VL.nil (V.seq (V.seq (?_))))))))))))))))))
  obtain ⟨ua, uc, L, e⟩ := u
  obtain ⟨hL, _, hR⟩ := hu
  obtain ⟨z, za, zc⟩ := z
  obtain ⟨hzv, hG⟩ := hz
  dsimp only at hL hR hzv hG ⊢
  have E5 := E0.trans (e4.trans e5)
  have hR0 := hR
  unfold CluR at hR
  cases hok : okB same edges other with
  | false =>
    rw [hok, if_neg (by decide)] at hR
    obtain ⟨rfl, rfl⟩ := hR
    refine V.region (VL.op (R.mvI rfl) (VL.op (R.neq rfl rfl) (VL.nil (V.condP rfl (fun c39 => V.seq (V.region (VL.op (R.mvB rfl) (VL.op (R.asB rfl) (VL.nil (V.ret (fret1 (v := .bool _) rfl rfl rfl (⟨rfl, E5.trans (Mod.refl _ _)⟩)))))))) (fun c39 => V.skip (V.seq (V.seq (?_))))))))
    exact absurd (by decide) c39
  | true =>
    rw [hok, if_pos rfl] at hR
    obtain ⟨rfl, hC⟩ := hR
    have k_ := okG hok
    have hlen := clu_len hC
    obtain ⟨hcm, hzg⟩ := cmpL k_ hzv
    have hci := cmpR_is k_.v k_.ok
    obtain ⟨r, hr⟩ : ∃ r, r = rG same edges := ⟨_, rfl⟩
    have hle : ∀ i, i < same.length → r i ≤ i := by rw [hr]; exact hci.le
    have hid : ∀ i, i < same.length → r (r i) = r i := by rw [hr]; exact hci.idem
    have hzl : z.length = (hdsK r same.length).length := by
      rw [← grpsK_len, hr, ← (show (vals z).length = z.length from List.length_map _), hzg]; rfl
    have hz1 : z.length ≤ 30 := by have := hdsK_len r same.length; omega
    have hzi : ∀ i, i < z.length → (z.getD i default).l = memsK r same.length ((hdsK r same.length).getD i default) := fun i hi => by
      rw [← grps_at (by rw [grpsK_len]; omega), hr, show grpsK (rG same edges) same.length = grpG same (gW same edges) from rfl, ← hzg]
      exact (gmap (·.l) z i hi).symm
    have hhd : ∀ i, i < z.length → (hdsK r same.length).getD i default < same.length ∧ r ((hdsK r same.length).getD i default) = (hdsK r same.length).getD i default := fun i hi => hdsK_mem.1 (by
      rw [show (hdsK r same.length).getD i default = (hdsK r same.length)[i]'(by omega) by simp [List.getD, show i < (hdsK r same.length).length by omega]]
      exact List.getElem_mem _)
    have hzm : ∀ i, i < z.length → (z.getD i default).l.length ≤ 30 := fun i hi => by rw [hzi i hi]; have := memsK_len r same.length ((hdsK r same.length).getD i default); omega
    have hfst : ∀ i, i < z.length → (z.getD i default).l.getD 0 default = (((hdsK r same.length).getD i default : Nat) : Int) ∧ 0 < (z.getD i default).l.length := fun i hi => by
      rw [hzi i hi]; exact mem_first hle (hhd i hi).1 (hhd i hi).2
    refine V.region (VL.op (R.mvI rfl) (VL.op (R.neq rfl rfl) (VL.nil (V.condP rfl (fun c39 => V.seq (V.region (VL.op (R.mvB rfl) (VL.op (R.asB rfl) (VL.nil (V.ret (fret1 (v := .bool _) rfl rfl rfl (?_)))))))) (fun c39 => V.skip (V.seq (V.seq (V.region (VL.op (R.mvS rfl) (VL.op (R.lenS Try.runUnderlying23 rfl) (VL.op (R.mvS rfl) (VL.op (R.lenS Try.runUnderlying23 rfl) (VL.op (R.neq rfl rfl) (VL.nil (V.condP rfl (fun c45 => V.seq (V.region (VL.op (R.asB rfl) (VL.nil (V.ret (fret1 (v := .bool _) rfl rfl rfl (?_))))))) (fun c45 => V.skip (V.seq (V.region (VL.op (R.mvS rfl) (VL.op (R.lenS Try.runUnderlying23 rfl) (VL.makeSl (enc := encI) el23 (0) rfl rfl rfl (by omega) (by unfold maxLen; omega) (Nat.le_refl _) fun b11 w11 hb11 e11 ho11 => VL.op (R.asS rfl) (VL.nil (V.seq (V.region (VL.op (R.asI rfl) (VL.nil (V.cut [0, 1, 2, 7, 8, 11, 12] (fun mk : List Int => [.slice a edges.length c, .slice sa same.length cs, .slice oa other.length co, .bool true, .slice ua L.length uc, .slice (some ⟨b11, 0, none⟩) same.length same.length, .int .i64 same.length]) (fun mk w' => Vc.Mod (one b11) w11 w' ∧ OwnT encI 1 3 b11 w' (some ⟨b11, 0, none⟩) same.length mk ∧ mk.length = same.length ∧ ∀ x, x < same.length → mk.getD x default = ((gIx r same.length x : Nat) : Int) + 1) (V.seq (V.region (VL.op (R.asI rfl) (VL.nil (V.block (?_)))))) (fun rgB0 xB0 wBB0 hBB0 => V.seq (?_)))))))))))))))))))))))))))))
    · exact absurd rfl c39
    · exact absurd (by omega) c45
    · have hb11' : w5.heap.size = b11 := hb11.symm
      have z11 := e11.size
      have hom := ho11.weaken (B' := b11) (by omega)
      have lm : b11 < w11.heap.size := ho11.lt b11 ⟨_, rfl, rfl⟩
      have hL5 := hL.ext e5
      refine V.loop [0, 1, 2, 7, 8, 10, 11, 12, 13] (fun x : Nat × List Int => [.slice a edges.length c, .slice sa same.length cs, .slice oa other.length co, .bool true, .slice ua L.length uc, .slice za z.length zc, .slice (some ⟨b11, 0, none⟩) same.length same.length, .int .i64 (cntF r same.length x.1), .int .i64 (x.1 : Nat)])
        (fun x w' => x.1 ≤ z.length ∧ Vc.Mod (one b11) w11 w' ∧ OwnT encI 1 3 b11 w' (some ⟨b11, 0, none⟩) same.length x.2 ∧ x.2.length = same.length ∧ (∀ y, y < same.length → x.2.getD y default = mkF r same.length x.1 y) ∧ 0 ≤ cntF r same.length x.1 ∧ cntF r same.length x.1 ≤ 30 * (x.1 : Int)) (fun x => z.length - x.1) (0, _) rfl ⟨Nat.zero_le _, Mod.refl _ _, hom, by simp, ?_, ?_, ?_⟩ ?_
      · intro y hy
        dsimp only
        unfold mkF
        rw [if_neg (Nat.not_lt_zero _)]
        simp [List.getD, hy]
      · exact Int.le_refl _
      · exact Int.le_refl _
      rintro ρ ⟨i, mk⟩ w6 ⟨hi, m6, ho6, hl6, hm6, hc0, hc1⟩
      dsimp only at hi m6 ho6 hl6 hm6 hc0 hc1 ⊢
      have E6 : Ext w5 w6 := e11.ownA m6 fun k hk => by have hk : k = b11 := hk; omega
      have hG6 := hG.ext E6
      refine V.seq (V.seq (V.region (VL.op (R.mvI rfl) (VL.op (R.mvS rfl) (VL.op (R.lenS Try.runUnderlying34 rfl) (VL.op (R.lss rfl rfl) (VL.nil (V.condP rfl (fun c52 => V.skip (V.seq (V.block (V.cut [0, 1, 2, 7, 8, 10, 11, 12, 13] (fun mk' : List Int => [.slice a edges.length c, .slice sa same.length cs, .slice oa other.length co, .bool true, .slice ua L.length uc, .slice za z.length zc, .slice (some ⟨b11, 0, none⟩) same.length same.length, .int .i64 (cntF r same.length (i + 1)), .int .i64 (i : Nat)]) (fun mk' w' => Vc.Mod (one b11) w6 w' ∧ OwnT encI 1 3 b11 w' (some ⟨b11, 0, none⟩) same.length mk' ∧ mk'.length = same.length ∧ ∀ y, y < same.length → mk'.getD y default = mkF r same.length (i + 1) y) (V.seq (V.region (VL.op (R.asI rfl) (VL.nil (V.block (?_)))))) (fun rgB2 xB2 wBB2 hBB2 => V.seq (?_)))))) (fun c52 => V.exit (?_))))))))))
      · have hil : i < z.length := by omega
        obtain ⟨q1, q2⟩ := hhd i hil
        have hml := hzm i hil
        have hmi := hzi i hil
        have hcs : cntF r same.length (i + 1) = cntF r same.length i + ((z.getD i default).l.length : Int) := by
          rw [cntF_succ (by rw [grpsK_len]; omega), grps_at (by rw [grpsK_len]; omega), ← hmi]
        refine V.loop [0, 1, 2, 7, 8, 10, 11, 12, 13, 14] (fun x : Nat × List Int => [.slice a edges.length c, .slice sa same.length cs, .slice oa other.length co, .bool true, .slice ua L.length uc, .slice za z.length zc, .slice (some ⟨b11, 0, none⟩) same.length same.length, .int .i64 (cntF r same.length i + (x.1 : Int)), .int .i64 (i : Nat), .int .i64 (x.1 : Nat)])
          (fun x w' => x.1 ≤ (z.getD i default).l.length ∧ Vc.Mod (one b11) w6 w' ∧ OwnT encI 1 3 b11 w' (some ⟨b11, 0, none⟩) same.length x.2 ∧ x.2.length = same.length ∧ ∀ y, y < same.length → x.2.getD y default = if ((y : Nat) : Int) ∈ (z.getD i default).l.take x.1 then (i : Int) + 1 else mkF r same.length i y) (fun x => (z.getD i default).l.length - x.1) (0, mk) (by dsimp only; rw [show cntF r same.length i + ((0 : Nat) : Int) = cntF r same.length i by omega]; rfl) ⟨Nat.zero_le _, Mod.refl _ _, ho6, hl6, fun y hy => by rw [List.take_zero, if_neg (by simp)]; exact hm6 y hy⟩ ?_
        rintro ρ ⟨k, mk'⟩ w7 ⟨hk, m7, ho7, hl7, hm7⟩
        dsimp only at hk m7 ho7 hl7 hm7 ⊢
        have E7 : Ext w5 w7 := e11.ownA (m6.trans m7) fun k hk => by have hk : k = b11 := hk; omega
        have hG7 := hG.ext E7
        obtain ⟨pi, hpi⟩ : ∃ pi : Nat, pi = (max ((i : Int) - 1) 0).toNat := ⟨_, rfl⟩
        obtain ⟨pk, hpk⟩ : ∃ pk : Nat, pk = (max ((k : Int) - 1) 0).toNat := ⟨_, rfl⟩
        have hpil : pi < z.length := by omega
        obtain ⟨f1, f2⟩ := hfst pi hpil
        obtain ⟨X, hX⟩ : ∃ X, X = (z.getD i default).l.getD k default := ⟨_, rfl⟩
        have hx : k < (z.getD i default).l.length → 0 ≤ X ∧ X < same.length ∧ mk'.getD X.toNat default = 0 ∧ gIx r same.length X.toNat = i ∧ (0 < k → (z.getD i default).l.getD pk default < X) ∧ (0 < i → k = 0 → (z.getD pi default).l.getD 0 default < X) := fun hkl => by
          have hm : X ∈ (z.getD i default).l := by rw [hX]; exact getD_mem hkl
          rw [hmi] at hm
          obtain ⟨x, hx, hxr, hxe⟩ := memsK_mem.1 hm
          have hgx := gIx_of (by omega) hxr
          have hinc := memsK_inc r same.length ((hdsK r same.length).getD i default)
          rw [← hmi] at hinc
          have hto : X.toNat = x := by omega
          refine ⟨by omega, by omega, ?_, by rw [hto]; exact hgx, fun h0 => ?_, fun h0 hk0 => ?_⟩
          · rw [hto, hm7 x hx, if_neg, mkF, if_neg (by omega)]
            intro hin
            obtain ⟨j, hj, hj2⟩ := List.getElem_of_mem hin
            rw [List.length_take] at hj
            rw [List.getElem_take] at hj2
            have := inc_at hinc (i := j) (j := k) (by omega) hkl
            rw [← hX, gdE (show j < (z.getD i default).l.length by omega), hj2] at this
            omega
          · rw [hX]; exact inc_at hinc (by omega) hkl
          · rw [hX, hk0, f1, (hfst i hil).1]
            have := hds_inc (r := r) (n := same.length) (i := pi) (by omega)
            rw [show pi + 1 = i by omega] at this
            omega
        refine V.seq (V.seq (V.region (VL.op (R.mvI rfl) (VL.op (R.mvS rfl) (VL.op (R.mvI rfl) (VL.op (R.ixS Try.runUnderlying34 Try.sizeOf23 rfl rfl (by omega) (by omega) ((hG7.own.sl).some (i := i) (by omega))) (VL.op (R.ld1 Try.isAgg23 rfl (((((hG7.own.sl).ext (Mod.refl Vc.nob w7)).row (i := i) (by omega)).cell (i := 0) rfl))) (VL.op (R.lenS Try.runUnderlying23 rfl) (VL.op (R.lss rfl rfl) (VL.nil (V.condP rfl (fun c61 => V.skip (V.seq (V.block (V.seq (V.region (VL.op (R.mvS rfl) (VL.op (R.mvI rfl) (VL.op (R.ixS Try.runUnderlying34 Try.sizeOf23 rfl rfl (by omega) (by omega) ((hG7.own.sl).some (i := i) (by omega))) (VL.op (R.ld1 Try.isAgg23 rfl (((((hG7.own.sl).ext (Mod.refl Vc.nob w7)).row (i := i) (by omega)).cell (i := 0) rfl))) (VL.op (R.mvI rfl) (VL.op (R.ixS Try.runUnderlying23 Try.sizeOf3 rfl rfl (by omega) (by omega) (((hG7.each i).sl).some (i := k) (by omega))) (VL.op (R.ld1 Try.isAgg3 rfl ((((((hG7.each i).sl).ext (Mod.refl Vc.nob w7)).row (i := k) (by omega)).cell (i := 0) rfl))) (VL.op (R.asI rfl) (VL.nil (V.seq (V.seq (?_))))))))))))))))) (fun c61 => V.exit (?_)))))))))))))
        · have hkl : k < (z.getD i default).l.length := by omega
          have hxx := hx hkl
          rw [← hX]
          have x4 := hxx.2.2.2.2.1
          have x5 := hxx.2.2.2.2.2
          rw [hpk] at x4
          rw [hpi] at x5
          refine V.regionCut [71, 72, 73, 74, 75, 76, 77, 78, 79, 80, 81, 82, 83, 84, 85, 86, 87, 88, 89, 90, 91, 92, 93, 94, 95, 96, 97, 98, 99, 100, 101, 102, 103, 104, 105, 106, 107, 108, 109, 110, 111, 112, 113, 114, 115, 116, 117, 118, 119, 120, 121, 122] 122 (.bool false) (fun w' => Ext _ w') rfl (VL.op (R.mvI rfl) (VL.op (R.lss rfl rfl) (VL.op (R.mvB rfl) (VL.orP rfl rfl (fun g19_2 => VL.op (R.mvI rfl) (VL.gT rfl rfl (VL.op (R.mvS rfl) (VL.gT rfl rfl (VL.op (R.lenS Try.runUnderlying23 rfl) (VL.gT rfl rfl (VL.op (R.geq rfl rfl) (VL.op (R.pickFB rfl rfl) (VL.op (R.mvB rfl) (VL.orP rfl rfl (fun g19_8 => VL.op (R.mvS rfl) (VL.gT rfl rfl (VL.op (R.mvI rfl) (VL.gT rfl rfl (VL.op (R.ixS Try.runUnderlying23 Try.sizeOf3 rfl rfl (by omega) (by omega) ((ho7.sl).some (i := X.toNat) (by omega))) (VL.gT rfl rfl (VL.op (R.ld1 Try.isAgg3 rfl (((((ho7.sl).ext (Mod.refl Vc.nob w7)).row (i := X.toNat) (by omega)).cell (i := 0) rfl))) (VL.gT rfl rfl (VL.op (R.neq rfl rfl) (VL.op (R.pickFB rfl rfl) (VL.op (R.mvB rfl) (VL.orP rfl rfl (fun g19_15 => VL.op (R.mvI rfl) (VL.gT rfl rfl (VL.op (R.gtr rfl rfl) (VL.gT rfl rfl (VL.op (R.mvB rfl) (VL.andP rfl rfl (fun g19_18 => VL.op (R.mvS rfl) (VL.gT rfl rfl (VL.op (R.mvI rfl) (VL.gT rfl rfl (VL.op (R.ixS Try.runUnderlying34 Try.sizeOf23 rfl rfl (by omega) (by omega) ((hG7.own.sl).some (i := i) (by omega))) (VL.gT rfl rfl (VL.op (R.ld1 Try.isAgg23 rfl (((((hG7.own.sl).ext (Mod.refl Vc.nob w7)).row (i := i) (by omega)).cell (i := 0) rfl))) (VL.gT rfl rfl (VL.op (R.mvI rfl) (VL.gT rfl rfl (VL.op (R.sub rfl rfl (by omega) (by omega)) (VL.gT rfl rfl (VL.op (R.max rfl rfl) (VL.gT rfl rfl (VL.op (R.ixS Try.runUnderlying23 Try.sizeOf3 rfl rfl (by omega) (by omega) (((hG7.each i).sl).some (i := (max ((k : Int) - 1) 0).toNat) (by omega))) (VL.gT rfl rfl (VL.op (R.ld1 Try.isAgg3 rfl ((((((hG7.each i).sl).ext (Mod.refl Vc.nob w7)).row (i := (max ((k : Int) - 1) 0).toNat) (by omega)).cell (i := 0) rfl))) (VL.gT rfl rfl (VL.op (R.mvI rfl) (VL.gT rfl rfl (VL.op (R.geq rfl rfl) (VL.gT rfl rfl (VL.op (R.pickTB rfl rfl) (VL.op (R.pickFB rfl rfl) (VL.op (R.mvB rfl) (VL.orP rfl rfl (fun g19_32 => VL.op (R.mvI rfl) (VL.gT rfl rfl (VL.op (R.gtr rfl rfl) (VL.gT rfl rfl (VL.op (R.mvB rfl) (VL.andP rfl rfl (fun g19_35 => VL.op (R.mvI rfl) (VL.gT rfl rfl (VL.op (R.eql rfl rfl) (VL.gT rfl rfl (VL.op (R.pickTB rfl rfl) (VL.gT rfl rfl (VL.op (R.mvB rfl) (VL.andP rfl rfl (fun g19_39 => VL.op (R.mvS rfl) (VL.gT rfl rfl (VL.op (R.mvI rfl) (VL.gT rfl rfl (VL.op (R.sub rfl rfl (by omega) (by omega)) (VL.gT rfl rfl (VL.op (R.max rfl rfl) (VL.gT rfl rfl (VL.op (R.ixS Try.runUnderlying34 Try.sizeOf23 rfl rfl (by omega) (by omega) ((hG7.own.sl).some (i := (max ((i : Int) - 1) 0).toNat) (by omega))) (VL.gT rfl rfl (VL.op (R.ld1 Try.isAgg23 rfl (((((hG7.own.sl).ext (Mod.refl Vc.nob w7)).row (i := (max ((i : Int) - 1) 0).toNat) (by omega)).cell (i := 0) rfl))) (VL.gT rfl rfl (VL.op (R.ixS Try.runUnderlying23 Try.sizeOf3 rfl rfl (by decide) (by rw [← hpi]; omega) (((hG7.each (max ((i : Int) - 1) 0).toNat).sl).some (i := 0) (by rw [← hpi]; omega))) (VL.gT rfl rfl (VL.op (R.ld1 Try.isAgg3 rfl ((((((hG7.each (max ((i : Int) - 1) 0).toNat).sl).ext (Mod.refl Vc.nob w7)).row (i := 0) (by rw [← hpi]; omega)).cell (i := 0) rfl))) (VL.gT rfl rfl (VL.op (R.mvI rfl) (VL.gT rfl rfl (VL.op (R.geq rfl rfl) (VL.gT rfl rfl (VL.op (R.pickTB rfl rfl) (VL.op (R.pickFB rfl rfl) (VL.nil ⟨rfl, cutB rfl ?_, Mod.refl _ _⟩))))))))))))))))))))))) (fun g19_39 => VL.gF rfl rfl (VL.gF rfl rfl (VL.gF rfl rfl (VL.gF rfl rfl (VL.gF rfl rfl (VL.gF rfl rfl (VL.gF rfl rfl (VL.gF rfl rfl (VL.gF rfl rfl (VL.gT rfl rfl (VL.op (R.pickFB rfl rfl) (VL.op (R.pickFB rfl rfl) (VL.nil ⟨rfl, cutB rfl ?_, Mod.refl _ _⟩))))))))))))))))))))) (fun g19_35 => VL.gF rfl rfl (VL.gT rfl rfl (VL.op (R.pickFB rfl rfl) (VL.gT rfl rfl (VL.op (R.mvB rfl) (VL.gF rfl rfl (VL.gF rfl rfl (VL.gF rfl rfl (VL.gF rfl rfl (VL.gF rfl rfl (VL.gF rfl rfl (VL.gF rfl rfl (VL.gF rfl rfl (VL.gF rfl rfl (VL.gF rfl rfl (VL.gT rfl rfl (VL.op (R.pickFB rfl rfl) (VL.op (R.pickFB rfl rfl) (VL.nil ⟨rfl, cutB rfl ?_, Mod.refl _ _⟩))))))))))))))))))))))))) (fun g19_32 => VL.gF rfl rfl (VL.gF rfl rfl (VL.gU rfl rfl (VL.gU rfl rfl (VL.gF rfl rfl (VL.gF rfl rfl (VL.gU rfl rfl (VL.gU rfl rfl (VL.gU rfl rfl (VL.gU rfl rfl (VL.gU rfl rfl (VL.gU rfl rfl (VL.gU rfl rfl (VL.gU rfl rfl (VL.gU rfl rfl (VL.gU rfl rfl (VL.gF rfl rfl (VL.op (R.pickTB rfl rfl) (VL.nil ⟨rfl, cutB rfl ?_, Mod.refl _ _⟩))))))))))))))))))))))))))))))))))))))))))))) (fun g19_18 => VL.gF rfl rfl (VL.gF rfl rfl (VL.gF rfl rfl (VL.gF rfl rfl (VL.gF rfl rfl (VL.gF rfl rfl (VL.gF rfl rfl (VL.gF rfl rfl (VL.gF rfl rfl (VL.gF rfl rfl (VL.gT rfl rfl (VL.op (R.pickFB rfl rfl) (VL.op (R.pickFB rfl rfl) (VL.op (R.mvB rfl) (VL.gT rfl rfl (VL.op (R.mvI rfl) (VL.gT rfl rfl (VL.op (R.gtr rfl rfl) (VL.gT rfl rfl (VL.op (R.mvB rfl) (VL.andP rfl rfl (fun g19_35 => VL.op (R.mvI rfl) (VL.gT rfl rfl (VL.op (R.eql rfl rfl) (VL.gT rfl rfl (VL.op (R.pickTB rfl rfl) (VL.gT rfl rfl (VL.op (R.mvB rfl) (VL.andP rfl rfl (fun g19_39 => VL.op (R.mvS rfl) (VL.gT rfl rfl (VL.op (R.mvI rfl) (VL.gT rfl rfl (VL.op (R.sub rfl rfl (by omega) (by omega)) (VL.gT rfl rfl (VL.op (R.max rfl rfl) (VL.gT rfl rfl (VL.op (R.ixS Try.runUnderlying34 Try.sizeOf23 rfl rfl (by omega) (by omega) ((hG7.own.sl).some (i := (max ((i : Int) - 1) 0).toNat) (by omega))) (VL.gT rfl rfl (VL.op (R.ld1 Try.isAgg23 rfl (((((hG7.own.sl).ext (Mod.refl Vc.nob w7)).row (i := (max ((i : Int) - 1) 0).toNat) (by omega)).cell (i := 0) rfl))) (VL.gT rfl rfl (VL.op (R.ixS Try.runUnderlying23 Try.sizeOf3 rfl rfl (by decide) (by rw [← hpi]; omega) (((hG7.each (max ((i : Int) - 1) 0).toNat).sl).some (i := 0) (by rw [← hpi]; omega))) (VL.gT rfl rfl (VL.op (R.ld1 Try.isAgg3 rfl ((((((hG7.each (max ((i : Int) - 1) 0).toNat).sl).ext (Mod.refl Vc.nob w7)).row (i := 0) (by rw [← hpi]; omega)).cell (i := 0) rfl))) (VL.gT rfl rfl (VL.op (R.mvI rfl) (VL.gT rfl rfl (VL.op (R.geq rfl rfl) (VL.gT rfl rfl (VL.op (R.pickTB rfl rfl) (VL.op (R.pickFB rfl rfl) (VL.nil ⟨rfl, cutB rfl ?_, Mod.refl _ _⟩))))))))))))))))))))))) (fun g19_39 => VL.gF rfl rfl (VL.gF rfl rfl (VL.gF rfl rfl (VL.gF rfl rfl (VL.gF rfl rfl (VL.gF rfl rfl (VL.gF rfl rfl (VL.gF rfl rfl (VL.gF rfl rfl (VL.gT rfl rfl (VL.op (R.pickFB rfl rfl) (VL.op (R.pickFB rfl rfl) (VL.nil ⟨rfl, cutB rfl ?_, Mod.refl _ _⟩))))))))))))))))))))) (fun g19_35 => VL.gF rfl rfl (VL.gT rfl rfl (VL.op (R.pickFB rfl rfl) (VL.gT rfl rfl (VL.op (R.mvB rfl) (VL.gF rfl rfl (VL.gF rfl rfl (VL.gF rfl rfl (VL.gF rfl rfl (VL.gF rfl rfl (VL.gF rfl rfl (VL.gF rfl rfl (VL.gF rfl rfl (VL.gF rfl rfl (VL.gF rfl rfl (VL.gT rfl rfl (VL.op (R.pickFB rfl rfl) (VL.op (R.pickFB rfl rfl) (VL.nil ⟨rfl, cutB rfl ?_, Mod.refl _ _⟩)))))))))))))))))))))))))))))))))))))))))))))) (fun g19_15 => VL.gF rfl rfl (VL.gF rfl rfl (VL.gU rfl rfl (VL.gU rfl rfl (VL.gU rfl rfl (VL.gU rfl rfl (VL.gU rfl rfl (VL.gU rfl rfl (VL.gU rfl rfl (VL.gU rfl rfl (VL.gU rfl rfl (VL.gU rfl rfl (VL.gU rfl rfl (VL.gF rfl rfl (VL.op (R.pickTB rfl rfl) (VL.op (R.mvB rfl) (VL.gF rfl rfl (VL.gF rfl rfl (VL.gF rfl rfl (VL.gU rfl rfl (VL.gU rfl rfl (VL.gF rfl rfl (VL.gF rfl rfl (VL.gU rfl rfl (VL.gU rfl rfl (VL.gU rfl rfl (VL.gU rfl rfl (VL.gU rfl rfl (VL.gU rfl rfl (VL.gU rfl rfl (VL.gU rfl rfl (VL.gU rfl rfl (VL.gU rfl rfl (VL.gF rfl rfl (VL.op (R.pickTB rfl rfl) (VL.nil ⟨rfl, cutB rfl ?_, Mod.refl _ _⟩)))))))))))))))))))))))))))))))))))))))))))))))) (fun g19_8 => VL.gF rfl rfl (VL.gF rfl rfl (VL.gF rfl rfl (VL.gF rfl rfl (VL.op (R.pickTB rfl rfl) (VL.op (R.mvB rfl) (VL.gF rfl rfl (VL.gF rfl rfl (VL.gF rfl rfl (VL.gU rfl rfl (VL.gU rfl rfl (VL.gU rfl rfl (VL.gU rfl rfl (VL.gU rfl rfl (VL.gU rfl rfl (VL.gU rfl rfl (VL.gU rfl rfl (VL.gU rfl rfl (VL.gU rfl rfl (VL.gU rfl rfl (VL.gF rfl rfl (VL.op (R.pickTB rfl rfl) (VL.op (R.mvB rfl) (VL.gF rfl rfl (VL.gF rfl rfl (VL.gF rfl rfl (VL.gU rfl rfl (VL.gU rfl rfl (VL.gF rfl rfl (VL.gF rfl rfl (VL.gU rfl rfl (VL.gU rfl rfl (VL.gU rfl rfl (VL.gU rfl rfl (VL.gU rfl rfl (VL.gU rfl rfl (VL.gU rfl rfl (VL.gU rfl rfl (VL.gU rfl rfl (VL.gU rfl rfl (VL.gF rfl rfl (VL.op (R.pickTB rfl rfl) (VL.nil ⟨rfl, cutB rfl ?_, Mod.refl _ _⟩))))))))))))))))))))))))))))))))))))))))))))))))))))) (fun g19_2 => VL.gF rfl rfl (VL.gF rfl rfl (VL.gF rfl rfl (VL.op (R.pickTB rfl rfl) (VL.op (R.mvB rfl) (VL.gF rfl rfl (VL.gF rfl rfl (VL.gF rfl rfl (VL.gF rfl rfl (VL.gF rfl rfl (VL.op (R.pickTB rfl rfl) (VL.op (R.mvB rfl) (VL.gF rfl rfl (VL.gF rfl rfl (VL.gF rfl rfl (VL.gU rfl rfl (VL.gU rfl rfl (VL.gU rfl rfl (VL.gU rfl rfl (VL.gU rfl rfl (VL.gU rfl rfl (VL.gU rfl rfl (VL.gU rfl rfl (VL.gU rfl rfl (VL.gU rfl rfl (VL.gU rfl rfl (VL.gF rfl rfl (VL.op (R.pickTB rfl rfl) (VL.op (R.mvB rfl) (VL.gF rfl rfl (VL.gF rfl rfl (VL.gF rfl rfl (VL.gU rfl rfl (VL.gU rfl rfl (VL.gF rfl rfl (VL.gF rfl rfl (VL.gU rfl rfl (VL.gU rfl rfl (VL.gU rfl rfl (VL.gU rfl rfl (VL.gU rfl rfl (VL.gU rfl rfl (VL.gU rfl rfl (VL.gU rfl rfl (VL.gU rfl rfl (VL.gU rfl rfl (VL.gF rfl rfl (VL.op (R.pickTB rfl rfl) (VL.nil ⟨rfl, cutB rfl ?_, Mod.refl _ _⟩))))))))))))))))))))))))))))))))))))))))))))))))))))) (fun rg19 w19c e19c => V.cond rfl (fun c122 => V.seq (V.region (VL.op (R.asB rfl) (VL.nil (V.ret (fret1 (v := .bool _) rfl rfl rfl (?_))))))) (fun c122 => V.skip (V.seq (?_))))
          iterate 10 first | rfl | (exfalso; omega) | (exfalso; have := x4 (by omega); omega) | exact decide_eq_false (by have := x5 (by omega) (by omega); omega) | exact absurd hxx.2.2.1 (by assumption)
          · contradiction
          · refine V.region (VL.op (R.mvS rfl) (VL.op (R.mvI rfl) (VL.op (R.mvI rfl) (VL.op (R.add rfl rfl (by omega) (by omega)) (VL.op (R.ixS Try.runUnderlying23 Try.sizeOf3 rfl rfl (by omega) (by omega) (((ho7.sl.ext e19c)).some (i := X.toNat) (by omega))) (VL.ownSt eltI (v := .int _ _) Try.sizeOf3 ((ho7.ext e19c)) X.toNat 0 ((i : Int) + 1) rfl rfl (by omega) rfl rfl rfl rfl rfl fun w8 ho8 m8 hs8 => VL.nil (V.region (VL.op (R.mvI rfl) (VL.op (R.add rfl rfl (by omega) (by omega)) (VL.op (R.asI rfl) (VL.nil (V.region (VL.op (R.mvI rfl) (VL.op (R.add rfl rfl (by omega) (by omega)) (VL.op (R.asI rfl) (VL.nil (?_)))))))))))))))))
            refine ⟨(k + 1, mk'.set X.toNat ((i : Int) + 1)), by dsimp only; rw [show cntF r same.length i + ((k + 1 : Nat) : Int) = cntF r same.length i + (k : Int) + 1 by omega]; rfl, ⟨by dsimp only; omega, (m7.trans (Ext.mod e19c)).then m8 fun x _ hx => aBlk_some hx, ho8, by dsimp only; rw [List.length_set]; exact hl7, fun y hy => ?_⟩, by dsimp only; omega⟩
            dsimp only
            rw [set_get (by omega), List.take_succ_eq_append_getElem hkl, ← gdE hkl, ← hX, hm7 y hy]
            by_cases e : y = X.toNat
            · rw [if_pos e, if_pos (List.mem_append_right _ (by rw [List.mem_singleton]; omega))]
            · rw [if_neg e]
              by_cases hin : ((y : Nat) : Int) ∈ (z.getD i default).l.take k
              · rw [if_pos hin, if_pos (List.mem_append_left _ hin)]
              · rw [if_neg hin, if_neg fun h => (List.mem_append.1 h).elim hin fun h => e (by rw [List.mem_singleton] at h; omega)]
        · have hkl : k = (z.getD i default).l.length := by omega
          subst hkl
          rw [List.take_length] at hm7
          refine ⟨mk', by rw [hcs]; rfl, m7, ho7, hl7, fun y hy => ?_⟩
          rw [hm7 y hy]
          have hg1 := gIx_at hle hid hy
          by_cases hin : ((y : Nat) : Int) ∈ (z.getD i default).l
          · rw [if_pos hin]
            rw [hmi] at hin
            obtain ⟨x, hx1, hxr, hxe⟩ := memsK_mem.1 hin
            have : x = y := by omega
            subst this
            have := gIx_of (by omega) hxr
            unfold mkF
            rw [if_pos (by omega), this]
          · rw [if_neg hin]
            have hne : gIx r same.length y ≠ i := fun h => hin (by
              rw [hmi, ← h, hg1.2]
              exact memsK_mem.2 ⟨y, hy, rfl, rfl⟩)
            unfold mkF
            by_cases h : gIx r same.length y < i
            · rw [if_pos h, if_pos (by omega)]
            · rw [if_neg h, if_neg (by omega)]
      · have hil : i < z.length := by omega
        obtain ⟨m8, ho8, hl8, hm8⟩ := hBB2
        have E8 : Ext w5 wBB2 := e11.ownA (m6.trans m8) fun k hk => by have hk : k = b11 := hk; omega
        have hG8 := hG.ext E8
        have h2 := (hfst i hil).2
        have hcs : cntF r same.length (i + 1) = cntF r same.length i + ((z.getD i default).l.length : Int) := by
          rw [cntF_succ (by rw [grpsK_len]; omega), grps_at (by rw [grpsK_len]; omega), ← hzi i hil]
        have hml := hzm i hil
        refine V.region (VL.op (R.mvS rfl) (VL.op (R.mvI rfl) (VL.op (R.ixS Try.runUnderlying34 Try.sizeOf23 rfl rfl (by omega) (by omega) ((hG8.own.sl).some (i := i) (by omega))) (VL.op (R.ld1 Try.isAgg23 rfl (((((hG8.own.sl).ext (Mod.refl Vc.nob wBB2)).row (i := i) (by omega)).cell (i := 0) rfl))) (VL.op (R.lenS Try.runUnderlying23 rfl) (VL.op (R.eql rfl rfl) (VL.nil (V.condP rfl (fun c135 => V.seq (V.region (VL.op (R.asB rfl) (VL.nil (V.ret (fret1 (v := .bool _) rfl rfl rfl (?_))))))) (fun c135 => V.skip (V.region (VL.op (R.mvI rfl) (VL.op (R.add rfl rfl (by omega) (by omega)) (VL.op (R.asI rfl) (VL.nil (⟨(i + 1, xB2), rfl, ⟨by dsimp only; omega, m6.trans m8, ho8, hl8, hm8, by dsimp only; omega, by dsimp only; omega⟩, by dsimp only; omega⟩)))))))))))))))
        exact absurd c135 (by omega)
      · have hil : i = z.length := by omega
        subst hil
        have hc := cntF_all hle hid
        rw [grpsK_len, ← hzl] at hc
        refine ⟨mk, by rw [hc]; rfl, m6, ho6, hl6, fun x hx => ?_⟩
        rw [hm6 x hx]
        unfold mkF
        rw [if_pos (by rw [hzl]; exact (gIx_at hle hid hx).1)]
    · obtain ⟨mB, hoB, hlB, hmB⟩ := hBB0
      have hb11' : w5.heap.size = b11 := hb11.symm
      have EB : Ext w5 wBB0 := e11.ownA mB fun k hk => by have hk : k = b11 := hk; omega
      have hSB := (hS.ext (e4.trans e5)).ext EB
      have hIB := (hI.ext (e4.trans e5)).ext EB
      have hOB := (hO.ext (e4.trans e5)).ext EB
      have hLB := (hL.ext e5).ext EB
      have hmk : ∀ x y : Nat, x < same.length → y < same.length → (xB0.getD x default = xB0.getD y default ↔ r x = r y) := fun x y hx hy => by
        rw [hmB x hx, hmB y hy, ← gIx_inj hle hid hx hy]; omega
      refine V.region (VL.op (R.asS rfl) (VL.nil (V.cut [1, 2, 7, 8, 11, 12, 16] (fun x : Option Addr × Nat => [.slice sa same.length cs, .slice oa other.length co, .bool true, .slice ua L.length uc, .slice (some ⟨b11, 0, none⟩) same.length same.length, .int .i64 same.length, .slice x.1 (insF r edges).length x.2]) (fun x w' => Ext wBB0 w' ∧ EdSl w' x.1 (insF r edges)) (V.seq (V.region (VL.op (R.asI rfl) (VL.nil (V.block (?_)))))) (fun rgB4 xB4 wBB4 hBB4 => V.cut [1, 2, 7, 8, 12, 16] (fun _ : Unit => [.slice sa same.length cs, .slice oa other.length co, .bool true, .slice ua L.length uc, .int .i64 same.length, .slice xB4.1 (insF r edges).length xB4.2]) (fun _ w' => Ext wBB4 w') (V.seq (V.region (VL.op (R.asI rfl) (VL.nil (V.block (?_)))))) (fun rgB6 xB6 wBB6 hBB6 => V.seq (?_))))))
      · refine V.loop [0, 1, 2, 7, 8, 11, 12, 16, 17] (fun x : Nat × Option Addr × Nat × List Ed => [.slice a edges.length c, .slice sa same.length cs, .slice oa other.length co, .bool true, .slice ua L.length uc, .slice (some ⟨b11, 0, none⟩) same.length same.length, .int .i64 same.length, .slice x.2.1 x.2.2.2.length x.2.2.1, .int .i64 (x.1 : Nat)])
          (fun x w' => x.1 ≤ edges.length ∧ Ext wBB0 w' ∧ OwnT encEd 3 40 wBB0.heap.size w' x.2.1 x.2.2.1 x.2.2.2 ∧ x.2.2.2 = insF r (edges.take x.1)) (fun x => edges.length - x.1) (0, none, 0, []) rfl ⟨Nat.zero_le _, Mod.refl _ _, OwnT.nil _ _ _ _ _, rfl⟩ ?_
        rintro ρ ⟨k, a16, c16, l⟩ w6 ⟨hk, e6, ho6, hl6⟩
        dsimp only at hk e6 ho6 hl6 ⊢
        have hl2 : l.length ≤ 80 := by rw [hl6]; unfold insF; have := List.length_filter_le (fun e : Ed => decide (r e.a.toNat = r e.b.toNat)) (edges.take k); rw [List.length_take] at this; omega
        have hed : k < edges.length → 0 ≤ (edges.getD k default).a ∧ 0 ≤ (edges.getD k default).b ∧ (edges.getD k default).a < same.length ∧ (edges.getD k default).b < same.length := fun h => k_.l _ (getD_mem h)
        have hsucc : k < edges.length → insF r (edges.take (k + 1)) = insF r (edges.take k) ++ (if r (edges.getD k default).a.toNat = r (edges.getD k default).b.toNat then [edges.getD k default] else []) := fun h => by
          unfold insF
          rw [List.take_succ_eq_append_getElem h, List.filter_append, gdE h]
          congr 1
          by_cases e : r edges[k].a.toNat = r edges[k].b.toNat <;> simp [e]
        refine V.seq (V.seq (V.region (VL.op (R.mvI rfl) (VL.op (R.mvS rfl) (VL.op (R.lenS Try.runUnderlying22 rfl) (VL.op (R.lss rfl rfl) (VL.nil (V.condP rfl (fun c139 => V.skip (V.seq (V.block (V.seq (V.regionQCut mixed 17 (by kernel_rfl) rfl (fun w' => Ext _ w') (Ext.drawn _) [142, 143, 144, 145, 146, 147, 148, 149, 150, 151, 152, 153, 154, 155, 156, 157, 158] 158 (.bool (decide (r (edges.getD k default).a.toNat = r (edges.getD k default).b.toNat))) rfl (VQ.op (fun wq eq => R.mvS rfl) (VQ.op (fun wq eq => R.mvS rfl) (VQ.op (fun wq eq => R.mvI rfl) (VQ.op (fun wq eq => R.ixS Try.runUnderlying22 Try.sizeOf40 rfl rfl (by have := hed; omega) (by have := hed; omega) ((hSB).some (i := k) (by have := hed; omega))) (VQ.op (fun wq eq => R.fld' (o := 0) Try.runUnderlying40 rfl rfl Try.sizeOf3 rfl rfl) (VQ.op (fun wq eq => R.ld1 Try.isAgg3 rfl (((((hSB).ext (e6.trans eq)).row (i := k) (by have := hed; omega)).cell (i := 0) rfl))) (VQ.op (fun wq eq => R.ixS Try.runUnderlying23 Try.sizeOf3 rfl rfl (by have := hed; omega) (by have := hed; omega) ((hoB.sl).some (i := (edges.getD k default).a.toNat) (by have := hed; omega))) (VQ.op (fun wq eq => R.ld1 Try.isAgg3 rfl (((((hoB.sl).ext (e6.trans eq)).row (i := (edges.getD k default).a.toNat) (by have := hed; omega)).cell (i := 0) rfl))) (VQ.op (fun wq eq => R.mvS rfl) (VQ.op (fun wq eq => R.mvS rfl) (VQ.op (fun wq eq => R.mvI rfl) (VQ.op (fun wq eq => R.ixS Try.runUnderlying22 Try.sizeOf40 rfl rfl (by have := hed; omega) (by have := hed; omega) ((hSB).some (i := k) (by have := hed; omega))) (VQ.op (fun wq eq => R.fld' (o := 1) Try.runUnderlying40 rfl rfl Try.sizeOf3 rfl rfl) (VQ.op (fun wq eq => R.ld1 Try.isAgg3 rfl (((((hSB).ext (e6.trans eq)).row (i := k) (by have := hed; omega)).cell (i := 1) rfl))) (VQ.op (fun wq eq => R.ixS Try.runUnderlying23 Try.sizeOf3 rfl rfl (by have := hed; omega) (by have := hed; omega) ((hoB.sl).some (i := (edges.getD k default).b.toNat) (by have := hed; omega))) (VQ.op (fun wq eq => R.ld1 Try.isAgg3 rfl (((((hoB.sl).ext (e6.trans eq)).row (i := (edges.getD k default).b.toNat) (by have := hed; omega)).cell (i := 0) rfl))) (VQ.op (fun wq eq => R.eql rfl rfl) (VQ.nil (cutB rfl ?_))))))))))))))))))) (fun rg29 w29c e29c => V.condP rfl (fun c158 => ?_) (fun c158 => V.skip (V.region (VL.op (R.mvI rfl) (VL.op (R.add rfl rfl (by omega) (by omega)) (VL.op (R.asI rfl) (VL.nil (?_))))))))))))) (fun c139 => V.exit (?_))))))))))
        · have := hed (by omega)
          exact decide_eq_decide.2 (hmk _ _ (by omega) (by omega))
        · refine V.region (VL.op (R.mvS rfl) (VL.op (R.mvS rfl) (VL.op (R.mvI rfl) (VL.op (R.ixS Try.runUnderlying22 Try.sizeOf40 rfl rfl (by omega) (by omega) ((hSB).some (i := k) (by omega))) (VL.op (R.ldA Try.isAgg40 Try.sizeOf40 rfl rfl ((show RowAt _ _ _ (encEd (edges.getD k default)) from (((hSB).ext (e6.trans e29c)).row (i := k) (by omega)))) rfl) (VL.append1 el22 Try.runUnderlying22 Try.sizeOf40 Try.zeroValue40 rfl ((edges.getD k default)) rfl rfl rfl (ho6.ext e29c) rfl rfl rfl (by omega) (by unfold maxLen; omega) ((e6.trans e29c)).size fun a9 c9 w9 vt9 ho9 m9 hf9 => VL.op (R.asS rfl) (VL.nil (V.region (VL.op (R.mvI rfl) (VL.op (R.add rfl rfl (by omega) (by omega)) (VL.op (R.asI rfl) (VL.nil (?_)))))))))))))
          refine ⟨(k + 1, a9, c9, l ++ [edges.getD k default]), by dsimp only; rw [List.length_append]; rfl, ⟨by dsimp only; omega, (e6.trans e29c).ownA m9 fun q hq => ho6.ge q hq, ho9, ?_⟩, by dsimp only; omega⟩
          dsimp only
          rw [hsucc (by omega), if_pos c158, hl6]
        · refine ⟨(k + 1, a16, c16, l), rfl, ⟨by dsimp only; omega, e6.trans e29c, ho6.ext e29c, ?_⟩, by dsimp only; omega⟩
          dsimp only
          rw [hsucc (by omega), if_neg c158, hl6, List.append_nil]
        · have hkl : k = edges.length := by omega
          subst hkl
          rw [List.take_length] at hl6
          subst hl6
          exact ⟨(a16, c16), rfl, e6, ho6.sl⟩
      · obtain ⟨e4', hT⟩ := hBB4
        obtain ⟨H, hLH, hg, _, _⟩ := clu_glo k_ hC
        have hLi : ∀ i, i < same.length → (0 ≤ L.getD i default ∧ L.getD i default < same.length ∧ r (L.getD i default).toNat = r i) ∧ 0 ≤ same.getD i default ∧ same.getD i default < same.length ∧ r (same.getD i default).toNat = r i := fun i hi => by
          obtain ⟨hcl, _⟩ := cl_at k_ (x := (i : Int)) (by omega) (by omega)
          have h1 : L.getD i default = H (at_ same i) := by rw [hLH]; exact at_map (x := (i : Int)) H (by omega) (by omega)
          have h2 : same.getD i default = at_ same i := by unfold at_; rw [Int.toNat_natCast]
          have h3 := r_class k_ (x := (i : Int)) (by omega) (by omega)
          rw [Int.toNat_natCast] at h3
          have h4 := hg.comp _ hcl
          have h5 := hg.cl _ hcl
          rw [h1, h2, hr]
          exact ⟨⟨h5.1, h5.2.1, h4.trans h3⟩, hcl.1, hcl.2.1, h3⟩
        refine V.loop [1, 2, 7, 8, 11, 12, 16, 18] (fun i : Nat => [.slice sa same.length cs, .slice oa other.length co, .bool true, .slice ua L.length uc, .slice (some ⟨b11, 0, none⟩) same.length same.length, .int .i64 same.length, .slice xB4.1 (insF r edges).length xB4.2, .int .i64 (i : Nat)])
          (fun i w' => i ≤ same.length ∧ Ext wBB4 w') (fun i => same.length - i) 0 rfl ⟨Nat.zero_le _, Mod.refl _ _⟩ ?_
        rintro ρ i w6 ⟨hi, e6⟩
        have hLi' := hLi i
        refine V.seq (V.seq (V.region (VL.op (R.mvI rfl) (VL.op (R.mvS rfl) (VL.op (R.lenS Try.runUnderlying23 rfl) (VL.op (R.lss rfl rfl) (VL.nil (V.condP rfl (fun c169 => V.skip (V.seq (V.block (V.seq (V.regionQCut mixed 42 (by kernel_rfl) rfl (fun w' => Ext _ w') (Ext.drawn _) [172, 173, 174, 175, 176, 177, 178, 179, 180, 181, 182, 183, 184, 185, 186, 187, 188, 189, 190, 191, 192, 193, 194, 195, 196, 197, 198, 199, 200, 201, 202, 203, 204, 205, 206, 207, 208, 209, 210, 211, 212, 213] 213 (.bool false) rfl (VQ.op (fun wq eq => R.mvS rfl) (VQ.op (fun wq eq => R.mvI rfl) (VQ.op (fun wq eq => R.ixS Try.runUnderlying23 Try.sizeOf3 rfl rfl (by have := hLi'; omega) (by have := hLi'; omega) ((hLB).some (i := i) (by have := hLi'; omega))) (VQ.op (fun wq eq => R.ld1 Try.isAgg3 rfl (((((hLB).ext ((e4'.trans e6).trans eq)).row (i := i) (by have := hLi'; omega)).cell (i := 0) rfl))) (VQ.op (fun wq eq => R.lss rfl rfl) (VQ.op (fun wq eq => R.mvB rfl) (VQ.orP rfl rfl (fun g34_5 => VQ.op (fun wq eq => R.mvS rfl) (VQ.gT rfl rfl (VQ.op (fun wq eq => R.mvI rfl) (VQ.gT rfl rfl (VQ.op (fun wq eq => R.ixS Try.runUnderlying23 Try.sizeOf3 rfl rfl (by have := hLi'; omega) (by have := hLi'; omega) ((hLB).some (i := i) (by have := hLi'; omega))) (VQ.gT rfl rfl (VQ.op (fun wq eq => R.ld1 Try.isAgg3 rfl (((((hLB).ext ((e4'.trans e6).trans eq)).row (i := i) (by have := hLi'; omega)).cell (i := 0) rfl))) (VQ.gT rfl rfl (VQ.op (fun wq eq => R.mvS rfl) (VQ.gT rfl rfl (VQ.op (fun wq eq => R.lenS Try.runUnderlying23 rfl) (VQ.gT rfl rfl (VQ.op (fun wq eq => R.geq rfl rfl) (VQ.op (fun wq eq => R.pickFB rfl rfl) (VQ.op (fun wq eq => R.mvB rfl) (VQ.orP rfl rfl (fun g34_14 => VQ.op (fun wq eq => R.mvS rfl) (VQ.gT rfl rfl (VQ.op (fun wq eq => R.mvI rfl) (VQ.gT rfl rfl (VQ.op (fun wq eq => R.ixS Try.runUnderlying23 Try.sizeOf3 rfl rfl (by have := hLi'; omega) (by have := hLi'; omega) ((hoB.sl).some (i := i) (by have := hLi'; omega))) (VQ.gT rfl rfl (VQ.op (fun wq eq => R.ld1 Try.isAgg3 rfl (((((hoB.sl).ext ((e4'.trans e6).trans eq)).row (i := i) (by have := hLi'; omega)).cell (i := 0) rfl))) (VQ.gT rfl rfl (VQ.op (fun wq eq => R.mvS rfl) (VQ.gT rfl rfl (VQ.op (fun wq eq => R.mvS rfl) (VQ.gT rfl rfl (VQ.op (fun wq eq => R.mvI rfl) (VQ.gT rfl rfl (VQ.op (fun wq eq => R.ixS Try.runUnderlying23 Try.sizeOf3 rfl rfl (by have := hLi'; omega) (by have := hLi'; omega) ((hLB).some (i := i) (by have := hLi'; omega))) (VQ.gT rfl rfl (VQ.op (fun wq eq => R.ld1 Try.isAgg3 rfl (((((hLB).ext ((e4'.trans e6).trans eq)).row (i := i) (by have := hLi'; omega)).cell (i := 0) rfl))) (VQ.gT rfl rfl (VQ.op (fun wq eq => R.ixS Try.runUnderlying23 Try.sizeOf3 rfl rfl (by have := hLi'; omega) (by have := hLi'; omega) ((hoB.sl).some (i := (L.getD i default).toNat) (by have := hLi'; omega))) (VQ.gT rfl rfl (VQ.op (fun wq eq => R.ld1 Try.isAgg3 rfl (((((hoB.sl).ext ((e4'.trans e6).trans eq)).row (i := (L.getD i default).toNat) (by have := hLi'; omega)).cell (i := 0) rfl))) (VQ.gT rfl rfl (VQ.op (fun wq eq => R.neq rfl rfl) (VQ.op (fun wq eq => R.pickFB rfl rfl) (VQ.op (fun wq eq => R.mvB rfl) (VQ.orP rfl rfl (fun g34_28 => VQ.op (fun wq eq => R.mvS rfl) (VQ.gT rfl rfl (VQ.op (fun wq eq => R.mvI rfl) (VQ.gT rfl rfl (VQ.op (fun wq eq => R.ixS Try.runUnderlying23 Try.sizeOf3 rfl rfl (by have := hLi'; omega) (by have := hLi'; omega) ((hoB.sl).some (i := i) (by have := hLi'; omega))) (VQ.gT rfl rfl (VQ.op (fun wq eq => R.ld1 Try.isAgg3 rfl (((((hoB.sl).ext ((e4'.trans e6).trans eq)).row (i := i) (by have := hLi'; omega)).cell (i := 0) rfl))) (VQ.gT rfl rfl (VQ.op (fun wq eq => R.mvS rfl) (VQ.gT rfl rfl (VQ.op (fun wq eq => R.mvS rfl) (VQ.gT rfl rfl (VQ.op (fun wq eq => R.mvI rfl) (VQ.gT rfl rfl (VQ.op (fun wq eq => R.ixS Try.runUnderlying23 Try.sizeOf3 rfl rfl (by have := hLi'; omega) (by have := hLi'; omega) ((hIB).some (i := i) (by have := hLi'; omega))) (VQ.gT rfl rfl (VQ.op (fun wq eq => R.ld1 Try.isAgg3 rfl (((((hIB).ext ((e4'.trans e6).trans eq)).row (i := i) (by have := hLi'; omega)).cell (i := 0) rfl))) (VQ.gT rfl rfl (VQ.op (fun wq eq => R.ixS Try.runUnderlying23 Try.sizeOf3 rfl rfl (by have := hLi'; omega) (by have := hLi'; omega) ((hoB.sl).some (i := (same.getD i default).toNat) (by have := hLi'; omega))) (VQ.gT rfl rfl (VQ.op (fun wq eq => R.ld1 Try.isAgg3 rfl (((((hoB.sl).ext ((e4'.trans e6).trans eq)).row (i := (same.getD i default).toNat) (by have := hLi'; omega)).cell (i := 0) rfl))) (VQ.gT rfl rfl (VQ.op (fun wq eq => R.neq rfl rfl) (VQ.op (fun wq eq => R.pickFB rfl rfl) (VQ.nil (cutB rfl ?_)))))))))))))))))))))))))) (fun g34_28 => VQ.gF rfl rfl (VQ.gF rfl rfl (VQ.gF rfl rfl (VQ.gF rfl rfl (VQ.gF rfl rfl (VQ.gF rfl rfl (VQ.gF rfl rfl (VQ.gF rfl rfl (VQ.gF rfl rfl (VQ.gF rfl rfl (VQ.gF rfl rfl (VQ.op (fun wq eq => R.pickTB rfl rfl) (VQ.nil (cutB rfl ?_)))))))))))))))))))))))))))))))))))))))) (fun g34_14 => VQ.gF rfl rfl (VQ.gF rfl rfl (VQ.gF rfl rfl (VQ.gF rfl rfl (VQ.gF rfl rfl (VQ.gF rfl rfl (VQ.gF rfl rfl (VQ.gF rfl rfl (VQ.gF rfl rfl (VQ.gF rfl rfl (VQ.gF rfl rfl (VQ.op (fun wq eq => R.pickTB rfl rfl) (VQ.op (fun wq eq => R.mvB rfl) (VQ.gF rfl rfl (VQ.gF rfl rfl (VQ.gF rfl rfl (VQ.gF rfl rfl (VQ.gF rfl rfl (VQ.gF rfl rfl (VQ.gF rfl rfl (VQ.gF rfl rfl (VQ.gF rfl rfl (VQ.gF rfl rfl (VQ.gF rfl rfl (VQ.gF rfl rfl (VQ.op (fun wq eq => R.pickTB rfl rfl) (VQ.nil (cutB rfl ?_)))))))))))))))))))))))))))))))))))))))))))) (fun g34_5 => VQ.gF rfl rfl (VQ.gF rfl rfl (VQ.gF rfl rfl (VQ.gF rfl rfl (VQ.gF rfl rfl (VQ.gF rfl rfl (VQ.op (fun wq eq => R.pickTB rfl rfl) (VQ.op (fun wq eq => R.mvB rfl) (VQ.gF rfl rfl (VQ.gF rfl rfl (VQ.gF rfl rfl (VQ.gF rfl rfl (VQ.gF rfl rfl (VQ.gF rfl rfl (VQ.gF rfl rfl (VQ.gF rfl rfl (VQ.gF rfl rfl (VQ.gF rfl rfl (VQ.gF rfl rfl (VQ.gF rfl rfl (VQ.op (fun wq eq => R.pickTB rfl rfl) (VQ.op (fun wq eq => R.mvB rfl) (VQ.gF rfl rfl (VQ.gF rfl rfl (VQ.gF rfl rfl (VQ.gF rfl rfl (VQ.gF rfl rfl (VQ.gF rfl rfl (VQ.gF rfl rfl (VQ.gF rfl rfl (VQ.gF rfl rfl (VQ.gF rfl rfl (VQ.gF rfl rfl (VQ.gF rfl rfl (VQ.op (fun wq eq => R.pickTB rfl rfl) (VQ.nil (cutB rfl ?_)))))))))))))))))))))))))))))))))))))))))))) (fun rg34 w34c e34c => V.cond rfl (fun c213 => V.seq (V.region (VL.op (R.asB rfl) (VL.nil (V.ret (fret1 (v := .bool _) rfl rfl rfl (?_))))))) (fun c213 => V.skip (V.region (VL.op (R.mvI rfl) (VL.op (R.add rfl rfl (by omega) (by omega)) (VL.op (R.asI rfl) (VL.nil (?_))))))))))))) (fun c169 => V.exit (?_))))))))))
        · obtain ⟨⟨q1, q2, q3⟩, q4, q5, q6⟩ := hLi i (by omega)
          exact decide_eq_false fun h => h ((hmk _ _ (by omega) (by omega)).2 q6.symm)
        · obtain ⟨⟨q1, q2, q3⟩, q4, q5, q6⟩ := hLi i (by omega)
          exact absurd ((hmk _ _ (by omega) (by omega)).2 q3.symm) g34_28
        · have := hLi i (by omega); omega
        · have := hLi i (by omega); omega
        · contradiction
        · exact ⟨i + 1, rfl, ⟨by omega, e6.trans e34c⟩, by omega⟩
        · exact ⟨(), rfl, e6⟩
      · obtain ⟨e4', hT⟩ := hBB4
        have e46 := e4'.trans hBB6
        have hli : (insF r edges).length ≤ 100 := by unfold insF; have := List.length_filter_le (fun e : Ed => decide (r e.a.toNat = r e.b.toNat)) edges; omega
        refine V.region (VL.op (R.mvS rfl) (VL.op (R.mvS rfl) (VL.op (R.mvS rfl) (VL.callX Try.call12 rfl (cluster_spec xB4.1 sa oa xB4.2 cs co (insF r edges) same other _ hli (by omega) (by omega) (TSl.ext hT hBB6) (hIB.ext e46) (hOB.ext e46)) fun v w36 hv' e36 => VL.op (R.mvT rfl) (VL.op (R.extr rfl rfl) (VL.op (R.extr rfl rfl) (VL.op (R.asS rfl) (VL.op (R.asI rfl) (VL.nil (V.seq (?_)))))))))))
        obtain ⟨va, vc, L', e'⟩ := v
        obtain ⟨hL', _, hR'⟩ := hv'
        dsimp only at hL' hR' ⊢
        rw [hr] at hR'
        obtain ⟨rfl, rfl⟩ := ins_law k_ hR0 hR'
        refine V.region (VL.op (R.mvB rfl) (VL.op (R.mvB rfl) (VL.and rfl rfl (fun g37_1 => VL.op (R.mvI rfl) (VL.gT rfl rfl (VL.op (R.mvS rfl) (VL.gT rfl rfl (VL.op (R.lenS Try.runUnderlying23 rfl) (VL.gT rfl rfl (VL.op (R.eql rfl rfl) (VL.op (R.pickTB rfl rfl) (VL.op (R.mvB rfl) (VL.andP rfl rfl (fun g37_7 => VL.op (R.mvI rfl) (VL.gT rfl rfl (VL.op (R.eql rfl rfl) (VL.op (R.pickTB rfl rfl) (VL.op (R.mvB rfl) (VL.andP rfl rfl (fun g37_11 => VL.op (R.mvS rfl) (VL.gT rfl rfl (VL.op (R.mvS rfl) (VL.gT rfl rfl (VL.callP Try.call14 rfl (ints_spec ua va uc vc L L _ (by omega) ((hLB.ext (e46.trans e36)).ext (Mod.refl _ _)) (TSl.ext hL' (Mod.refl _ _))) fun w37_14 e37_14 => VL.op (R.pickTB rfl rfl) (VL.op (R.asB rfl) (VL.nil (V.ret (fret1 (v := .bool _) rfl rfl rfl (⟨?_, (E5.trans EB).trans ((e46.trans e36).trans e37_14)⟩)))))))))) (fun g37_11 => VL.gF rfl rfl (VL.gF rfl rfl (VL.op (R.pickFB rfl rfl) (VL.op (R.asB rfl) (VL.nil (V.ret (fret1 (v := .bool _) rfl rfl rfl (⟨?_, (E5.trans EB).trans ((e46.trans e36).trans (Mod.refl _ _))⟩)))))))))))))) (fun g37_7 => VL.gF rfl rfl (VL.op (R.pickFB rfl rfl) (VL.op (R.mvB rfl) (VL.gF rfl rfl (VL.gF rfl rfl (VL.gF rfl rfl (VL.op (R.pickFB rfl rfl) (VL.op (R.asB rfl) (VL.nil (V.ret (fret1 (v := .bool _) rfl rfl rfl (⟨?_, (E5.trans EB).trans ((e46.trans e36).trans (Mod.refl _ _))⟩)))))))))))))))))))))) (fun g37_1 => VL.gF rfl rfl (VL.gF rfl rfl (VL.gF rfl rfl (VL.op (R.pickFB rfl rfl) (VL.op (R.mvB rfl) (VL.gF rfl rfl (VL.gF rfl rfl (VL.op (R.pickFB rfl rfl) (VL.op (R.mvB rfl) (VL.gF rfl rfl (VL.gF rfl rfl (VL.gF rfl rfl (VL.op (R.pickFB rfl rfl) (VL.op (R.asB rfl) (VL.nil (V.ret (fret1 (v := .bool _) rfl rfl rfl (⟨?_, (E5.trans EB).trans ((e46.trans e36).trans (Mod.refl _ _))⟩)))))))))))))))))))))
        · rw [decide_eq_true rfl]
        · exact absurd rfl g37_11
        · exact absurd rfl g37_7
        · contradiction
end Go.Proofs.Ytglaigeellpikaa
