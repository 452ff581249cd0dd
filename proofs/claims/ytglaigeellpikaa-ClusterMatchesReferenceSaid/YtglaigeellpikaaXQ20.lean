/- Cluster: the reference's Cluster: component by component. No program. -/
import Derived.Test.YtglaigeellpikaaXQ17
namespace Go.Proofs.Ytglaigeellpikaa
open Go.Vc

/-- The classes of a component, among the first k records. -/
def clsR (same : List Int) (r : Nat → Nat) (k c : Nat) : List Int := if r c = c then clsG same (memsK r k c) else []
theorem clsR_succ {same : List Int} {r : Nat → Nat} {k c : Nat} : clsR same r (k + 1) c = clsR same r k c ++ if r c = c ∧ r k = c ∧ same.getD k default = (k : Int) then [(k : Int)] else [] := by
  unfold clsR
  by_cases h : r c = c
  · rw [if_pos h, if_pos h, memsK_succ]
    unfold clsG
    rw [List.filter_append]
    congr 1
    by_cases h2 : r k = c
    · rw [if_pos h2]
      by_cases h3 : same.getD k default = (k : Int)
      · rw [if_pos ⟨h, h2, h3⟩, List.filter_cons, if_pos (by unfold at_; rw [Int.toNat_natCast, h3]; simp)]; rfl
      · rw [if_neg (fun q => h3 q.2.2), List.filter_cons, if_neg (by unfold at_; rw [Int.toNat_natCast]; simpa using h3)]; rfl
    · rw [if_neg h2, if_neg (fun q => h2 q.2.1)]; rfl
  · rw [if_neg h, if_neg h, if_neg (fun q => h q.1)]; rfl
theorem clsR_len (same : List Int) (r : Nat → Nat) (k c : Nat) : (clsR same r k c).length ≤ k := by
  unfold clsR
  split
  · unfold clsG
    have := List.length_filter_le (fun p => !decide (at_ same p ≠ p)) (memsK r k c)
    have := memsK_len r k c
    omega
  · simp
/-- The clustering of the components before c. -/
structure CluI (same : List Int) (edges : List Ed) (other : List (Int × Int)) (c : Nat) (F : Int → Int) : Prop where
  ok : HdOk same (rG same edges) F
  sol : ∀ h, h < c → h < same.length → rG same edges h = h → SolR (wtG same edges) (apG same other) (clsG same (memsK (rG same edges) same.length h)) ((clsG same (memsK (rG same edges) same.length h)).map F)
  rest : ∀ x, isCl same x → c ≤ rG same edges x.toNat → F x = x
section
variable {same : List Int} {edges : List Ed} {other : List (Int × Int)} {c : Nat} {F : Int → Int}
theorem CluI.start : CluI same edges other 0 (fun x => x) := ⟨⟨fun _ h => h, fun _ _ => rfl, fun _ _ => Int.le_refl _, fun _ _ => rfl⟩, fun h hh => absurd hh (Nat.not_lt_zero _), fun _ _ _ => rfl⟩
theorem CluI.skip (k : CluI same edges other c F) (h : rG same edges c ≠ c) : CluI same edges other (c + 1) F :=
  ⟨k.ok, fun h1 h2 h3 h4 => (Nat.lt_succ_iff_lt_or_eq.1 h2).elim (fun q => k.sol h1 q h3 h4) fun q => absurd (q ▸ h4) h, fun x hx hl => k.rest x hx (by omega)⟩
theorem CluI.turn (k : CluI same edges other c F) {F' : Int → Int} (hok : HdOk same (rG same edges) F') (hoff : ∀ x, isCl same x → rG same edges x.toNat ≠ c → F' x = F x) (hs : SolR (wtG same edges) (apG same other) (clsG same (memsK (rG same edges) same.length c)) ((clsG same (memsK (rG same edges) same.length c)).map F')) : CluI same edges other (c + 1) F' := by
  refine ⟨hok, fun h1 h2 h3 h4 => ?_, fun x hx hl => ?_⟩
  · rcases Nat.lt_succ_iff_lt_or_eq.1 h2 with q | q
    · have := k.sol h1 q h3 h4
      rwa [show (clsG same (memsK (rG same edges) same.length h1)).map F' = (clsG same (memsK (rG same edges) same.length h1)).map F from List.map_congr_left fun x hx => hoff x (gcls_mem.1 hx).1 (by rw [(gcls_mem.1 hx).2]; omega)]
    · rw [q]; exact hs
  · rw [hoff x hx (by omega)]; exact k.rest x hx (by omega)
theorem CluI.on (k : CluI same edges other c F) : ∀ x ∈ clsG same (memsK (rG same edges) same.length c), F x = x := fun x hx => k.rest x (gcls_mem.1 hx).1 (by rw [(gcls_mem.1 hx).2]; exact Nat.le_refl _)
theorem part_one {ap : Int → Int → Bool} {cs g : List Int} (h : IsPart ap cs g) (h1 : cs.length = 1) : g = cs := by
  have hl := h.len
  refine List.ext_getElem hl fun i a b => ?_
  obtain ⟨j, hj, h2, _⟩ := h.head i b
  have : j = i := by omega
  subst this
  rw [gdE a, gdE b] at h2
  exact h2
theorem CluI.one (k : CluI same edges other c F) (hinc : Inc (clsG same (memsK (rG same edges) same.length c))) (h1 : (clsG same (memsK (rG same edges) same.length c)).length = 1) : CluI same edges other (c + 1) F := by
  refine k.turn k.ok (fun _ _ _ => rfl) ?_
  rw [List.map_congr_left (g := id) k.on, List.map_id]
  unfold SolR
  rw [if_pos (by omega)]
  have hb := exact_best (wt := wtG same edges) (ap := apG same other) hinc
  rwa [part_one hb.part h1] at hb
theorem CluI.greedy (k : CluI same edges other c F) (h8 : 8 < (clsG same (memsK (rG same edges) same.length c)).length) {F' : Int → Int} (hok : HdOk same (rG same edges) F') (hoff : ∀ x, isCl same x → rG same edges x.toNat ≠ c → F' x = F x) (hg : Grd (wtG same edges) (apG same other) (clsG same (memsK (rG same edges) same.length c)) F F') : CluI same edges other (c + 1) F' := by
  refine k.turn hok hoff ?_
  unfold SolR
  rw [if_neg (by omega)]
  obtain ⟨g, h1, h2⟩ := grd_start hg (g := fun x => x) k.on ⟨fun x hx => by rw [k.on x hx]; exact hx, fun x hx => by rw [k.on x hx, k.on x hx], fun x hx => Int.le_of_eq (k.on x hx)⟩
  exact ⟨g, h1, List.map_congr_left fun x hx => (h2 x hx).symm⟩
theorem CluI.best (k : CluI same edges other c F) (hinc : Inc (clsG same (memsK (rG same edges) same.length c))) (h8 : (clsG same (memsK (rG same edges) same.length c)).length ≤ 8) {hs : List Int}
    (hf : fstB (wtG same edges) (clsG same (memsK (rG same edges) same.length c)) (partsF (apG same other) (clsG same (memsK (rG same edges) same.length c)) (clsG same (memsK (rG same edges) same.length c)).length []) = some hs) : CluI same edges other (c + 1) (fH (clsG same (memsK (rG same edges) same.length c)) hs F) := by
  obtain ⟨cs, hcs⟩ : ∃ cs, cs = clsG same (memsK (rG same edges) same.length c) := ⟨_, rfl⟩
  have hcm : ∀ x, x ∈ cs ↔ isCl same x ∧ rG same edges x.toNat = c := fun x => by rw [hcs]; exact gcls_mem
  have hn := inc_nodup hinc
  have hp := parts_iff.1 (fstB_mem hf)
  have hin := part_in hp
  have hle : ∀ i, i < cs.length → ∃ j, j ≤ i ∧ hs.getD i default = cs.getD j default ∧ hs.getD j default = cs.getD j default := by rw [hcs]; exact hp.head
  have hex : exactF (wtG same edges) (apG same other) cs = hs := by
    unfold exactF
    unfold fstB at hf
    rw [hcs, hf]; rfl
  have hb := exact_best (wt := wtG same edges) (ap := apG same other) hinc
  have hl := hp.len
  rw [← hcs] at hinc h8 hn hp hin hb hl ⊢
  have hmap := fH_map hn hl F
  have hon : ∀ x ∈ cs, ∃ i, i < cs.length ∧ x = cs.getD i default ∧ fH cs hs F x = hs.getD i default := fun x hx => by
    obtain ⟨i, hi, rfl⟩ := List.getElem_of_mem hx
    refine ⟨i, hi, (gdE hi).symm, ?_⟩
    rw [← gdE hi, fH_at hn (by omega) (by omega)]
  have hoff : ∀ x, x ∉ cs → fH cs hs F x = F x := fun x hx => fH_off hx (by omega)
  have hto : ∀ x ∈ cs, fH cs hs F x ∈ cs := fun x hx => by
    obtain ⟨i, hi, _, h2⟩ := hon x hx
    rw [h2]; exact hin _ (getD_mem (by omega))
  refine k.turn ⟨fun x hx => ?_, fun x hx => ?_, fun x hx => ?_, fun x hx => ?_⟩ (fun x hx hr => hoff x fun q => hr ((hcm x).1 q).2) ?_
  · by_cases q : x ∈ cs
    · exact ((hcm _).1 (hto x q)).1
    · rw [hoff x q]; exact k.ok.cl x hx
  · by_cases q : x ∈ cs
    · obtain ⟨i, hi, _, h2⟩ := hon x q
      obtain ⟨j, hj, h3, h4⟩ := hle i hi
      rw [h2, h3, fH_at hn (by omega) (by omega), h4]
    · rw [hoff x q, hoff (F x) fun z => q ((hcm x).2 ⟨hx, by rw [← k.ok.comp x hx]; exact ((hcm _).1 z).2⟩)]
      exact k.ok.idem x hx
  · by_cases q : x ∈ cs
    · obtain ⟨i, hi, h1, h2⟩ := hon x q
      obtain ⟨j, hj, h3, h4⟩ := hle i hi
      rw [h2, h3, h1]
      rcases Nat.lt_or_eq_of_le hj with z | z
      · exact Int.le_of_lt (inc_at hinc z hi)
      · rw [z]; exact Int.le_refl _
    · rw [hoff x q]; exact k.ok.le x hx
  · by_cases q : x ∈ cs
    · rw [((hcm _).1 (hto x q)).2, ((hcm _).1 q).2]
    · rw [hoff x q]; exact k.ok.comp x hx
  · rw [← hcs, hmap]
    unfold SolR
    rw [if_pos h8, ← hex]
    exact hb
theorem CluI.done (k : CluI same edges other same.length F) : IsClu (wtM (gW same edges)) (apM (gA same other)) same (grpG same (gW same edges)) (same.map F) := by
  refine ⟨F, fun g hg => ?_, rfl⟩
  unfold grpG grpsK at hg
  obtain ⟨h, hh, rfl⟩ := List.mem_map.1 hg
  have := hdsK_mem.1 hh
  exact k.sol h this.1 this.1 this.2
/-- A component has classes. -/
theorem cls_pos (k_ : OkG same edges other) (hc : c < same.length) (hr : rG same edges c = c) : Inc (clsG same (memsK (rG same edges) same.length c)) ∧ 0 < (clsG same (memsK (rG same edges) same.length c)).length := by
  have hg : memsK (rG same edges) same.length c ∈ grpG same (gW same edges) := by
    unfold grpG grpsK
    exact List.mem_map.2 ⟨c, hdsK_mem.2 ⟨hc, hr⟩, rfl⟩
  have := grp_facts k_.v k_.ok hg
  exact ⟨this.1, this.2.1⟩
end
end Go.Proofs.Ytglaigeellpikaa

/- Cluster: the reference's Cluster: the walk. -/
namespace Go.Proofs.Ytglaigeellpikaa
open Go.Vc

set_option maxRecDepth 100000 in
set_option maxHeartbeats 16000000 in
theorem rcluster_spec (a sa oa : Option Addr) (c cs co : Nat) (edges : List Ed) (same : List Int) (other : List (Int × Int)) (w : World) (hm : edges.length ≤ 100) (hms : same.length ≤ 100) (hmo : other.length ≤ 100) (hsx : sa = none → cs = 0)
    (hS : EdSl w a edges) (hI : IntSl w sa same) (hO : PrSl w oa other) :
    RetsX Try.prog 13 #[.slice a edges.length c, .slice sa same.length cs, .slice oa other.length co] w (fun x : Option Addr × Nat × List Int × Int => .tuple #[.slice x.1 x.2.2.1.length x.2.1, .int .i64 x.2.2.2])
      (fun x w' => IntSl w' x.1 x.2.2.1 ∧ CluR edges same other x.2.2.1 x.2.2.2) := by
  have err : ∀ w', Ext w w' → okB same edges other = false → ∃ x : Option Addr × Nat × List Int × Int, Value.tuple #[.slice none 0 0, .int .i64 1] = .tuple #[.slice x.1 x.2.2.1.length x.2.1, .int .i64 x.2.2.2] ∧ (IntSl w' x.1 x.2.2.1 ∧ CluR edges same other x.2.2.1 x.2.2.2) ∧ Ext w w' := fun w' e h => by
    refine ⟨(none, 0, [], 1), rfl, ⟨TSl.nil _ _ _ _, ?_⟩, e⟩
    unfold CluR; rw [if_neg (by rw [h]; decide)]; exact ⟨rfl, rfl⟩
  refine enter (args := [_, _, _]) Try.func13 rfl Try.ntmps13 (by kernel_rfl) rfl ?_
  refine V.seq (V.region (VL.op (R.asS rfl) (VL.op (R.asI rfl) (VL.nil (V.seq (V.seq (V.regionCut [15, 16, 17, 18, 19, 20, 21, 22] 22 (.bool false) (fun w' => Ext _ w') rfl (VL.op (R.mvS rfl) (VL.op (R.lenS Try.runUnderlying23 rfl) (VL.op (R.gtr rfl rfl) (VL.op (R.mvB rfl) (VL.orP rfl rfl (fun g1_3 => VL.op (R.mvS rfl) (VL.gT rfl rfl (VL.op (R.lenS Try.runUnderlying22 rfl) (VL.gT rfl rfl (VL.op (R.gtr rfl rfl) (VL.op (R.pickFB rfl rfl) (VL.nil ⟨rfl, cutB rfl ?_, Mod.refl _ _⟩))))))) (fun g1_3 => VL.gF rfl rfl (VL.gF rfl rfl (VL.op (R.pickTB rfl rfl) (VL.nil ⟨rfl, cutB rfl ?_, Mod.refl _ _⟩))))))))) (fun rg1 w1c e1c => V.cond rfl (fun c22 => V.seq (V.region (VL.op (R.asS rfl) (VL.op (R.asI rfl) (VL.nil (V.ret (fret2 (v := .slice _ _ _) (x := .int _ _) rfl rfl rfl rfl rfl (?_)))))))) (fun c22 => V.skip (V.seq (V.seq (V.region (VL.op (R.mvS rfl) (VL.callP Try.call36 rfl (rValid_spec sa cs same _ (by omega) (hI.ext e1c)) fun w3_1 e3_1 => VL.op (R.not rfl) (VL.op (R.mvB rfl) (VL.or rfl rfl (fun g3_3 => VL.op (R.mvS rfl) (VL.gT rfl rfl (VL.op (R.lenS Try.runUnderlying23 rfl) (VL.gT rfl rfl (VL.op (R.mvS rfl) (VL.gT rfl rfl (VL.callP Try.call37 rfl (rvalid_spec _ a c edges _ (by omega) (hS.ext (e1c.trans e3_1))) fun w3_7 e3_7 => VL.gT rfl rfl (VL.op (R.not rfl) (VL.op (R.pickFB rfl rfl) (VL.op (R.mvB rfl) (VL.or rfl rfl (fun g3_10 => VL.op (R.mvS rfl) (VL.gT rfl rfl (VL.op (R.lenS Try.runUnderlying23 rfl) (VL.gT rfl rfl (VL.op (R.mvS rfl) (VL.gT rfl rfl (VL.callP Try.call38 rfl (rpairs_spec _ oa co other _ (by omega) (hO.ext ((e1c.trans e3_1).trans e3_7))) fun w3_14 e3_14 => VL.gT rfl rfl (VL.op (R.not rfl) (VL.op (R.pickFB rfl rfl) (VL.nil (V.cond rfl (fun c39 => V.seq (V.region (VL.op (R.asS rfl) (VL.op (R.asI rfl) (VL.nil (V.ret (fret2 (v := .slice _ _ _) (x := .int _ _) rfl rfl rfl rfl rfl (?_)))))))) (fun c39 => V.skip (V.seq (?_)))))))))))))) (fun g3_10 => VL.gF rfl rfl (VL.gF rfl rfl (VL.gF rfl rfl (VL.gF rfl rfl (VL.op (R.pickTB rfl rfl) (VL.nil (V.condT rfl (V.seq (V.region (VL.op (R.asS rfl) (VL.op (R.asI rfl) (VL.nil (V.ret (fret2 (v := .slice _ _ _) (x := .int _ _) rfl rfl rfl rfl rfl (?_)))))))))))))))))))))))))) (fun g3_3 => VL.gF rfl rfl (VL.gF rfl rfl (VL.gF rfl rfl (VL.gF rfl rfl (VL.op (R.pickTB rfl rfl) (VL.op (R.mvB rfl) (VL.gF rfl rfl (VL.gF rfl rfl (VL.gF rfl rfl (VL.gF rfl rfl (VL.gF rfl rfl (VL.op (R.pickTB rfl rfl) (VL.nil (V.condT rfl (V.seq (V.region (VL.op (R.asS rfl) (VL.op (R.asI rfl) (VL.nil (V.ret (fret2 (v := .slice _ _ _) (x := .int _ _) rfl rfl rfl rfl rfl (?_))))))))))))))))))))))))))))))))))))))
  · exact decide_eq_false (by omega)
  · omega
  · contradiction
  · exact err _ (e1c.trans (e3_1.trans (e3_7.trans e3_14))) (by unfold okB; simp_all)
  · have v1 : validB same = true := by simpa using g3_3
    have v2 : linkB (same.length : Int) edges = true := by simpa using g3_10
    have v3 : pairB (same.length : Int) other = true := by simpa using c39
    have hok2 : okB same edges other = true := by unfold okB; rw [v1, v2, v3]; rfl
    have k_ := okG hok2
    have E1 : Ext w w3_14 := e1c.trans (e3_1.trans (e3_7.trans e3_14))
    have hS1 := hS.ext E1
    have hI1 := TSl.ext hI E1
    have hO1 := hO.ext E1
    obtain ⟨r, hr⟩ : ∃ r, r = rG same edges := ⟨_, rfl⟩
    have hmn := mkL_len r same.length
    have hmg : ∀ i, i < same.length → (mkL r same.length).getD i default = ((r i : Nat) : Int) := fun i hi => mkL_get hi
    refine V.region (VL.op (R.mvS rfl) (VL.op (R.mvS rfl) (VL.callX Try.call39 rfl (marks_spec a sa c cs edges same other _ k_ (by omega) (by omega) hsx hS1 hI1) fun x w5 hx e5 => VL.op (R.asS rfl) (VL.nil (V.seq (V.region (VL.buildSl Try.runUnderlying23 Try.sizeOf3 Try.zeroValue3 rfl rfl rfl fun b6 w6 hb6 e6 hX6 => VL.op (R.mvS rfl) (VL.appendT el23 (fun _ => rfl) rfl (rfl) ((OwnT.of0 encI 1 hX6 (by rw [hb6]; exact e5.size))) rfl (rfl) ((hI1.ext (e5.trans e6))) (hsx) (by simp; omega) (by simp [maxLen]; omega) (Nat.le_trans e5.size e6.size) (Nat.zero_add _) fun a9 c9 w9 ho9 m9 hf9 => VL.op (R.asS rfl) (VL.nil (V.seq (V.region (VL.op (R.asS rfl) (VL.nil (V.cut [1, 2, 8, 9, 10] (fun y : Option Addr × Nat => [.slice sa same.length cs, .slice oa other.length co, .slice x.1 same.length x.2, .slice a9 same.length c9, .slice y.1 (insF r edges).length y.2]) (fun y w' => Ext w9 w' ∧ EdSl w' y.1 (insF r edges)) (V.seq (V.region (VL.op (R.asI rfl) (VL.nil (V.block (?_)))))) (fun rgB0 xB0 wBB0 hBB0 => V.seq (V.seq (?_)))))))))))))))))
    · have E59 : Ext w5 w9 := e6.ownA m9 fun q hq => by have := aBlk_some hq; omega
      have E9 := e5.trans E59
      have hM9 := (OwnT.ext hx E59).sl
      have hS9 := hS1.ext E9
      rw [← hr] at hM9
      refine V.loop [0, 1, 2, 8, 9, 10, 11] (fun y : Nat × Option Addr × Nat × List Ed => [.slice a edges.length c, .slice sa same.length cs, .slice oa other.length co, .slice x.1 same.length x.2, .slice a9 same.length c9, .slice y.2.1 y.2.2.2.length y.2.2.1, .int .i64 (y.1 : Nat)])
        (fun y w' => y.1 ≤ edges.length ∧ Ext w9 w' ∧ OwnT encEd 3 40 w9.heap.size w' y.2.1 y.2.2.1 y.2.2.2 ∧ y.2.2.2 = insF r (edges.take y.1)) (fun y => edges.length - y.1) (0, none, 0, []) rfl ⟨Nat.zero_le _, Mod.refl _ _, OwnT.nil _ _ _ _ _, rfl⟩ ?_
      rintro ρ ⟨k, a16, c16, l⟩ w7 ⟨hk, e7, ho7, hl7⟩
      dsimp only at hk e7 ho7 hl7 ⊢
      have hl2 : l.length ≤ 100 := by rw [hl7]; unfold insF; have := List.length_filter_le (fun e : Ed => decide (r e.a.toNat = r e.b.toNat)) (edges.take k); rw [List.length_take] at this; omega
      have hed : k < edges.length → 0 ≤ (edges.getD k default).a ∧ 0 ≤ (edges.getD k default).b ∧ (edges.getD k default).a < same.length ∧ (edges.getD k default).b < same.length := fun h => k_.l _ (getD_mem h)
      have hsucc : k < edges.length → insF r (edges.take (k + 1)) = insF r (edges.take k) ++ (if r (edges.getD k default).a.toNat = r (edges.getD k default).b.toNat then [edges.getD k default] else []) := fun h => by
        unfold insF
        rw [List.take_succ_eq_append_getElem h, List.filter_append, gdE h]
        congr 1
        by_cases e : r edges[k].a.toNat = r edges[k].b.toNat <;> simp [e]
      refine V.seq (V.seq (V.region (VL.op (R.mvI rfl) (VL.op (R.mvS rfl) (VL.op (R.lenS Try.runUnderlying22 rfl) (VL.op (R.lss rfl rfl) (VL.nil (V.condP rfl (fun c49 => V.skip (V.seq (V.block (V.seq (V.regionQCut mixed 17 (by kernel_rfl) rfl (fun w' => Ext _ w') (Ext.drawn _) [52, 53, 54, 55, 56, 57, 58, 59, 60, 61, 62, 63, 64, 65, 66, 67, 68] 68 (.bool (decide (r (edges.getD k default).a.toNat = r (edges.getD k default).b.toNat))) rfl (VQ.op (fun wq eq => R.mvS rfl) (VQ.op (fun wq eq => R.mvS rfl) (VQ.op (fun wq eq => R.mvI rfl) (VQ.op (fun wq eq => R.ixS Try.runUnderlying22 Try.sizeOf40 rfl rfl (by have := hed; omega) (by have := hed; omega) ((hS9).some (i := k) (by have := hed; omega))) (VQ.op (fun wq eq => R.fld' (o := 0) Try.runUnderlying40 rfl rfl Try.sizeOf3 rfl rfl) (VQ.op (fun wq eq => R.ld1 Try.isAgg3 rfl (((((hS9).ext (e7.trans eq)).row (i := k) (by have := hed; omega)).cell (i := 0) rfl))) (VQ.op (fun wq eq => R.ixS Try.runUnderlying23 Try.sizeOf3 rfl rfl (by have := hed; omega) (by have := hed; omega) ((hM9).some (i := (edges.getD k default).a.toNat) (by have := hed; omega))) (VQ.op (fun wq eq => R.ld1 Try.isAgg3 rfl (((((hM9).ext (e7.trans eq)).row (i := (edges.getD k default).a.toNat) (by have := hed; omega)).cell (i := 0) rfl))) (VQ.op (fun wq eq => R.mvS rfl) (VQ.op (fun wq eq => R.mvS rfl) (VQ.op (fun wq eq => R.mvI rfl) (VQ.op (fun wq eq => R.ixS Try.runUnderlying22 Try.sizeOf40 rfl rfl (by have := hed; omega) (by have := hed; omega) ((hS9).some (i := k) (by have := hed; omega))) (VQ.op (fun wq eq => R.fld' (o := 1) Try.runUnderlying40 rfl rfl Try.sizeOf3 rfl rfl) (VQ.op (fun wq eq => R.ld1 Try.isAgg3 rfl (((((hS9).ext (e7.trans eq)).row (i := k) (by have := hed; omega)).cell (i := 1) rfl))) (VQ.op (fun wq eq => R.ixS Try.runUnderlying23 Try.sizeOf3 rfl rfl (by have := hed; omega) (by have := hed; omega) ((hM9).some (i := (edges.getD k default).b.toNat) (by have := hed; omega))) (VQ.op (fun wq eq => R.ld1 Try.isAgg3 rfl (((((hM9).ext (e7.trans eq)).row (i := (edges.getD k default).b.toNat) (by have := hed; omega)).cell (i := 0) rfl))) (VQ.op (fun wq eq => R.eql rfl rfl) (VQ.nil (cutB rfl ?_))))))))))))))))))) (fun rg11 w11c e11c => V.condP rfl (fun c68 => ?_) (fun c68 => V.skip (V.region (VL.op (R.mvI rfl) (VL.op (R.add rfl rfl (by omega) (by omega)) (VL.op (R.asI rfl) (VL.nil (?_))))))))))))) (fun c49 => V.exit (?_))))))))))
      · have := hed (by omega)
        rw [hmg _ (by omega), hmg _ (by omega)]
        exact decide_eq_decide.2 (by omega)
      · refine V.region (VL.op (R.mvS rfl) (VL.op (R.mvS rfl) (VL.op (R.mvI rfl) (VL.op (R.ixS Try.runUnderlying22 Try.sizeOf40 rfl rfl (by omega) (by omega) ((hS9).some (i := k) (by omega))) (VL.op (R.ldA Try.isAgg40 Try.sizeOf40 rfl rfl ((show RowAt _ _ _ (encEd (edges.getD k default)) from (((hS9).ext (e7.trans e11c)).row (i := k) (by omega)))) rfl) (VL.append1 el22 Try.runUnderlying22 Try.sizeOf40 Try.zeroValue40 rfl ((edges.getD k default)) rfl rfl rfl (ho7.ext e11c) rfl rfl rfl (by omega) (by unfold maxLen; omega) ((e7.trans e11c)).size fun a9' c9' w9' vt9 ho9' m9' hf9' => VL.op (R.asS rfl) (VL.nil (V.region (VL.op (R.mvI rfl) (VL.op (R.add rfl rfl (by omega) (by omega)) (VL.op (R.asI rfl) (VL.nil (?_)))))))))))))
        refine ⟨(k + 1, a9', c9', l ++ [edges.getD k default]), by dsimp only; rw [List.length_append]; rfl, ⟨by dsimp only; omega, (e7.trans e11c).ownA m9' fun q hq => ho7.ge q hq, ho9', ?_⟩, by dsimp only; omega⟩
        dsimp only
        rw [hsucc (by omega), if_pos c68, hl7]
      · refine ⟨(k + 1, a16, c16, l), rfl, ⟨by dsimp only; omega, e7.trans e11c, ho7.ext e11c, ?_⟩, by dsimp only; omega⟩
        dsimp only
        rw [hsucc (by omega), if_neg c68, hl7, List.append_nil]
      · have hkl : k = edges.length := by omega
        subst hkl
        rw [List.take_length] at hl7
        subst hl7
        exact ⟨(a16, c16), rfl, e7, ho7.sl⟩
    · have E59 : Ext w5 w9 := e6.ownA m9 fun q hq => by have := aBlk_some hq; omega
      have E9 := e5.trans E59
      obtain ⟨eB, hSB⟩ := hBB0
      have EB := E9.trans eB
      have hMB := TSl.ext (OwnT.ext hx E59).sl eB
      have hIB := TSl.ext hI1 EB
      have hOB := hO1.ext EB
      have ho9 : OwnT encI 1 3 w3_14.heap.size w9 a9 c9 same := ho9
      have hoB := OwnT.ext ho9 eB
      have hil : (insF r edges).length ≤ 100 := by unfold insF; have := List.length_filter_le (fun e : Ed => decide (r e.a.toNat = r e.b.toNat)) edges; omega
      rw [← hr] at hMB
      refine V.region (VL.op (R.asI rfl) (VL.nil (V.block (?_))))
      refine V.loop [1, 2, 8, 9, 10, 12] (fun y : Nat × Option Addr × Nat × (Int → Int) => [.slice sa same.length cs, .slice oa other.length co, .slice x.1 same.length x.2, .slice y.2.1 same.length y.2.2.1, .slice xB0.1 (insF r edges).length xB0.2, .int .i64 (y.1 : Nat)])
        (fun y w' => y.1 ≤ same.length ∧ Ext wBB0 w' ∧ (y.2.1 = none → y.2.2.1 = 0) ∧ IntSl w' y.2.1 (same.map y.2.2.2) ∧ CluI same edges other y.1 y.2.2.2) (fun y => same.length - y.1) (0, a9, c9, fun x => x) rfl ⟨Nat.zero_le _, Mod.refl _ _, fun q => OwnT.hax ho9 q, by rw [show same.map (fun x => x) = same from List.map_id' same]; exact hoB.sl, CluI.start⟩ ?_
      rintro ρ ⟨i, na, nc, F⟩ w7 ⟨hi, e7, hnx, hN, hC⟩
      dsimp only at hi e7 hnx hN hC ⊢
      refine V.seq (V.seq (V.region (VL.op (R.mvI rfl) (VL.op (R.mvS rfl) (VL.op (R.lenS Try.runUnderlying23 rfl) (VL.op (R.lss rfl rfl) (VL.nil (V.condP rfl (fun c79 => V.skip (V.seq (V.block (V.seq (V.region (VL.op (R.asS rfl) (VL.nil (V.cut [1, 2, 8, 9, 10, 12, 13] (fun y : Option Addr × Nat => [.slice sa same.length cs, .slice oa other.length co, .slice x.1 same.length x.2, .slice na same.length nc, .slice xB0.1 (insF r edges).length xB0.2, .int .i64 (i : Nat), .slice y.1 (clsR same r same.length i).length y.2]) (fun y w' => Ext w7 w' ∧ IntSl w' y.1 (clsR same r same.length i)) (V.seq (V.region (VL.op (R.asI rfl) (VL.nil (V.block (?_)))))) (fun rgB4 xB4 wBB4 hBB4 => V.seq (?_)))))))))) (fun c79 => V.exit (V.seq (V.region (VL.op (R.mvS rfl) (VL.op (R.asS rfl) (VL.op (R.asI rfl) (VL.nil (V.ret (fret2 (v := .slice _ _ _) (x := .int _ _) rfl rfl rfl rfl rfl (?_))))))))))))))))))
      · have hil2 : i < same.length := by omega
        have hM7 := TSl.ext hMB e7
        have hI7 := TSl.ext hIB e7
        refine V.loop [1, 2, 8, 9, 10, 12, 13, 14] (fun y : Nat × Option Addr × Nat => [.slice sa same.length cs, .slice oa other.length co, .slice x.1 same.length x.2, .slice na same.length nc, .slice xB0.1 (insF r edges).length xB0.2, .int .i64 (i : Nat), .slice y.2.1 (clsR same r y.1 i).length y.2.2, .int .i64 (y.1 : Nat)])
          (fun y w' => y.1 ≤ same.length ∧ Ext w7 w' ∧ OwnT encI 1 3 w7.heap.size w' y.2.1 y.2.2 (clsR same r y.1 i)) (fun y => same.length - y.1) (0, none, 0) (by unfold clsR memsK clsG; split <;> rfl) ⟨Nat.zero_le _, Mod.refl _ _, by rw [show clsR same r 0 i = [] from List.eq_nil_of_length_eq_zero (Nat.le_zero.1 (clsR_len same r 0 i))]; exact OwnT.nil _ _ _ _ _⟩ ?_
        rintro ρ ⟨j, ca, cc⟩ w8 ⟨hj, e8, ho8⟩
        dsimp only at hj e8 ho8 ⊢
        have hcl := clsR_len same r j i
        have hmi := hmg i hil2
        have hmj := hmg j
        refine V.seq (V.seq (V.region (VL.op (R.mvI rfl) (VL.op (R.mvS rfl) (VL.op (R.lenS Try.runUnderlying23 rfl) (VL.op (R.lss rfl rfl) (VL.nil (V.condP rfl (fun c85 => V.skip (V.seq (V.block (V.seq (V.regionCut [88, 89, 90, 91, 92, 93, 94, 95, 96, 97, 98, 99, 100, 101, 102, 103, 104, 105, 106, 107, 108, 109] 109 (.bool (decide (r i = i ∧ r j = i ∧ same.getD j default = (j : Int)))) (fun w' => Ext _ w') rfl (VL.op (R.mvS rfl) (VL.op (R.mvI rfl) (VL.op (R.ixS Try.runUnderlying23 Try.sizeOf3 rfl rfl (by omega) (by omega) ((hM7).some (i := i) (by omega))) (VL.op (R.ld1 Try.isAgg3 rfl (((((hM7).ext e8).row (i := i) (by omega)).cell (i := 0) rfl))) (VL.op (R.mvI rfl) (VL.op (R.eql rfl rfl) (VL.op (R.mvB rfl) (VL.andP rfl rfl (fun g20_6 => VL.op (R.mvS rfl) (VL.gT rfl rfl (VL.op (R.mvI rfl) (VL.gT rfl rfl (VL.op (R.ixS Try.runUnderlying23 Try.sizeOf3 rfl rfl (by omega) (by omega) ((hM7).some (i := j) (by omega))) (VL.gT rfl rfl (VL.op (R.ld1 Try.isAgg3 rfl (((((hM7).ext e8).row (i := j) (by omega)).cell (i := 0) rfl))) (VL.gT rfl rfl (VL.op (R.mvI rfl) (VL.gT rfl rfl (VL.op (R.eql rfl rfl) (VL.op (R.pickTB rfl rfl) (VL.op (R.mvB rfl) (VL.andP rfl rfl (fun g20_14 => VL.op (R.mvS rfl) (VL.gT rfl rfl (VL.op (R.mvI rfl) (VL.gT rfl rfl (VL.op (R.ixS Try.runUnderlying23 Try.sizeOf3 rfl rfl (by omega) (by omega) ((hI7).some (i := j) (by omega))) (VL.gT rfl rfl (VL.op (R.ld1 Try.isAgg3 rfl (((((hI7).ext e8).row (i := j) (by omega)).cell (i := 0) rfl))) (VL.gT rfl rfl (VL.op (R.mvI rfl) (VL.gT rfl rfl (VL.op (R.eql rfl rfl) (VL.op (R.pickTB rfl rfl) (VL.nil ⟨rfl, cutB rfl ?_, Mod.refl _ _⟩))))))))))))) (fun g20_14 => VL.gF rfl rfl (VL.gF rfl rfl (VL.gF rfl rfl (VL.gF rfl rfl (VL.gF rfl rfl (VL.op (R.pickFB rfl rfl) (VL.nil ⟨rfl, cutB rfl ?_, Mod.refl _ _⟩))))))))))))))))))))) (fun g20_6 => VL.gF rfl rfl (VL.gF rfl rfl (VL.gF rfl rfl (VL.gF rfl rfl (VL.gF rfl rfl (VL.op (R.pickFB rfl rfl) (VL.op (R.mvB rfl) (VL.gF rfl rfl (VL.gF rfl rfl (VL.gF rfl rfl (VL.gF rfl rfl (VL.gF rfl rfl (VL.gF rfl rfl (VL.op (R.pickFB rfl rfl) (VL.nil ⟨rfl, cutB rfl ?_, Mod.refl _ _⟩))))))))))))))))))))))) (fun rg20 w20c e20c => V.condP rfl (fun c109 => ?_) (fun c109 => V.skip (V.region (VL.op (R.mvI rfl) (VL.op (R.add rfl rfl (by omega) (by omega)) (VL.op (R.asI rfl) (VL.nil (?_))))))))))))) (fun c85 => V.exit (?_))))))))))
        · exact decide_eq_decide.2 ⟨fun q => ⟨by omega, by have := hmj (by omega); omega, q⟩, fun q => q.2.2⟩
        · exact (decide_eq_false fun q => g20_14 (by rw [hmj (by omega), q.2.1])).symm
        · exact (decide_eq_false fun q => g20_6 (by rw [hmi, q.1])).symm
        · have hs : clsR same r (j + 1) i = clsR same r j i ++ [(j : Int)] := by rw [clsR_succ, if_pos c109]
          refine V.region (VL.op (R.mvS rfl) (VL.op (R.mvI rfl) (VL.append1 el23 Try.runUnderlying23 Try.sizeOf3 Try.zeroValue3 rfl (((j : Nat) : Int)) rfl rfl rfl (ho8.ext e20c) rfl rfl rfl (by omega) (by unfold maxLen; omega) ((e8.trans e20c)).size fun a9' c9' w9' vt9 ho9' m9' hf9' => VL.op (R.asS rfl) (VL.nil (V.region (VL.op (R.mvI rfl) (VL.op (R.add rfl rfl (by omega) (by omega)) (VL.op (R.asI rfl) (VL.nil (?_))))))))))
          refine ⟨(j + 1, a9', c9'), by dsimp only; rw [hs, List.length_append]; rfl, ⟨by dsimp only; omega, (e8.trans e20c).ownA m9' fun q hq => ho8.ge q hq, by dsimp only; rw [hs]; exact ho9'⟩, by dsimp only; omega⟩
        · have hs : clsR same r (j + 1) i = clsR same r j i := by rw [clsR_succ, if_neg c109, List.append_nil]
          exact ⟨(j + 1, ca, cc), by dsimp only; rw [hs]; rfl, ⟨by dsimp only; omega, e8.trans e20c, by dsimp only; rw [hs]; exact ho8.ext e20c⟩, by dsimp only; omega⟩
        · have hjn : j = same.length := by omega
          subst hjn
          exact ⟨(ca, cc), rfl, e8, ho8.sl⟩
      · obtain ⟨eB4, hC4⟩ := hBB4
        have hil2 : i < same.length := by omega
        have E4 := e7.trans eB4
        by_cases hri : r i = i
        · have hcr : clsR same r same.length i = clsG same (memsK r same.length i) := if_pos hri
          rw [hcr] at hC4 ⊢
          subst hr
          obtain ⟨hinc, hpos⟩ := cls_pos k_ hil2 hri
          have hcl : (clsG same (memsK (rG same edges) same.length i)).length ≤ 100 := by
            have := clsR_len same (rG same edges) same.length i
            rw [hcr] at this; omega
          have hNb : IntSl wBB4 na (same.map (fH (clsG same (memsK (rG same edges) same.length i)) [] F)) := by rw [fH_nil]; exact TSl.ext hN eB4
          refine V.region (VL.op (R.mvS rfl) (VL.op (R.lenS Try.runUnderlying23 rfl) (VL.op (R.gtr rfl rfl) (VL.nil (V.condP rfl (fun c116 => V.region (VL.op (R.mvS rfl) (VL.op (R.mvS rfl) (VL.op (R.mvS rfl) (VL.op (R.mvS rfl) (VL.op (R.mvI rfl) (VL.callX Try.call40 rfl (rgreedy_spec xB0.1 oa na x.1 xB0.2 co nc x.2 i edges same other F wBB4 k_ (by omega) (by omega) (by omega) hC.ok hnx (hSB.ext E4) (hOB.ext E4) (TSl.ext hN eB4) (TSl.ext hMB E4)) fun y w23 ⟨F', hy1, hy2, hy3, hy4⟩ e23 => VL.op (R.asS rfl) (VL.nil (V.region (VL.op (R.mvI rfl) (VL.op (R.add rfl rfl (by omega) (by omega)) (VL.op (R.asI rfl) (VL.nil (?_)))))))))))))) (fun c116 => V.seq (V.region (VL.op (R.mvS rfl) (VL.op (R.lenS Try.runUnderlying23 rfl) (VL.op (R.gtr rfl rfl) (VL.nil (V.condP rfl (fun c125 => V.region (VL.op (R.mvS rfl) (VL.op (R.mvS rfl) (VL.op (R.mvS rfl) (VL.op (R.mvS rfl) (VL.op (R.mvS rfl) (VL.callX Try.call41 rfl (rbest_spec edges _ same _ other F i rfl rfl k_ (by omega) (by omega) (by omega) (by omega) hinc hC.ok xB0.1 sa oa xB4.1 xB0.2 cs co xB4.2 _ [] na nc wBB4 (Nat.zero_add _) (PreP.nil _ _) hnx (hSB.ext E4) (TSl.ext hIB E4) (hOB.ext E4) hC4 hNb) fun y w25 ⟨hs, hf, hy⟩ e25 => VL.op (R.asS rfl) (VL.nil (V.region (VL.op (R.mvI rfl) (VL.op (R.add rfl rfl (by omega) (by omega)) (VL.op (R.asI rfl) (VL.nil (?_)))))))))))))) (fun c125 => V.skip (V.region (VL.op (R.mvI rfl) (VL.op (R.add rfl rfl (by omega) (by omega)) (VL.op (R.asI rfl) (VL.nil (?_)))))))))))))))))))
          · refine ⟨(i + 1, y.1, y.2, F'), rfl, ⟨by dsimp only; omega, E4.trans e23, fun q => OwnT.hax hy1 q, hy1.sl, hC.greedy (by omega) hy2 hy4 hy3⟩, by dsimp only; omega⟩
          · refine ⟨(i + 1, y.1, y.2, fH (clsG same (memsK (rG same edges) same.length i)) hs F), rfl, ⟨by dsimp only; omega, E4.trans e25, fun q => ?_, hy, hC.best hinc (by omega) hf⟩, by dsimp only; omega⟩
            obtain ⟨_, _, z⟩ := TSl.some hy (i := 0) (by rw [List.length_map]; omega)
            dsimp only at q
            rw [z] at q; cases q
          · exact ⟨(i + 1, na, nc, F), rfl, ⟨by dsimp only; omega, E4, hnx, TSl.ext hN eB4, hC.one hinc (by omega)⟩, by dsimp only; omega⟩
        · have hcr : clsR same r same.length i = [] := if_neg hri
          have hlen : (clsR same r same.length i).length = 0 := by rw [hcr]; rfl
          have hskip := hC.skip (by rw [← hr]; exact hri)
          refine V.region (VL.op (R.mvS rfl) (VL.op (R.lenS Try.runUnderlying23 rfl) (VL.op (R.gtr rfl rfl) (VL.nil (V.condP rfl (fun c116 => ?_) (fun c116 => V.seq (V.region (VL.op (R.mvS rfl) (VL.op (R.lenS Try.runUnderlying23 rfl) (VL.op (R.gtr rfl rfl) (VL.nil (V.condP rfl (fun c125 => ?_) (fun c125 => V.skip (V.region (VL.op (R.mvI rfl) (VL.op (R.add rfl rfl (by omega) (by omega)) (VL.op (R.asI rfl) (VL.nil (?_)))))))))))))))))))
          · exfalso; omega
          · exfalso; omega
          · exact ⟨(i + 1, na, nc, F), rfl, ⟨by dsimp only; omega, E4, hnx, TSl.ext hN eB4, hskip⟩, by dsimp only; omega⟩
      · have hin : i = same.length := by omega
        subst hin
        refine ⟨(na, nc, same.map F, 0), by rw [List.length_map], ⟨hN, ?_⟩, E1.trans (EB.trans e7)⟩
        unfold CluR
        rw [if_pos hok2]
        exact ⟨rfl, hC.done⟩
  · exact err _ (e1c.trans (e3_1.trans e3_7)) (by unfold okB; simp_all)
  · exact err _ (e1c.trans e3_1) (by unfold okB; simp_all)
end Go.Proofs.Ytglaigeellpikaa

/- Cluster: ClusterMatchesReference: the walk. -/
namespace Go.Proofs.Ytglaigeellpikaa
open Go.Vc

theorem clu_one {edges : List Ed} {same : List Int} {other : List (Int × Int)} {L L' : List Int} {e e' : Int} (h : CluR edges same other L e) (h' : CluR edges same other L' e') : e = e' ∧ L = L' := by
  unfold CluR at h h'
  by_cases hok : okB same edges other = true
  · rw [if_pos hok] at h h'
    have k := okG hok
    exact ⟨h.1.trans h'.1.symm, IsClu.unique (grpG_cov k.v k.ok) h.2 h'.2⟩
  · rw [if_neg hok] at h h'
    exact ⟨h.1.trans h'.1.symm, h.2.trans h'.2.symm⟩
theorem clu_len2 {edges : List Ed} {same : List Int} {other : List (Int × Int)} {L : List Int} {e : Int} (h : CluR edges same other L e) : L.length ≤ same.length := by
  unfold CluR at h
  split at h
  · exact Nat.le_of_eq (clu_len h.2)
  · rw [h.2]; exact Nat.zero_le _
theorem comps_bnd {edges : List Ed} {same : List Int} {z : List Sl} (h : vals z = compsF same edges) : z.length ≤ same.length ∧ ∀ i, (z.getD i default).l.length ≤ same.length := by
  have hlz : (vals z).length = z.length := List.length_map _
  have key : ∀ g ∈ compsF same edges, g.length ≤ same.length := fun g hg => by
    unfold compsF at hg
    split at hg
    · unfold grpsK at hg
      obtain ⟨x, _, rfl⟩ := List.mem_map.1 hg
      exact memsK_len _ _ _
    · cases hg
  refine ⟨?_, fun i => ?_⟩
  · rw [← hlz, h]
    unfold compsF
    split
    · rw [grpsK_len]; exact hdsK_len _ _
    · exact Nat.zero_le _
  · by_cases hi : i < z.length
    · refine key _ ?_
      rw [← h]
      exact List.mem_map.2 ⟨_, getD_mem hi, rfl⟩
    · rw [show z.getD i default = default by simp [List.getD, Nat.le_of_not_lt hi]]; exact Nat.zero_le _
theorem eqB4 : ∀ a b w, (Op.equal 4 (.bool a) (.bool b)).run Try.prog w = .ok (decide (a = b)) w := by
  intro a b w
  show (Op.equalIn (9999 + 1) 4 _ _).run Try.prog w = _
  unfold Op.equalIn
  simp [go_sem]
  exact Bool.eq_iff_iff.2 (by simp)
set_option maxRecDepth 100000 in
set_option maxHeartbeats 8000000 in
theorem law3_spec (a sa oa na : Option Addr) (c cs co cn : Nat) (edges : List Ed) (same : List Int) (other : List (Int × Int)) (ent : List Int) (w : World) (hS : EdSl w a edges) (hI : IntSl w sa same) (hO : PrSl w oa other) (hN : IntSl w na ent) (hsx : sa = none → cs = 0) (hel : ent.length ≤ 9223372036854775807) :
    RetsP Try.prog 3 #[.slice a edges.length c, .slice sa same.length cs, .slice oa other.length co, .slice na ent.length cn] w (.bool true) := by
  refine enter (args := [_, _, _, _]) Try.func3 rfl Try.ntmps3 (by kernel_rfl) rfl ?_
  have few : (!fewB same.length edges.length other.length 12) = false → (same.length : Int) ≤ 12 ∧ edges.length ≤ 80 ∧ other.length ≤ 40 := fun h => few_iff (k := 12) (by simpa using h)
  refine V.seq (V.region (VL.op (R.asB rfl) (VL.nil (V.seq (V.region (VL.callP Try.call10 rfl (head_spec _) fun w1_0 e1_0 => VL.op (R.asB rfl) (VL.nil (V.seq (V.seq (V.region (VL.op (R.mvS rfl) (VL.op (R.mvS rfl) (VL.op (R.mvS rfl) (VL.callP Try.call11 rfl (few_spec a sa oa c cs co edges.length same.length other.length 12 _) fun w2_3 e2_3 => VL.op (R.not rfl) (VL.op (R.mvB rfl) (VL.or rfl rfl (fun g2_5 => VL.op (R.mvS rfl) (VL.gT rfl rfl (VL.op (R.lenS Try.runUnderlying23 rfl) (VL.gT rfl rfl (VL.op (R.gtr rfl rfl) (VL.op (R.pickFB rfl rfl) (VL.nil (V.condP rfl (fun c24 => V.seq (V.region (VL.op (R.mvB rfl) (VL.op (R.asB rfl) (VL.nil (V.ret (fret1 (v := .bool _) rfl rfl rfl (⟨rfl, (e1_0.trans e2_3)⟩)))))))) (fun c24 => V.skip (V.seq (?_))))))))))) (fun g2_5 => VL.gF rfl rfl (VL.gF rfl rfl (VL.op (R.pickTB rfl rfl) (VL.nil (V.condT rfl (V.seq (V.region (VL.op (R.mvB rfl) (VL.op (R.asB rfl) (VL.nil (V.ret (fret1 (v := .bool _) rfl rfl rfl (⟨rfl, (e1_0.trans e2_3)⟩)))))))))))))))))))))))))))))
  have hf := few g2_5
  have E2 := e1_0.trans e2_3
  have hS := hS.ext E2
  have hI := hI.ext E2
  have hO := hO.ext E2
  have hN := hN.ext E2
  refine V.region (VL.op (R.mvS rfl) (VL.op (R.mvS rfl) (VL.op (R.mvS rfl) (VL.callX Try.call12 rfl (cluster_spec a sa oa c cs co edges same other _ (by omega) (by omega) (by omega) hS hI hO) fun x w4 hx e4 => VL.op (R.mvT rfl) (VL.op (R.extr rfl rfl) (VL.op (R.extr rfl rfl) (VL.op (R.asS rfl) (VL.op (R.asI rfl) (VL.nil (V.seq (V.region (VL.op (R.mvS rfl) (VL.op (R.mvS rfl) (VL.op (R.mvS rfl) (VL.callX Try.call13 rfl (rcluster_spec a sa oa c cs co edges same other _ (by omega) (by omega) (by omega) hsx (hS.ext e4) (hI.ext e4) (hO.ext e4)) fun y w5 hy e5 => VL.op (R.mvT rfl) (VL.op (R.extr rfl rfl) (VL.op (R.extr rfl rfl) (VL.op (R.asS rfl) (VL.op (R.asI rfl) (VL.nil (V.seq (?_))))))))))))))))))))))
  obtain ⟨ua, uc, L, e⟩ := x
  obtain ⟨va, vc, L', e'⟩ := y
  obtain ⟨hL, _, hR⟩ := hx
  obtain ⟨hL', hR'⟩ := hy
  dsimp only at hL hR hL' hR' ⊢
  obtain ⟨rfl, rfl⟩ := clu_one hR hR'
  have hLl := clu_len2 hR
  have E5 := e4.trans e5
  have hS5 := hS.ext E5
  have hI5 := hI.ext E5
  have hO5 := hO.ext E5
  have hN5 := hN.ext E5
  refine V.region (VL.op (R.mvB rfl) (VL.op (R.mvB rfl) (VL.and rfl rfl (fun g6_1 => VL.op (R.mvI rfl) (VL.gT rfl rfl (VL.op (R.mvI rfl) (VL.gT rfl rfl (VL.op (R.lit (R.eql rfl rfl) ((decide_eq_true rfl))) (VL.op (R.pickTB rfl rfl) (VL.op (R.mvB rfl) (VL.gT rfl rfl (VL.op (R.mvS rfl) (VL.gT rfl rfl (VL.op (R.mvS rfl) (VL.gT rfl rfl (VL.callP Try.call14 rfl (ints_spec ua va uc vc L L _ (by omega) ((hL.ext e5).ext (Mod.refl _ _)) (hL'.ext (Mod.refl _ _))) fun w6_9 e6_9 => VL.op (R.pickTB rfl rfl) (VL.op (R.mvB rfl) (VL.and rfl rfl (fun g6_11 => VL.op (R.mvS rfl) (VL.gT rfl rfl (VL.op (R.mvS rfl) (VL.gT rfl rfl (VL.callP Try.call15 rfl (cost_spec a na c cn edges ent _ (by omega) (by omega) (hS5.ext e6_9) (hN5.ext e6_9)) fun w6_14 e6_14 => VL.gT rfl rfl (VL.op (R.mvS rfl) (VL.gT rfl rfl (VL.op (R.mvS rfl) (VL.gT rfl rfl (VL.callP Try.call16 rfl (rcost_spec a na c cn edges ent _ (by omega) (hS5.ext (e6_9.trans e6_14)) (hN5.ext (e6_9.trans e6_14))) fun w6_17 e6_17 => VL.gT rfl rfl (VL.op (R.eql rfl rfl) (VL.op (R.pickTB rfl rfl) (VL.op (R.mvB rfl) (VL.andP rfl rfl (fun g6_20 => VL.op (R.mvS rfl) (VL.gT rfl rfl (VL.op (R.mvS rfl) (VL.gT rfl rfl (VL.op (R.mvS rfl) (VL.gT rfl rfl (VL.callP Try.call17 rfl (allowed_spec sa na oa cs cn co same ent other _ (by omega) (by omega) hel (hI5.ext ((e6_9.trans e6_14).trans e6_17)) (hN5.ext ((e6_9.trans e6_14).trans e6_17)) (hO5.ext ((e6_9.trans e6_14).trans e6_17))) fun w6_24 e6_24 => VL.gT rfl rfl (VL.op (R.mvS rfl) (VL.gT rfl rfl (VL.op (R.mvS rfl) (VL.gT rfl rfl (VL.op (R.mvS rfl) (VL.gT rfl rfl (VL.callP Try.call18 rfl (rallowed_spec sa na oa cs cn co same ent other _ (by omega) (by omega) (hI5.ext (((e6_9.trans e6_14).trans e6_17).trans e6_24)) (hN5.ext (((e6_9.trans e6_14).trans e6_17).trans e6_24)) (hO5.ext (((e6_9.trans e6_14).trans e6_17).trans e6_24))) fun w6_28 e6_28 => VL.gT rfl rfl (VL.op (R.eqlB eqB4 rfl rfl) (VL.op (R.pickTB rfl rfl) (VL.op (R.mvB rfl) (VL.andP rfl rfl (fun g6_31 => VL.op (R.mvS rfl) (VL.gT rfl rfl (VL.op (R.mvS rfl) (VL.gT rfl rfl (VL.callX Try.call20 rfl (comps_spec a sa c cs edges same _ (by omega) (by omega) (hS5.ext ((((e6_9.trans e6_14).trans e6_17).trans e6_24).trans e6_28)) (hI5.ext ((((e6_9.trans e6_14).trans e6_17).trans e6_24).trans e6_28))) fun z w34 hz e34 => VL.gT rfl rfl (VL.op (R.mvS rfl) (VL.gT rfl rfl (VL.op (R.mvS rfl) (VL.gT rfl rfl (VL.callX Try.call21 rfl (rcomps_spec a sa c cs edges same _ (by omega) (by omega) hsx (hS5.ext (((((e6_9.trans e6_14).trans e6_17).trans e6_24).trans e6_28).trans e34)) (hI5.ext (((((e6_9.trans e6_14).trans e6_17).trans e6_24).trans e6_28).trans e34))) fun y w37 hy e37 => VL.gT rfl rfl (VL.callP Try.call19 rfl (lists_spec z.2.1 y.2.1 z.2.2 y.2.2 z.1 y.1 _ ((hz.2.own.ext e37).sl) hy.2.own.sl (fun i => ((hz.2.each i).ext e37).sl) (fun i => (hy.2.each i).sl) (by have := (comps_bnd hz.1).1; omega) (fun i => by have := (comps_bnd hz.1).2 i; omega)) fun w6_38 e6_38 => VL.op (R.pickTB rfl rfl) (VL.op (R.asB rfl) (VL.nil (V.ret (fret1 (v := .bool _) rfl rfl rfl (⟨?_, (E2.trans E5).trans (((((((e6_9.trans e6_14).trans e6_17).trans e6_24).trans e6_28).trans e34).trans e37).trans e6_38)⟩)))))))))))))))) (fun g6_31 => VL.gF rfl rfl (VL.gF rfl rfl (VL.gF rfl rfl (VL.gF rfl rfl (VL.gF rfl rfl (VL.gF rfl rfl (VL.op (R.pickFB rfl rfl) (VL.op (R.asB rfl) (VL.nil (V.ret (fret1 (v := .bool _) rfl rfl rfl (⟨?_, (E2.trans E5).trans ((((e6_9.trans e6_14).trans e6_17).trans e6_24).trans e6_28)⟩)))))))))))))))))))))))))))))) (fun g6_20 => VL.gF rfl rfl (VL.gF rfl rfl (VL.gF rfl rfl (VL.gF rfl rfl (VL.gF rfl rfl (VL.gF rfl rfl (VL.gF rfl rfl (VL.gF rfl rfl (VL.op (R.pickFB rfl rfl) (VL.op (R.mvB rfl) (VL.gF rfl rfl (VL.gF rfl rfl (VL.gF rfl rfl (VL.gF rfl rfl (VL.gF rfl rfl (VL.gF rfl rfl (VL.gF rfl rfl (VL.op (R.pickFB rfl rfl) (VL.op (R.asB rfl) (VL.nil (V.ret (fret1 (v := .bool _) rfl rfl rfl (⟨?_, (E2.trans E5).trans ((e6_9.trans e6_14).trans e6_17)⟩))))))))))))))))))))))))))))))))))))) (fun g6_11 => VL.gF rfl rfl (VL.gF rfl rfl (VL.gF rfl rfl (VL.gF rfl rfl (VL.gF rfl rfl (VL.gF rfl rfl (VL.op (R.pickFB rfl rfl) (VL.op (R.mvB rfl) (VL.gF rfl rfl (VL.gF rfl rfl (VL.gF rfl rfl (VL.gF rfl rfl (VL.gF rfl rfl (VL.gF rfl rfl (VL.gF rfl rfl (VL.gF rfl rfl (VL.gF rfl rfl (VL.op (R.pickFB rfl rfl) (VL.op (R.mvB rfl) (VL.gF rfl rfl (VL.gF rfl rfl (VL.gF rfl rfl (VL.gF rfl rfl (VL.gF rfl rfl (VL.gF rfl rfl (VL.gF rfl rfl (VL.op (R.pickFB rfl rfl) (VL.op (R.asB rfl) (VL.nil (V.ret (fret1 (v := .bool _) rfl rfl rfl (⟨?_, (E2.trans E5).trans e6_9⟩))))))))))))))))))))))))))))))))))))))))))))))) (fun g6_1 => VL.gF rfl rfl (VL.gF rfl rfl (VL.op (R.pickFB rfl rfl) (VL.op (R.mvB rfl) (VL.gF rfl rfl (VL.gF rfl rfl (VL.gF rfl rfl (VL.op (R.pickFB rfl rfl) (VL.op (R.mvB rfl) (VL.gF rfl rfl (VL.gF rfl rfl (VL.gF rfl rfl (VL.gF rfl rfl (VL.gF rfl rfl (VL.gF rfl rfl (VL.gF rfl rfl (VL.op (R.pickFB rfl rfl) (VL.op (R.mvB rfl) (VL.gF rfl rfl (VL.gF rfl rfl (VL.gF rfl rfl (VL.gF rfl rfl (VL.gF rfl rfl (VL.gF rfl rfl (VL.gF rfl rfl (VL.gF rfl rfl (VL.gF rfl rfl (VL.op (R.pickFB rfl rfl) (VL.op (R.mvB rfl) (VL.gF rfl rfl (VL.gF rfl rfl (VL.gF rfl rfl (VL.gF rfl rfl (VL.gF rfl rfl (VL.gF rfl rfl (VL.gF rfl rfl (VL.op (R.pickFB rfl rfl) (VL.op (R.asB rfl) (VL.nil (V.ret (fret1 (v := .bool _) rfl rfl rfl (⟨?_, (E2.trans E5).trans (Mod.refl _ _)⟩)))))))))))))))))))))))))))))))))))))))))))))
  · rw [decide_eq_true (hz.1.trans hy.1.symm)]
  · exact absurd rfl g6_31
  · exact absurd rfl g6_20
  · rw [decide_eq_true rfl] at g6_11; cases g6_11
  · contradiction
end Go.Proofs.Ytglaigeellpikaa
