/- Cluster: what a solution depends on. No program. -/
import Derived.Test.YtglaigeellpikaaXP4
namespace Go.Proofs.Ytglaigeellpikaa
open Go.Vc

section
variable {wt wt' : Int → Int → Int} {ap ap' : Int → Int → Bool} {cs : List Int}
theorem kS_wt (hw : ∀ c ∈ cs, ∀ d ∈ cs, c < d → wt c d = wt' c d) (h : Int → Int) : kS wt cs h = kS wt' cs h := by
  unfold kS
  refine sm_congr _ _ fun c hc => sm_congr _ _ fun d hd => ?_
  by_cases e : c < d ∧ h c = h d
  · rw [if_pos e, if_pos e, hw c hc d hd e.1]
  · rw [if_neg e, if_neg e]
/-- A list of heads is a map of the classes. -/
theorem heads_map (hn : cs.Nodup) {hs : List Int} (hl : hs.length = cs.length) : ∃ h : Int → Int, hs = cs.map h := by
  refine ⟨fun c => hs.getD (cs.idxOf c) default, List.ext_getElem (by rw [List.length_map]; exact hl) fun i h1 h2 => ?_⟩
  rw [List.getElem_map]
  rw [List.length_map] at h2
  have : cs.idxOf cs[i] = i := by
    have h3 : cs.idxOf cs[i] < cs.length := List.idxOf_lt_length_iff.2 (List.getElem_mem h2)
    have h4 : cs[cs.idxOf cs[i]] = cs[i] := List.getElem_idxOf h3
    have hp := List.pairwise_iff_getElem.1 hn
    rcases Nat.lt_trichotomy (cs.idxOf cs[i]) i with h | h | h
    · exact absurd h4 (hp _ _ h3 h2 h)
    · exact h
    · exact absurd h4.symm (hp _ _ h2 h3 h)
  rw [this]
  simp [List.getD, h1]
theorem kept_wt (hinc : Inc cs) (hw : ∀ c ∈ cs, ∀ d ∈ cs, c < d → wt c d = wt' c d) {hs : List Int} (hl : hs.length = cs.length) : keptF wt cs hs = keptF wt' cs hs := by
  obtain ⟨h, rfl⟩ := heads_map (inc_nodup hinc) hl
  rw [kept_sm hinc, kept_sm hinc, kS_wt hw]
theorem part_ap (ha : ∀ c ∈ cs, ∀ d ∈ cs, ap' c d = true → ap c d = true) {hs : List Int} (h : IsPart ap cs hs) : IsPart ap' cs hs := by
  refine ⟨h.len, h.head, fun i hi k hk e => ?_⟩
  cases h1 : ap' (cs.getD k default) (cs.getD i default) with
  | false => rfl
  | true =>
    have := ha _ (getD_mem (by omega)) _ (getD_mem hi) h1
    rw [h.free i hi k hk e] at this; cases this
theorem btw_wt (hw : ∀ c ∈ cs, ∀ d ∈ cs, c < d → wt c d = wt' c d) (h : Int → Int) (a b : Int) : btw wt cs h a b = btw wt' cs h a b := by
  unfold btw
  refine sm_congr _ _ fun c hc => sm_congr _ _ fun d hd => ?_
  have : wtS wt c d = wtS wt' c d := by
    unfold wtS
    by_cases h1 : c < d
    · rw [if_pos h1, if_pos h1, hw c hc d hd h1]
    · rw [if_neg h1, if_neg h1]
      by_cases h2 : d < c
      · rw [if_pos h2, if_pos h2, hw d hd c hc h2]
      · rw [if_neg h2, if_neg h2]
  rw [this]
theorem apH_ap (ha : ∀ c ∈ cs, ∀ d ∈ cs, ap c d = ap' c d) (h : Int → Int) (a b : Int) : apH ap cs h a b ↔ apH ap' cs h a b := by
  constructor
  · rintro ⟨c, hc, d, hd, h1, h2, h3⟩
    exact ⟨c, hc, d, hd, h1, h2, by rw [← ha c hc d hd]; exact h3⟩
  · rintro ⟨c, hc, d, hd, h1, h2, h3⟩
    exact ⟨c, hc, d, hd, h1, h2, by rw [ha c hc d hd]; exact h3⟩
theorem cand_congr (hw : ∀ c ∈ cs, ∀ d ∈ cs, c < d → wt c d = wt' c d) (ha : ∀ c ∈ cs, ∀ d ∈ cs, ap c d = ap' c d) {h : Int → Int} {p : Int × Int} (k : Cand wt ap cs h p) : Cand wt' ap' cs h p :=
  ⟨k.m1, k.m2, k.h1, k.h2, k.lt, fun q => k.free ((apH_ap ha h _ _).2 q), by rw [← btw_wt hw]; exact k.pos⟩
theorem grd_congr (hw : ∀ c ∈ cs, ∀ d ∈ cs, c < d → wt c d = wt' c d) (ha : ∀ c ∈ cs, ∀ d ∈ cs, ap c d = ap' c d) {h h' : Int → Int} (g : Grd wt ap cs h h') : Grd wt' ap' cs h h' := by
  have hw' : ∀ c ∈ cs, ∀ d ∈ cs, c < d → wt' c d = wt c d := fun c hc d hd e => (hw c hc d hd e).symm
  have ha' : ∀ c ∈ cs, ∀ d ∈ cs, ap' c d = ap c d := fun c hc d hd => (ha c hc d hd).symm
  induction g with
  | stop h hn => exact .stop h fun p k => hn p (cand_congr hw' ha' k)
  | step h h' p hp _ ih => exact .step h h' p ⟨cand_congr hw ha hp.cand, fun q k => by rw [← btw_wt hw, ← btw_wt hw]; exact hp.best q (cand_congr hw' ha' k)⟩ ih
theorem sol_congr (hinc : Inc cs) (hw : ∀ c ∈ cs, ∀ d ∈ cs, c < d → wt c d = wt' c d) (ha : ∀ c ∈ cs, ∀ d ∈ cs, ap c d = ap' c d) {hs : List Int} (h : SolR wt ap cs hs) : SolR wt' ap' cs hs := by
  unfold SolR at h ⊢
  split
  · rename_i hl
    rw [if_pos hl] at h
    refine ⟨part_ap (fun c hc d hd e => by rw [ha c hc d hd]; exact e) h.part, fun g hg => ?_⟩
    have := h.best g (part_ap (fun c hc d hd e => by rw [← ha c hc d hd]; exact e) hg)
    rw [← kept_wt hinc hw hg.len, ← kept_wt hinc hw h.part.len]; exact this
  · rename_i hl
    rw [if_neg hl] at h
    obtain ⟨h1, h2, h3⟩ := h
    exact ⟨h1, grd_congr hw ha h2, h3⟩
end
/-! ### The components depend on which weights are positive. -/
theorem gW_nodup (same : List Int) (edges : List Ed) : ((gW same edges).map (·.1)).Nodup := by
  refine rev_ind (M := fun edges => ((gW same edges).map (·.1)).Nodup) (by simp [gW]) (fun l x ih => ?_) edges
  rw [gW_snoc]
  unfold gWs
  split
  · rw [tset_keys]
    split
    · exact ih
    · rename_i hm
      exact List.nodup_append.2 ⟨ih, by simp, fun a ha b hb => by rw [List.mem_singleton] at hb; rw [hb]; exact fun e => hm (e ▸ ha)⟩
  · exact ih
theorem jC_wt (same : List Int) (edges : List Ed) {p : Nat × Nat} : p ∈ jC same (gW same edges) ↔ (∃ i, i < same.length ∧ p = (i, (same.getD i default).toNat)) ∨ ∃ a b, 0 < wtG same edges a b ∧ p = (a.toNat, b.toNat) := by
  rw [jC_mem]
  refine or_congr Iff.rfl ⟨?_, ?_⟩
  · rintro ⟨q, h1, h2, h3⟩
    refine ⟨q.1.1, q.1.2, ?_, h3⟩
    unfold wtG wtM
    rw [show (q.1.1, q.1.2) = q.1 from rfl, (tget_mem (gW_nodup same edges)).2 (show (q.1, q.2) ∈ gW same edges from h1)]
    exact h2
  · rintro ⟨a, b, h1, h3⟩
    unfold wtG wtM at h1
    cases ht : tget (gW same edges) (a, b) with
    | none => rw [ht] at h1; simp at h1
    | some v => exact ⟨((a, b), v), (tget_mem (gW_nodup same edges)).1 ht, by rw [ht] at h1; exact h1, h3⟩
theorem grps_congr {r r' : Nat → Nat} {n : Nat} (h : ∀ i, i < n → r i = r' i) : grpsK r n = grpsK r' n := by
  have h1 : ∀ k, memsK r n k = memsK r' n k := fun k => by
    unfold memsK
    rw [List.filter_congr fun i hi => by rw [h i (List.mem_range.1 hi)]]
  have h2 : hdsK r n = hdsK r' n := by
    unfold hdsK
    exact List.filter_congr fun i hi => by rw [h i (List.mem_range.1 hi)]
  unfold grpsK
  rw [h2]
  exact List.map_congr_left fun k _ => h1 k
theorem comp_congr {same : List Int} {edges edges' : List Ed} {other other' : List (Int × Int)} (k : OkG same edges other) (k' : OkG same edges' other') (hw : ∀ a b, 0 < wtG same edges a b ↔ 0 < wtG same edges' a b) : (∀ i, i < same.length → rG same edges i = rG same edges' i) ∧ grpG same (gW same edges) = grpG same (gW same edges') := by
  have h1 := cmpR_is k.v k.ok
  have h2 := cmpR_is k'.v k'.ok
  have hj : ∀ p, p ∈ jC same (gW same edges) ↔ p ∈ jC same (gW same edges') := fun p => by
    rw [jC_wt, jC_wt]
    refine or_congr Iff.rfl ⟨?_, ?_⟩
    · rintro ⟨a, b, h, e⟩; exact ⟨a, b, (hw a b).1 h, e⟩
    · rintro ⟨a, b, h, e⟩; exact ⟨a, b, (hw a b).2 h, e⟩
  have hu := h1.unique h2 (fun p hp => h2.join p ((hj p).1 hp)) (fun p hp => h1.join p ((hj p).2 hp))
  exact ⟨hu, grps_congr hu⟩
/-- Two inputs that lead to the same clustering. -/
theorem clu_congr {same : List Int} {edges edges' : List Ed} {other other' : List (Int × Int)} {L : List Int} (k : OkG same edges other) (k' : OkG same edges' other') (hp : ∀ a b, 0 < wtG same edges a b ↔ 0 < wtG same edges' a b)
    (hs : ∀ g ∈ grpG same (gW same edges), ∀ hs, SolR (wtG same edges) (apG same other) (clsG same g) hs → SolR (wtG same edges') (apG same other') (clsG same g) hs)
    (h : IsClu (wtM (gW same edges)) (apM (gA same other)) same (grpG same (gW same edges)) L) : IsClu (wtM (gW same edges')) (apM (gA same other')) same (grpG same (gW same edges')) L := by
  obtain ⟨H, h1, h2⟩ := h
  rw [← (comp_congr k k' hp).2]
  exact ⟨H, fun g hg => hs g hg _ (h1 g hg), h2⟩
theorem cluR_eq {edges edges' : List Ed} {same : List Int} {other other' : List (Int × Int)} {L L' : List Int} {e e' : Int} (h : CluR edges same other L e) (h' : CluR edges' same other' L' e') (hb : okB same edges other = okB same edges' other')
    (hc : OkG same edges other → OkG same edges' other' → IsClu (wtM (gW same edges)) (apM (gA same other)) same (grpG same (gW same edges)) L → IsClu (wtM (gW same edges')) (apM (gA same other')) same (grpG same (gW same edges')) L) : L = L' ∧ e = e' := by
  unfold CluR at h h'
  cases ho : okB same edges other with
  | false =>
    rw [ho, if_neg (by decide)] at h
    rw [← hb, ho, if_neg (by decide)] at h'
    exact ⟨h.2.trans h'.2.symm, h.1.trans h'.1.symm⟩
  | true =>
    rw [ho, if_pos rfl] at h
    have ho' : okB same edges' other' = true := by rw [← hb, ho]
    rw [ho', if_pos rfl] at h'
    have k' := okG ho'
    exact ⟨(hc (okG ho) k' h.2).unique (grpG_cov k'.v k'.ok) h'.2, h.1.trans h'.1.symm⟩
end Go.Proofs.Ytglaigeellpikaa

/- Cluster: deciding that two records of different entities are different. -/
namespace Go.Proofs.Ytglaigeellpikaa
open Go.Vc

section
variable {wt : Int → Int → Int} {ap ap' : Int → Int → Bool} {cs : List Int}
theorem grd_keep {h h' : Int → Int} (g : Grd wt ap cs h h') {c d : Int} (e : h c = h d) : h' c = h' d := by
  induction g with
  | stop h _ => exact e
  | step h h' p _ _ ih => exact ih (by unfold mrg; rw [e])
/-- What is decided beside is met by the clusters in the end. -/
theorem grd_more (hm : ∀ c d, ap c d = true → ap' c d = true) {h h' : Int → Int} (g : Grd wt ap cs h h') (hn : ∀ c ∈ cs, ∀ d ∈ cs, ap' c d = true → ap c d = false → h' c ≠ h' d) : Grd wt ap' cs h h' := by
  induction g with
  | stop h hs => exact .stop h fun p k => hs p ⟨k.m1, k.m2, k.h1, k.h2, k.lt, fun ⟨c, hc, d, hd, e1, e2, e3⟩ => k.free ⟨c, hc, d, hd, e1, e2, hm _ _ e3⟩, k.pos⟩
  | step h h' p hp g ih =>
    have hup : ∀ {q : Int × Int}, Cand wt ap' cs h q → Cand wt ap cs h q := fun k => ⟨k.m1, k.m2, k.h1, k.h2, k.lt, fun ⟨c, hc, d, hd, e1, e2, e3⟩ => k.free ⟨c, hc, d, hd, e1, e2, hm _ _ e3⟩, k.pos⟩
    refine .step h h' p ⟨⟨hp.cand.m1, hp.cand.m2, hp.cand.h1, hp.cand.h2, hp.cand.lt, fun ⟨c, hc, d, hd, e1, e2, e3⟩ => ?_, hp.cand.pos⟩, fun q k => hp.best q (hup k)⟩ (ih hn)
    cases ha : ap c d with
    | true => exact hp.cand.free ⟨c, hc, d, hd, e1, e2, ha⟩
    | false =>
      refine hn c hc d hd e3 ha (grd_keep g ?_)
      have hlt := hp.cand.lt
      unfold mrg
      rw [e1, e2, if_neg (by omega), if_pos rfl]
theorem sol_more (_hinc : Inc cs) (hm : ∀ c d, ap c d = true → ap' c d = true) {H : Int → Int} (h : SolR wt ap cs (cs.map H)) (hn : ∀ c ∈ cs, ∀ d ∈ cs, ap' c d = true → ap c d = false → H c ≠ H d) : SolR wt ap' cs (cs.map H) := by
  unfold SolR at h ⊢
  split
  · rename_i hl
    rw [if_pos hl] at h
    have hg : ∀ i, i < cs.length → (cs.map H).getD i default = H (cs.getD i default) := fun i hi => gmap _ _ _ hi
    refine ⟨⟨h.part.len, h.part.head, fun i hi k hk e => ?_⟩, fun g hgp => h.best g (part_ap (fun c _ d _ e => hm c d e) hgp)⟩
    cases h1 : ap' (cs.getD k default) (cs.getD i default) with
    | false => rfl
    | true =>
      rw [hg i hi, hg k (by omega)] at e
      exact absurd e (hn _ (getD_mem (by omega)) _ (getD_mem hi) h1 (h.part.free i hi k hk (by rw [hg i hi, hg k (by omega)]; exact e)))
  · rename_i hl
    rw [if_neg hl] at h
    obtain ⟨h', h2, h3⟩ := h
    have hag : ∀ c ∈ cs, h' c = H c := fun c hc => (List.map_inj_left.1 h3 c hc).symm
    exact ⟨h', grd_more hm h2 fun c hc d hd e1 e2 => by rw [hag c hc, hag d hd]; exact hn c hc d hd e1 e2, h3⟩
end
theorem further_law {same : List Int} {edges : List Ed} {other : List (Int × Int)} {L L' : List Int} {e e' : Int} {p q : Int} (h : CluR edges same other L e) (h' : CluR edges same (other ++ [(p, q)]) L' e') (hp : 0 ≤ p ∧ p < same.length) (hq : 0 ≤ q ∧ q < same.length) (hne : e = 0 → at_ L p ≠ at_ L q) : L = L' ∧ e = e' := by
  refine cluR_eq h h' ?_ fun k k' hc => ?_
  · unfold okB
    rw [show pairB same.length (other ++ [(p, q)]) = (pairB same.length other && true) from by
      unfold pairB
      rw [List.all_append]
      congr 1
      exact List.all_eq_true.2 fun x hx => by rw [List.mem_singleton.1 hx]; exact prB_iff.2 ⟨hp.1, hq.1, hp.2, hq.2⟩, Bool.and_true]
  · unfold CluR at h
    have hok : okB same edges other = true := by unfold okB; rw [k.vb, k.lk, k.pr]; rfl
    rw [if_pos hok] at h
    have hne := hne h.1
    obtain ⟨H, h1, h2⟩ := hc
    refine ⟨H, fun g hg => ?_, h2⟩
    refine sol_more (grp_facts k.v k.ok hg).1 (fun c d ha => ?_) (h1 g hg) fun c hcm d hdm ha hb => ?_
    · obtain ⟨x, hx, hxe⟩ := (gA_true same other c d).1 ha
      exact (gA_true _ _ _ _).2 ⟨x, List.mem_append_left _ hx, hxe⟩
    · obtain ⟨x, hx, hxe⟩ := (gA_true _ _ _ _).1 ha
      rcases List.mem_append.1 hx with hx | hx
      · have := (gA_true same other c d).2 ⟨x, hx, hxe⟩
        rw [hb] at this; cases this
      · rw [List.mem_singleton.1 hx] at hxe
        rw [h2, at_map H hp.1 hp.2, at_map H hq.1 hq.2] at hne
        intro hcd
        have := hxe.2
        dsimp only at this
        have hor : (at_ same p = c ∧ at_ same q = d) ∨ (at_ same p = d ∧ at_ same q = c) := by
          unfold ordF at this; rw [Prod.mk.injEq] at this; omega
        rcases hor with ⟨a, b⟩ | ⟨a, b⟩
        · rw [a, b] at hne; exact hne hcd
        · rw [a, b] at hne; exact hne hcd.symm
theorem cluster_specN (a sa oa : Option Addr) (c cs co ne n no : Nat) (edges : List Ed) (same : List Int) (other : List (Int × Int)) (w : World) (h1 : edges.length = ne) (h2 : same.length = n) (h3 : other.length = no) (hm : ne ≤ 100) (hms : n ≤ 100) (hmo : no ≤ 100)
    (hS : EdSl w a edges) (hI : IntSl w sa same) (hO : PrSl w oa other) :
    RetsX Try.prog 12 #[.slice a ne c, .slice sa n cs, .slice oa no co] w (fun x : Option Addr × Nat × List Int × Int => .tuple #[.slice x.1 x.2.2.1.length x.2.1, .int .i64 x.2.2.2])
      (fun x w' => IntSl w' x.1 x.2.2.1 ∧ (∀ k, aBlk x.1 k → w.heap.size ≤ k) ∧ CluR edges same other x.2.2.1 x.2.2.2) := by
  subst h1; subst h2; subst h3
  exact cluster_spec a sa oa c cs co edges same other w hm hms hmo hS hI hO
set_option maxRecDepth 100000 in
set_option maxHeartbeats 8000000 in
theorem law8_spec (a sa oa : Option Addr) (c cs co : Nat) (edges : List Ed) (same : List Int) (other : List (Int × Int)) (x y : Int) (w : World) (hS : EdSl w a edges) (hI : IntSl w sa same) (hO : PrSl w oa other) (hx : 0 ≤ x ∧ x < 256) (hy : 0 ≤ y ∧ y < 256) (hoc : oa = none → co = 0) :
    RetsP Try.prog 8 #[.slice a edges.length c, .slice sa same.length cs, .slice oa other.length co, .int .u8 x, .int .u8 y] w (.bool true) := by
  refine enter (args := [_, _, _, _, _]) Try.func8 rfl Try.ntmps8 (by kernel_rfl) rfl ?_
  refine V.seq (V.region (VL.op (R.asB rfl) (VL.nil (V.seq (V.region (VL.callP Try.call10 rfl (head_spec _) fun w1_0 e1_0 => VL.op (R.asB rfl) (VL.nil (V.seq (V.seq (V.regionCut [19, 20, 21, 22, 23, 24, 25, 26, 27, 28, 29, 30, 31, 32, 33] 33 (.bool (!fewB same.length edges.length other.length 30 || decide (39 < (other.length : Int)) || decide ((same.length : Int) = 0))) (fun w' => Ext _ w') rfl (VL.op (R.mvS rfl) (VL.op (R.mvS rfl) (VL.op (R.mvS rfl) (VL.callP Try.call11 rfl (few_spec a sa oa c cs co edges.length same.length other.length 30 _) fun w2_3 e2_3 => VL.op (R.not rfl) (VL.op (R.mvB rfl) (VL.or rfl rfl (fun g2_5 => VL.op (R.mvS rfl) (VL.gT rfl rfl (VL.op (R.lenS Try.runUnderlying24 rfl) (VL.gT rfl rfl (VL.op (R.gtr rfl rfl) (VL.op (R.pickFB rfl rfl) (VL.op (R.mvB rfl) (VL.orP rfl rfl (fun g2_10 => VL.op (R.mvS rfl) (VL.gT rfl rfl (VL.op (R.lenS Try.runUnderlying23 rfl) (VL.gT rfl rfl (VL.op (R.eql rfl rfl) (VL.op (R.pickFB rfl rfl) (VL.nil ⟨rfl, cutB rfl ?_, e2_3⟩))))))) (fun g2_10 => VL.gF rfl rfl (VL.gF rfl rfl (VL.op (R.pickTB rfl rfl) (VL.nil ⟨rfl, cutB rfl ?_, e2_3⟩)))))))))))) (fun g2_5 => VL.gF rfl rfl (VL.gF rfl rfl (VL.op (R.pickTB rfl rfl) (VL.op (R.mvB rfl) (VL.gF rfl rfl (VL.gF rfl rfl (VL.gF rfl rfl (VL.op (R.pickTB rfl rfl) (VL.nil ⟨rfl, cutB rfl ?_, e2_3⟩))))))))))))))) (fun rg2 w2c e2c => V.cond rfl (fun c33 => V.seq (V.region (VL.op (R.mvB rfl) (VL.op (R.asB rfl) (VL.nil (V.ret (fret1 (v := .bool _) rfl rfl rfl (⟨rfl, (e1_0.trans e2c)⟩)))))))) (fun c33 => V.skip (V.seq (?_))))))))))))))
  · have h1 : fewB same.length edges.length other.length 30 = true := by simpa using g2_5
    rw [h1, decide_eq_false g2_10]; rfl
  · rw [decide_eq_true g2_10]; simp
  · rw [g2_5]; rfl
  · have hb : (fewB same.length edges.length other.length 30 = true ∧ ¬ 39 < (other.length : Int)) ∧ ¬ (same.length : Int) = 0 := by
      simpa only [Bool.or_eq_false_iff, decide_eq_false_iff_not, Bool.not_eq_false'] using c33
    have hf := few_iff hb.1.1
    have hn0 := hb.2
    have ho39 := hb.1.2
    have E0 := e1_0.trans e2c
    have hS := hS.ext E0
    have hI := hI.ext E0
    have hO := hO.ext E0
    refine V.region (VL.op (R.mvS rfl) (VL.op (R.mvS rfl) (VL.op (R.mvS rfl) (VL.callX Try.call12 rfl (cluster_spec a sa oa c cs co edges same other _ (by omega) (by omega) (by omega) hS hI hO) fun u w4 hu e4 => VL.op (R.mvT rfl) (VL.op (R.extr rfl rfl) (VL.op (R.extr rfl rfl) (VL.op (R.asS rfl) (VL.op (R.asI rfl) (VL.nil (V.seq (V.region (VL.op (R.mvI rfl) (VL.op (R.conv Try.runUnderlying5 Try.runUnderlying3 rfl ?_) (VL.op (R.mvS rfl) (VL.op (R.lenS Try.runUnderlying23 rfl) (VL.op (R.rem rfl rfl (by omega) (by omega)) (VL.op (R.asI rfl) (VL.nil (V.seq (V.region (VL.op (R.mvI rfl) (VL.op (R.conv Try.runUnderlying5 Try.runUnderlying3 rfl ?_) (VL.op (R.mvS rfl) (VL.op (R.lenS Try.runUnderlying23 rfl) (VL.op (R.rem rfl rfl (by omega) (by omega)) (VL.op (R.asI rfl) (VL.nil (V.seq (V.seq (?_))))))))))))))))))))))))))))))
    · exact wrap_i64 (by omega) (by omega)
    · exact wrap_i64 (by omega) (by omega)
    · obtain ⟨ua, uc, L, e⟩ := u
      obtain ⟨hL, _, hR⟩ := hu
      dsimp only at hL hR ⊢
      obtain ⟨p, hp⟩ : ∃ p, p = x % (same.length : Int) := ⟨_, rfl⟩
      obtain ⟨q, hq⟩ : ∃ q, q = y % (same.length : Int) := ⟨_, rfl⟩
      have hpb : 0 ≤ p ∧ p < same.length := by rw [hp]; exact ⟨Int.emod_nonneg _ (by omega), Int.emod_lt_of_pos _ (by omega)⟩
      have hqb : 0 ≤ q ∧ q < same.length := by rw [hq]; exact ⟨Int.emod_nonneg _ (by omega), Int.emod_lt_of_pos _ (by omega)⟩
      rw [← hp, ← hq]
      clear hp hq
      have hR0 := hR
      have hlen : e = 0 → L.length = same.length := fun he => by
        unfold CluR at hR
        split at hR
        · exact clu_len hR.2
        · omega
      refine V.regionCut [52, 53, 54, 55, 56, 57, 58, 59, 60] 60 (.bool false) (fun w' => Ext _ w') rfl (VL.op (R.mvI rfl) (VL.op (R.eql rfl rfl) (VL.op (R.mvB rfl) (VL.andP rfl rfl (fun g7_2 => VL.op (R.mvS rfl) (VL.gT rfl rfl (VL.op (R.lenS Try.runUnderlying23 rfl) (VL.gT rfl rfl (VL.op (R.mvS rfl) (VL.gT rfl rfl (VL.op (R.lenS Try.runUnderlying23 rfl) (VL.gT rfl rfl (VL.op (R.neq rfl rfl) (VL.op (R.pickTB rfl rfl) (VL.nil ⟨rfl, cutB rfl ?_, Mod.refl _ _⟩))))))))))) (fun g7_2 => VL.gF rfl rfl (VL.gF rfl rfl (VL.gF rfl rfl (VL.gF rfl rfl (VL.op (R.pickFB rfl rfl) (VL.nil ⟨rfl, cutB rfl ?_, Mod.refl _ _⟩)))))))))) (fun rg7 w7c e7c => V.cond rfl (fun c60 => V.seq (V.region (VL.op (R.asB rfl) (VL.nil (V.ret (fret1 (v := .bool _) rfl rfl rfl (⟨?_, (E0.trans e4).trans e7c⟩))))))) (fun c60 => V.skip (V.seq (V.seq (V.regionQCut mixed 13 (by kernel_rfl) rfl (fun w' => Ext _ w') (Ext.drawn _) [61, 62, 63, 64, 65, 66, 67, 68, 69, 70, 71, 72, 73] 73 (.bool (decide (e ≠ 0) || decide (at_ L p = at_ L q))) rfl (VQ.op (fun wq eq => R.mvI rfl) (VQ.op (fun wq eq => R.neq rfl rfl) (VQ.op (fun wq eq => R.mvB rfl) (VQ.orP rfl rfl (fun g9_2 => VQ.op (fun wq eq => R.mvS rfl) (VQ.gT rfl rfl (VQ.op (fun wq eq => R.mvI rfl) (VQ.gT rfl rfl (VQ.op (fun wq eq => R.ixS Try.runUnderlying23 Try.sizeOf3 rfl rfl (by have := hlen (by omega); omega) (by have := hlen (by omega); omega) ((hL).some (i := p.toNat) (by have := hlen (by omega); omega))) (VQ.gT rfl rfl (VQ.op (fun wq eq => R.ld1 Try.isAgg3 rfl (((((hL).ext (e7c.trans eq)).row (i := p.toNat) (by have := hlen (by omega); omega)).cell (i := 0) rfl))) (VQ.gT rfl rfl (VQ.op (fun wq eq => R.mvS rfl) (VQ.gT rfl rfl (VQ.op (fun wq eq => R.mvI rfl) (VQ.gT rfl rfl (VQ.op (fun wq eq => R.ixS Try.runUnderlying23 Try.sizeOf3 rfl rfl (by have := hlen (by omega); omega) (by have := hlen (by omega); omega) ((hL).some (i := q.toNat) (by have := hlen (by omega); omega))) (VQ.gT rfl rfl (VQ.op (fun wq eq => R.ld1 Try.isAgg3 rfl (((((hL).ext (e7c.trans eq)).row (i := q.toNat) (by have := hlen (by omega); omega)).cell (i := 0) rfl))) (VQ.gT rfl rfl (VQ.op (fun wq eq => R.eql rfl rfl) (VQ.op (fun wq eq => R.pickFB rfl rfl) (VQ.nil (cutB rfl ?_)))))))))))))))))))) (fun g9_2 => VQ.gF rfl rfl (VQ.gF rfl rfl (VQ.gF rfl rfl (VQ.gF rfl rfl (VQ.gF rfl rfl (VQ.gF rfl rfl (VQ.gF rfl rfl (VQ.gF rfl rfl (VQ.op (fun wq eq => R.pickTB rfl rfl) (VQ.nil (cutB rfl ?_))))))))))))))) (fun rg9 w9c e9c => V.cond rfl (fun c73 => V.seq (V.region (VL.op (R.mvB rfl) (VL.op (R.asB rfl) (VL.nil (V.ret (fret1 (v := .bool _) rfl rfl rfl (⟨?_, (E0.trans e4).trans (e7c.trans e9c)⟩)))))))) (fun c73 => V.skip (V.seq (?_)))))))))
      · rw [decide_eq_false (by rw [hlen g7_2]; exact fun h => h rfl)]
      · rfl
      · cases c60
      · have he : e = 0 := Classical.not_not.1 g9_2
        rw [decide_eq_false g9_2, Bool.false_or]; rfl
      · rw [decide_eq_true g9_2]; rfl
      · rfl
      · rw [Bool.or_eq_false_iff, decide_eq_false_iff_not, decide_eq_false_iff_not] at c73
        have he : e = 0 := Classical.not_not.1 c73.1
        have E5 := E0.trans (e4.trans (e7c.trans e9c))
        have E4 := e4.trans (e7c.trans e9c)
        have hS := hS.ext E4
        have hI := hI.ext E4
        have hO := hO.ext E4
        have hL := hL.ext (e7c.trans e9c)
        refine V.region (VL.op (R.mvS rfl) (VL.op (R.mvS rfl) (VL.buildSl Try.runUnderlying24 Try.sizeOf42 Try.zeroValue42 rfl rfl rfl fun b2 w2 hb2 e2 hX2 => VL.op (R.mvS rfl) (VL.appendT el24 (fun _ => rfl) rfl (rfl) ((OwnT.of0 encPr 2 hX2 (Nat.le_of_eq (Eq.symm hb2)))) rfl (rfl) ((hO.ext e2)) (hoc) (by simp; omega) (by simp [maxLen]; omega) e2.size (Nat.zero_add _) fun a5 c5 w5 ho5 m5 hf5 => VL.op (R.mvI rfl) (VL.op (R.mvI rfl) (VL.op (R.buildArr Try.zeroValue42 Try.runUnderlying42 Try.sizeOf3 rfl) (VL.append1 el24 Try.runUnderlying24 Try.sizeOf42 Try.zeroValue42 rfl (((p, q) : Int × Int)) rfl rfl rfl ho5 rfl rfl rfl (by show (other.length + 1) * 16 ≤ _; omega) (by show other.length + 1 ≤ maxLen; unfold maxLen; omega) ((Mod.ownA e2 m5 (fun k hk => (OwnSl.blk (OwnT.of0 encPr 2 hX2 (Nat.le_of_eq (Eq.symm hb2))) k hk).1))).size fun a6 c6 w6 vt6 ho6 m6 hf6 => VL.callX Try.call12 rfl (cluster_specN a sa a6 c cs c6 _ _ _ edges same (other ++ [(p, q)]) _ rfl rfl (by simp) (by omega) (by omega) (by simp; omega) (hS.ext (Mod.ownA (Mod.ownA e2 m5 (fun k hk => (OwnSl.blk (OwnT.of0 encPr 2 hX2 (Nat.le_of_eq (Eq.symm hb2))) k hk).1)) m6 (fun k hk => (OwnSl.blk ho5 k hk).1))) (hI.ext (Mod.ownA (Mod.ownA e2 m5 (fun k hk => (OwnSl.blk (OwnT.of0 encPr 2 hX2 (Nat.le_of_eq (Eq.symm hb2))) k hk).1)) m6 (fun k hk => (OwnSl.blk ho5 k hk).1))) ho6.sl) fun v w7 hv e7 => VL.op (R.mvT rfl) (VL.op (R.extr rfl rfl) (VL.op (R.extr rfl rfl) (VL.op (R.asS rfl) (VL.op (R.asI rfl) (VL.nil (V.seq (?_))))))))))))))
        obtain ⟨va, vc, L', e'⟩ := v
        obtain ⟨hL', _, hR'⟩ := hv
        dsimp only at hL' hR' ⊢
        have hR' : CluR edges same (other ++ [(p, q)]) L' e' := hR'
        obtain ⟨rfl, rfl⟩ := further_law hR hR' hpb hqb fun _ => c73.2
        have E7 : Ext w9c w7 := ((e2.ownA m5 fun k hk => ?_).ownA m6 fun k hk => ?_).trans e7
        · refine V.region (VL.op (R.mvB rfl) (VL.op (R.mvB rfl) (VL.and rfl rfl (fun g12_1 => VL.op (R.mvI rfl) (VL.gT rfl rfl (VL.op (R.eql rfl rfl) (VL.op (R.pickTB rfl rfl) (VL.op (R.mvB rfl) (VL.andP rfl rfl (fun g12_5 => VL.op (R.mvS rfl) (VL.gT rfl rfl (VL.op (R.mvS rfl) (VL.gT rfl rfl (VL.callP Try.call14 rfl (ints_spec ua va uc vc L L _ ?_ (TSl.ext hL (E7.trans (Mod.refl _ _))) (TSl.ext hL' (Mod.refl _ _))) fun w12_8 e12_8 => VL.op (R.pickTB rfl rfl) (VL.op (R.asB rfl) (VL.nil (V.ret (fret1 (v := .bool _) rfl rfl rfl (⟨?_, E5.trans (E7.trans e12_8)⟩)))))))))) (fun g12_5 => VL.gF rfl rfl (VL.gF rfl rfl (VL.op (R.pickFB rfl rfl) (VL.op (R.asB rfl) (VL.nil (V.ret (fret1 (v := .bool _) rfl rfl rfl (⟨?_, E5.trans (E7.trans (Mod.refl _ _))⟩)))))))))))))) (fun g12_1 => VL.gF rfl rfl (VL.op (R.pickFB rfl rfl) (VL.op (R.mvB rfl) (VL.gF rfl rfl (VL.gF rfl rfl (VL.gF rfl rfl (VL.op (R.pickFB rfl rfl) (VL.op (R.asB rfl) (VL.nil (V.ret (fret1 (v := .bool _) rfl rfl rfl (⟨?_, E5.trans (E7.trans (Mod.refl _ _))⟩)))))))))))))))
          · have := hlen he; omega
          · rw [decide_eq_true rfl]
          · exact absurd he g12_5
          · contradiction
        · have := aBlk_some hk; omega
        · exact ho5.ge k hk
end Go.Proofs.Ytglaigeellpikaa

/- Cluster: the evidence, given otherwise. -/
namespace Go.Proofs.Ytglaigeellpikaa
open Go.Vc

def dblE (part : Int) (l : List Ed) : List Ed := l.flatMap fun e => [⟨e.b, e.a, e.w - part⟩, ⟨e.a, e.b, part⟩]
def swpP (l : List (Int × Int)) : List (Int × Int) := l.map fun p => (p.2, p.1)
theorem dblE_snoc (part : Int) (l : List Ed) (e : Ed) : dblE part (l ++ [e]) = dblE part l ++ [⟨e.b, e.a, e.w - part⟩, ⟨e.a, e.b, part⟩] := by
  unfold dblE; rw [List.flatMap_append]; rfl
theorem dblE_len (part : Int) (l : List Ed) : (dblE part l).length = 2 * l.length := by
  induction l with
  | nil => rfl
  | cons e l ih => unfold dblE at ih ⊢; rw [List.flatMap_cons, List.length_append, ih]; simp only [List.length_cons, List.length_nil]; omega
theorem dblE_sum (part : Int) (f : Ed → Int) (l : List Ed) : sm ((dblE part l).map f) = sm (l.map fun e => f ⟨e.b, e.a, e.w - part⟩ + f ⟨e.a, e.b, part⟩) := by
  induction l with
  | nil => rfl
  | cons e l ih =>
    unfold dblE at ih ⊢
    rw [List.flatMap_cons, List.map_append, sm_app, ih]
    show (f _ + (f _ + 0)) + _ = (f ⟨e.b, e.a, e.w - part⟩ + f ⟨e.a, e.b, part⟩) + sm _
    omega
theorem dbl_wt (same : List Int) (part : Int) (edges : List Ed) (a b : Int) : wtG same (dblE part edges.reverse) a b = wtG same edges a b := by
  unfold wtG
  rw [gW_val, gW_val, dblE_sum]
  have h1 : ∀ e : Ed, (if ofP same ⟨e.b, e.a, e.w - part⟩ a b then (⟨e.b, e.a, e.w - part⟩ : Ed).w else 0) + (if ofP same ⟨e.a, e.b, part⟩ a b then (⟨e.a, e.b, part⟩ : Ed).w else 0) = if ofP same e a b then e.w else 0 := fun e => by
    have h2 : ofP same ⟨e.b, e.a, e.w - part⟩ a b ↔ ofP same e a b := by
      unfold ofP
      dsimp only
      rw [ordF_comm]
      exact and_congr ⟨fun h q => h q.symm, fun h q => h q.symm⟩ Iff.rfl
    have h3 : ofP same ⟨e.a, e.b, part⟩ a b ↔ ofP same e a b := Iff.rfl
    by_cases h : ofP same e a b
    · rw [if_pos (h2.2 h), if_pos (h3.2 h), if_pos h]; show e.w - part + part = _; omega
    · rw [if_neg (fun q => h (h2.1 q)), if_neg (fun q => h (h3.1 q)), if_neg h]; rfl
  rw [sm_congr _ _ fun e _ => h1 e]
  exact sm_perm (List.reverse_perm edges |>.map _)
theorem swp_ap (same : List Int) (other : List (Int × Int)) (a b : Int) : apG same (swpP other.reverse) a b = apG same other a b := by
  have : apG same (swpP other.reverse) a b = true ↔ apG same other a b = true := by
    unfold apG
    rw [gA_true, gA_true]
    constructor
    · rintro ⟨p, hp, h1, h2⟩
      obtain ⟨q, hq, rfl⟩ := List.mem_map.1 hp
      refine ⟨q, List.mem_reverse.1 hq, fun h => h1 h.symm, ?_⟩
      rw [ordF_comm]; exact h2
    · rintro ⟨p, hp, h1, h2⟩
      refine ⟨(p.2, p.1), List.mem_map.2 ⟨p, List.mem_reverse.2 hp, rfl⟩, fun h => h1 h.symm, ?_⟩
      rw [ordF_comm]; exact h2
  cases h1 : apG same (swpP other.reverse) a b <;> cases h2 : apG same other a b <;> simp_all
theorem evid_ok {same : List Int} {edges : List Ed} {other : List (Int × Int)} {part : Int} (hm : edges.length ≤ 1000) (hp : -32768 ≤ part ∧ part < 32768) (hw : ∀ e ∈ edges, -999960000 ≤ e.w ∧ e.w ≤ 999960000) : okB same edges other = okB same (dblE part edges.reverse) (swpP other.reverse) := by
  have h1 : linkB same.length edges = linkB same.length (dblE part edges.reverse) := by
    have : linkB same.length edges = true ↔ linkB same.length (dblE part edges.reverse) = true := by
      rw [linkB_iff, linkB_iff, dblE_len, List.length_reverse]
      constructor
      · rintro ⟨_, h⟩
        refine ⟨by omega, fun e he => ?_⟩
        unfold dblE at he
        obtain ⟨x, hx, he⟩ := List.mem_flatMap.1 he
        have h1 := h x (List.mem_reverse.1 hx)
        have h2 := hw x (List.mem_reverse.1 hx)
        rcases List.mem_cons.1 he with he | he
        · rw [he]; dsimp only; omega
        · rw [List.mem_singleton.1 he]; dsimp only; omega
      · rintro ⟨_, h⟩
        refine ⟨by omega, fun e he => ?_⟩
        have h2 := hw e he
        have h1 := h ⟨e.a, e.b, part⟩ (List.mem_flatMap.2 ⟨e, List.mem_reverse.2 he, by simp⟩)
        dsimp only at h1
        omega
    cases h1 : linkB same.length edges <;> cases h2 : linkB same.length (dblE part edges.reverse) <;> simp_all
  have h2 : pairB same.length other = pairB same.length (swpP other.reverse) := by
    have : pairB same.length other = true ↔ pairB same.length (swpP other.reverse) = true := by
      rw [pairB_iff, pairB_iff]
      constructor
      · intro h p hp
        obtain ⟨q, hq, rfl⟩ := List.mem_map.1 hp
        have := h q (List.mem_reverse.1 hq)
        exact ⟨this.2.1, this.1, this.2.2.2, this.2.2.1⟩
      · intro h p hp
        have := h (p.2, p.1) (List.mem_map.2 ⟨p, List.mem_reverse.2 hp, rfl⟩)
        exact ⟨this.2.1, this.1, this.2.2.2, this.2.2.1⟩
    cases h1 : pairB same.length other <;> cases h2 : pairB same.length (swpP other.reverse) <;> simp_all
  unfold okB
  rw [h1, h2]
theorem evid_law {same : List Int} {edges : List Ed} {other : List (Int × Int)} {part : Int} {L L' : List Int} {e e' : Int} (hm : edges.length ≤ 1000) (hp : -32768 ≤ part ∧ part < 32768) (hw : ∀ e ∈ edges, -999960000 ≤ e.w ∧ e.w ≤ 999960000)
    (h : CluR edges same other L e) (h' : CluR (dblE part edges.reverse) same (swpP other.reverse) L' e') : L = L' ∧ e = e' := by
  refine cluR_eq h h' (evid_ok hm hp hw) fun k k' hc => ?_
  refine clu_congr k k' (fun a b => by rw [dbl_wt]) (fun g hg hs hsol => ?_) hc
  exact sol_congr (grp_facts k.v k.ok hg).1 (fun c _ d _ _ => (dbl_wt same part edges c d).symm) (fun c _ d _ => (swp_ap same other c d).symm) hsol
theorem rev_drop {α : Type} [Inhabited α] {l : List α} {q : Nat} (h : q < l.length) : (l.drop q).reverse = (l.drop (q + 1)).reverse ++ [l.getD q default] := by
  rw [List.drop_eq_getElem_cons h, List.reverse_cons]; simp [List.getD, h]
/-- Two edges as they lie. -/
def SB2 (B : Nat) (e1 e2 : Ed) (u : Value) (w : World) : Prop := ∃ b, u = .slice (some ⟨b, 0, none⟩) 2 2 ∧ B ≤ b ∧ EdSl w (some ⟨b, 0, none⟩) [e1, e2]
theorem bs2 {d : Option Tmp} {p : String} {af : Array Edge} {g : Option (Nat × Bool)} {x1 x2 : Operand} {ρ : Env} {w : World} {ty : TypeId} {e1 e2 : Ed} {B : Nat} (h1 : tm ρ x1 = .agg (encEd e1).toArray) (h2 : tm ρ x2 = .agg (encEd e2).toArray) (hB : B ≤ w.heap.size) :
    yieldsR Try.prog ρ { dst := d, op := .buildSlice 22 2 [(0, x1), (1, x2)].toArray, type := ty, pos := p, after := af, guard := g } w fun u w' => SB2 B e1 e2 u w' ∧ Ext w w' := by
  refine yieldsR_op (R.buildSl (n := 2) Try.runUnderlying22 Try.sizeOf40 Try.zeroValue40 rfl rfl rfl ?_) ⟨⟨w.heap.size, rfl, hB, ?_⟩, Ext.alloc _ _⟩
  · simp only [List.map_cons, List.map_nil, h1, h2]; rfl
  · refine litT (c := _) (T := 40) (Blk.alloc _ _) ?_ fun _ => rfl
    simp only [List.map_cons, List.map_nil, h1, h2]; rfl
set_option maxRecDepth 100000 in
set_option maxHeartbeats 8000000 in
theorem law6_spec (a sa oa : Option Addr) (c cs co : Nat) (edges : List Ed) (same : List Int) (other : List (Int × Int)) (part : Int) (w : World) (hS : EdSl w a edges) (hI : IntSl w sa same) (hO : PrSl w oa other) (hp : -32768 ≤ part ∧ part < 32768) :
    RetsP Try.prog 6 #[.slice a edges.length c, .slice sa same.length cs, .slice oa other.length co, .int .i16 part] w (.bool true) := by
  refine enter (args := [_, _, _, _]) Try.func6 rfl Try.ntmps6 (by kernel_rfl) rfl ?_
  refine V.seq (V.region (VL.op (R.asB rfl) (VL.nil (V.seq (V.region (VL.callP Try.call10 rfl (head_spec _) fun w1_0 e1_0 => VL.op (R.asB rfl) (VL.nil (V.seq (V.seq (V.regionCut [20, 21, 22, 23, 24, 25, 26, 27, 28, 29] 29 (.bool (!fewB same.length edges.length other.length 30 || decide (40 < (edges.length : Int)))) (fun w' => Ext _ w') rfl (VL.op (R.mvS rfl) (VL.op (R.mvS rfl) (VL.op (R.mvS rfl) (VL.callP Try.call11 rfl (few_spec a sa oa c cs co edges.length same.length other.length 30 _) fun w2_3 e2_3 => VL.op (R.not rfl) (VL.op (R.mvB rfl) (VL.or rfl rfl (fun g2_5 => VL.op (R.mvS rfl) (VL.gT rfl rfl (VL.op (R.lenS Try.runUnderlying22 rfl) (VL.gT rfl rfl (VL.op (R.gtr rfl rfl) (VL.op (R.pickFB rfl rfl) (VL.nil ⟨rfl, cutB rfl ?_, e2_3⟩))))))) (fun g2_5 => VL.gF rfl rfl (VL.gF rfl rfl (VL.op (R.pickTB rfl rfl) (VL.nil ⟨rfl, cutB rfl ?_, e2_3⟩)))))))))) (fun rg2 w2c e2c => V.cond rfl (fun c29 => V.seq (V.region (VL.op (R.mvB rfl) (VL.op (R.asB rfl) (VL.nil (V.ret (fret1 (v := .bool _) rfl rfl rfl (⟨rfl, (e1_0.trans e2c)⟩)))))))) (fun c29 => V.skip (V.seq (?_))))))))))))))
  · have h1 : fewB same.length edges.length other.length 30 = true := by simpa using g2_5
    rw [h1]; rfl
  · rw [g2_5]; rfl
  have hb : fewB same.length edges.length other.length 30 = true ∧ ¬ 40 < (edges.length : Int) := by
    simpa only [Bool.or_eq_false_iff, decide_eq_false_iff_not, Bool.not_eq_false'] using c29
  have hf := few_iff hb.1
  have hE40 := hb.2
  have E0 := e1_0.trans e2c
  have hS := hS.ext E0
  have hI := hI.ext E0
  have hO := hO.ext E0
  refine V.region (VL.op (R.asS rfl) (VL.nil (V.cut [0, 1, 2, 3, 9, 10] (fun x : Option Addr × Nat => [.slice a edges.length c, .slice sa same.length cs, .slice oa other.length co, .int .i16 part, .bool true, .slice x.1 (dblE part edges.reverse).length x.2]) (fun x w' => Ext w2c w' ∧ EdSl w' x.1 (dblE part edges.reverse) ∧ ∀ e ∈ edges, -999960000 ≤ e.w ∧ e.w ≤ 999960000) (V.seq (V.region (VL.op (R.mvS rfl) (VL.op (R.lenS Try.runUnderlying22 rfl) (VL.op (R.sub rfl rfl (by omega) (by omega)) (VL.op (R.asI rfl) (VL.nil (V.block (?_))))))))) (fun rgB0 xB0 wBB0 hBB0 => V.seq (V.region (VL.op (R.asS rfl) (VL.nil (V.cut [0, 1, 2, 9, 10, 13] (fun y : Option Addr × Nat => [.slice a edges.length c, .slice sa same.length cs, .slice oa other.length co, .bool true, .slice xB0.1 (dblE part edges.reverse).length xB0.2, .slice y.1 (swpP other.reverse).length y.2]) (fun y w' => Ext wBB0 w' ∧ PrSl w' y.1 (swpP other.reverse)) (V.seq (V.region (VL.op (R.mvS rfl) (VL.op (R.lenS Try.runUnderlying24 rfl) (VL.op (R.sub rfl rfl (by omega) (by omega)) (VL.op (R.asI rfl) (VL.nil (V.block (?_))))))))) (fun rgB2 xB2 wBB2 hBB2 => V.seq (?_))))))))))
  · refine V.loop [0, 1, 2, 3, 9, 10, 11] (fun x : Int × Option Addr × Nat × List Ed => [.slice a edges.length c, .slice sa same.length cs, .slice oa other.length co, .int .i16 part, .bool true, .slice x.2.1 x.2.2.2.length x.2.2.1, .int .i64 x.1])
      (fun x w' => -1 ≤ x.1 ∧ x.1 < edges.length ∧ Ext w2c w' ∧ x.2.2.2 = dblE part (edges.drop (x.1 + 1).toNat).reverse ∧ OwnT encEd 3 40 w2c.heap.size w' x.2.1 x.2.2.1 x.2.2.2 ∧ ∀ e ∈ edges.drop (x.1 + 1).toNat, -999960000 ≤ e.w ∧ e.w ≤ 999960000) (fun x => (x.1 + 1).toNat) ((edges.length : Int) - 1, none, 0, []) rfl
      ⟨by dsimp only; omega, by dsimp only; omega, Mod.refl _ _, ?_, OwnT.nil _ _ _ _ _, ?_⟩ ?_
    · dsimp only; rw [show ((edges.length : Int) - 1 + 1).toNat = edges.length by omega, List.drop_length]; rfl
    · dsimp only; rw [show ((edges.length : Int) - 1 + 1).toNat = edges.length by omega, List.drop_length]; intro e he; cases he
    rintro ρ ⟨j, a10, c10, l⟩ w3 ⟨h1, h2, e3, hl, hO3, hw3⟩
    dsimp only at h1 h2 e3 hl hO3 hw3 ⊢
    refine V.seq (V.seq (V.region (VL.op (R.mvI rfl) (VL.op (R.geq rfl rfl) (VL.nil (V.condP rfl (fun c35 => V.skip (V.seq (V.block (V.seq (?_))))) (fun c35 => V.exit (?_))))))))
    · obtain ⟨q, rfl⟩ : ∃ q : Nat, j = q := ⟨j.toNat, by omega⟩
      have hql : q < edges.length := by omega
      rw [show ((q : Int) + 1).toNat = q + 1 by omega] at hl hw3
      obtain ⟨ed, hed⟩ : ∃ ed, ed = edges.getD q default := ⟨_, rfl⟩
      have hl2 : l.length ≤ 80 := by rw [hl, dblE_len, List.length_reverse, List.length_drop]; omega
      refine V.region (VL.op (R.mvS rfl) (VL.op (R.mvI rfl) (VL.op (R.ixS Try.runUnderlying22 Try.sizeOf40 rfl rfl (by omega) (by omega) ((hS).some (i := q) (by omega))) (VL.op (R.ldA Try.isAgg40 Try.sizeOf40 rfl rfl ((show RowAt _ _ _ (encEd (edges.getD q default)) from (((hS).ext e3).row (i := q) (by omega)))) rfl) (VL.allocSt (v := .agg (encEd (edges.getD q default)).toArray) Try.zeroValue40 Try.sizeOf40 rfl rfl rfl rfl rfl fun b8_4 w8_4 hb8_4 e8_4 hB8_4 => VL.nil (V.seq (V.seq (V.region (VL.op (R.fld' (o := 2) Try.runUnderlying40 rfl rfl Try.sizeOf3 rfl rfl) (VL.op (R.ld1 Try.isAgg3 rfl (hB8_4.cell _)) (VL.op (R.lss rfl rfl) (VL.op (R.mvB rfl) (VL.orP rfl rfl (fun g9_3 => VL.op (R.fld' (o := 2) Try.runUnderlying40 rfl rfl Try.sizeOf3 rfl rfl) (VL.gT rfl rfl (VL.op (R.ld1 Try.isAgg3 rfl (hB8_4.cell _)) (VL.gT rfl rfl (VL.op (R.gtr rfl rfl) (VL.op (R.pickFB rfl rfl) (VL.nil (V.condP rfl (fun c49 => V.seq (V.region (VL.op (R.mvB rfl) (VL.op (R.asB rfl) (VL.nil (V.ret (fret1 (v := .bool _) rfl rfl rfl (?_)))))))) (fun c49 => V.skip (?_)))))))))) (fun g9_3 => VL.gF rfl rfl (VL.gF rfl rfl (VL.op (R.pickTB rfl rfl) (VL.nil (V.condT rfl (V.seq (V.region (VL.op (R.mvB rfl) (VL.op (R.asB rfl) (VL.nil (V.ret (fret1 (v := .bool _) rfl rfl rfl (?_))))))))))))))))))))))))))
      · exact ⟨rfl, E0.trans (e3.trans e8_4)⟩
      · rw [← hed] at g9_3 c49
        have hB8 : Blk w8_4 b8_4 (.cells (encEd ed).toArray 40 (0, 0)) := by rw [hed]; exact hB8_4
        clear hB8_4
        refine V.regionS mixed 19 (by kernel_rfl) rfl (fun us => VS.op (fun wq eq => R.mvS rfl) (VS.op (fun wq eq => R.fld' (o := 1) Try.runUnderlying40 rfl rfl Try.sizeOf3 rfl rfl) (VS.op (fun wq eq => R.ld1 Try.isAgg3 rfl ((hB8.ext eq).cell 1)) (VS.op (fun wq eq => R.fld' (o := 0) Try.runUnderlying40 rfl rfl Try.sizeOf3 rfl rfl) (VS.op (fun wq eq => R.ld1 Try.isAgg3 rfl ((hB8.ext eq).cell 0)) (VS.op (fun wq eq => R.fld' (o := 2) Try.runUnderlying40 rfl rfl Try.sizeOf3 rfl rfl) (VS.op (fun wq eq => R.ld1 Try.isAgg3 rfl ((hB8.ext eq).cell 2)) (VS.op (fun wq eq => R.mvI rfl) (VS.op (fun wq eq => R.conv Try.runUnderlying38 Try.runUnderlying3 rfl (wrap_i64 (by omega) (by omega))) (VS.op (fun wq eq => R.sub rfl rfl (by omega) (by omega)) (VS.callP Try.call23 rfl (fun wq eq => mkEdge_spec ed.b ed.a (ed.w - part) _) (VS.op (fun wq eq => R.fld' (o := 0) Try.runUnderlying40 rfl rfl Try.sizeOf3 rfl rfl) (VS.op (fun wq eq => R.ld1 Try.isAgg3 rfl ((hB8.ext eq).cell 0)) (VS.op (fun wq eq => R.fld' (o := 1) Try.runUnderlying40 rfl rfl Try.sizeOf3 rfl rfl) (VS.op (fun wq eq => R.ld1 Try.isAgg3 rfl ((hB8.ext eq).cell 1)) (VS.op (fun wq eq => R.mvI rfl) (VS.op (fun wq eq => R.conv Try.runUnderlying38 Try.runUnderlying3 rfl (wrap_i64 (by omega) (by omega))) (VS.callP Try.call23 rfl (fun wq eq => mkEdge_spec ed.a ed.b part _) (VS.spec (SB2 w8_4.heap.size ⟨ed.b, ed.a, ed.w - part⟩ ⟨ed.a, ed.b, part⟩) (fun _ _ _ _ ⟨b, hb, hz, hT⟩ e2 => ⟨b, hb, hz, hT.ext e2⟩) rfl (fun wq eq hq => bs2 rfl rfl eq.size) (VS.nil (fun w11 e11 h11 => ?_))))))))))))))))))))) rfl
        obtain ⟨b18, hb18, hz18, hT18⟩ := h11 18
        rw [show us 18 = _ from hb18]
        refine VL.appendT el22 (fun _ => rfl) rfl (rfl) ((hO3.ext (e8_4.trans e11))) rfl ( (show 2 = [(⟨ed.b, ed.a, ed.w - part⟩ : Ed), ⟨ed.a, ed.b, part⟩].length from rfl)) (hT18) ((fun h => by cases h)) (by simp; omega) (by simp [maxLen]; omega) (Nat.le_trans e3.size (Nat.le_trans e8_4.size e11.size)) rfl fun a9 c9 w19 ho19 m19 hf19 => VL.op (R.asS rfl) (VL.nil (V.region (VL.op (R.mvI rfl) (VL.op (R.sub rfl rfl (by omega) (by omega)) (VL.op (R.asI rfl) (VL.nil (?_)))))))
        have E11 := e3.trans (e8_4.trans e11)
        refine ⟨((q : Int) - 1, a9, c9, l ++ [⟨ed.b, ed.a, ed.w - part⟩, ⟨ed.a, ed.b, part⟩]), by dsimp only; rw [List.length_append]; rfl, ⟨by dsimp only; omega, by dsimp only; omega, E11.ownA m19 fun k hk => hO3.ge k hk, ?_, ho19, ?_⟩, by dsimp only; omega⟩
        · dsimp only
          rw [show ((q : Int) - 1 + 1).toNat = q by omega, rev_drop hql, dblE_snoc, ← hl, ← hed]
        · dsimp only
          rw [show ((q : Int) - 1 + 1).toNat = q by omega, List.drop_eq_getElem_cons hql]
          intro e he
          rcases List.mem_cons.1 he with he | he
          · rw [he, show edges[q] = ed by rw [hed]; simp [List.getD, hql]]; omega
          · exact hw3 e he
      · exact ⟨rfl, E0.trans (e3.trans e8_4)⟩
    · obtain rfl : j = -1 := by omega
      have hl : l = dblE part edges.reverse := hl
      subst hl
      exact ⟨(a10, c10), rfl, e3, hO3.sl, hw3⟩
  · obtain ⟨eB, hT, hw⟩ := hBB0
    refine V.loop [0, 1, 2, 9, 10, 13, 14] (fun x : Int × Option Addr × Nat × List (Int × Int) => [.slice a edges.length c, .slice sa same.length cs, .slice oa other.length co, .bool true, .slice xB0.1 (dblE part edges.reverse).length xB0.2, .slice x.2.1 x.2.2.2.length x.2.2.1, .int .i64 x.1])
      (fun x w' => -1 ≤ x.1 ∧ x.1 < other.length ∧ Ext wBB0 w' ∧ x.2.2.2 = swpP (other.drop (x.1 + 1).toNat).reverse ∧ OwnT encPr 2 42 wBB0.heap.size w' x.2.1 x.2.2.1 x.2.2.2) (fun x => (x.1 + 1).toNat) ((other.length : Int) - 1, none, 0, []) rfl
      ⟨by dsimp only; omega, by dsimp only; omega, Mod.refl _ _, ?_, OwnT.nil _ _ _ _ _⟩ ?_
    · dsimp only; rw [show ((other.length : Int) - 1 + 1).toNat = other.length by omega, List.drop_length]; rfl
    rintro ρ ⟨j, a13, c13, l⟩ w3 ⟨h1, h2, e3, hl, hO3⟩
    dsimp only at h1 h2 e3 hl hO3 ⊢
    refine V.seq (V.seq (V.region (VL.op (R.mvI rfl) (VL.op (R.geq rfl rfl) (VL.nil (V.condP rfl (fun c75 => V.skip (V.seq (V.block (?_)))) (fun c75 => V.exit (?_))))))))
    · obtain ⟨q, rfl⟩ : ∃ q : Nat, j = q := ⟨j.toNat, by omega⟩
      have hql : q < other.length := by omega
      rw [show ((q : Int) + 1).toNat = q + 1 by omega] at hl
      have hl2 : l.length ≤ 40 := by rw [hl]; unfold swpP; rw [List.length_map, List.length_reverse, List.length_drop]; omega
      have hO2 := hO.ext (eB.trans e3)
      refine V.regionW mixed 13 12 (by kernel_rfl) rfl (C0B _) (C1B _ encPr 2 42 (((other.getD q default).2, (other.getD q default).1) : Int × Int)) (C0B.drawn _) (VW.op (fun wq eq => R.mvS rfl) (VW.op (fun wq eq => R.mvS rfl) (VW.op (fun wq eq => R.mvI rfl) (VW.op (fun wq eq => R.ixS Try.runUnderlying24 Try.sizeOf42 rfl rfl (by omega) (by omega) ((hO2).some (i := q) (by omega))) (VW.op (fun wq eq => R.ixA Try.runUnderlying42 Try.sizeOf3 rfl rfl (by decide) (by decide)) (VW.op0 (fun wq ⟨eq, _⟩ => R.ld1 Try.isAgg3 rfl (((((hO2).ext ((Mod.refl Vc.nob w3).trans eq)).row (i := q) (by omega)).cell (i := 1) rfl))) (VW.op (fun wq eq => R.mvS rfl) (VW.op (fun wq eq => R.mvI rfl) (VW.op (fun wq eq => R.ixS Try.runUnderlying24 Try.sizeOf42 rfl rfl (by omega) (by omega) ((hO2).some (i := q) (by omega))) (VW.op (fun wq eq => R.ixA Try.runUnderlying42 Try.sizeOf3 rfl rfl (by decide) (by decide)) (VW.op0 (fun wq ⟨eq, _⟩ => R.ld1 Try.isAgg3 rfl (((((hO2).ext ((Mod.refl Vc.nob w3).trans eq)).row (i := q) (by omega)).cell (i := 0) rfl))) (VW.op (fun wq eq => R.buildArr Try.zeroValue42 Try.runUnderlying42 Try.sizeOf3 rfl) (VW.build1 Try.runUnderlying24 Try.sizeOf42 Try.zeroValue42 rfl rfl rfl _ rfl rfl rfl (VW.nil fun w16 h16 => VL.appendT el24 (fun _ => rfl) rfl (rfl) ((hO3.ext h16.e)) rfl ( (show 1 = [(((other.getD q default).2, (other.getD q default).1) : Int × Int)].length from rfl)) ((OwnT.sl h16.o)) ((fun h => by cases h)) (by simp; omega) (by simp [maxLen]; omega) (Nat.le_trans e3.size h16.e.size) rfl fun a9 c9 w19 ho19 m19 hf19 => VL.op (R.asS rfl) (VL.nil (V.region (VL.op (R.mvI rfl) (VL.op (R.sub rfl rfl (by omega) (by omega)) (VL.op (R.asI rfl) (VL.nil (?_)))))))))))))))))))))
      refine ⟨((q : Int) - 1, a9, c9, l ++ [((other.getD q default).2, (other.getD q default).1)]), by dsimp only; rw [List.length_append]; rfl, ⟨by dsimp only; omega, by dsimp only; omega, (e3.trans h16.e).ownA m19 fun k hk => hO3.ge k hk, ?_, ho19⟩, by dsimp only; omega⟩
      dsimp only
      rw [show ((q : Int) - 1 + 1).toNat = q by omega, rev_drop hql, hl]
      unfold swpP
      rw [List.map_append]; rfl
    · obtain rfl : j = -1 := by omega
      have hl : l = swpP other.reverse := hl
      subst hl
      exact ⟨(a13, c13), rfl, e3, hO3.sl⟩
  · obtain ⟨eB, hT, hw⟩ := hBB0
    obtain ⟨eB2, hT2⟩ := hBB2
    have EB := eB.trans eB2
    have hS := hS.ext EB
    have hI := hI.ext EB
    have hO := hO.ext EB
    have hT := TSl.ext hT eB2
    have hl1 := dblE_len part edges.reverse
    have hl2 : (swpP other.reverse).length = other.length := by unfold swpP; rw [List.length_map, List.length_reverse]
    rw [List.length_reverse] at hl1
    refine V.region (VL.op (R.mvS rfl) (VL.op (R.mvS rfl) (VL.op (R.mvS rfl) (VL.callX Try.call12 rfl (cluster_spec a sa oa c cs co edges same other _ (by omega) (by omega) (by omega) hS hI hO) fun x w17 hx e17 => VL.op (R.mvT rfl) (VL.op (R.extr rfl rfl) (VL.op (R.extr rfl rfl) (VL.op (R.asS rfl) (VL.op (R.asI rfl) (VL.nil (V.seq (V.region (VL.op (R.mvS rfl) (VL.op (R.mvS rfl) (VL.op (R.mvS rfl) (VL.callX Try.call12 rfl (cluster_spec xB0.1 sa xB2.1 xB0.2 cs xB2.2 (dblE part edges.reverse) same (swpP other.reverse) _ (by omega) (by omega) (by omega) (TSl.ext hT e17) (hI.ext e17) (TSl.ext hT2 e17)) fun y w18 hy e18 => VL.op (R.mvT rfl) (VL.op (R.extr rfl rfl) (VL.op (R.extr rfl rfl) (VL.op (R.asS rfl) (VL.op (R.asI rfl) (VL.nil (V.seq (?_))))))))))))))))))))))
    obtain ⟨ua, uc, L, e⟩ := x
    obtain ⟨va, vc, L', e'⟩ := y
    obtain ⟨hL, _, hR⟩ := hx
    obtain ⟨hL', _, hR'⟩ := hy
    dsimp only at hL hR hL' hR' ⊢
    obtain ⟨rfl, rfl⟩ := evid_law (by omega) hp hw hR hR'
    have hLl : L.length ≤ 1000000 := by
      unfold CluR at hR
      split at hR
      · have := clu_len hR.2; omega
      · rw [hR.2]; exact Nat.zero_le _
    refine V.region (VL.op (R.mvB rfl) (VL.op (R.mvB rfl) (VL.and rfl rfl (fun g19_1 => VL.op (R.mvI rfl) (VL.gT rfl rfl (VL.op (R.mvI rfl) (VL.gT rfl rfl (VL.op (R.eql rfl rfl) (VL.op (R.pickTB rfl rfl) (VL.op (R.mvB rfl) (VL.andP rfl rfl (fun g19_6 => VL.op (R.mvS rfl) (VL.gT rfl rfl (VL.op (R.mvS rfl) (VL.gT rfl rfl (VL.callP Try.call14 rfl (ints_spec ua va uc vc L L _ hLl ((hL.ext e18).ext (Mod.refl _ _)) (TSl.ext hL' (Mod.refl _ _))) fun w19_9 e19_9 => VL.op (R.pickTB rfl rfl) (VL.op (R.asB rfl) (VL.nil (V.ret (fret1 (v := .bool _) rfl rfl rfl (⟨?_, (E0.trans EB).trans ((e17.trans e18).trans e19_9)⟩)))))))))) (fun g19_6 => VL.gF rfl rfl (VL.gF rfl rfl (VL.op (R.pickFB rfl rfl) (VL.op (R.asB rfl) (VL.nil (V.ret (fret1 (v := .bool _) rfl rfl rfl (⟨?_, (E0.trans EB).trans ((e17.trans e18).trans (Mod.refl _ _))⟩)))))))))))))))) (fun g19_1 => VL.gF rfl rfl (VL.gF rfl rfl (VL.op (R.pickFB rfl rfl) (VL.op (R.mvB rfl) (VL.gF rfl rfl (VL.gF rfl rfl (VL.gF rfl rfl (VL.op (R.pickFB rfl rfl) (VL.op (R.asB rfl) (VL.nil (V.ret (fret1 (v := .bool _) rfl rfl rfl (⟨?_, (E0.trans EB).trans ((e17.trans e18).trans (Mod.refl _ _))⟩))))))))))))))))
    · rw [decide_eq_true rfl]
    · exact absurd rfl g19_6
    · contradiction
end Go.Proofs.Ytglaigeellpikaa

/- Cluster: without weights against it and without decisions the entities are the components. -/
namespace Go.Proofs.Ytglaigeellpikaa
open Go.Vc

theorem sm_nn {α : Type} {f : α → Int} : ∀ {l : List α}, (∀ x ∈ l, 0 ≤ f x) → 0 ≤ sm (l.map f)
  | [], _ => Int.le_refl _
  | x :: l, h => by
    have h1 := h x (by simp)
    have h2 := sm_nn (l := l) fun y hy => h y (by simp [hy])
    show 0 ≤ f x + sm _
    omega
theorem sm_ge {α : Type} {f : α → Int} {a : α} : ∀ {l : List α}, (∀ x ∈ l, 0 ≤ f x) → a ∈ l → f a ≤ sm (l.map f)
  | [], _, h => by cases h
  | x :: l, h, ha => by
    have h1 := h x (by simp)
    have h2 := sm_nn (l := l) fun y hy => h y (by simp [hy])
    show f a ≤ f x + sm _
    rcases List.mem_cons.1 ha with e | ha
    · rw [e]; omega
    · have := sm_ge (l := l) (fun y hy => h y (by simp [hy])) ha
      omega
section
variable {wt : Int → Int → Int} {ap : Int → Int → Bool} {cs : List Int}
theorem grd_end {h h' : Int → Int} (g : Grd wt ap cs h h') : ∀ p, ¬ Cand wt ap cs h' p := by
  induction g with
  | stop h hs => exact hs
  | step h h' p _ _ ih => exact ih
/-- Two classes with a positive weight are in one cluster. -/
theorem sol_join (hinc : Inc cs) (hw : ∀ c d, 0 ≤ wt c d) (ha : ∀ c d, ap c d = false) {H : Int → Int} (hs : SolR wt ap cs (cs.map H)) {a b : Int} (hac : a ∈ cs) (hbc : b ∈ cs) (hab : a < b) (hp : 0 < wt a b) : H a = H b := by
  refine Classical.byContradiction fun hne => ?_
  unfold SolR at hs
  split at hs
  · have hl0 : 0 < cs.length := List.length_pos_of_mem hac
    have hpart : IsPart ap cs (cs.map fun _ => cs.getD 0 default) := by
      have hg : ∀ i, i < cs.length → (cs.map fun _ => cs.getD 0 default).getD i default = cs.getD 0 default := fun i hi => gmap (fun _ => cs.getD 0 default) cs i hi
      exact ⟨List.length_map _, fun i hi => ⟨0, Nat.zero_le _, hg i hi, hg 0 hl0⟩, fun i _ k _ _ => ha _ _⟩
    have h1 := hs.best _ hpart
    rw [kept_sm hinc, kept_sm hinc] at h1
    have h2 : kS wt cs H + wt a b ≤ kS wt cs fun _ => cs.getD 0 default := by
      unfold kS
      rw [← sm_two (inc_nodup hinc) hac hbc wt, ← sm_add]
      refine sm_le _ _ fun c _ => ?_
      rw [← sm_add]
      refine sm_le _ _ fun d _ => ?_
      have := hw c d
      by_cases e : c < d
      · rw [if_pos (show c < d ∧ cs.getD 0 default = cs.getD 0 default from ⟨e, rfl⟩)]
        by_cases e1 : H c = H d
        · rw [if_pos ⟨e, e1⟩, if_neg (show ¬ (c = a ∧ d = b) from fun q => hne (by rw [← q.1, ← q.2]; exact e1))]; omega
        · rw [if_neg (show ¬ (c < d ∧ H c = H d) from fun q => e1 q.2)]; split <;> omega
      · rw [if_neg (show ¬ (c < d ∧ H c = H d) from fun q => e q.1), if_neg (show ¬ (c < d ∧ cs.getD 0 default = cs.getD 0 default) from fun q => e q.1), if_neg (show ¬ (c = a ∧ d = b) from fun q => by omega)]; exact Int.le_refl _
    omega
  · obtain ⟨h, hg, he⟩ := hs
    have hag : ∀ c ∈ cs, h c = H c := fun c hc => (List.map_inj_left.1 he c hc).symm
    rw [← hag a hac, ← hag b hbc] at hne
    have hok := (grd_facts (fun _ _ => by rw [ha, ha]) hg (HOk.start cs) (fun c _ d _ e hne => absurd e hne)).1
    have hS : ∀ c d, 0 ≤ wtS wt c d := fun c d => by
      have h1 := hw c d; have h2 := hw d c
      unfold wtS; (repeat' split) <;> omega
    have hge : ∀ x y, (∃ c ∈ cs, ∃ d ∈ cs, h c = x ∧ h d = y ∧ wtS wt c d = wt a b) → wt a b ≤ btw wt cs h x y := fun x y ⟨c, hc, d, hd, h1, h2, h3⟩ => by
      unfold btw
      have e1 := sm_ge (f := fun c => sm (cs.map fun d => if h c = x ∧ h d = y then wtS wt c d else 0)) (fun c _ => sm_nn fun d _ => by split; exact hS _ _; exact Int.le_refl _) hc
      have e2 := sm_ge (f := fun d => if h c = x ∧ h d = y then wtS wt c d else 0) (fun d _ => by split; exact hS _ _; exact Int.le_refl _) hd
      rw [if_pos ⟨h1, h2⟩, h3] at e2
      omega
    rcases Int.lt_or_gt_of_ne hne with hlt | hlt
    · refine grd_end hg (h a, h b) ⟨hok.mem a hac, hok.mem b hbc, hok.idem a hac, hok.idem b hbc, hlt, fun ⟨c, _, d, _, _, _, e⟩ => (by rw [ha] at e; cases e), ?_⟩
      have := hge (h a) (h b) ⟨a, hac, b, hbc, rfl, rfl, by unfold wtS; rw [if_pos hab]⟩
      dsimp only
      omega
    · refine grd_end hg (h b, h a) ⟨hok.mem b hbc, hok.mem a hac, hok.idem b hbc, hok.idem a hac, hlt, fun ⟨c, _, d, _, _, _, e⟩ => (by rw [ha] at e; cases e), ?_⟩
      have := hge (h b) (h a) ⟨b, hbc, a, hac, rfl, rfl, by unfold wtS; rw [if_neg (by omega), if_pos hab]⟩
      dsimp only
      omega
end
/-- A component's least record is a class. -/
theorem head_cl {same : List Int} {edges : List Ed} {other : List (Int × Int)} (k : OkG same edges other) {i : Nat} (hi : i < same.length) : at_ same ((rG same edges i : Nat) : Int) = ((rG same edges i : Nat) : Int) ∧ rG same edges i < same.length ∧ rG same edges (rG same edges i) = rG same edges i := by
  have hci := cmpR_is k.v k.ok
  have h1 : rG same edges i ≤ i := hci.le i hi
  have h2 : rG same edges (rG same edges i) = rG same edges i := hci.idem i hi
  have hl : rG same edges i < same.length := by omega
  refine ⟨?_, hl, h2⟩
  obtain ⟨v1, v2, v3⟩ := k.v _ hl
  have hj := hci.join _ (jC_mem.2 (.inl ⟨_, hl, rfl⟩))
  have hle := hci.le (same.getD (rG same edges i) default).toNat (by omega)
  dsimp only at hj
  unfold rG at h2 hl v1 v2 v3 hj hle ⊢
  unfold at_
  rw [Int.toNat_natCast]
  omega
theorem strong_law {same : List Int} {edges : List Ed} {L : List Int} (k : OkG same edges []) (hw : ∀ e ∈ edges, 0 ≤ e.w) (h : IsClu (wtM (gW same edges)) (apM (gA same [])) same (grpG same (gW same edges)) L) {i : Nat} (hi : i < same.length) : L.getD i default = ((rG same edges i : Nat) : Int) := by
  obtain ⟨H, hL, g, _, hs⟩ := clu_glo k h
  have hci := cmpR_is k.v k.ok
  have hnn : ∀ c d, 0 ≤ wtG same edges c d := fun c d => by
    unfold wtG; rw [gW_val]
    exact sm_nn fun e he => by split; exact hw e he; exact Int.le_refl _
  have hap : ∀ c d, apG same [] c d = false := fun c d => by unfold apG apM gA; rfl
  have hcl : ∀ j : Nat, j < same.length → isCl same (at_ same j) := fun j hj => (cl_at k (by omega) (by omega)).1
  have key := hci.keep (fun j => (H (at_ same j)).toNat) (fun p hp => ?_) i hi
  · obtain ⟨c1, c2, c3⟩ := head_cl k hi
    have hc : isCl same ((rG same edges i : Nat) : Int) := ⟨by omega, by omega, c1⟩
    have e1 := g.cl _ (hcl i hi)
    have e2 := g.cl _ hc
    have e3 := g.le _ hc
    have e4 := g.comp _ hc
    rw [Int.toNat_natCast, c3] at e4
    have e5 := hci.le (H ((rG same edges i : Nat) : Int)).toNat (by have := e2.1; have := e2.2.1; omega)
    have hh : H ((rG same edges i : Nat) : Int) = ((rG same edges i : Nat) : Int) := by
      have := e2.1
      unfold rG at e4 e5 e3 this ⊢
      omega
    have key : (H (at_ same ((rG same edges i : Nat) : Int))).toNat = (H (at_ same i)).toNat := key
    rw [c1, hh] at key
    have e6 : L.getD i default = H (at_ same i) := by rw [hL]; exact at_map (x := (i : Int)) H (by omega) (by omega)
    rw [e6]
    have := e1.1
    omega
  · rcases jC_mem.1 hp with ⟨j, hj, rfl⟩ | ⟨q, hq, hpos, rfl⟩
    · dsimp only
      have h1 := hcl j hj
      have h2 : ((same.getD j default).toNat : Int) = at_ same j := by
        have := k.v j hj
        unfold at_; rw [Int.toNat_natCast]; omega
      rw [h2, h1.2.2]
    · dsimp only
      obtain ⟨q1, q2, q3, q4, q5⟩ := k.ok q hq
      have hp1 : 0 < wtG same edges q.1.1 q.1.2 := by
        unfold wtG wtM
        rw [show (q.1.1, q.1.2) = q.1 from rfl, (tget_mem (gW_nodup same edges)).2 (show (q.1, q.2) ∈ gW same edges from hq)]
        exact hpos
      rw [Int.toNat_of_nonneg q1, Int.toNat_of_nonneg (show 0 ≤ q.1.2 by omega), q4, q5]
      have hj := hci.join _ (jC_mem.2 (.inr ⟨q, hq, hpos, rfl⟩))
      dsimp only at hj
      have hlt : q.1.1.toNat < same.length := by omega
      have hmem : memsK (cmpR same (gW same edges)) same.length (cmpR same (gW same edges) q.1.1.toNat) ∈ grpG same (gW same edges) :=
        List.mem_map.2 ⟨_, hdsK_mem.2 ⟨by have := hci.le _ hlt; omega, hci.idem _ hlt⟩, rfl⟩
      rw [sol_join (grp_facts k.v k.ok hmem).1 hnn hap (hs _ hmem) (clsG_mem.2 ⟨memsK_mem.2 ⟨q.1.1.toNat, hlt, rfl, by omega⟩, q4⟩) (clsG_mem.2 ⟨memsK_mem.2 ⟨q.1.2.toNat, by omega, hj.symm, by omega⟩, q5⟩) q2 hp1]
/-- The lists of the components, as they lie. -/
structure CmpL (same : List Int) (edges : List Ed) (z : List Sl) : Prop where
  at_ : ∀ i, i < z.length → ∃ h, h < same.length ∧ rG same edges h = h ∧ (z.getD i default).l = memsK (rG same edges) same.length h
theorem cmpL {same : List Int} {edges : List Ed} {other : List (Int × Int)} (k : OkG same edges other) {z : List Sl} (h : vals z = compsF same edges) : CmpL same edges z ∧ vals z = grpG same (gW same edges) := by
  have h2 : vals z = grpG same (gW same edges) := by rw [h]; unfold compsF; rw [if_pos ⟨k.vb, k.lk⟩]; rfl
  refine ⟨⟨fun i hi => ?_⟩, h2⟩
  have hl : i < (vals z).length := by unfold vals; rw [List.length_map]; exact hi
  have e1 : (z.getD i default).l = (vals z).getD i default := (gmap (·.l) z i hi).symm
  have hm : (vals z).getD i default ∈ grpG same (gW same edges) := by rw [← h2]; exact getD_mem hl
  obtain ⟨h, hh, he⟩ := List.mem_map.1 hm
  obtain ⟨a, b⟩ := hdsK_mem.1 hh
  exact ⟨h, a, b, by rw [e1, ← he]; rfl⟩
theorem mem_first {r : Nat → Nat} {n h : Nat} (hle : ∀ i, i < n → r i ≤ i) (hh : h < n) (hr : r h = h) : (memsK r n h).getD 0 default = (h : Int) ∧ 0 < (memsK r n h).length := by
  have hm : (h : Int) ∈ memsK r n h := memsK_mem.2 ⟨h, hh, hr, rfl⟩
  have hl := List.length_pos_of_mem hm
  refine ⟨?_, hl⟩
  obtain ⟨i, hi, hi2⟩ := List.getElem_of_mem hm
  have h1 : (memsK r n h).getD 0 default ≤ (h : Int) := by
    rw [← hi2, show (memsK r n h)[i] = (memsK r n h).getD i default by simp [List.getD, hi]]
    rcases Nat.eq_zero_or_pos i with e | e
    · rw [e]; exact Int.le_refl _
    · exact Int.le_of_lt (inc_at (memsK_inc r n h) e hi)
  obtain ⟨j, hj, hj2, hj3⟩ := memsK_mem.1 (getD_mem hl)
  have := hle j hj
  omega
set_option maxRecDepth 100000 in
set_option maxHeartbeats 8000000 in
theorem law9_spec (a sa : Option Addr) (c cs : Nat) (edges : List Ed) (same : List Int) (w : World) (hS : EdSl w a edges) (hI : IntSl w sa same) :
    RetsP Try.prog 9 #[.slice a edges.length c, .slice sa same.length cs] w (.bool true) := by
  refine enter (args := [_, _]) Try.func9 rfl Try.ntmps9 (by kernel_rfl) rfl ?_
  refine V.seq (V.region (VL.op (R.asB rfl) (VL.nil (V.seq (V.region (VL.callP Try.call10 rfl (head_spec _) fun w1_0 e1_0 => VL.op (R.asB rfl) (VL.nil (V.seq (V.seq (V.regionCut [13, 14, 15, 16] 16 (.bool (!fewB same.length edges.length ((0 : Nat) : Int) 30)) (fun w' => Ext _ w') rfl (VL.op (R.mvS rfl) (VL.op (R.mvS rfl) (VL.callP Try.call11 rfl (few_spec a sa none c cs 0 edges.length same.length 0 30 _) fun w2_2 e2_2 => VL.op (R.not rfl) (VL.nil ⟨rfl, cutB rfl ?_, e2_2⟩)))) (fun rg2 w2c e2c => V.cond rfl (fun c16 => V.seq (V.region (VL.op (R.mvB rfl) (VL.op (R.asB rfl) (VL.nil (V.ret (fret1 (v := .bool _) rfl rfl rfl (⟨rfl, (e1_0.trans e2c)⟩)))))))) (fun c16 => V.skip (V.seq (V.seq (?_)))))))))))))))
  · rfl
  have hf := few_iff (n := same.length) (e := edges.length) (o := 0) (k := 30) (by cases h : fewB same.length edges.length ((0 : Nat) : Int) 30 with | true => rfl | false => rw [h] at c16; cases c16)
  have E0 := e1_0.trans e2c
  have hS := hS.ext E0
  have hI := hI.ext E0
  refine V.region (VL.op (R.asI rfl) (VL.nil (V.block (?_))))
  refine V.loop [0, 1, 5, 6] (fun k : Nat => [.slice a edges.length c, .slice sa same.length cs, .bool true, .int .i64 (k : Nat)]) (fun k w' => k ≤ edges.length ∧ Ext w2c w' ∧ ∀ i, i < k → 0 ≤ (edges.getD i default).w) (fun k => edges.length - k) 0 rfl ⟨Nat.zero_le _, Mod.refl _ _, fun i h => absurd h (Nat.not_lt_zero _)⟩ ?_
  rintro ρ k w3 ⟨hk, e3, hp⟩
  refine V.seq (V.seq (V.region (VL.op (R.mvI rfl) (VL.op (R.mvS rfl) (VL.op (R.lenS Try.runUnderlying22 rfl) (VL.op (R.lss rfl rfl) (VL.nil (V.condP rfl (fun c21 => V.skip (V.seq (V.block (V.seq (V.region (VL.op (R.mvS rfl) (VL.op (R.mvI rfl) (VL.op (R.ixS Try.runUnderlying22 Try.sizeOf40 rfl rfl (by omega) (by omega) ((hS).some (i := k) (by omega))) (VL.op (R.fld' (o := 2) Try.runUnderlying40 rfl rfl Try.sizeOf3 rfl rfl) (VL.op (R.ld1 Try.isAgg3 rfl (((((hS).ext e3).row (i := k) (by omega)).cell (i := 2) rfl))) (VL.op (R.lss rfl rfl) (VL.nil (V.condP rfl (fun c29 => V.seq (V.region (VL.op (R.mvB rfl) (VL.op (R.asB rfl) (VL.nil (V.ret (fret1 (v := .bool _) rfl rfl rfl (?_)))))))) (fun c29 => V.skip (V.region (VL.op (R.mvI rfl) (VL.op (R.add rfl rfl (by omega) (by omega)) (VL.op (R.asI rfl) (VL.nil (⟨k + 1, rfl, ⟨by omega, e3, ?_⟩, by omega⟩)))))))))))))))))))) (fun c21 => V.exit (V.seq (?_)))))))))))
  · exact ⟨rfl, E0.trans e3⟩
  · intro i hi
    by_cases e : i = k
    · rw [e]; omega
    · exact hp i (by omega)
  · have hkl : k = edges.length := by omega
    subst hkl
    have hw : ∀ e ∈ edges, 0 ≤ e.w := fun e he => by
      obtain ⟨i, hi, rfl⟩ := List.getElem_of_mem he
      have := hp i hi
      rwa [show edges.getD i default = edges[i] by simp [List.getD, hi]] at this
    have hS := hS.ext e3
    have hI := hI.ext e3
    refine V.region (VL.op (R.mvS rfl) (VL.op (R.mvS rfl) (VL.callX Try.call12 rfl (cluster_spec a sa none c cs 0 edges same [] _ (by omega) (by omega) (by decide) hS hI (TSl.nil _ _ _ _)) fun u w9 hu e9 => VL.op (R.mvT rfl) (VL.op (R.extr rfl rfl) (VL.op (R.extr rfl rfl) (VL.op (R.asS rfl) (VL.op (R.asI rfl) (VL.nil (V.seq (V.region (VL.op (R.mvS rfl) (VL.op (R.mvS rfl) (VL.callX Try.call20 rfl (comps_spec a sa c cs edges same _ (by omega) (by omega) (hS.ext e9) (hI.ext e9)) fun z w10 hz e10 => VL.op (R.asS rfl) (VL.nil (V.seq (V.seq (?_)))))))))))))))))
    obtain ⟨ua, uc, L, e⟩ := u
    obtain ⟨hL, _, hR⟩ := hu
    obtain ⟨z, za, zc⟩ := z
    obtain ⟨hzv, hG⟩ := hz
    dsimp only at hL hR hzv hG ⊢
    have E10 := E0.trans (e3.trans (e9.trans e10))
    unfold CluR at hR
    have hzl : (vals z).length = z.length := List.length_map _
    cases hok : okB same edges [] with
    | false =>
      rw [hok, if_neg (by decide)] at hR
      obtain ⟨rfl, rfl⟩ := hR
      have hc : compsF same edges = [] := by
        unfold compsF
        rw [if_neg]
        intro h
        unfold okB at hok
        rw [h.1, h.2] at hok
        cases hok
      rw [hc] at hzv
      have hz0 : z.length = 0 := by rw [← hzl, hzv]; rfl
      refine V.regionCut [40, 41, 42, 43, 44, 45, 46, 47, 48] 48 (.bool true) (fun w' => Ext _ w') rfl (VL.op (R.mvI rfl) (VL.op (R.neq rfl rfl) (VL.op (R.mvB rfl) (VL.orP rfl rfl (fun g11_2 => VL.op (R.mvS rfl) (VL.gT rfl rfl (VL.op (R.lenS Try.runUnderlying23 rfl) (VL.gT rfl rfl (VL.op (R.mvS rfl) (VL.gT rfl rfl (VL.op (R.lenS Try.runUnderlying23 rfl) (VL.gT rfl rfl (VL.op (R.neq rfl rfl) (VL.op (R.pickFB rfl rfl) (VL.nil ⟨rfl, cutB rfl ?_, Mod.refl _ _⟩))))))))))) (fun g11_2 => VL.gF rfl rfl (VL.gF rfl rfl (VL.gF rfl rfl (VL.gF rfl rfl (VL.op (R.pickTB rfl rfl) (VL.nil ⟨rfl, cutB rfl ?_, Mod.refl _ _⟩)))))))))) (fun rg11 w11c e11c => V.cond rfl (fun c48 => V.seq (V.region (VL.op (R.mvB rfl) (VL.op (R.mvB rfl) (VL.and rfl rfl (fun g12_1 => VL.op (R.mvI rfl) (VL.gT rfl rfl (VL.op (R.neq rfl rfl) (VL.op (R.pickTB rfl rfl) (VL.op (R.mvB rfl) (VL.andP rfl rfl (fun g12_5 => VL.op (R.mvS rfl) (VL.gT rfl rfl (VL.op (R.lenS Try.runUnderlying34 rfl) (VL.gT rfl rfl (VL.op (R.eql rfl rfl) (VL.op (R.pickTB rfl rfl) (VL.op (R.asB rfl) (VL.nil (V.ret (fret1 (v := .bool _) rfl rfl rfl (⟨?_, E10.trans e11c⟩))))))))))) (fun g12_5 => VL.gF rfl rfl (VL.gF rfl rfl (VL.op (R.pickFB rfl rfl) (VL.op (R.asB rfl) (VL.nil (V.ret (fret1 (v := .bool _) rfl rfl rfl (⟨?_, E10.trans e11c⟩)))))))))))))) (fun g12_1 => VL.gF rfl rfl (VL.op (R.pickFB rfl rfl) (VL.op (R.mvB rfl) (VL.gF rfl rfl (VL.gF rfl rfl (VL.gF rfl rfl (VL.op (R.pickFB rfl rfl) (VL.op (R.asB rfl) (VL.nil (V.ret (fret1 (v := .bool _) rfl rfl rfl (⟨?_, E10.trans e11c⟩))))))))))))))))) (fun c48 => V.skip (V.seq (V.seq (?_)))))
      · exact absurd (by decide) g11_2
      · rfl
      · rw [hz0]; rfl
      · exact absurd (by decide) g12_5
      · contradiction
      · cases c48
    | true =>
      rw [hok, if_pos rfl] at hR
      obtain ⟨rfl, hC⟩ := hR
      have k_ := okG hok
      have hlen := clu_len hC
      obtain ⟨hcm, hzg⟩ := cmpL k_ hzv
      have hci := cmpR_is k_.v k_.ok
      refine V.regionCut [40, 41, 42, 43, 44, 45, 46, 47, 48] 48 (.bool false) (fun w' => Ext _ w') rfl (VL.op (R.mvI rfl) (VL.op (R.neq rfl rfl) (VL.op (R.mvB rfl) (VL.orP rfl rfl (fun g11_2 => VL.op (R.mvS rfl) (VL.gT rfl rfl (VL.op (R.lenS Try.runUnderlying23 rfl) (VL.gT rfl rfl (VL.op (R.mvS rfl) (VL.gT rfl rfl (VL.op (R.lenS Try.runUnderlying23 rfl) (VL.gT rfl rfl (VL.op (R.neq rfl rfl) (VL.op (R.pickFB rfl rfl) (VL.nil ⟨rfl, cutB rfl ?_, Mod.refl _ _⟩))))))))))) (fun g11_2 => VL.gF rfl rfl (VL.gF rfl rfl (VL.gF rfl rfl (VL.gF rfl rfl (VL.op (R.pickTB rfl rfl) (VL.nil ⟨rfl, cutB rfl ?_, Mod.refl _ _⟩)))))))))) (fun rg11 w11c e11c => V.cond rfl (fun c48 => V.seq (V.region (VL.op (R.mvB rfl) (VL.op (R.mvB rfl) (VL.and rfl rfl (fun g12_1 => VL.op (R.mvI rfl) (VL.gT rfl rfl (VL.op (R.neq rfl rfl) (VL.op (R.pickTB rfl rfl) (VL.op (R.mvB rfl) (VL.andP rfl rfl (fun g12_5 => VL.op (R.mvS rfl) (VL.gT rfl rfl (VL.op (R.lenS Try.runUnderlying34 rfl) (VL.gT rfl rfl (VL.op (R.eql rfl rfl) (VL.op (R.pickTB rfl rfl) (VL.op (R.asB rfl) (VL.nil (V.ret (fret1 (v := .bool _) rfl rfl rfl (⟨?_, E10.trans e11c⟩))))))))))) (fun g12_5 => VL.gF rfl rfl (VL.gF rfl rfl (VL.op (R.pickFB rfl rfl) (VL.op (R.asB rfl) (VL.nil (V.ret (fret1 (v := .bool _) rfl rfl rfl (⟨?_, E10.trans e11c⟩)))))))))))))) (fun g12_1 => VL.gF rfl rfl (VL.op (R.pickFB rfl rfl) (VL.op (R.mvB rfl) (VL.gF rfl rfl (VL.gF rfl rfl (VL.gF rfl rfl (VL.op (R.pickFB rfl rfl) (VL.op (R.asB rfl) (VL.nil (V.ret (fret1 (v := .bool _) rfl rfl rfl (⟨?_, E10.trans e11c⟩))))))))))))))))) (fun c48 => V.skip (V.seq (V.seq (?_)))))
      · rw [hlen]; exact decide_eq_false fun h => h rfl
      · exact absurd rfl g11_2
      · cases c48
      · cases c48
      · cases c48
      · refine V.region (VL.op (R.asI rfl) (VL.nil (V.block (?_))))
        refine V.loop [5, 7, 9, 10] (fun i : Nat => [.bool true, .slice ua L.length uc, .slice za z.length zc, .int .i64 (i : Nat)]) (fun i w' => i ≤ z.length ∧ Ext w11c w') (fun i => z.length - i) 0 rfl ⟨Nat.zero_le _, Mod.refl _ _⟩ ?_
        rintro ρ i w4 ⟨hi, e4⟩
        refine V.seq (V.seq (V.region (VL.op (R.mvI rfl) (VL.op (R.mvS rfl) (VL.op (R.lenS Try.runUnderlying34 rfl) (VL.op (R.lss rfl rfl) (VL.nil (V.condP rfl (fun c62 => V.skip (V.seq (V.block (V.seq (V.region (VL.op (R.asI rfl) (VL.nil (V.block (?_))))))))) (fun c62 => V.exit (V.seq (V.region (VL.op (R.mvB rfl) (VL.op (R.asB rfl) (VL.nil (V.ret (fret1 (v := .bool _) rfl rfl rfl (⟨rfl, E10.trans (e11c.trans e4)⟩)))))))))))))))))
        have hil : i < z.length := by omega
        obtain ⟨h, hh, hr, hzi⟩ := hcm.at_ i hil
        have hG4 := hG.ext (e11c.trans e4)
        obtain ⟨m1, m2⟩ := mem_first hci.le hh hr
        have hz1 : z.length ≤ 100 := by
          rw [← hzl, hzg]; unfold grpG; rw [grpsK_len]
          have := hdsK_len (cmpR same (gW same edges)) same.length; omega
        have hml : (z.getD i default).l.length ≤ 100 := by rw [hzi]; have := memsK_len (rG same edges) same.length h; omega
        refine V.loop [5, 7, 9, 10, 11] (fun k : Nat => [.bool true, .slice ua L.length uc, .slice za z.length zc, .int .i64 (i : Nat), .int .i64 (k : Nat)]) (fun k w' => k ≤ (z.getD i default).l.length ∧ Ext w4 w') (fun k => (z.getD i default).l.length - k) 0 rfl ⟨Nat.zero_le _, Mod.refl _ _⟩ ?_
        rintro ρ k w5 ⟨hk, e5⟩
        have hx : k < (z.getD i default).l.length → 0 ≤ (z.getD i default).l.getD k default ∧ (z.getD i default).l.getD k default < same.length ∧ L.getD ((z.getD i default).l.getD k default).toNat default = (z.getD i default).l.getD 0 default := fun hkl => by
          have hm : (z.getD i default).l.getD k default ∈ (z.getD i default).l := getD_mem hkl
          rw [hzi] at hm
          obtain ⟨x, hx, hxr, hxe⟩ := memsK_mem.1 hm
          rw [hzi, hxe]
          refine ⟨by omega, by omega, ?_⟩
          rw [Int.toNat_natCast, strong_law k_ hw hC hx, hxr]
          exact m1.symm
        refine V.seq (V.seq (V.region (VL.op (R.mvI rfl) (VL.op (R.mvS rfl) (VL.op (R.mvI rfl) (VL.op (R.ixS Try.runUnderlying34 Try.sizeOf23 rfl rfl (by have := hx; omega) (by have := hx; omega) ((hG4.own.sl).some (i := i) (by have := hx; omega))) (VL.op (R.ld1 Try.isAgg23 rfl (((((hG4.own.sl).ext e5).row (i := i) (by have := hx; omega)).cell (i := 0) rfl))) (VL.op (R.lenS Try.runUnderlying23 rfl) (VL.op (R.lss rfl rfl) (VL.nil (V.condP rfl (fun c71 => V.skip (V.seq (V.block (V.seq (V.regionQCut mixed 17 (by kernel_rfl) rfl (fun w' => Ext _ w') (Ext.drawn _) [74, 75, 76, 77, 78, 79, 80, 81, 82, 83, 84, 85, 86, 87, 88, 89, 90] 90 (.bool false) rfl (VQ.op (fun wq eq => R.mvS rfl) (VQ.op (fun wq eq => R.mvS rfl) (VQ.op (fun wq eq => R.mvI rfl) (VQ.op (fun wq eq => R.ixS Try.runUnderlying34 Try.sizeOf23 rfl rfl (by have := hx; omega) (by have := hx; omega) ((hG4.own.sl).some (i := i) (by have := hx; omega))) (VQ.op (fun wq eq => R.ld1 Try.isAgg23 rfl (((((hG4.own.sl).ext (e5.trans eq)).row (i := i) (by have := hx; omega)).cell (i := 0) rfl))) (VQ.op (fun wq eq => R.mvI rfl) (VQ.op (fun wq eq => R.ixS Try.runUnderlying23 Try.sizeOf3 rfl rfl (by have := hx; omega) (by have := hx; omega) (((hG4.each i).sl).some (i := k) (by have := hx; omega))) (VQ.op (fun wq eq => R.ld1 Try.isAgg3 rfl ((((((hG4.each i).sl).ext (e5.trans eq)).row (i := k) (by have := hx; omega)).cell (i := 0) rfl))) (VQ.op (fun wq eq => R.ixS Try.runUnderlying23 Try.sizeOf3 rfl rfl (by have := hx; omega) (by have := hx; omega) (((hL.ext (e10.trans (e11c.trans e4)))).some (i := ((z.getD i default).l.getD k default).toNat) (by have := hx; omega))) (VQ.op (fun wq eq => R.ld1 Try.isAgg3 rfl ((((((hL.ext (e10.trans (e11c.trans e4)))).ext (e5.trans eq)).row (i := ((z.getD i default).l.getD k default).toNat) (by have := hx; omega)).cell (i := 0) rfl))) (VQ.op (fun wq eq => R.mvS rfl) (VQ.op (fun wq eq => R.mvI rfl) (VQ.op (fun wq eq => R.ixS Try.runUnderlying34 Try.sizeOf23 rfl rfl (by have := hx; omega) (by have := hx; omega) ((hG4.own.sl).some (i := i) (by have := hx; omega))) (VQ.op (fun wq eq => R.ld1 Try.isAgg23 rfl (((((hG4.own.sl).ext (e5.trans eq)).row (i := i) (by have := hx; omega)).cell (i := 0) rfl))) (VQ.op (fun wq eq => R.ixS Try.runUnderlying23 Try.sizeOf3 rfl rfl (by decide) (by omega) (((hG4.each i).sl).some (i := 0) (by omega))) (VQ.op (fun wq eq => R.ld1 Try.isAgg3 rfl ((((((hG4.each i).sl).ext (e5.trans eq)).row (i := 0) (by omega)).cell (i := 0) rfl))) (VQ.op (fun wq eq => R.neq rfl rfl) (VQ.nil (cutB rfl ?_))))))))))))))))))) (fun rg19 w19c e19c => V.cond rfl (fun c90 => V.seq (V.region (VL.op (R.asB rfl) (VL.nil (V.ret (fret1 (v := .bool _) rfl rfl rfl (?_))))))) (fun c90 => V.skip (V.region (VL.op (R.mvI rfl) (VL.op (R.add rfl rfl (by omega) (by omega)) (VL.op (R.asI rfl) (VL.nil (?_))))))))))))) (fun c71 => V.exit (V.region (VL.op (R.mvI rfl) (VL.op (R.add rfl rfl (by omega) (by omega)) (VL.op (R.asI rfl) (VL.nil (?_))))))))))))))))))
        · have := (hx (by omega)).2.2
          exact decide_eq_false fun h => h this
        · cases c90
        · exact ⟨k + 1, rfl, ⟨by omega, e5.trans e19c⟩, by omega⟩
        · exact ⟨i + 1, rfl, ⟨by omega, e4.trans e5⟩, by omega⟩
end Go.Proofs.Ytglaigeellpikaa
