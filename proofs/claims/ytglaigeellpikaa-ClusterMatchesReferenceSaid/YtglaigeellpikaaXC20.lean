/- Cluster: the solution of one group of classes; what a clustering is. -/
import Derived.Test.YtglaigeellpikaaXC18
namespace Go.Proofs.Ytglaigeellpikaa
open Go.Vc Go.Sort

/-- The classes of a group of records. -/
def clsG (same g : List Int) : List Int := g.filter fun p => !decide (at_ same p ≠ p)
theorem clsG_mem {same g : List Int} {x : Int} : x ∈ clsG same g ↔ x ∈ g ∧ at_ same x = x := by
  unfold clsG; rw [List.mem_filter]; simp
/-- The heads of the clusters of a group's classes. -/
def SolR (wt : Int → Int → Int) (ap : Int → Int → Bool) (cs hs : List Int) : Prop :=
  if cs.length ≤ 8 then IsBest wt ap cs hs else ∃ h, Grd wt ap cs (fun c => c) h ∧ hs = cs.map h
theorem SolR.unique {wt : Int → Int → Int} {ap : Int → Int → Bool} {cs hs gs : List Int} (h : SolR wt ap cs hs) (g : SolR wt ap cs gs) : hs = gs := by
  unfold SolR at h g
  split at h
  · rename_i hl; rw [if_pos hl] at g; exact h.unique g
  · rename_i hl
    rw [if_neg hl] at g
    obtain ⟨h1, h2, rfl⟩ := h
    obtain ⟨g1, g2, rfl⟩ := g
    rw [h2.unique g2]
/-- The clustering: each record's class's head. -/
def IsClu (wt : Int → Int → Int) (ap : Int → Int → Bool) (same : List Int) (gs : List (List Int)) (L : List Int) : Prop :=
  ∃ H : Int → Int, (∀ g ∈ gs, SolR wt ap (clsG same g) ((clsG same g).map H)) ∧ L = same.map H
theorem IsClu.unique {wt : Int → Int → Int} {ap : Int → Int → Bool} {same : List Int} {gs : List (List Int)} {L L' : List Int} (hc : ∀ c ∈ same, ∃ g ∈ gs, c ∈ clsG same g) (h : IsClu wt ap same gs L) (h' : IsClu wt ap same gs L') : L = L' := by
  obtain ⟨H, h1, rfl⟩ := h
  obtain ⟨H', h2, rfl⟩ := h'
  refine List.map_congr_left fun c hcm => ?_
  obtain ⟨g, hg, hm⟩ := hc c hcm
  exact List.map_inj_left.1 ((h1 g hg).unique (h2 g hg)) c hm
def grpG (same : List Int) (W : List ((Int × Int) × Int)) : List (List Int) := grpsK (cmpR same W) same.length
/-- What is given is valid. -/
def okB (same : List Int) (edges : List Ed) (other : List (Int × Int)) : Bool := validB same && (linkB same.length edges && pairB same.length other)
theorem isnot_spec (p : Int) (sa : Option Addr) (cs b4 : Nat) (same : List Int) (w : World) (hb : Blk w b4 (.cells #[.slice sa same.length cs] 23 (0, 0))) (hI : IntSl w sa same) (h0 : 0 ≤ p) (h1 : p < same.length) (_hm : same.length ≤ 1000) :
    RetsP Try.prog 33 #[.int .i64 p, .pointer (some ⟨b4, 0, none⟩)] w (.bool (decide (at_ same p ≠ p))) := by
  obtain ⟨k, rfl⟩ : ∃ k : Nat, p = k := ⟨p.toNat, by omega⟩
  refine enter (args := [_, _]) Try.func33 rfl Try.ntmps33 (by kernel_rfl) rfl ?_
  refine V.seq (V.region (VL.op (R.asB rfl) (VL.nil (V.seq (V.region (VL.op (R.ld1 Try.isAgg23 rfl (hb.cell 0)) (VL.op (R.mvI rfl) (VL.op (R.ixS Try.runUnderlying23 Try.sizeOf3 rfl rfl (by omega) (by omega) ((hI).some (i := k) (by omega))) (VL.op (R.ld1 Try.isAgg3 rfl (((((hI).ext (Mod.refl _ _)).row (i := k) (by omega)).cell (i := 0) rfl))) (VL.op (R.mvI rfl) (VL.op (R.neq rfl rfl) (VL.op (R.asB rfl) (VL.nil (V.ret (fret1 (v := .bool _) rfl rfl rfl (⟨?_, (Mod.refl _ _)⟩))))))))))))))))
  unfold at_; simp
theorem solve_spec (F : FuncId) (sa ca : Option Addr) (ns css cc r1 r2 : Nat) (cls : List Int) (Wm : List ((Int × Int) × Int)) (Am : List ((Int × Int) × Bool)) (w : World) (hF : (F = 34 ∧ cls.length ≤ 8) ∨ (F = 35 ∧ 8 < cls.length)) (hE : EvAt w r1 r2 Wm Am) (hC : IntSl w ca cls) (hn : cls.length ≤ 100) (hn0 : 0 < cls.length) (hinc : Inc cls) (hWl : Wm.length ≤ 100) (hAl : Am.length ≤ 100) (hB : WtB (wtM Wm)) (hWo : ∀ e ∈ Wm, e.1.1 < e.1.2) (hAo : ∀ e ∈ Am, e.1.1 ≤ e.1.2 ∧ e.2 = true) :
    RetsX Try.prog F ([evV sa ns css r1 r2] ++ [Value.slice ca cls.length cc] ++ []).toArray w (fun x : Option Addr × Nat × List Int => .slice x.1 x.2.2.length x.2.1) (fun x w' => IntSl w' x.1 x.2.2 ∧ (∀ k, aBlk x.1 k → w.heap.size ≤ k) ∧ SolR (wtM Wm) (apM Am) cls x.2.2 ∧ x.2.2.length = cls.length) := by
  rcases hF with ⟨rfl, hl⟩ | ⟨rfl, hl⟩
  · refine (exact_spec sa ca ns css cc r1 r2 cls Wm Am w hE hC (by omega) hn0 hinc hB).mono fun u w' ⟨x, h1, h2, h3⟩ => ⟨(x.1, x.2, exactF (wtM Wm) (apM Am) cls), h1, ⟨h2.1, h2.2, ?_, ?_⟩, h3⟩
    · unfold SolR; rw [if_pos hl]; exact exact_best hinc
    · exact (exact_best (wt := wtM Wm) (ap := apM Am) hinc).part.len
  · refine (greedy_spec sa ca ns css cc r1 r2 cls Wm Am w hE hC hn hinc hWl hAl hB hWo hAo).mono fun u w' ⟨x, h1, ⟨h2, h4, h, hg, _, he⟩, h3⟩ => ⟨x, h1, ⟨h2, h4, ?_, ?_⟩, h3⟩
    · unfold SolR; rw [if_neg (by omega)]; exact ⟨h, hg, he⟩
    · rw [he, List.length_map]
theorem gA_len (same : List Int) (other : List (Int × Int)) : (gA same other).length ≤ other.length := by
  refine rev_ind (M := fun other => (gA same other).length ≤ other.length) (by simp [gA]) (fun l x ih => ?_) other
  have e : gA same (l ++ [x]) = gAs same (gA same l) x := by unfold gA; rw [List.foldl_append]; rfl
  rw [e, List.length_append, List.length_singleton]
  unfold gAs
  split
  · have := tset_len (gA same l) (ordF (at_ same x.1) (at_ same x.2)) true; omega
  · omega
theorem gA_ok (same : List Int) (other : List (Int × Int)) : ∀ e ∈ gA same other, e.1.1 ≤ e.1.2 ∧ e.2 = true := by
  refine rev_ind (M := fun other => ∀ e ∈ gA same other, e.1.1 ≤ e.1.2 ∧ e.2 = true) (by simp [gA]) (fun l x ih e he => ?_) other
  have h : gA same (l ++ [x]) = gAs same (gA same l) x := by unfold gA; rw [List.foldl_append]; rfl
  rw [h] at he
  unfold gAs at he
  split at he
  · rcases tset_mem he with h1 | h1
    · rw [h1]; unfold ordF; dsimp only; exact ⟨by omega, rfl⟩
    · exact ih e h1
  · exact ih e he
theorem wtB_gW {same : List Int} {edges : List Ed} (hl : linkB same.length edges = true) (hm : edges.length ≤ 1000) : WtB (wtM (gW same edges)) := fun a b => by
  have := gW_bnd (same := same) hl edges.length (Nat.le_refl _) (a, b)
  rw [List.take_length] at this
  unfold wtM
  omega
/-- Each record's class is a class of a group. -/
theorem grpG_cov {same : List Int} {W : List ((Int × Int) × Int)} (hv : ∀ i, i < same.length → 0 ≤ same.getD i default ∧ same.getD i default ≤ i ∧ same.getD (same.getD i default).toNat default = same.getD i default) (hok : WOk same W) : ∀ c ∈ same, ∃ g ∈ grpG same W, c ∈ clsG same g := by
  intro c hc
  obtain ⟨i, hi, rfl⟩ := List.getElem_of_mem hc
  have hci := cmpR_is hv hok
  have hg : same.getD i default = same[i] := by simp [List.getD, hi]
  obtain ⟨v1, v2, v3⟩ := hv i hi
  rw [hg] at v1 v2 v3
  have hj : cmpR same W i = cmpR same W same[i].toNat := by
    have := hci.join _ (jC_mem.2 (.inl ⟨i, hi, rfl⟩))
    rw [hg] at this; exact this
  have hle := hci.le i hi
  refine ⟨memsK (cmpR same W) same.length (cmpR same W i), ?_, clsG_mem.2 ⟨memsK_mem.2 ⟨same[i].toNat, by omega, hj.symm, by omega⟩, v3⟩⟩
  unfold grpG grpsK
  exact List.mem_map.2 ⟨_, hdsK_mem.2 ⟨by omega, hci.idem i hi⟩, rfl⟩
theorem grp_facts {same : List Int} {W : List ((Int × Int) × Int)} (hv : ∀ i, i < same.length → 0 ≤ same.getD i default ∧ same.getD i default ≤ i ∧ same.getD (same.getD i default).toNat default = same.getD i default) (hok : WOk same W) {g : List Int} (hg : g ∈ grpG same W) :
    Inc (clsG same g) ∧ 0 < (clsG same g).length ∧ g.length ≤ same.length ∧ ∀ x ∈ g, 0 ≤ x ∧ x < same.length := by
  have hci := cmpR_is hv hok
  unfold grpG grpsK at hg
  obtain ⟨h, hh, rfl⟩ := List.mem_map.1 hg
  obtain ⟨h1, h2⟩ := hdsK_mem.1 hh
  refine ⟨(memsK_inc _ _ _).sublist List.filter_sublist, List.length_pos_of_mem (a := (h : Int)) (clsG_mem.2 ⟨memsK_mem.2 ⟨h, h1, h2, rfl⟩, ?_⟩), memsK_len _ _ _, fun x hx => ?_⟩
  · obtain ⟨v1, v2, v3⟩ := hv h h1
    have hj := hci.join _ (jC_mem.2 (.inl ⟨h, h1, rfl⟩))
    have hle := hci.le (same.getD h default).toNat (by omega)
    dsimp only at hj
    unfold at_
    rw [Int.toNat_natCast]
    omega
  · obtain ⟨i, hi, _, rfl⟩ := memsK_mem.1 hx
    omega
/-- Two groups have no class in common. -/
theorem grp_disj {r : Nat → Nat} {n i j : Nat} (hi : i < (grpsK r n).length) (hj : j < (grpsK r n).length) {x : Int} (h1 : x ∈ (grpsK r n).getD i default) (h2 : x ∈ (grpsK r n).getD j default) : i = j := by
  have hl := grpsK_len r n
  have e : ∀ k, k < (grpsK r n).length → (grpsK r n).getD k default = memsK r n ((hdsK r n).getD k default) := fun k hk => by
    unfold grpsK; exact gmap _ _ _ (by omega)
  rw [e i hi] at h1
  rw [e j hj] at h2
  obtain ⟨a, _, ha, rfl⟩ := memsK_mem.1 h1
  obtain ⟨b, _, hb, hab⟩ := memsK_mem.1 h2
  have : a = b := by omega
  subst this
  have hd : (hdsK r n).getD i default = (hdsK r n).getD j default := ha.symm.trans hb
  have hi' : i < (hdsK r n).length := by omega
  have hj' : j < (hdsK r n).length := by omega
  rw [show (hdsK r n).getD i default = (hdsK r n)[i] by simp [List.getD, hi'], show (hdsK r n).getD j default = (hdsK r n)[j] by simp [List.getD, hj']] at hd
  have hp := List.pairwise_iff_getElem.1 (hdsK_lt r n)
  rcases Nat.lt_trichotomy i j with h | h | h
  · have := hp i j hi' hj' h; omega
  · exact h
  · have := hp j i hj' hi' h; omega
end Go.Proofs.Ytglaigeellpikaa

/- Cluster: Cluster. -/
namespace Go.Proofs.Ytglaigeellpikaa
open Go.Vc Go.Sort

/-- What Cluster returns. -/
def CluR (edges : List Ed) (same : List Int) (other : List (Int × Int)) (L : List Int) (e : Int) : Prop :=
  if okB same edges other = true then e = 0 ∧ IsClu (wtM (gW same edges)) (apM (gA same other)) same (grpG same (gW same edges)) L else e = 1 ∧ L = []
set_option maxRecDepth 100000 in
set_option maxHeartbeats 16000000 in
theorem cluster_spec (a sa oa : Option Addr) (c cs co : Nat) (edges : List Ed) (same : List Int) (other : List (Int × Int)) (w : World) (hm : edges.length ≤ 100) (hms : same.length ≤ 100) (hmo : other.length ≤ 100)
    (hS : EdSl w a edges) (hI : IntSl w sa same) (hO : PrSl w oa other) :
    RetsX Try.prog 12 #[.slice a edges.length c, .slice sa same.length cs, .slice oa other.length co] w (fun x : Option Addr × Nat × List Int × Int => .tuple #[.slice x.1 x.2.2.1.length x.2.1, .int .i64 x.2.2.2])
      (fun x w' => IntSl w' x.1 x.2.2.1 ∧ (∀ k, aBlk x.1 k → w.heap.size ≤ k) ∧ CluR edges same other x.2.2.1 x.2.2.2) := by
  have err : ∀ w', Ext w w' → okB same edges other = false → ∃ x : Option Addr × Nat × List Int × Int, Value.tuple #[.slice none 0 0, .int .i64 1] = .tuple #[.slice x.1 x.2.2.1.length x.2.1, .int .i64 x.2.2.2] ∧ (IntSl w' x.1 x.2.2.1 ∧ (∀ k, aBlk x.1 k → w.heap.size ≤ k) ∧ CluR edges same other x.2.2.1 x.2.2.2) ∧ Ext w w' := fun w' e h => by
    refine ⟨(none, 0, [], 1), rfl, ⟨TSl.nil _ _ _ _, fun k hk => (by obtain ⟨_, h, _⟩ := hk; cases h), ?_⟩, e⟩
    unfold CluR; rw [if_neg (by rw [h]; decide)]; exact ⟨rfl, rfl⟩
  refine enter (args := [_, _, _]) Try.func12 rfl Try.ntmps12 (by kernel_rfl) rfl ?_
  refine V.seq (V.region (VL.box (v := .slice _ _ _) rfl fun b4 w4 hb4 e4 hB4 => VL.op (R.asS rfl) (VL.op (R.asI rfl) (VL.nil (V.seq (V.block (V.seq (V.region (VL.op (R.ld1 Try.isAgg23 rfl (hB4.cell 0)) (VL.op (R.lenS Try.runUnderlying23 rfl) (VL.op (R.gtr rfl rfl) (VL.op (R.mvB rfl) (VL.orP rfl rfl (fun g1_3 => VL.op (R.mvS rfl) (VL.gT rfl rfl (VL.op (R.lenS Try.runUnderlying22 rfl) (VL.gT rfl rfl (VL.op (R.gtr rfl rfl) (VL.op (R.pickFB rfl rfl) (VL.op (R.asB rfl) (VL.nil (V.condP rfl (fun c19 => V.seq (V.region (VL.op (R.asS rfl) (VL.op (R.asI rfl) (VL.nil (V.ret (fret2 (v := .slice _ _ _) (x := .int _ _) rfl rfl rfl rfl rfl (?_)))))))) (fun c19 => V.seq (V.region (VL.op (R.ld1 Try.isAgg23 rfl (hB4.cell 0)) (VL.callP Try.call25 rfl (valid_spec sa cs same _ (by omega) (hI.ext e4)) fun w3_1 e3_1 => VL.op (R.not rfl) (VL.op (R.mvB rfl) (VL.or rfl rfl (fun g3_3 => VL.op (R.ld1 Try.isAgg23 rfl ((hB4.ext e3_1).cell 0)) (VL.gT rfl rfl (VL.op (R.lenS Try.runUnderlying23 rfl) (VL.gT rfl rfl (VL.op (R.mvS rfl) (VL.gT rfl rfl (VL.callP Try.call26 rfl (linked_spec _ a c edges _ (hS.ext (e4.trans e3_1)) (by omega)) fun w3_7 e3_7 => VL.gT rfl rfl (VL.op (R.not rfl) (VL.op (R.pickFB rfl rfl) (VL.op (R.mvB rfl) (VL.or rfl rfl (fun g3_10 => VL.op (R.ld1 Try.isAgg23 rfl ((hB4.ext (e3_1.trans e3_7)).cell 0)) (VL.gT rfl rfl (VL.op (R.lenS Try.runUnderlying23 rfl) (VL.gT rfl rfl (VL.op (R.mvS rfl) (VL.gT rfl rfl (VL.callP Try.call27 rfl (paired_spec _ oa co other _ (hO.ext ((e4.trans e3_1).trans e3_7)) (by omega)) fun w3_14 e3_14 => VL.gT rfl rfl (VL.op (R.not rfl) (VL.op (R.pickFB rfl rfl) (VL.op (R.asB rfl) (VL.nil (V.cond rfl (fun c28 => V.seq (V.region (VL.op (R.asS rfl) (VL.op (R.asI rfl) (VL.nil (V.ret (fret2 (v := .slice _ _ _) (x := .int _ _) rfl rfl rfl rfl rfl (?_)))))))) (fun c28 => V.skip (V.seq (?_))))))))))))))) (fun g3_10 => VL.gF rfl rfl (VL.gF rfl rfl (VL.gF rfl rfl (VL.gF rfl rfl (VL.op (R.pickTB rfl rfl) (VL.op (R.asB rfl) (VL.nil (V.condT rfl (V.seq (V.region (VL.op (R.asS rfl) (VL.op (R.asI rfl) (VL.nil (V.ret (fret2 (v := .slice _ _ _) (x := .int _ _) rfl rfl rfl rfl rfl (?_))))))))))))))))))))))))))) (fun g3_3 => VL.gF rfl rfl (VL.gF rfl rfl (VL.gF rfl rfl (VL.gF rfl rfl (VL.op (R.pickTB rfl rfl) (VL.op (R.mvB rfl) (VL.gF rfl rfl (VL.gF rfl rfl (VL.gF rfl rfl (VL.gF rfl rfl (VL.gF rfl rfl (VL.op (R.pickTB rfl rfl) (VL.op (R.asB rfl) (VL.nil (V.condT rfl (V.seq (V.region (VL.op (R.asS rfl) (VL.op (R.asI rfl) (VL.nil (V.ret (fret2 (v := .slice _ _ _) (x := .int _ _) rfl rfl rfl rfl rfl (?_)))))))))))))))))))))))))))))))))))))) (fun g1_3 => VL.gF rfl rfl (VL.gF rfl rfl (VL.op (R.pickTB rfl rfl) (VL.op (R.asB rfl) (VL.nil (V.condT rfl (V.seq (V.region (VL.op (R.asS rfl) (VL.op (R.asI rfl) (VL.nil (V.ret (fret2 (v := .slice _ _ _) (x := .int _ _) rfl rfl rfl rfl rfl (?_)))))))))))))))))))))))))))
  · omega
  · exact err _ (e4.trans (e3_1.trans (e3_7.trans e3_14))) (by unfold okB; simp_all)
  · have v1 : validB same = true := by simpa using g3_3
    have v2 : linkB (same.length : Int) edges = true := by simpa using g3_10
    have v3 : pairB (same.length : Int) other = true := by simpa using c28
    have hok2 : okB same edges other = true := by unfold okB; rw [v1, v2, v3]; rfl
    have hv := (validB_iff.1 v1).1
    have hl := (linkB_iff.1 v2).2
    have hok := gW_ok hv fun e he => ⟨(hl e he).1, (hl e he).2.1, (hl e he).2.2.1, (hl e he).2.2.2.1⟩
    have hlen := gW_len same edges
    have hlenA := gA_len same other
    have hc := cmpR_is hv hok
    have hBw := wtB_gW v2 (by omega)
    have E1 : Ext w w3_14 := e4.trans (e3_1.trans (e3_7.trans e3_14))
    have hB5 : Blk w3_14 b4 (.cells #[.slice sa same.length cs] 23 (0, 0)) := (hB4.ext (e3_1.trans (e3_7.trans e3_14)))
    have l4 := hB5.lt
    have z1 := E1.size
    refine V.region (VL.op (R.mvS rfl) (VL.op (R.ld1 Try.isAgg23 rfl (hB5.cell 0)) (VL.op (R.mvS rfl) (VL.callX Try.call28 rfl (gather_spec a sa oa c cs co edges same other _ (by omega) (by omega) v2 v3 (hS.ext E1) (hI.ext E1) (hO.ext E1)) fun x w5 hx e5 => VL.allocSt (v := .agg (#[.slice sa same.length cs, .map (some x.1), .map (some x.2)])) Try.zeroValue52 Try.sizeOf52 rfl rfl rfl rfl rfl fun b5_4 w5_4 hb5_4 e5_4 hB5_4 => VL.nil (V.seq (V.region (VL.op (R.ld1 Try.isAgg23 rfl ((hB5.ext (e5.trans e5_4)).cell 0)) (VL.callX Try.call29 rfl (cloneI_spec sa cs same _ (by omega) (hI.ext (E1.trans (e5.trans e5_4)))) fun y w6 hy e6 => VL.op (R.asS rfl) (VL.nil (V.cut [4, 9] (fun hd : List Int => [.pointer (some ⟨b4, 0, none⟩), .slice y.1 same.length y.2]) (fun hd w' => Ext w w' ∧ Blk w' b4 (.cells #[.slice sa same.length cs] 23 (0, 0)) ∧ IntSl w' y.1 hd ∧ hd.length = same.length ∧ ∀ g ∈ grpG same (gW same edges), SolR (wtM (gW same edges)) (apM (gA same other)) (clsG same g) ((clsG same g).map fun x => hd.getD x.toNat default)) (V.seq (V.region (VL.op (R.ldA Try.isAgg52 Try.sizeOf52 rfl rfl (((show Blk w5_4 b5_4 (.cells #[.slice sa same.length cs, .map (some x.1), .map (some x.2)] 52 (0, 0)) from hB5_4).ext e6).rowAt 0 3) rfl) (VL.callX Try.call31 rfl (components_spec sa cs x.1 x.2 same (gW same edges) (gA same other) _ (by omega) (by omega) (hx.1.ext (e5_4.trans e6)) (hI.ext (E1.trans (e5.trans (e5_4.trans e6)))) hv hok) fun x2 w7 hx2 e7 => VL.callX Try.call30 rfl (members_spec (some ⟨x2, 0, none⟩) same.length same.length (cmpR same (gW same edges)) _ (by omega) hc.le hc.idem hx2.1.sl) fun z w8 hz e8 => VL.op (R.lenS Try.runUnderlying34 rfl) (VL.op (R.mvI rfl) (VL.nil (V.block (?_)))))))) (fun rgB1 xB1 wBB1 hBB1 => V.seq (?_))))))))))))
    · obtain ⟨r1, r2⟩ := x
      obtain ⟨ya, yc⟩ := y
      obtain ⟨z, za, zc⟩ := z
      obtain ⟨hEv, hr1, hr2⟩ := hx
      obtain ⟨hzv, hG⟩ := hz
      dsimp only at hEv hr1 hr2 hy hzv hG e5_4 hB5_4 ⊢
      have hB8 : Blk w5_4 b5_4 (.cells #[.slice sa same.length cs, .map (some r1), .map (some r2)] 52 (0, 0)) := hB5_4
      have z5 := e5.size
      have z54 := e5_4.size
      have z6 := e6.size
      have z7 := e7.size
      have z8 := e8.size
      have l8 := hB8.lt
      have lr1 := hEv.wt.lt
      have lr2 := hEv.ap.lt
      have E5 := e5_4.trans (e6.trans (e7.trans e8))
      have E8 : Ext w w8 := E1.trans (e5.trans E5)
      have hyge := hy.ge
      have hylt := hy.lt
      have hzl : z.length = (grpG same (gW same edges)).length := by unfold grpG; rw [← hzv]; unfold vals; rw [List.length_map]
      have hzb : z.length ≤ 100 := by
        rw [hzl]; unfold grpG; rw [grpsK_len]
        have := hdsK_len (cmpR same (gW same edges)) same.length; omega
      have hgz : ∀ k, k < z.length → (grpG same (gW same edges)).getD k default = (z.getD k default).l := fun k hk => by unfold grpG; rw [← hzv]; unfold vals; exact gmap _ _ _ hk
      refine V.loop [4, 8, 9, 54, 55, 56] (fun x : Nat × List Int => [.pointer (some ⟨b4, 0, none⟩), .pointer (some ⟨b5_4, 0, none⟩), .slice ya same.length yc, .slice za z.length zc, .int .i64 (z.length : Nat), .int .i64 (x.1 : Nat)])
        (fun x w' => x.1 ≤ z.length ∧ Ext w w' ∧ Blk w' b4 (.cells #[.slice sa same.length cs] 23 (0, 0)) ∧ Blk w' b5_4 (.cells #[.slice sa same.length cs, .map (some r1), .map (some r2)] 52 (0, 0)) ∧ EvAt w' r1 r2 (gW same edges) (gA same other) ∧ OwnT encI 1 3 w5_4.heap.size w' ya yc x.2 ∧ x.2.length = same.length ∧ OwnT encSlL 1 23 w7.heap.size w' za zc z ∧ (∀ j, x.1 ≤ j → OwnT encI 1 3 w7.heap.size w' (z.getD j default).a (z.getD j default).cap (z.getD j default).l) ∧ w8.heap.size ≤ w'.heap.size ∧ ∀ j, j < x.1 → SolR (wtM (gW same edges)) (apM (gA same other)) (clsG same (z.getD j default).l) ((clsG same (z.getD j default).l).map fun v => x.2.getD v.toNat default)) (fun x => z.length - x.1) (0, same) rfl
        ⟨Nat.zero_le _, E8, hB5.ext (e5.trans E5), hB8.ext (e6.trans (e7.trans e8)), hEv.ext E5, hy.ext (e7.trans e8), rfl, hG.own, fun j _ => hG.each j, Nat.le_refl _, fun j hj => absurd hj (Nat.not_lt_zero _)⟩ ?_
      rintro ρ ⟨k, hd⟩ w2 ⟨hk, E2, hb4, hb8, hEv2, hy2, hyl, hz2, hea, hs2, hsol⟩
      dsimp only at hk E2 hb4 hb8 hEv2 hy2 hyl hz2 hea hs2 hsol ⊢
      obtain ⟨f, hf⟩ : ∃ f : Int → Bool, f = fun p => decide (at_ same p ≠ p) := ⟨_, rfl⟩
      have hdel : k < z.length → RetsY Try.prog 32 #[.slice (z.getD k default).a (z.getD k default).l.length (z.getD k default).cap, .func (.func 33) #[] #[.pointer (some ⟨b4, 0, none⟩)]] w2 (fun _ : Unit => .slice (z.getD k default).a (clsG same (z.getD k default).l).length (z.getD k default).cap) (fun _ w' => (Ext w w' ∧ Blk w' b4 (.cells #[.slice sa same.length cs] 23 (0, 0))) ∧ Vc.Mod (fun q => aBlk (z.getD k default).a q ∨ False) w2 w' ∧ (0 < (clsG same (z.getD k default).l).length → Srt encI 1 w' (z.getD k default).a (clsG same (z.getD k default).l).toArray w')) := fun hkz => by
        have hgm : (z.getD k default).l ∈ grpG same (gW same edges) := by rw [← hgz k hkz]; exact getD_mem (by omega)
        obtain ⟨_, _, hgl, hgx⟩ := grp_facts hv hok hgm
        have := deleteFn_spec 33 [.pointer (some ⟨b4, 0, none⟩)] f (fun w' => Ext w w' ∧ Blk w' b4 (.cells #[.slice sa same.length cs] 23 (0, 0))) (fun _ => False) (z.getD k default).a (z.getD k default).cap w7.heap.size (z.getD k default).l w2 Try.call33
          (fun w' p hp ⟨e, hb⟩ => (isnot_spec p sa cs b4 same w' hb (hI.ext e) (hgx p hp).1 (hgx p hp).2 (by omega)).mono fun u w'' ⟨h1, h2⟩ => ⟨(), by rw [h1, hf], ⟨e.trans h2, hb.ext h2⟩, Ext.mod h2⟩)
          (fun w' w'' ⟨e, hb⟩ m => ⟨e.ownA m fun q hq => by have := (hea k (Nat.le_refl _)).ge q hq; omega, hb.mod m fun hq => by have := (hea k (Nat.le_refl _)).ge _ hq; omega⟩) ⟨E2, hb4⟩ (hea k (Nat.le_refl _)) (fun q _ h => h) (fun q h => h.elim) (by omega)
        rw [hf] at this
        exact this
      refine V.seq (V.region (VL.op (R.lss rfl rfl) (VL.nil (V.seq (V.condP rfl (fun c57 => V.skip (V.seq (V.block (V.seq (V.region (VL.op (R.ixS Try.runUnderlying34 Try.sizeOf23 rfl rfl (by omega) (by omega) ((hz2.sl).some (i := k) (by omega))) (VL.op (R.ld1 Try.isAgg23 rfl (((((hz2.sl).ext (Mod.refl Vc.nob w2)).row (i := k) (by omega)).cell (i := 0) rfl))) (VL.op (R.asS rfl) (VL.nil (V.seq (V.region (VL.op (R.mvS rfl) (VL.op (R.mkFn rfl rfl) (VL.callY Try.call32 rfl (hdel (by omega)) fun u w10 h10 => VL.op (R.asS rfl) (VL.nil (V.seq (?_))))))))))))))))) (fun c57 => V.exit (?_)))))))
      · have hkz : k < z.length := by omega
        obtain ⟨⟨E10, hb410⟩, m10, hsrt⟩ := h10
        have hek := hea k (Nat.le_refl _)
        have hgek := hek.ge
        have hgm : (z.getD k default).l ∈ grpG same (gW same edges) := by rw [← hgz k hkz]; exact getD_mem (by omega)
        obtain ⟨hinc, hpos, hgl, hgx⟩ := grp_facts hv hok hgm
        obtain ⟨cls, hcls⟩ : ∃ cls, cls = clsG same (z.getD k default).l := ⟨_, rfl⟩
        rw [← hcls] at hinc hpos hsrt ⊢
        have hclen : cls.length ≤ 100 := by rw [hcls]; unfold clsG; have := List.length_filter_le (fun p => !decide (at_ same p ≠ p)) (z.getD k default).l; omega
        have hC10 : IntSl w10 (z.getD k default).a cls := by have := (hsrt hpos).sl eltI; rwa [List.toList_toArray] at this
        have hoff : ∀ b, b < w7.heap.size → ¬ (aBlk (z.getD k default).a b ∨ False) := fun b hb h => h.elim (fun h => by have := hgek b h; omega) id
        have hb810 := hb8.mod m10 (hoff _ (by omega))
        have hEv10 := hEv2.mod m10 (hoff _ (by omega)) (hoff _ (by omega))
        have hy10 := hy2.mod m10 fun q hq => hoff q (by have := hylt q hq; omega)
        have hz10 := hz2.mod m10 fun q hq h => h.elim (fun h => hG.out k q hq h) id
        have hea10 : ∀ j, k + 1 ≤ j → OwnT encI 1 3 w7.heap.size w10 (z.getD j default).a (z.getD j default).cap (z.getD j default).l := fun j hj => (hea j (by omega)).mod m10 fun q hq h => h.elim (fun h => hG.sep j k (by omega) q hq h) id
        have s10 := m10.size
        refine V.region (VL.op (R.ldA Try.isAgg52 Try.sizeOf52 rfl rfl (hb810.rowAt 0 3) rfl) (VL.op (R.mkFn rfl rfl) (VL.op (R.asF rfl) (VL.nil (V.cut [4, 8, 9, 12, 13, 54, 55, 56] (fun F : FuncId => [.pointer (some ⟨b4, 0, none⟩), .pointer (some ⟨b5_4, 0, none⟩), .slice ya same.length yc, .slice (z.getD k default).a cls.length (z.getD k default).cap, .func (.func F) #[evV sa same.length cs r1 r2] #[], .slice za z.length zc, .int .i64 (z.length : Nat), .int .i64 (k : Nat)]) (fun F w' => Ext w10 w' ∧ ((F = 34 ∧ cls.length ≤ 8) ∨ (F = 35 ∧ 8 < cls.length))) (V.seq (V.region (VL.op (R.mvS rfl) (VL.op (R.lenS Try.runUnderlying23 rfl) (VL.op (R.gtr rfl rfl) (VL.nil (V.condP rfl (fun c67 => V.region (VL.op (R.ldA Try.isAgg52 Try.sizeOf52 rfl rfl (hb810.rowAt 0 3) rfl) (VL.op (R.mkFn rfl rfl) (VL.op (R.asF rfl) (VL.nil (?_)))))) (fun c67 => V.skip (?_))))))))) (fun rgC67 xC67 wBC67 hBC67 => V.seq (?_)))))))
        · exact ⟨35, rfl, Mod.refl _ _, .inr ⟨rfl, by omega⟩⟩
        · exact ⟨34, rfl, Mod.refl _ _, .inl ⟨rfl, by omega⟩⟩
        · obtain ⟨E67, hF⟩ := hBC67
          have hFn : IsFn Try.prog xC67 := by
            rcases hF with ⟨h, _⟩ | ⟨h, _⟩
            · rw [h]; exact Try.call34
            · rw [h]; exact Try.call35
          refine V.region (VL.op (R.mvF rfl) (VL.op (R.mvS rfl) (VL.callCX rfl (hFn) rfl (solve_spec _ sa (z.getD k default).a same.length cs (z.getD k default).cap r1 r2 cls (gW same edges) (gA same other) _ hF (hEv10.ext E67) (TSl.ext hC10 E67) hclen hpos hinc (by omega) (by omega) hBw (fun e he => (hok e he).2.1) (gA_ok same other)) fun s w14 hs14 e14 => VL.op (R.lenS Try.runUnderlying23 rfl) (VL.op (R.mvI rfl) (VL.nil (V.block (?_)))))))
          obtain ⟨sx, sc, hs⟩ := s
          obtain ⟨hS14, hnew, hsolk, hsl⟩ := hs14
          dsimp only at hS14 hnew hsolk hsl ⊢
          have E14 := E67.trans e14
          have s67 := E67.size
          have s14 := e14.size
          have hy14 := hy10.ext E14
          have hC14 := TSl.ext hC10 E14
          refine V.loop [4, 8, 9, 12, 54, 55, 56, 72, 73, 74] (fun x : Nat × List Int => [.pointer (some ⟨b4, 0, none⟩), .pointer (some ⟨b5_4, 0, none⟩), .slice ya same.length yc, .slice (z.getD k default).a cls.length (z.getD k default).cap, .slice za z.length zc, .int .i64 (z.length : Nat), .int .i64 (k : Nat), .slice sx hs.length sc, .int .i64 (hs.length : Nat), .int .i64 (x.1 : Nat)])
            (fun x w' => x.1 ≤ hs.length ∧ Vc.Mod (aBlk ya) w14 w' ∧ OwnT encI 1 3 w5_4.heap.size w' ya yc x.2 ∧ x.2.length = same.length ∧ (∀ j, j < x.1 → x.2.getD (cls.getD j default).toNat default = hs.getD j default) ∧ ∀ v : Nat, (v : Int) ∉ cls → x.2.getD v default = hd.getD v default) (fun x => hs.length - x.1) (0, hd) rfl
            ⟨Nat.zero_le _, Mod.refl _ _, hy14, hyl, fun j hj => absurd hj (Nat.not_lt_zero _), fun v _ => rfl⟩ ?_
          rintro ρ ⟨i, hd'⟩ w3 ⟨hi, m3, hy3, hl3, hd3, ho3⟩
          dsimp only at hi m3 hy3 hl3 hd3 ho3 ⊢
          have hC3 : IntSl w3 (z.getD k default).a cls := TSl.mod hC14 m3 fun ad e hq => by
            have h1 := hgek ad.block ⟨ad, e, rfl⟩
            have h2 := hylt _ hq
            omega
          have hS3 : IntSl w3 sx hs := TSl.mod hS14 m3 fun ad e hq => by
            have h1 := hnew ad.block ⟨ad, e, rfl⟩
            have h2 := hylt _ hq
            omega
          have hgc : i < cls.length → 0 ≤ cls.getD i default ∧ cls.getD i default < same.length := fun h => by
            have h1 : cls.getD i default ∈ cls := getD_mem h
            rw [hcls] at h1
            have := hgx _ (clsG_mem.1 h1).1
            rw [← hcls] at this; exact this
          refine V.seq (V.region (VL.op (R.lss rfl rfl) (VL.nil (V.seq (V.condP rfl (fun c75 => V.skip (V.seq (V.block (V.seq (V.region (VL.op (R.mvI rfl) (VL.op (R.ixS Try.runUnderlying23 Try.sizeOf3 rfl rfl (by have := hgc (by omega); omega) (by have := hgc (by omega); omega) ((hS3).some (i := i) (by have := hgc (by omega); omega))) (VL.op (R.ld1 Try.isAgg3 rfl (((((hS3).ext (Mod.refl Vc.nob w3)).row (i := i) (by have := hgc (by omega); omega)).cell (i := 0) rfl))) (VL.op (R.asI rfl) (VL.op (R.asI rfl) (VL.nil (V.region (VL.op (R.mvS rfl) (VL.op (R.mvS rfl) (VL.op (R.mvI rfl) (VL.op (R.ixS Try.runUnderlying23 Try.sizeOf3 rfl rfl (by have := hgc (by omega); omega) (by have := hgc (by omega); omega) ((hC3).some (i := i) (by have := hgc (by omega); omega))) (VL.op (R.ld1 Try.isAgg3 rfl (((((hC3).ext (Mod.refl Vc.nob w3)).row (i := i) (by have := hgc (by omega); omega)).cell (i := 0) rfl))) (VL.op (R.mvI rfl) (VL.op (R.ixS Try.runUnderlying23 Try.sizeOf3 rfl rfl (by have := hgc (by omega); omega) (by have := hgc (by omega); omega) ((hy3.sl).some (i := (cls.getD i default).toNat) (by have := hgc (by omega); omega))) (VL.ownSt eltI (v := .int _ _) Try.sizeOf3 (hy3) (cls.getD i default).toNat 0 (hs.getD i default) rfl rfl (by omega) rfl rfl rfl rfl rfl fun w17 ho17 m17 hs17 => VL.nil (V.region (VL.op (R.add rfl rfl (by omega) (by omega)) (VL.op (R.mvI rfl) (VL.nil (?_))))))))))))))))))))))))) (fun c75 => V.exit (V.region (VL.op (R.add rfl rfl (by omega) (by omega)) (VL.op (R.mvI rfl) (VL.nil (?_)))))))))))
          · have hil : i < cls.length := by omega
            have hgi := hgc hil
            refine ⟨(i + 1, hd'.set (cls.getD i default).toNat (hs.getD i default)), rfl, ⟨by dsimp only; omega, m3.then m17 fun x _ hx => hx, ho17, by dsimp only; rw [List.length_set]; exact hl3, fun j hj => ?_, fun v hvn => ?_⟩, by dsimp only; omega⟩
            · dsimp only at hj ⊢
              rw [set_get (by omega)]
              by_cases e : j = i
              · rw [if_pos (by rw [e]), e]
              · have hlt := inc_at hinc (i := j) (j := i) (by omega) hil
                have hjm : cls.getD j default ∈ cls := getD_mem (by omega)
                have hj0 : 0 ≤ cls.getD j default := by rw [hcls] at hjm; have := hgx _ (clsG_mem.1 hjm).1; rw [← hcls] at this; exact this.1
                rw [if_neg (by omega)]; exact hd3 j (by omega)
            · dsimp only
              rw [set_get (by omega), if_neg (fun e => hvn (by rw [show (v : Int) = cls.getD i default by omega]; exact getD_mem hil))]
              exact ho3 v hvn
          · have hil : i = hs.length := by omega
            subst hil
            have hoff3 : ∀ b, b < w5_4.heap.size ∨ w7.heap.size ≤ b → ¬ aBlk ya b := fun b hb h => by
              have h1 := hyge b h
              have h2 := hylt b h
              omega
            refine ⟨(k + 1, hd'), rfl, ⟨by dsimp only; omega, (E10.trans E14).ownA m3 fun q hq => by have := hyge q hq; omega, (hb410.ext E14).mod m3 (hoff3 _ (by omega)), (hb810.ext E14).mod m3 (hoff3 _ (by omega)), (hEv10.ext E14).mod m3 (hoff3 _ (by omega)) (hoff3 _ (by omega)), hy3, hl3,
              (hz10.ext E14).mod m3 (fun q hq => hoff3 q (by have := hz10.ge q hq; omega)), fun j hj => ((hea10 j hj).ext E14).mod m3 (fun q hq => hoff3 q (by have := (hea10 j hj).ge q hq; omega)), by have := m3.size; omega, fun j hj => ?_⟩, by dsimp only; omega⟩
            dsimp only at hj ⊢
            by_cases e : j = k
            · subst e
              rw [← hcls]
              have : cls.map (fun v => hd'.getD v.toNat default) = hs := by
                refine List.ext_getElem (by rw [List.length_map]; omega) fun q h1 h2 => ?_
                rw [List.length_map] at h1
                have := hd3 q (by omega)
                rw [show cls.getD q default = cls[q] by simp [List.getD, h1], show hs.getD q default = hs[q] by simp [List.getD, h2]] at this
                rw [List.getElem_map]; exact this
              rw [this]; exact hsolk
            · have hjk : j < k := by omega
              have h1 := hsol j hjk
              have : (clsG same (z.getD j default).l).map (fun v => hd'.getD v.toNat default) = (clsG same (z.getD j default).l).map (fun v => hd.getD v.toNat default) := by
                refine List.map_congr_left fun v hv' => ?_
                have hvg := (clsG_mem.1 hv').1
                have hgmj : (z.getD j default).l ∈ grpG same (gW same edges) := by rw [← hgz j (by omega)]; exact getD_mem (by omega)
                have hvb := (grp_facts hv hok hgmj).2.2.2 v hvg
                refine ho3 v.toNat fun hm => ?_
                rw [Int.toNat_of_nonneg hvb.1, hcls] at hm
                have h2 := (clsG_mem.1 hm).1
                rw [← hgz j (by omega)] at hvg
                rw [← hgz k hkz] at h2
                unfold grpG at hvg h2 hzl
                have := grp_disj (by omega) (by omega) hvg h2
                omega
              rw [this]; exact h1
      · have hkz : k = z.length := by omega
        subst hkz
        refine ⟨hd, rfl, E2, hb4, hy2.sl, hyl, fun g hg => ?_⟩
        obtain ⟨j, hj, hjg⟩ := List.getElem_of_mem hg
        have h1 := hsol j (by omega)
        rw [← hgz j (by omega), show (grpG same (gW same edges)).getD j default = g by rw [← hjg]; simp [List.getD, hj]] at h1
        exact h1
    · obtain ⟨eB, hb4, hY, hYl, hsol⟩ := hBB1
      refine V.region (VL.op (R.ld1 Try.isAgg23 rfl (hb4.cell 0)) (VL.op (R.lenS Try.runUnderlying23 rfl) (VL.makeSl (enc := encI) el23 (0) rfl rfl rfl (by omega) (by unfold maxLen; omega) (Nat.le_refl _) fun b16 w16 hb16 e16 ho16 => VL.op (R.asS rfl) (VL.nil (V.seq (V.seq (V.region (VL.op (R.ld1 Try.isAgg23 rfl ((hb4.ext e16).cell 0)) (VL.op (R.lenS Try.runUnderlying23 rfl) (VL.op (R.mvI rfl) (VL.nil (V.block (?_)))))))))))))
      have hb16' : wBB1.heap.size = b16 := hb16.symm
      have z16 := e16.size
      have hom := ho16.weaken (B' := b16) (by omega)
      have lm : b16 < w16.heap.size := ho16.lt b16 ⟨_, rfl, rfl⟩
      refine V.loop [9, 16, 91, 92, 93] (fun x : Nat × List Int => [.slice y.1 same.length y.2, .slice (some ⟨b16, 0, none⟩) same.length same.length, .slice sa same.length cs, .int .i64 (same.length : Nat), .int .i64 (x.1 : Nat)])
        (fun x w' => x.1 ≤ same.length ∧ Vc.Mod (one b16) w16 w' ∧ OwnT encI 1 3 b16 w' (some ⟨b16, 0, none⟩) same.length x.2 ∧ x.2.length = same.length ∧ ∀ j, j < x.1 → x.2.getD j default = xB1.getD (same.getD j default).toNat default) (fun x => same.length - x.1) (0, _) rfl ⟨Nat.zero_le _, Mod.refl _ _, hom, by simp, fun j hj => absurd hj (Nat.not_lt_zero _)⟩ ?_
      rintro ρ ⟨k, en⟩ w2 ⟨hk, m2, ho2, hl2, hf2⟩
      dsimp only at hk m2 ho2 hl2 hf2 ⊢
      have E2 : Ext wBB1 w2 := e16.ownA m2 fun q hq => by have hq : q = b16 := hq; omega
      refine V.seq (V.region (VL.op (R.lss rfl rfl) (VL.nil (V.seq (V.condP rfl (fun c94 => V.skip (V.seq (V.block (V.seq (V.region (VL.op (R.mvI rfl) (VL.op (R.ixS Try.runUnderlying23 Try.sizeOf3 rfl rfl (by have := hv k; omega) (by have := hv k; omega) (((hI.ext eB)).some (i := k) (by have := hv k; omega))) (VL.op (R.ld1 Try.isAgg3 rfl ((((((hI.ext eB)).ext E2).row (i := k) (by have := hv k; omega)).cell (i := 0) rfl))) (VL.op (R.asI rfl) (VL.op (R.asI rfl) (VL.nil (V.region (VL.op (R.mvS rfl) (VL.op (R.mvI rfl) (VL.op (R.mvS rfl) (VL.op (R.mvI rfl) (VL.op (R.ixS Try.runUnderlying23 Try.sizeOf3 rfl rfl (by have := hv k; omega) (by have := hv k; omega) ((hY).some (i := (same.getD k default).toNat) (by have := hv k; omega))) (VL.op (R.ld1 Try.isAgg3 rfl (((((hY).ext E2).row (i := (same.getD k default).toNat) (by have := hv k; omega)).cell (i := 0) rfl))) (VL.op (R.ixS Try.runUnderlying23 Try.sizeOf3 rfl rfl (by omega) (by omega) ?_) (VL.ownSt eltI (v := .int _ _) Try.sizeOf3 (ho2) k 0 (xB1.getD (same.getD k default).toNat default) rfl rfl (by omega) rfl rfl rfl rfl rfl fun w3 ho3 m3 hs3 => VL.nil (V.region (VL.op (R.add rfl rfl (by omega) (by omega)) (VL.op (R.mvI rfl) (VL.nil (⟨(k + 1, en.set k (xB1.getD (same.getD k default).toNat default)), rfl, ⟨?_, ?_, ho3, ?_, ?_⟩, ?_⟩))))))))))))))))))))))))) (fun c94 => V.exit (V.seq (V.region (VL.op (R.mvS rfl) (VL.op (R.asS rfl) (VL.op (R.asI rfl) (VL.nil (V.ret (fret2 (v := .slice _ _ _) (x := .int _ _) rfl rfl rfl rfl rfl (?_)))))))))))))))
      · exact ⟨_, _, rfl⟩
      · dsimp only; omega
      · exact m2.then m3 fun x _ hx => aBlk_some hx
      · dsimp only; rw [List.length_set]; exact hl2
      · intro i hi
        dsimp only at hi ⊢
        rw [set_get (by omega)]
        by_cases e : i = k
        · rw [if_pos e, e]
        · rw [if_neg e]; exact hf2 i (by omega)
      · dsimp only; omega
      · have hkn : k = same.length := by omega
        have hen : en = same.map fun v => xB1.getD v.toNat default := by
          refine List.ext_getElem (by rw [List.length_map]; exact hl2) fun i h1 h2 => ?_
          have h3 : i < same.length := by omega
          have := hf2 i (by omega)
          rw [show en.getD i default = en[i] by simp [List.getD, h1], show same.getD i default = same[i] by simp [List.getD, h3]] at this
          rw [List.getElem_map]; exact this
        refine ⟨(some ⟨b16, 0, none⟩, same.length, en, 0), by dsimp only; rw [hl2], ⟨ho2.sl, fun q hq => ?_, ?_⟩, eB.trans E2⟩
        · have := ho2.ge q hq; have := eB.size; omega
        · unfold CluR
          rw [if_pos hok2]
          exact ⟨rfl, _, hsol, hen⟩
  · exact err _ (e4.trans (e3_1.trans e3_7)) (by unfold okB; simp_all)
  · exact err _ (e4.trans e3_1) (by unfold okB; simp_all)
  · omega
end Go.Proofs.Ytglaigeellpikaa
