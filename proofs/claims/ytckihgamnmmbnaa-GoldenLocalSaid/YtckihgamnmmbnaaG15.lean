/- Golden: heads and groups; the order of heads. -/
import Derived.Test.YtckihgamnmmbnaaG12
namespace Go.Proofs.Ytckihgamnmmbnaa
open Go.Vc Go.Sort

def encInt (x : Int) : Value := .int .i64 x
theorem key3 : KeyT Try.prog 3 encInt where
  td := ⟨_, Try.underlying3, fun a b => by right; simp only [Instr.sameNow, encInt]; exact congrArg some (Bool.eq_iff_iff.2 (by simp))⟩
  eq := by
    intro a b w
    show (Op.equalIn (9999 + 1) 3 _ _).run Try.prog w = _
    unfold Op.equalIn
    simp [go_sem, encInt]
    exact Bool.eq_iff_iff.2 (by simp)
  chk := fun e a w => chkI (P := Try.prog) (T := 3) (n := 9999) (e := e) (k := .i64) (x := a) Try.runUnderlying3 w
  stay := by
    intro a
    show Instr.sameBits (9999 + 1) _ _ = true
    simp [encInt, Instr.sameBits]
def tabOf (recs : List Rec) (h : Int) : Int := (recs.getD h.toNat default).table
structure HOk (s : Set_) (recs : List Rec) (h : Int) : Prop where
  h0 : 0 ≤ h
  h1 : h.toNat < recs.length
  t0 : 0 ≤ tabOf recs h
  t1 : tabOf recs h < s.tabs.length
abbrev Hd (s : Set_) (recs : List Rec) := { x : Int // HOk s recs x }
def cfH (s : Set_) (recs : List Rec) (x y : Hd s recs) : Int := tabOf recs x.1 - tabOf recs y.1
set_option maxHeartbeats 4000000 in
theorem byTab_spec (s : Set_) (recs : List Rec) (ra : Option Addr) (rc b : Nat) (x y : Hd s recs) (w : World) (hr : recs.length ≤ 1000000) (hl : s.tabs.length ≤ 1000000) (hB : Blk w b (.cells #[.slice ra recs.length rc] 33 (0, 0))) (hR : RecsW w ra recs) :
    RetsP Try.prog 33 #[.int .i64 x.1, .int .i64 y.1, .pointer (some ⟨b, 0, none⟩)] w (.int .i64 (cfH s recs x y)) := by
  obtain ⟨x, hx0, hx1, hx2, hx3⟩ := x
  obtain ⟨y, hy0, hy1, hy2, hy3⟩ := y
  unfold tabOf at hx2 hx3 hy2 hy3
  show RetsP Try.prog 33 #[.int .i64 x, .int .i64 y, .pointer (some ⟨b, 0, none⟩)] w (.int .i64 ((recs.getD x.toNat default).table - (recs.getD y.toNat default).table))
  refine enter (args := [_, _, _]) Try.func33 rfl Try.ntmps33 (by kernel_rfl) rfl ?_
  refine V.seq (V.region (VL.op (R.asI rfl) (VL.nil (V.seq (V.regionQ mixed 12 (by kernel_rfl) rfl (fun w' => Ext _ w') (Ext.drawn _) (VQ.op (fun wq eq => R.ld1 Try.isAgg33 rfl (((hB.ext eq).cell 0))) (VQ.op (fun wq eq => R.mvI rfl) (VQ.op (fun wq eq => R.ixS Try.runUnderlying33 Try.sizeOf53 rfl rfl (by omega) (by omega) (hR.sl.some (i := x.toNat) (by omega))) (VQ.op (fun wq eq => R.fld' (o := 3) Try.runUnderlying53 rfl rfl Try.sizeOf3 rfl rfl) (VQ.op (fun wq eq => R.ld1 Try.isAgg3 rfl ((((hR.sl.ext eq).row (i := x.toNat) (by omega)).cell (i := 3) rfl))) (VQ.op (fun wq eq => R.ld1 Try.isAgg33 rfl (((hB.ext eq).cell 0))) (VQ.op (fun wq eq => R.mvI rfl) (VQ.op (fun wq eq => R.ixS Try.runUnderlying33 Try.sizeOf53 rfl rfl (by omega) (by omega) (hR.sl.some (i := y.toNat) (by omega))) (VQ.op (fun wq eq => R.fld' (o := 3) Try.runUnderlying53 rfl rfl Try.sizeOf3 rfl rfl) (VQ.op (fun wq eq => R.ld1 Try.isAgg3 rfl ((((hR.sl.ext eq).row (i := y.toNat) (by omega)).cell (i := 3) rfl))) (VQ.op (fun wq eq => R.subE (z := ((recs.getD x.toNat default).table - (recs.getD y.toNat default).table)) rfl rfl (by omega) (by omega) (by omega)) (VQ.op (fun wq eq => R.asI rfl) (VQ.nil fun w1q e1q => VL.nil (V.ret (fret1 (v := .int _ _) rfl rfl rfl (⟨rfl, e1q⟩)))))))))))))))))))))
theorem swoH (s : Set_) (recs : List Rec) : SWO (StbI.ltf (cfH s recs)) where
  irrefl x := by simp [StbI.ltf, cfH]
  trans x y z h1 h2 := by
    have h1 := of_decide_eq_true h1
    have h2 := of_decide_eq_true h2
    refine decide_eq_true ?_
    unfold cfH at *; omega
  ntrans x y z h1 h2 := by
    have h1 := of_decide_eq_false h1
    have h2 := of_decide_eq_false h2
    refine decide_eq_false ?_
    unfold cfH at *; omega
/-- Heads in order: by table, then by place. -/
def HLt (recs : List Rec) (x y : Int) : Prop := tabOf recs x < tabOf recs y ∨ tabOf recs x = tabOf recs y ∧ x < y
def headsF (L : List Int) (i : Nat) : List Int := ((List.range i).filter fun k => decide (L.getD k default = (k : Nat))).map fun k => ((k : Nat) : Int)
def grpF (L : List Int) (h : Int) (i : Nat) : List Int := ((List.range i).filter fun k => decide (L.getD k default = h)).map fun k => ((k : Nat) : Int)
theorem headsF_succ (L : List Int) (i : Nat) : headsF L (i + 1) = headsF L i ++ if L.getD i default = (i : Nat) then [(i : Int)] else [] := by
  unfold headsF
  rw [List.range_succ, List.filter_append, List.map_append]
  congr 1
  by_cases h : L.getD i default = (i : Nat)
  · rw [if_pos h, List.filter_cons_of_pos (by simpa using h)]; rfl
  · rw [if_neg h, List.filter_cons_of_neg (by simpa using h)]; rfl
theorem grpF_succ (L : List Int) (h : Int) (i : Nat) : grpF L h (i + 1) = grpF L h i ++ if L.getD i default = h then [(i : Int)] else [] := by
  unfold grpF
  rw [List.range_succ, List.filter_append, List.map_append]
  congr 1
  by_cases hh : L.getD i default = h
  · rw [if_pos hh, List.filter_cons_of_pos (by simpa using hh)]; rfl
  · rw [if_neg hh, List.filter_cons_of_neg (by simpa using hh)]; rfl
theorem headsF_len (L : List Int) (i : Nat) : (headsF L i).length ≤ i := by
  unfold headsF
  rw [List.length_map]
  exact Nat.le_trans (List.length_filter_le _ _) (by simp)
theorem grpF_len (L : List Int) (h : Int) (i : Nat) : (grpF L h i).length ≤ i := by
  unfold grpF
  rw [List.length_map]
  exact Nat.le_trans (List.length_filter_le _ _) (by simp)
theorem headsF_mem {L : List Int} {i : Nat} {x : Int} : x ∈ headsF L i ↔ ∃ k, k < i ∧ L.getD k default = (k : Nat) ∧ x = (k : Nat) := by
  unfold headsF
  simp only [List.mem_map, List.mem_filter, List.mem_range, decide_eq_true_eq]
  constructor
  · rintro ⟨k, ⟨h1, h2⟩, rfl⟩; exact ⟨k, h1, h2, rfl⟩
  · rintro ⟨k, h1, h2, rfl⟩; exact ⟨k, ⟨h1, h2⟩, rfl⟩
theorem grpF_mem {L : List Int} {i : Nat} {h x : Int} : x ∈ grpF L h i ↔ ∃ k, k < i ∧ L.getD k default = h ∧ x = (k : Nat) := by
  unfold grpF
  simp only [List.mem_map, List.mem_filter, List.mem_range, decide_eq_true_eq]
  constructor
  · rintro ⟨k, ⟨h1, h2⟩, rfl⟩; exact ⟨k, h1, h2, rfl⟩
  · rintro ⟨k, h1, h2, rfl⟩; exact ⟨k, ⟨h1, h2⟩, rfl⟩
theorem filt_lt (p : Nat → Bool) (i : Nat) : (((List.range i).filter p).map fun k => ((k : Nat) : Int)).Pairwise (· < ·) := by
  rw [List.pairwise_map]
  refine (List.Pairwise.sublist List.filter_sublist List.pairwise_lt_range).imp ?_
  intro a b h; omega
theorem headsF_lt (L : List Int) (i : Nat) : (headsF L i).Pairwise (· < ·) := filt_lt _ _
theorem grpF_lt (L : List Int) (h : Int) (i : Nat) : (grpF L h i).Pairwise (· < ·) := filt_lt _ _
def hsF (s : Set_) (recs : List Rec) (L : List Int) : List Int := (List.range s.tabs.length).flatMap fun t => (headsF L L.length).filter fun h => decide (tabOf recs h = (t : Nat))
theorem hsF_mem {s : Set_} {recs : List Rec} {L : List Int} (hp : ∀ h ∈ headsF L L.length, HOk s recs h) {x : Int} : x ∈ hsF s recs L ↔ x ∈ headsF L L.length := by
  unfold hsF
  simp only [List.mem_flatMap, List.mem_range, List.mem_filter, decide_eq_true_eq]
  constructor
  · rintro ⟨t, _, h, _⟩; exact h
  · intro h
    have ho := hp x h
    have h1 := ho.t0
    have h2 := ho.t1
    exact ⟨(tabOf recs x).toNat, by omega, h, by omega⟩
theorem hsF_sorted (s : Set_) (recs : List Rec) (L : List Int) : (hsF s recs L).Pairwise (HLt recs) := by
  unfold hsF
  rw [List.pairwise_flatMap]
  refine ⟨fun t _ => ?_, ?_⟩
  · refine List.pairwise_iff_getElem.2 fun i j hi hj hij => ?_
    have h1 := List.pairwise_iff_getElem.1 (List.Pairwise.sublist (List.filter_sublist (p := fun h => decide (tabOf recs h = (t : Nat)))) (headsF_lt L L.length)) i j hi hj hij
    have h2 := (List.mem_filter.1 (List.getElem_mem hi)).2
    have h3 := (List.mem_filter.1 (List.getElem_mem hj)).2
    simp only [decide_eq_true_eq] at h2 h3
    exact .inr ⟨by rw [h2, h3], h1⟩
  · refine List.pairwise_lt_range.imp ?_
    intro a b hab x hx y hy
    have h2 := (List.mem_filter.1 hx).2
    have h3 := (List.mem_filter.1 hy).2
    simp only [decide_eq_true_eq] at h2 h3
    exact .inl (by omega)
/-- The heads with their tags. -/
def tagH (s : Set_) (recs : List Rec) (l : List Int) (hp : ∀ h ∈ l, HOk s recs h) : List (Hd s recs × Nat) := l.pmap (fun x h => (⟨x, h⟩, x.toNat)) hp
def valH {s : Set_} {recs : List Rec} (x : Hd s recs × Nat) : Int := x.1.1
theorem tagH_val {s : Set_} {recs : List Rec} {l : List Int} (hp : ∀ h ∈ l, HOk s recs h) : (tagH s recs l hp).map valH = l := by
  unfold tagH
  rw [List.map_pmap]
  simp [valH]
theorem sorted_hs {s : Set_} {recs : List Rec} {L : List Int} (hp : ∀ h ∈ headsF L L.length, HOk s recs h) [Inhabited (Hd s recs)] {d : Array (Hd s recs × Nat)} {n : Nat} (hn : n = (headsF L L.length).length)
    (h1 : PermIn 0 n (tagH s recs _ hp).toArray d) (h2 : SortedIn (lx (StbI.ltf (cfH s recs))) 0 n d) : d.toList.map valH = hsF s recs L := by
  obtain ⟨hsz, _, hperm⟩ := h1
  have htl : (tagH s recs _ hp).length = n := by rw [hn]; unfold tagH; rw [List.length_pmap]
  have hsz : d.size = n := by rw [hsz]; simpa using htl
  have e1 : d.extract 0 n = d := by rw [← hsz]; exact Array.extract_size
  have e2 : (tagH s recs _ hp).toArray.extract 0 n = (tagH s recs _ hp).toArray := by
    have : n = (tagH s recs _ hp).toArray.size := by simpa using htl.symm
    rw [this]; exact Array.extract_size
  rw [e1, e2] at hperm
  have hperm : d.toList.Perm (tagH s recs _ hp) := by simpa using hperm
  have hpv : (d.toList.map valH).Perm (headsF L L.length) := by
    have := hperm.map valH
    rwa [tagH_val] at this
  have hnd : (d.toList.map valH).Nodup := by
    refine hpv.nodup_iff.2 ?_
    exact (headsF_lt L L.length).imp fun h e => by omega
  refine sorted_ext (R := HLt recs) ?_ ?_ (hsF_sorted s recs L) fun x => by rw [hsF_mem hp]; exact hpv.mem_iff
  · intro a b h1 h2
    unfold HLt at h1 h2
    omega
  · refine List.pairwise_iff_getElem.2 fun i j hi hj hij => ?_
    have hne := List.pairwise_iff_getElem.1 hnd i j hi hj hij
    simp only [List.getElem_map] at hne ⊢
    rw [List.length_map, Array.length_toList] at hi hj
    have h := h2 i j (Nat.zero_le _) hij (by omega)
    have hti : d[i]!.2 = d[i]!.1.1.toNat ∧ d[j]!.2 = d[j]!.1.1.toNat := by
      have key : ∀ q, q < d.size → d[q]!.2 = d[q]!.1.1.toNat := fun q hq => by
        have hm : d[q]! ∈ d.toList := by rw [getElem!_pos d q hq]; simp
        have := hperm.mem_iff.1 hm
        unfold tagH at this
        obtain ⟨a, ha, he⟩ := List.mem_pmap.1 this
        rw [← he]
      exact ⟨key i hi, key j hj⟩
    have ei : d.toList[i] = d[i]! := by rw [getElem!_pos d i hi]; simp
    have ej : d.toList[j] = d[j]! := by rw [getElem!_pos d j hj]; simp
    rw [ei, ej] at hne ⊢
    have oi := d[i]!.1.2.h0
    have oj := d[j]!.1.2.h0
    unfold lx at h
    rw [Bool.or_eq_false_iff, Bool.and_eq_false_iff] at h
    have k1 : ¬ cfH s recs d[j]!.1 d[i]!.1 < 0 := of_decide_eq_false h.1
    unfold cfH at k1
    unfold valH at hne
    unfold HLt valH
    rcases h.2 with k | k
    · have k : StbI.ltf (cfH s recs) d[i]!.1 d[j]!.1 = true := by simpa using k
      have k := of_decide_eq_true k
      unfold cfH at k
      exact .inl (by omega)
    · have k := of_decide_eq_false k
      rw [hti.1, hti.2] at k
      by_cases he : tabOf recs d[i]!.1.1 = tabOf recs d[j]!.1.1
      · exact .inr ⟨he, by omega⟩
      · exact .inl (by omega)
end Go.Proofs.Ytckihgamnmmbnaa

/- Golden: entities; groups while they are gathered. -/
namespace Go.Proofs.Ytckihgamnmmbnaa
open Go.Vc Go.Sort

def entAt (s : Set_) (recs : List Rec) (L : List Int) (i : Nat) : Prop :=
  (0 ≤ L.getD i default ∧ L.getD i default ≤ (i : Nat) ∧ L.getD (L.getD i default).toNat default = L.getD i default) ∧ formedG s (recs.getD i default) = true ∧ (recs.getD (L.getD i default).toNat default).table = (recs.getD i default).table
instance (s : Set_) (recs : List Rec) (L : List Int) (i : Nat) : Decidable (entAt s recs L i) := by unfold entAt; infer_instance
def entB (s : Set_) (recs : List Rec) (L : List Int) : Bool := decide (L.length = recs.length ∧ ∀ i, i < L.length → entAt s recs L i)
def entF (s : Set_) (recs : List Rec) (L : List Int) (h : Int) : List Fac := factsG s recs (grpF L h L.length) (tabOf recs h)
def allF (s : Set_) (recs : List Rec) (L : List Int) : List Fac := (hsF s recs L).flatMap (entF s recs L)
def resF (s : Set_) (recs : List Rec) (L : List Int) : List Fac × Int := if entB s recs L = true then (if (allF s recs L).length ≤ 4000 then (allF s recs L, 0) else ([], 3)) else ([], 1)
theorem entB_no {s : Set_} {recs : List Rec} {L : List Int} {k : Nat} (hk : k < L.length) (h : ¬ entAt s recs L k) : entB s recs L = false := decide_eq_false fun hh => h (hh.2 k hk)
theorem formedG_iff {s : Set_} {r : Rec} (h : formedG s r = true) : 0 ≤ r.table ∧ r.table < s.tabs.length ∧ r.cells.length = ncol s r.table := of_decide_eq_true h
theorem heads_ok {s : Set_} {recs : List Rec} {L : List Int} (hl : L.length = recs.length) (ha : ∀ i, i < L.length → entAt s recs L i) : ∀ h ∈ headsF L L.length, HOk s recs h := fun h hh => by
  obtain ⟨k, hk, he, rfl⟩ := headsF_mem.1 hh
  obtain ⟨_, h2, _⟩ := ha k hk
  have h2 := formedG_iff h2
  exact ⟨by omega, by omega, h2.1, h2.2.1⟩
theorem grp_ok {s : Set_} {recs : List Rec} {L : List Int} (hl : L.length = recs.length) (ha : ∀ i, i < L.length → entAt s recs L i) {h : Int} (hh : h ∈ headsF L L.length) : EntOk s recs (grpF L h L.length) (tabOf recs h) := by
  have ho := heads_ok hl ha h hh
  refine ⟨ho.t0, ho.t1, ?_, fun m hm => ?_⟩
  · obtain ⟨k, hk, he, rfl⟩ := headsF_mem.1 hh
    exact List.length_pos_of_mem (grpF_mem.2 ⟨k, hk, he, rfl⟩)
  · obtain ⟨k, hk, he, rfl⟩ := grpF_mem.1 hm
    obtain ⟨_, h2, h3⟩ := ha k hk
    have h2 := formedG_iff h2
    refine ⟨by omega, by omega, ?_⟩
    rw [he] at h3
    show (recs.getD k default).cells.length = ncol s (tabOf recs h)
    rw [h2.2.2, ← h3]; rfl
theorem factsG_len (s : Set_) (recs : List Rec) (mem : List Int) (t : Int) : (factsG s recs mem t).length ≤ 5 + mem.length := by
  unfold factsG
  have := vOut_len s recs mem t (ncol s t)
  rw [List.length_append]
  split
  · simp; omega
  · simp; omega
structure Grp where
  a : Option Addr
  cap : Nat
  l : List Int
def encG (g : Grp) : Value := .slice g.a g.l.length g.cap
def gof (ms : List (Int × Grp)) (h : Int) : Grp := (tget ms h).getD ⟨none, 0, []⟩
theorem gof_tset (ms : List (Int × Grp)) (k k' : Int) (v : Grp) : gof (tset ms k v) k' = if k' = k then v else gof ms k' := by
  unfold gof
  rw [tget_tset]
  split <;> rfl
theorem mget_gof (ms : List (Int × Grp)) (h : Int) : (mget (tenc encG ms) h).getD (.slice none 0 0) = encG (gof ms h) := by
  unfold gof
  rw [tget_enc]
  cases tget ms h <;> rfl
structure GJ (L : List Int) (r : Nat) (w0 : World) (i j : Nat) (ms : List (Int × Grp)) (ha : Option Addr) (hc : Nat) (w : World) : Prop where
  ex : Ext w0 w
  r0 : w0.heap.size ≤ r
  map : MapIs w r encInt (tenc encG ms)
  own : ∀ h, OwnT encI 1 3 (r + 1) w (gof ms h).a (gof ms h).cap (gof ms h).l
  eq : ∀ h, (gof ms h).l = grpF L h i
  sep : ∀ h h', h ≠ h' → Sep (gof ms h).a (gof ms h').a
  hd : OwnT encI 1 3 (r + 1) w ha hc (headsF L j)
  hsep : ∀ h, Sep ha (gof ms h).a
theorem GJ.start {L : List Int} {r : Nat} {w0 w : World} (e : Ext w0 w) (hr : w0.heap.size ≤ r) (h : Blk w r (.map #[] 0)) : GJ L r w0 0 0 [] none 0 w :=
  ⟨e, hr, MapIs.empty h, fun _ => OwnT.nil encI 1 3 _ _, fun _ => rfl, fun _ _ _ => Sep.nil _, OwnT.nil encI 1 3 _ _, fun _ => Sep.nil _⟩
theorem GJ.later {L : List Int} {r : Nat} {w0 w w' : World} {i j : Nat} {ms : List (Int × Grp)} {ha : Option Addr} {hc : Nat} (h : GJ L r w0 i j ms ha hc w) (e : Ext w w') : GJ L r w0 i j ms ha hc w' :=
  ⟨h.ex.trans e, h.r0, h.map.ext e, fun x => (h.own x).ext e, h.eq, h.sep, h.hd.ext e, h.hsep⟩
theorem GJ.head {L : List Int} {r : Nat} {w0 w w' : World} {i j : Nat} {ms : List (Int × Grp)} {ha ha' : Option Addr} {hc hc' : Nat} (h : GJ L r w0 i j ms ha hc w) (ho : OwnT encI 1 3 (r + 1) w' ha' hc' (headsF L (j + 1))) (m : Vc.Mod (aBlk ha) w w') (hf : ∀ k, aBlk ha' k → aBlk ha k ∨ w.heap.size ≤ k) : GJ L r w0 i (j + 1) ms ha' hc' w' :=
  ⟨Mod.ownA h.ex m fun k hk => by have := h.hd.ge k hk; have := h.r0; omega, h.r0, h.map.mod m fun hk => by have := h.hd.ge r hk; omega, fun x => (h.own x).mod m fun k h1 h2 => h.hsep x k h2 h1, h.eq, h.sep, ho, fun x => (h.hsep x).grown hf fun k hk => (h.own x).lt k hk⟩
theorem GJ.grp {L : List Int} {r : Nat} {w0 w w1 w2 : World} {i j : Nat} {ms : List (Int × Grp)} {ha a' : Option Addr} {hc c' : Nat} (h : GJ L r w0 i j ms ha hc w) (hg : Grp) (hgo : hg = gof ms (L.getD i default)) (ho : OwnT encI 1 3 (r + 1) w1 a' c' (hg.l ++ [(i : Int)])) (m : Vc.Mod (aBlk hg.a) w w1) (hf : ∀ k, aBlk a' k → aBlk hg.a k ∨ w.heap.size ≤ k)
    (hm : MapIs w2 r encInt (mset (tenc encG ms) (L.getD i default) (.slice a' (hg.l.length + 1) c'))) (m2 : Vc.Mod (one r) w1 w2) : GJ L r w0 (i + 1) j (tset ms (L.getD i default) ⟨a', c', hg.l ++ [(i : Int)]⟩) ha hc w2 := by
  obtain ⟨x, hx⟩ : ∃ x, x = L.getD i default := ⟨_, rfl⟩
  rw [← hx] at hgo hm ⊢
  subst hgo
  have hn : ∀ {l : List Int} {a : Option Addr} {cap : Nat} {w : World}, OwnT encI 1 3 (r + 1) w a cap l → ∀ k, aBlk a k → ¬ one r k := fun ho k hk e => by
    have e : k = r := e
    have := ho.ge k hk
    omega
  have E1 : Ext w0 w1 := Mod.ownA h.ex m fun k hk => by have := (h.own x).ge k hk; have := h.r0; omega
  refine ⟨Mod.ownA E1 m2 fun k hk => by have hk : k = r := hk; have := h.r0; omega, h.r0, ?_, fun y => ?_, fun y => ?_, fun y y' hne => ?_, ?_, fun y => ?_⟩
  · rw [tset_enc]
    show MapIs w2 r encInt (mset (tenc encG ms) x (.slice a' ((gof ms x).l ++ [(i : Int)]).length c'))
    rw [List.length_append]; exact hm
  · rw [gof_tset]
    split
    · exact ho.mod m2 (hn ho)
    · rename_i hne
      have h1 := (h.own y).mod m fun k k1 k2 => h.sep y x hne k k1 k2
      exact h1.mod m2 (hn h1)
  · rw [gof_tset, grpF_succ, ← hx]
    split
    · rename_i e; rw [e, if_pos rfl, ← h.eq x]
    · rename_i e; rw [if_neg fun e' => e e'.symm, List.append_nil]; exact h.eq y
  · rw [gof_tset, gof_tset]
    have key : ∀ z, z ≠ x → Sep a' (gof ms z).a := fun z hz => (h.sep x z fun e => hz e.symm).grown hf fun k hk => (h.own z).lt k hk
    split
    · split
      · rename_i e1 e2; exact absurd (e1.trans e2.symm) hne
      · rename_i e; exact key _ e
    · split
      · rename_i e _; exact (key _ e).symm
      · exact h.sep y y' hne
  · have h1 := h.hd.mod m fun k k1 k2 => h.hsep x k k1 k2
    exact h1.mod m2 (hn h1)
  · rw [gof_tset]
    split
    · exact ((h.hsep x).symm.grown hf fun k hk => h.hd.lt k hk).symm
    · exact h.hsep y
/-- The groups once gathered. -/
structure GK (L : List Int) (r : Nat) (ms : List (Int × Grp)) (w : World) : Prop where
  map : MapIs w r encInt (tenc encG ms)
  own : ∀ h, IntSl w (gof ms h).a (gof ms h).l
  hax : ∀ h, (gof ms h).a = none → (gof ms h).cap = 0
  eq : ∀ h, (gof ms h).l = grpF L h L.length
theorem GK.ext {L : List Int} {r : Nat} {ms : List (Int × Grp)} {w w' : World} (h : GK L r ms w) (e : Ext w w') : GK L r ms w' := ⟨h.map.ext e, fun x => (h.own x).ext e, h.hax, h.eq⟩
theorem GJ.done {L : List Int} {r : Nat} {w0 w w' : World} {j : Nat} {ms : List (Int × Grp)} {ha : Option Addr} {hc : Nat} (h : GJ L r w0 L.length j ms ha hc w) (m : Vc.Mod (aBlk ha) w w') : GK L r ms w' ∧ Ext w0 w' :=
  ⟨⟨h.map.mod m fun hk => by have := h.hd.ge r hk; omega, fun x => ((h.own x).mod m fun k h1 h2 => h.hsep x k h2 h1).sl, fun x => (h.own x).hax, h.eq⟩, Mod.ownA h.ex m fun k hk => by have := h.hd.ge k hk; have := h.r0; omega⟩
theorem tsl_map {α : Type} {pr : α → Int} {w : World} {a : Option Addr} {l : List α} (h : TSl (enI pr) 1 w a l) : IntSl w a (l.map pr) := by
  show TSl encI 1 w a (l.map pr)
  unfold TSl at h ⊢
  rw [List.map_map]; exact h
theorem tagH_get {s : Set_} {recs : List Rec} {l : List Int} (hp : ∀ h ∈ l, HOk s recs h) {i : Nat} (hi : i < l.length) (hi2 : i < (tagH s recs l hp).length) : (tagH s recs l hp)[i].1.1 = l[i] ∧ (tagH s recs l hp)[i].2 = l[i].toNat := by
  simp [tagH]
set_option maxRecDepth 100000 in
set_option maxHeartbeats 4000000 in
/-- The heads are put in order. -/
theorem sortH_spec (s : Set_) (recs : List Rec) (L : List Int) (ra ha : Option Addr) (rc b hc B : Nat) (w2 w : World) (hll : L.length ≤ 1000000) (hr : recs.length ≤ 1000000) (hl : s.tabs.length ≤ 1000000) (hp : ∀ h ∈ headsF L L.length, HOk s recs h) (e : Ext w2 w) (hB2 : w2.heap.size ≤ B)
    (hB : Blk w2 b (.cells #[.slice ra recs.length rc] 33 (0, 0))) (hR : RecsW w2 ra recs) (hO : OwnT encI 1 3 B w ha hc (headsF L L.length)) :
    RetsK Try.prog 32 #[.slice ha (headsF L L.length).length hc, .func (.func 33) #[] #[.pointer (some ⟨b, 0, none⟩)]] w (.tuple #[]) (fun w' => Vc.Mod (aBlk ha) w w' ∧ IntSl w' ha (hsF s recs L) ∧ (hsF s recs L).length = (headsF L L.length).length) := by
  by_cases h0 : headsF L L.length = []
  · have hs0 : hsF s recs L = [] := List.eq_nil_iff_forall_not_mem.2 fun x hx => by
      have := (hsF_mem hp).1 hx
      rw [h0] at this; cases this
    rw [h0, hs0]
    exact Rets.mono (sort0_spec 33 [.pointer (some ⟨b, 0, none⟩)] hc ha w) fun u w' ⟨hu, he⟩ => ⟨hu, he.mod, TSl.nil _ _ _ _, rfl⟩
  · have hpos : 0 < (headsF L L.length).length := List.length_pos_iff.2 h0
    have hmem0 : (headsF L L.length)[0] ∈ headsF L L.length := List.getElem_mem hpos
    haveI : Inhabited (Hd s recs) := ⟨⟨_, hp _ hmem0⟩⟩
    obtain ⟨n, hn⟩ : ∃ n, n = (headsF L L.length).length := ⟨_, rfl⟩
    have hnl : n ≤ 1000000 := by have := headsF_len L L.length; omega
    have htl : (tagH s recs _ hp).length = n := by rw [hn]; unfold tagH; rw [List.length_pmap]
    have hS0 : Srt encI 1 w ha (headsF L L.length).toArray w := Srt.of_own ⟨fun _ => rfl, fun _ => rfl, by decide⟩ (by simpa using hO) (by simpa using hpos)
    have hg : ∀ q, q < n → (tagH s recs _ hp).toArray[q]!.1.1 = (headsF L L.length).getD q default ∧ (tagH s recs _ hp).toArray[q]!.2 = ((headsF L L.length).getD q default).toNat := fun q hq => by
      have e1 : (tagH s recs _ hp).toArray[q]! = (tagH s recs _ hp)[q]'(by omega) := by rw [getElem!_pos _ q (by simpa using (by omega : q < (tagH s recs _ hp).length))]; simp
      have e2 : (headsF L L.length).getD q default = (headsF L L.length)[q]'(by omega) := by simp [List.getD, show q < (headsF L L.length).length by omega]
      rw [e1, e2]
      exact tagH_get hp (by omega) _
    have hS : Srt (enI valH) 1 w ha (tagH s recs _ hp).toArray w := hS0.conv (by simpa [← hn] using htl) fun q hq => by
      have hq : q < n := by simpa [← hn] using hq
      show [Value.int .i64 (tagH s recs _ hp).toArray[q]!.1.1] = [Value.int .i64 ((headsF L L.length).toArray[q]!)]
      rw [(hg q hq).1, ← getD_bang]
    have hC : StbI.CmpOk valH ha w 33 [.pointer (some ⟨b, 0, none⟩)] (fun x y : Hd s recs × Nat => cfH s recs x.1 y.1) :=
      ⟨eltOfI valH, Try.call33, fun w' m x y => by
        have e' : Ext w2 w' := Mod.ownA e m fun k hk => by have := hO.ge k hk; omega
        exact byTab_spec s recs ra rc b x.1 y.1 w' hr hl (hB.ext e') (hR.ext e')⟩
    rw [← hn]
    refine Rets.mono (StbI.sortStable_spec hC (swoH s recs) hc n (by omega) (tagH s recs _ hp).toArray w hS (by simpa using htl) fun i j hij hj => ?_) ?_
    · rw [(hg i (by omega)).2, (hg j hj).2]
      have := List.pairwise_iff_getElem.1 (headsF_lt L L.length) i j (by omega) (by omega) hij
      have e1 : ∀ q, (hq : q < n) → (headsF L L.length).getD q default = (headsF L L.length)[q]'(by omega) := fun q hq => by simp [List.getD, show q < (headsF L L.length).length by omega]
      rw [e1 i (by omega), e1 j hj]
      have h0 := (hp _ (List.getElem_mem (by omega : i < (headsF L L.length).length))).h0
      omega
    · rintro u w' ⟨d', rfl, h1, h2, h3⟩
      have := h3.sl hC.elt
      have e1 := sorted_hs hp hn h1 h2
      have e2 : d'.size = n := h1.1.trans (by simpa using htl)
      rw [← e1]
      refine ⟨rfl, h3.m, tsl_map this, ?_⟩
      rw [List.length_map, Array.length_toList, e2, hn]
end Go.Proofs.Ytckihgamnmmbnaa

/- Golden: the facts of all entities. -/
namespace Go.Proofs.Ytckihgamnmmbnaa
open Go.Vc Go.Sort

set_option maxRecDepth 100000 in
set_option maxHeartbeats 8000000 in
theorem gfacts_spec (s : Set_) (recs : List Rec) (L : List Int) (ra la : Option Addr) (rc lc : Nat) (w : World) (hs : Small s recs L) (hS : SetW w s) (hR : RecsW w ra recs) (hL : IntSl w la L) :
    RetsX Try.prog 13 #[.agg (encSet s).toArray, .slice ra recs.length rc, .slice la L.length lc] w
      (fun x : List Fct × Option Addr × Nat => .tuple #[.slice x.2.1 x.1.length x.2.2, .int .i64 (resF s recs L).2])
      (fun x w' => FctsW w' w.heap.size x.2.1 x.2.2 x.1 ∧ x.1.map (·.f) = (resF s recs L).1) := by
  have hms := hs.nm
  have hnr := hs.nr
  have hnt := hs.nt
  have hbad : entB s recs L = false → resF s recs L = ([], 1) := fun h => by unfold resF; rw [if_neg (by rw [h]; decide)]
  refine enter (args := [_, _, _]) Try.func13 rfl Try.ntmps13 (by kernel_rfl) rfl ?_
  refine V.seq (V.region (VL.box (v := .agg _) rfl fun b1 w1 hb1 e1 hX1 => VL.box (v := .slice _ _ _) rfl fun b2 w2 hb2 e2 hX2 => VL.op (R.asS rfl) (VL.op (R.asI rfl) (VL.nil (V.seq (V.seq (V.region (VL.op (R.mvS rfl) (VL.op (R.lenS Try.runUnderlying34 rfl) (VL.op (R.ld1 Try.isAgg33 rfl ((hX2.cell 0))) (VL.op (R.lenS Try.runUnderlying33 rfl) (VL.op (R.neq rfl rfl) (VL.nil (V.condP rfl (fun c19 => V.seq (?_)) (fun c19 => V.skip (V.seq (?_)))))))))))))))))
  · have hb : entB s recs L = false := decide_eq_false fun h => by omega
    rw [hbad hb]
    refine V.region (VL.op (R.asS rfl) (VL.op (R.asI rfl) (VL.nil (V.ret (fret2 (v := .slice _ _ _) (x := .int _ _) rfl rfl rfl rfl rfl (⟨([], none, 0), rfl, ⟨FctsW.nil _ _, rfl⟩, e1.trans e2⟩))))))
  · have hlen : L.length = recs.length := by omega
    have hS2 := hS.ext (e1.trans e2)
    have hR2 := hR.ext (e1.trans e2)
    have hL2 := hL.ext (e1.trans e2)
    have hX12 := hX1.ext e2
    refine V.region (VL.makeMap fun r w3 hr e3 hM3 => VL.op (R.asM rfl) (VL.nil (V.seq (V.region (VL.op (R.asS rfl) (VL.nil (V.seq (V.seq (V.region (VL.op (R.mvS rfl) (VL.op (R.lenS Try.runUnderlying34 rfl) (VL.op (R.mvI rfl) (VL.nil (V.block (?_)))))))))))))))
    refine V.loop [2, 3, 4, 8, 9, 21, 22, 23] (fun x : Nat × List (Int × Grp) × Option Addr × Nat => [.slice la L.length lc, .pointer (some ⟨b1, 0, none⟩), .pointer (some ⟨b2, 0, none⟩), .map (some r), .slice x.2.2.1 (headsF L x.1).length x.2.2.2, .slice la L.length lc, .int .i64 (L.length : Nat), .int .i64 (x.1 : Nat)])
      (fun x w' => x.1 ≤ L.length ∧ (∀ i, i < x.1 → entAt s recs L i) ∧ GJ L r w2 x.1 x.1 x.2.1 x.2.2.1 x.2.2.2 w') (fun x => L.length - x.1) (0, [], none, 0) rfl ⟨Nat.zero_le _, fun i h => absurd h (Nat.not_lt_zero i), GJ.start e3 (Nat.le_of_eq hr.symm) hM3⟩ ?_
    rintro ρ ⟨k, ms, ha, hc⟩ w4 ⟨hk, hi, hJ⟩
    dsimp only at hk hi hJ ⊢
    have hS4 := hS2.ext hJ.ex
    have hR4 := hR2.ext hJ.ex
    have hL4 := hL2.ext hJ.ex
    have hX14 := hX12.ext hJ.ex
    have hX24 := hX2.ext hJ.ex
    have hhl := headsF_len L k
    have hHs := headsF_succ L k
    have hrl := hJ.map.lt
    refine V.seq (V.region (VL.op (R.lss rfl rfl) (VL.nil (V.seq (V.condP rfl (fun c24 => V.skip (V.seq (V.block (V.seq (?_))))) (fun c24 => V.exit (V.seq (?_))))))))
    · have hkl : k < L.length := by omega
      refine V.region (VL.op (R.mvI rfl) (VL.op (R.ixS Try.runUnderlying34 Try.sizeOf3 rfl rfl (by omega) (by omega) ((hL4).some (i := k) (by omega))) (VL.op (R.ld1 Try.isAgg3 rfl (((((hL4).ext (Mod.refl _ _)).row (i := k) (by omega)).cell (i := 0) rfl))) (VL.op (R.asI rfl) (VL.op (R.asI rfl) (VL.nil (V.seq (V.seq (V.regionQCut mixed 37 (by kernel_rfl) rfl (fun w' => Ext _ w') (Ext.drawn _) [28, 29, 30, 31, 32, 33, 34, 35, 36, 37, 38, 39, 40, 41, 42, 43, 44, 45, 46, 47, 48, 49, 50, 51, 52, 53, 54, 55, 56, 57, 58, 59, 60, 61, 62, 63, 64] 64 (.bool (!decide (entAt s recs L k))) rfl (VQ.op (fun wq eq => R.mvI rfl) (VQ.op (fun wq eq => R.lss rfl rfl) (VQ.op (fun wq eq => R.mvB rfl) (VQ.orP rfl rfl (fun g8_2 => VQ.op (fun wq eq => R.mvI rfl) (VQ.gT rfl rfl (VQ.op (fun wq eq => R.mvI rfl) (VQ.gT rfl rfl (VQ.op (fun wq eq => R.gtr rfl rfl) (VQ.op (fun wq eq => R.pickFB rfl rfl) (VQ.op (fun wq eq => R.mvB rfl) (VQ.orP rfl rfl (fun g8_7 => VQ.op (fun wq eq => R.mvS rfl) (VQ.gT rfl rfl (VQ.op (fun wq eq => R.mvI rfl) (VQ.gT rfl rfl (VQ.op (fun wq eq => R.ixS Try.runUnderlying34 Try.sizeOf3 rfl rfl (by omega) (by omega) (hL4.some (i := (L.getD k default).toNat) (by omega))) (VQ.gT rfl rfl (VQ.op (fun wq eq => R.ld1 Try.isAgg3 rfl ((((hL4.ext eq).row (i := (L.getD k default).toNat) (by omega)).cell (i := 0) rfl))) (VQ.gT rfl rfl (VQ.op (fun wq eq => R.mvI rfl) (VQ.gT rfl rfl (VQ.op (fun wq eq => R.neq rfl rfl) (VQ.op (fun wq eq => R.pickFB rfl rfl) (VQ.op (fun wq eq => R.mvB rfl) (VQ.orP rfl rfl (fun g8_15 => VQ.op (fun wq eq => R.ldA Try.isAgg32 Try.sizeOf32 rfl rfl ((show RowAt _ _ _ (encSet s) from (hX14.ext eq).rowAt 0 7)) rfl) (VQ.gT rfl rfl (VQ.op (fun wq eq => R.ld1 Try.isAgg33 rfl (((hX24.ext eq).cell 0))) (VQ.gT rfl rfl (VQ.op (fun wq eq => R.mvI rfl) (VQ.gT rfl rfl (VQ.op (fun wq eq => R.ixS Try.runUnderlying33 Try.sizeOf53 rfl rfl (by omega) (by omega) (hR4.sl.some (i := k) (by omega))) (VQ.gT rfl rfl (VQ.op (fun wq eq => R.ldA Try.isAgg53 Try.sizeOf53 rfl rfl ((show RowAt _ _ _ (encRec (recs.getD k default)) from ((hR4.sl.ext eq).row (i := k) (by omega)))) rfl) (VQ.gT rfl rfl (VQ.callP (fun _ _ h k => Mod.trans h k) Try.call31 rfl (fun wq eq => formed_spec s (recs.getD k default) _ (by omega) (hS4.ext eq)) (VQ.gT rfl rfl (VQ.op (fun wq eq => R.not rfl) (VQ.op (fun wq eq => R.pickFB rfl rfl) (VQ.op (fun wq eq => R.mvB rfl) (VQ.or rfl rfl (fun g8_24 => VQ.op (fun wq eq => R.ld1 Try.isAgg33 rfl (((hX24.ext eq).cell 0))) (VQ.gT rfl rfl (VQ.op (fun wq eq => R.mvI rfl) (VQ.gT rfl rfl (VQ.op (fun wq eq => R.ixS Try.runUnderlying33 Try.sizeOf53 rfl rfl (by omega) (by omega) (hR4.sl.some (i := (L.getD k default).toNat) (by omega))) (VQ.gT rfl rfl (VQ.op (fun wq eq => R.fld' (o := 3) Try.runUnderlying53 rfl rfl Try.sizeOf3 rfl rfl) (VQ.gT rfl rfl (VQ.op (fun wq eq => R.ld1 Try.isAgg3 rfl ((((hR4.sl.ext eq).row (i := (L.getD k default).toNat) (by omega)).cell (i := 3) rfl))) (VQ.gT rfl rfl (VQ.op (fun wq eq => R.ld1 Try.isAgg33 rfl (((hX24.ext eq).cell 0))) (VQ.gT rfl rfl (VQ.op (fun wq eq => R.mvI rfl) (VQ.gT rfl rfl (VQ.op (fun wq eq => R.ixS Try.runUnderlying33 Try.sizeOf53 rfl rfl (by omega) (by omega) (hR4.sl.some (i := k) (by omega))) (VQ.gT rfl rfl (VQ.op (fun wq eq => R.fld' (o := 3) Try.runUnderlying53 rfl rfl Try.sizeOf3 rfl rfl) (VQ.gT rfl rfl (VQ.op (fun wq eq => R.ld1 Try.isAgg3 rfl ((((hR4.sl.ext eq).row (i := k) (by omega)).cell (i := 3) rfl))) (VQ.gT rfl rfl (VQ.op (fun wq eq => R.neq rfl rfl) (VQ.op (fun wq eq => R.pickFB rfl rfl) (VQ.nil (cutB rfl ?_)))))))))))))))))))))))) (fun g8_24 => VQ.gF rfl rfl (VQ.gF rfl rfl (VQ.gF rfl rfl (VQ.gF rfl rfl (VQ.gF rfl rfl (VQ.gF rfl rfl (VQ.gF rfl rfl (VQ.gF rfl rfl (VQ.gF rfl rfl (VQ.gF rfl rfl (VQ.op (fun wq eq => R.pickTB rfl rfl) (VQ.nil (cutB rfl ?_))))))))))))))))))))))))))))) (fun g8_15 => VQ.gF rfl rfl (VQ.gF rfl rfl (VQ.gF rfl rfl (VQ.gF rfl rfl (VQ.gF rfl rfl (VQ.gF rfl rfl (VQ.op (fun wq eq => R.pickTB rfl rfl) (VQ.op (fun wq eq => R.mvB rfl) (VQ.gF rfl rfl (VQ.gF rfl rfl (VQ.gF rfl rfl (VQ.gF rfl rfl (VQ.gF rfl rfl (VQ.gF rfl rfl (VQ.gF rfl rfl (VQ.gF rfl rfl (VQ.gF rfl rfl (VQ.gF rfl rfl (VQ.gF rfl rfl (VQ.op (fun wq eq => R.pickTB rfl rfl) (VQ.nil (cutB rfl ?_)))))))))))))))))))))))))))))))))))) (fun g8_7 => VQ.gF rfl rfl (VQ.gF rfl rfl (VQ.gF rfl rfl (VQ.gF rfl rfl (VQ.gF rfl rfl (VQ.op (fun wq eq => R.pickTB rfl rfl) (VQ.op (fun wq eq => R.mvB rfl) (VQ.gF rfl rfl (VQ.gF rfl rfl (VQ.gF rfl rfl (VQ.gF rfl rfl (VQ.gF rfl rfl (VQ.gF rfl rfl (VQ.gF rfl rfl (VQ.op (fun wq eq => R.pickTB rfl rfl) (VQ.op (fun wq eq => R.mvB rfl) (VQ.gF rfl rfl (VQ.gF rfl rfl (VQ.gF rfl rfl (VQ.gF rfl rfl (VQ.gF rfl rfl (VQ.gF rfl rfl (VQ.gF rfl rfl (VQ.gF rfl rfl (VQ.gF rfl rfl (VQ.gF rfl rfl (VQ.gF rfl rfl (VQ.op (fun wq eq => R.pickTB rfl rfl) (VQ.nil (cutB rfl ?_)))))))))))))))))))))))))))))))))))))) (fun g8_2 => VQ.gF rfl rfl (VQ.gF rfl rfl (VQ.op (fun wq eq => R.pickTB rfl rfl) (VQ.op (fun wq eq => R.mvB rfl) (VQ.gF rfl rfl (VQ.gF rfl rfl (VQ.gF rfl rfl (VQ.gF rfl rfl (VQ.gF rfl rfl (VQ.gF rfl rfl (VQ.op (fun wq eq => R.pickTB rfl rfl) (VQ.op (fun wq eq => R.mvB rfl) (VQ.gF rfl rfl (VQ.gF rfl rfl (VQ.gF rfl rfl (VQ.gF rfl rfl (VQ.gF rfl rfl (VQ.gF rfl rfl (VQ.gF rfl rfl (VQ.op (fun wq eq => R.pickTB rfl rfl) (VQ.op (fun wq eq => R.mvB rfl) (VQ.gF rfl rfl (VQ.gF rfl rfl (VQ.gF rfl rfl (VQ.gF rfl rfl (VQ.gF rfl rfl (VQ.gF rfl rfl (VQ.gF rfl rfl (VQ.gF rfl rfl (VQ.gF rfl rfl (VQ.gF rfl rfl (VQ.gF rfl rfl (VQ.op (fun wq eq => R.pickTB rfl rfl) (VQ.nil (cutB rfl ?_))))))))))))))))))))))))))))))))))))))) (fun rg8 w8c e8c => V.cond rfl (fun c64 => V.seq (?_)) (fun c64 => V.skip (V.cut [2, 3, 4, 8, 9, 10, 11, 21, 22, 23] (fun x : Option Addr × Nat => [.slice la L.length lc, .pointer (some ⟨b1, 0, none⟩), .pointer (some ⟨b2, 0, none⟩), .map (some r), .slice x.1 (headsF L (k + 1)).length x.2, .int .i64 (k : Nat), .int .i64 (L.getD k default), .slice la L.length lc, .int .i64 (L.length : Nat), .int .i64 (k : Nat)]) (fun x w' => entAt s recs L k ∧ GJ L r w2 k (k + 1) ms x.1 x.2 w') (V.seq (V.region (VL.op (R.mvI rfl) (VL.op (R.mvI rfl) (VL.op (R.eql rfl rfl) (VL.nil (V.condP rfl (fun c67 => V.region (VL.op (R.mvS rfl) (VL.op (R.mvI rfl) (VL.append1 el34 Try.runUnderlying34 Try.sizeOf3 Try.zeroValue3 rfl ((L.getD k default)) rfl rfl rfl (hJ.later e8c).hd rfl rfl rfl (by omega) (by unfold maxLen; omega) (by have := e8c.size; omega) fun a5 ca5 w5 vt5 ho5 m5 hf5 => VL.op (R.asS rfl) (VL.nil (?_)))))) (fun c67 => V.skip (?_))))))))) (fun rgC67 xC67 wBC67 hBC67 => ?_)))))))))))))
      · cases hd : decide (entAt s recs L k) with
        | true =>
          have h := of_decide_eq_true hd
          exact decide_eq_false fun hh => hh h.2.2
        | false =>
          have h := of_decide_eq_false hd
          refine decide_eq_true fun hh => h ⟨⟨by omega, by omega, by omega⟩, by simpa using g8_24, hh⟩
      · rw [decide_eq_false (fun h : entAt s recs L k => by rw [h.2.1] at g8_24; cases g8_24)]; rfl
      · rw [decide_eq_false (fun h : entAt s recs L k => g8_15 h.1.2.2)]; rfl
      · rw [decide_eq_false (fun h : entAt s recs L k => by have := h.1; omega)]; rfl
      · rw [decide_eq_false (fun h : entAt s recs L k => by have := h.1; omega)]; rfl
      · have hb := entB_no hkl (of_decide_eq_false (by simpa using c64) : ¬ entAt s recs L k)
        rw [hbad hb]
        refine V.region (VL.op (R.asS rfl) (VL.op (R.asI rfl) (VL.nil (V.ret (fret2 (v := .slice _ _ _) (x := .int _ _) rfl rfl rfl rfl rfl (⟨([], none, 0), rfl, ⟨FctsW.nil _ _, rfl⟩, (e1.trans e2).trans (hJ.ex.trans e8c)⟩))))))
      · have hok : entAt s recs L k := of_decide_eq_true (by simpa using c64)
        rw [if_pos (by omega)] at hHs
        have hke : L.getD k default = (k : Int) := by omega
        rw [hke, ← hHs] at ho5
        refine ⟨(a5, ca5), ?_, hok, (hJ.later e8c).head ho5 m5 hf5⟩
        dsimp only; rw [hHs, List.length_append]; rfl
      · have hok : entAt s recs L k := of_decide_eq_true (by simpa using c64)
        rw [if_neg (by omega), List.append_nil] at hHs
        have hJ8 := hJ.later e8c
        refine ⟨(ha, hc), by rw [hHs]; rfl, hok, ⟨hJ8.ex, hJ8.r0, hJ8.map, hJ8.own, hJ8.eq, hJ8.sep, by rw [hHs]; exact hJ8.hd, hJ8.hsep⟩⟩
      · obtain ⟨hok, hJ9⟩ := hBC67
        have hgl : (gof ms (L.getD k default)).l.length ≤ k := by rw [hJ9.eq]; exact grpF_len _ _ _
        have hrl := hJ9.map.lt
        refine V.region (VL.op (R.mvM rfl) (VL.op (R.mvI rfl) (VL.op (R.mvM rfl) (VL.op (R.mvI rfl) (VL.op (R.lookupV key3 Try.runUnderlying83 Try.zeroValue34 hJ9.map (mget_gof ms (L.getD k default)) rfl rfl) (VL.op (R.mvI rfl) (VL.append1 el34 Try.runUnderlying34 Try.sizeOf3 Try.zeroValue3 rfl (((k : Nat) : Int)) rfl rfl rfl (hJ9.own (L.getD k default)) rfl rfl rfl (by omega) (by unfold maxLen; omega) (by omega) fun a5 ca5 w5 vt5 ho5 m5 hf5 => VL.mapUpdate key3 Try.runUnderlying83 rfl (k := (L.getD k default)) rfl rfl ((hJ9.map.mod m5 fun hk => by have := (hJ9.own (L.getD k default)).ge r hk; omega)) fun w7 hM7 m7 => VL.nil (V.region (VL.op (R.add rfl rfl (by omega) (by omega)) (VL.op (R.mvI rfl) (VL.nil (⟨(k + 1, tset ms (L.getD k default) ⟨a5, ca5, (gof ms (L.getD k default)).l ++ [(k : Int)]⟩, xC67.1, xC67.2), rfl, ⟨by dsimp only; omega, fun i hik => ?_, hJ9.grp _ rfl ho5 m5 hf5 hM7 m7⟩, by dsimp only; omega⟩))))))))))))
        by_cases h : i = k
        · subst h; exact hok
        · exact hi i (by dsimp only at hik; omega)
    · have hkl : k = L.length := by omega
      subst hkl
      have hp := heads_ok hlen hi
      have hrl := hJ.map.lt
      have hs2 := hJ.r0
      refine V.region (VL.op (R.mvS rfl) (VL.op (R.mkFn rfl rfl) (VL.callK Try.call32 rfl (sortH_spec s recs L ra ha rc b2 hc (r + 1) w2 _ hms hnr hnt hp (hJ.ex.trans (Mod.refl _ _)) (by omega) hX2 hR2 (hJ.hd.ext (Mod.refl _ _))) fun w5 ⟨m5, hH5, hlH⟩ => VL.nil (V.seq (?_)))))
      obtain ⟨hK, e5⟩ := hJ.done m5
      have hS5 := hS2.ext e5
      have hR5 := hR2.ext e5
      have hX15 := hX12.ext e5
      have hX25 := hX2.ext e5
      have hsz5 := e5.size
      have hb : entB s recs L = true := decide_eq_true ⟨hlen, hi⟩
      have hHm : ∀ h ∈ hsF s recs L, h ∈ headsF L L.length := fun h hh => (hsF_mem hp).1 hh
      rw [← hlH]
      refine V.region (VL.op (R.asS rfl) (VL.nil (V.seq (V.seq (V.region (VL.op (R.mvS rfl) (VL.op (R.lenS Try.runUnderlying34 rfl) (VL.op (R.mvI rfl) (VL.nil (V.block (?_)))))))))))
      obtain ⟨H, hH⟩ : ∃ H, H = hsF s recs L := ⟨_, rfl⟩
      have hHn : H.length ≤ 1000000 := by rw [hH, hlH]; have := headsF_len L L.length; omega
      have hall : allF s recs L = (H.take H.length).flatMap (entF s recs L) := by unfold allF; rw [← hH, List.take_length]
      rw [← hH] at hH5 hHm ⊢
      clear hlH
      refine V.loop [3, 4, 8, 12, 84, 85, 86] (fun x : Nat × List Fct × Option Addr × Nat => [.pointer (some ⟨b1, 0, none⟩), .pointer (some ⟨b2, 0, none⟩), .map (some r), .slice x.2.2.1 x.2.1.length x.2.2.2, .slice ha H.length hc, .int .i64 (H.length : Nat), .int .i64 (x.1 : Nat)])
        (fun x w' => x.1 ≤ H.length ∧ Ext w5 w' ∧ FctsW w' w5.heap.size x.2.2.1 x.2.2.2 x.2.1 ∧ x.2.1.map (·.f) = (H.take x.1).flatMap (entF s recs L) ∧ x.2.1.length ≤ 4000) (fun x => H.length - x.1) (0, [], none, 0) rfl ⟨Nat.zero_le _, Mod.refl _ _, FctsW.nil _ _, rfl, by simp⟩ ?_
      rintro ρ ⟨k, l, a, cap⟩ w6 ⟨hk, e6, hF, hq, hl4⟩
      dsimp only at hk e6 hF hq hl4 ⊢
      have hS6 := hS5.ext e6
      have hR6 := hR5.ext e6
      have hX16 := hX15.ext e6
      have hX26 := hX25.ext e6
      have hK6 := hK.ext e6
      have hH6 := hH5.ext e6
      have E6 := (e1.trans e2).trans (e5.trans e6)
      have hsz6 := e6.size
      refine V.seq (V.region (VL.op (R.lss rfl rfl) (VL.nil (V.seq (V.condP rfl (fun c87 => V.skip (V.seq (V.block (V.seq (?_))))) (fun c87 => V.exit (V.seq (?_))))))))
      · have hkl : k < H.length := by omega
        obtain ⟨h, hh⟩ : ∃ h, h = H.getD k default := ⟨_, rfl⟩
        have hhm : h ∈ headsF L L.length := hHm h (hh ▸ gmem hkl)
        have ho := hp h hhm
        have ho0 := ho.h0
        have ho1 := ho.h1
        have hgo := grp_ok hlen hi hhm
        have hge := hK6.eq h
        have hgl := grpF_len L h L.length
        have hfl := factsG_len s recs (grpF L h L.length) (tabOf recs h)
        have hsm : Small s recs (gof ms h).l := ⟨by rw [hge]; omega, hs.nr, hs.nk, hs.no, hs.nt, hs.nc⟩
        refine V.region (VL.op (R.ixS Try.runUnderlying34 Try.sizeOf3 rfl rfl (by omega) (by omega) ((hH6).some (i := k) (by omega))) (VL.op (R.ld1 Try.isAgg3 rfl (((((hH6).ext (Mod.refl _ _)).row (i := k) (by omega)).cell (i := 0) rfl))) (VL.op (R.asI rfl) (VL.nil (V.seq (?_))))))
        rw [← hh]
        refine V.regionS mixed 13 (by kernel_rfl) rfl (fun us => VS.op (fun wq eq => R.mvS rfl) (VS.op (fun wq eq => R.ldA Try.isAgg32 Try.sizeOf32 rfl rfl ((show RowAt _ _ _ (encSet s) from (hX16.ext eq).rowAt 0 7)) rfl) (VS.op (fun wq eq => R.ld1 Try.isAgg33 rfl (((hX26.ext eq).cell 0))) (VS.op (fun wq eq => R.mvI rfl) (VS.op (fun wq eq => R.ixS Try.runUnderlying33 Try.sizeOf53 rfl rfl (by omega) (by omega) (hR6.sl.some (i := h.toNat) (by omega))) (VS.op (fun wq eq => R.fld' (o := 3) Try.runUnderlying53 rfl rfl Try.sizeOf3 rfl rfl) (VS.op (fun wq eq => R.ld1 Try.isAgg3 rfl ((((hR6.sl.ext eq).row (i := h.toNat) (by omega)).cell (i := 3) rfl))) (VS.op (fun wq eq => R.ld1 Try.isAgg33 rfl (((hX26.ext eq).cell 0))) (VS.op (fun wq eq => R.mvM rfl) (VS.op (fun wq eq => R.mvI rfl) (VS.op (fun wq eq => R.lookupV key3 Try.runUnderlying83 Try.zeroValue34 (hK6.map.ext eq) (mget_gof ms h) rfl rfl) (VS.op (fun wq eq => R.build Try.zeroValue72 Try.runUnderlying72 pl72 rfl) (VS.callX (fun u w' => ∃ x : List Fct × Option Addr × Nat, u = .slice x.2.1 x.1.length x.2.2 ∧ FctsW w' w6.heap.size x.2.1 x.2.2 x.1 ∧ x.1.map (·.f) = entF s recs L h) (fun u a b _ ⟨x, hx, h1, h2⟩ eb => ⟨x, hx, h1.ext eb, h2⟩) Try.call34 rfl (fun wq eq hq => Rets.mono (facts_spec ⟨s, tabOf recs h, ra, rc, recs, (gof ms h).a, (gof ms h).cap, (gof ms h).l⟩ wq hsm ⟨hS6.ext eq, hR6.ext eq, (hK6.own h).ext eq⟩ (by rw [hge]; exact hgo)) fun u w' ⟨x, hu, ⟨h1, h2⟩, he⟩ => ⟨⟨x, hu, h1.weaken eq.size, by rw [h2]; show factsG s recs (gof ms h).l _ = _; rw [hge]; rfl⟩, he⟩) (VS.nil (fun w8 e8 h8 => ?_))))))))))))))) rfl
        obtain ⟨x, hx, hxF, hxq⟩ := h8 12
        rw [hx]
        have hxl : x.1.length ≤ 5 + L.length := by
          have h1 := congrArg List.length hxq
          have h2 : (entF s recs L h).length = (factsG s recs (grpF L h L.length) (tabOf recs h)).length := rfl
          rw [List.length_map] at h1
          omega
        have hF8 := hF.ext e8
        have hs8 := e8.size
        have hq9 : (l ++ x.1).map (·.f) = (H.take (k + 1)).flatMap (entF s recs L) := by
          rw [List.map_append, hq, hxq, List.take_add_one, List.flatMap_append, hh]
          simp [List.getD, hkl]
        have hq9l := congrArg List.length hq9
        rw [List.length_map, List.length_append] at hq9l
        refine VL.appendT el41 (fun _ => rfl) rfl (rfl) (hF8.own) rfl (rfl) (hxF.own.sl) (hxF.own.hax) (by omega) (by unfold maxLen; omega) (by omega) rfl fun a9 cap9 w9 ho9 m9 hf9 => VL.op (R.asS rfl) (VL.nil (V.seq (V.region (VL.op (R.mvS rfl) (VL.op (R.lenS Try.runUnderlying41 rfl) (VL.op (R.gtr rfl rfl) (VL.nil (V.condP rfl (fun c106 => V.seq (?_)) (fun c106 => V.skip (?_))))))))))
        · have hbig : ¬ (allF s recs L).length ≤ 4000 := fun hle => by
            have h1 : allF s recs L = (H.take (k + 1)).flatMap (entF s recs L) ++ (H.drop (k + 1)).flatMap (entF s recs L) := by
              rw [← List.flatMap_append, List.take_append_drop]; unfold allF; rw [← hH]
            rw [h1, List.length_append] at hle
            omega
          have hres : resF s recs L = ([], 3) := by unfold resF; rw [if_pos hb, if_neg hbig]
          rw [hres]
          refine V.region (VL.op (R.asS rfl) (VL.op (R.asI rfl) (VL.nil (V.ret (fret2 (v := .slice _ _ _) (x := .int _ _) rfl rfl rfl rfl rfl (⟨([], none, 0), rfl, ⟨FctsW.nil _ _, rfl⟩, (e1.trans e2).trans (e5.trans (Mod.ownA (e6.trans e8) m9 hF8.own.ge))⟩))))))
        · have hF9 := hF8.app (l2 := x.1) (fun y hy => hxF.each y hy) (fun y hy => ⟨fun q h1 h2 => by have := (hxF.lo y hy).1 q h2; have := hF.own.lt q h1; omega, fun q h1 h2 => by have := (hxF.lo y hy).2 q h2; have := hF.own.lt q h1; omega⟩) (fun y hy => ⟨fun q hk => by have := (hxF.lo y hy).1 q hk; omega, fun q hk => by have := (hxF.lo y hy).2 q hk; omega⟩) ho9 m9 hf9
          refine V.region (VL.op (R.add rfl rfl (by omega) (by omega)) (VL.op (R.mvI rfl) (VL.nil (⟨(k + 1, l ++ x.1, a9, cap9), ?_, ⟨by dsimp only; omega, Mod.ownA (e6.trans e8) m9 hF8.own.ge, hF9, hq9, ?_⟩, by dsimp only; omega⟩))))
          · dsimp only; rw [List.length_append]; rfl
          · dsimp only; rw [List.length_append]; omega
      · have hkl : k = H.length := by omega
        subst hkl
        rw [← hall] at hq
        have hle : (allF s recs L).length ≤ 4000 := by rw [← hq, List.length_map]; exact hl4
        have hres : resF s recs L = (allF s recs L, 0) := by unfold resF; rw [if_pos hb, if_pos hle]
        rw [hres]
        refine V.region (VL.op (R.mvS rfl) (VL.op (R.asS rfl) (VL.op (R.asI rfl) (VL.nil (V.ret (fret2 (v := .slice _ _ _) (x := .int _ _) rfl rfl rfl rfl rfl (⟨(l, a, cap), rfl, ⟨hF.weaken (by have := e1.size; have := e2.size; omega), hq⟩, E6⟩)))))))
end Go.Proofs.Ytckihgamnmmbnaa
