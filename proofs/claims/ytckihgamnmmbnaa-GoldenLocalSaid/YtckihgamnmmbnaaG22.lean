/- Golden: the law's example. -/
import Derived.Test.YtckihgamnmmbnaaG19
import Derived.Test.YtckihgamnmmbnaaVcTurn
namespace Go.Proofs.Ytckihgamnmmbnaa
open Go.Vc Go.Sort

def annB : ByteArray := ⟨#[97, 110, 110]⟩
def tB : ByteArray := ⟨#[116]⟩
theorem text_spec (x : ByteArray) (w : World) : RetsP Try.prog 22 #[.string x] w (.agg (encVal ⟨1, 0, x⟩).toArray) := by
  refine enter (args := [_]) Try.func22 rfl Try.ntmps22 (by kernel_rfl) rfl ?_
  refine V.seq (V.region (VL.alloc Try.zeroValue55 fun b1 w1 hb1 e1 hX1 => VL.nil (V.seq (V.region (VL.op (R.mvG rfl) (VL.op (R.build Try.zeroValue55 Try.runUnderlying55 pl55 rfl) (VL.store (v := .agg _) Try.sizeOf55 rfl rfl rfl rfl hX1 rfl rfl fun w2 m2 hs2 hB2 => VL.nil (V.ret (fretC rfl rfl rfl Try.isAgg55 Try.sizeOf55 rfl (show RowAt _ _ _ (encVal ⟨1, 0, x⟩) from hB2.rowAt 0 3) rfl (⟨rfl, Mod.own e1 m2 (by show _ ≤ b1; omega)⟩))))))))))
theorem number_spec (n : Int) (w : World) : RetsP Try.prog 23 #[.int .i64 n] w (.agg (encVal ⟨2, n, ⟨#[]⟩⟩).toArray) := by
  refine enter (args := [_]) Try.func23 rfl Try.ntmps23 (by kernel_rfl) rfl ?_
  refine V.seq (V.region (VL.alloc Try.zeroValue55 fun b1 w1 hb1 e1 hX1 => VL.nil (V.seq (V.region (VL.op (R.mvI rfl) (VL.op (R.build Try.zeroValue55 Try.runUnderlying55 pl55 rfl) (VL.store (v := .agg _) Try.sizeOf55 rfl rfl rfl rfl hX1 rfl rfl fun w2 m2 hs2 hB2 => VL.nil (V.ret (fretC rfl rfl rfl Try.isAgg55 Try.sizeOf55 rfl (show RowAt _ _ _ (encVal ⟨2, n, ⟨#[]⟩⟩) from hB2.rowAt 0 3) rfl (⟨rfl, Mod.own e1 m2 (by show _ ≤ b1; omega)⟩))))))))))
def recE (src : Int) (x y : Val) (a : Option Addr) : Rec := ⟨⟨src, tB, ⟨#[]⟩⟩, 0, 0, a, 2, [⟨x, 1, 0⟩, ⟨y, 1, 0⟩]⟩
set_option maxRecDepth 100000 in
set_option maxHeartbeats 4000000 in
theorem record_spec (src : Int) (x y : Val) (w : World) : RetsX Try.prog 39 #[.int .i64 src, .agg (encVal x).toArray, .agg (encVal y).toArray] w (fun a : Option Addr => .agg (encRec (recE src x y a)).toArray) (fun a w' => TSl encCell 5 w' a (recE src x y a).cells ∧ ∀ k, aBlk a k → w.heap.size ≤ k) := by
  refine enter (args := [_, _, _]) Try.func39 rfl Try.ntmps39 (by kernel_rfl) rfl ?_
  refine V.seq (V.region (VL.box (v := .agg _) rfl fun b1 w1 hb1 e1 hX1 => VL.box (v := .agg _) rfl fun b2 w2 hb2 e2 hX2 => VL.alloc Try.zeroValue53 fun b3 w3 hb3 e3 hX3 => VL.nil (V.seq (V.region (VL.op (R.mvI rfl) (VL.op (R.build Try.zeroValue50 Try.runUnderlying50 pl50 rfl) (VL.op (R.ldA Try.isAgg55 Try.sizeOf55 rfl rfl ((show RowAt _ _ _ (encVal x) from (((hX1.ext e2).ext e3).rowAt 0 3))) rfl) (VL.op (R.build Try.zeroValue57 Try.runUnderlying57 pl57 rfl) (VL.op (R.ldA Try.isAgg55 Try.sizeOf55 rfl rfl ((show RowAt _ _ _ (encVal y) from ((hX2.ext e3).rowAt 0 3))) rfl) (VL.op (R.build Try.zeroValue57 Try.runUnderlying57 pl57 rfl) (VL.buildSl Try.runUnderlying51 Try.sizeOf57 Try.zeroValue57 rfl rfl rfl fun b4 w4 hb4 e4 hX4 => VL.op (R.build Try.zeroValue53 Try.runUnderlying53 pl53 rfl) (VL.store (v := .agg _) Try.sizeOf53 rfl rfl rfl rfl (hX3.ext e4) rfl rfl fun w5 m5 hs5 hB5 => VL.nil (V.ret (fretC rfl rfl rfl Try.isAgg53 Try.sizeOf53 rfl (show RowAt _ _ _ (encRec (recE src x y (some ⟨b4, 0, none⟩))) from hB5.rowAt 0 6) rfl (?_)))))))))))))))
  have hS : TSl encCell 5 w4 (some ⟨b4, 0, none⟩) ([⟨x, 1, 0⟩, ⟨y, 1, 0⟩] : List Cell) := OwnT.sl (B := 0) (e := 57) (cap := 2) (OwnT.of_blk (l := ([⟨x, 1, 0⟩, ⟨y, 1, 0⟩] : List Cell)) hX4 (Nat.zero_le _) rfl (fun r hr => by obtain ⟨c, _, rfl⟩ := List.mem_map.1 hr; rfl) (by simp [maxLen]))
  have s1 := e1.size
  have s2 := e2.size
  have h3 := hX3.lt
  refine ⟨some ⟨b4, 0, none⟩, rfl, ⟨hS.mod m5 fun ad had h => ?_, fun k hk => by have := aBlk_some hk; have := e3.size; omega⟩, Mod.own (e1.trans (e2.trans (e3.trans e4))) m5 (by show _ ≤ b3; omega)⟩
  injection had with had
  subst had
  have h : b4 = b3 := h
  omega
theorem RecsW.mod {S : Nat → Prop} {w w' : World} {a : Option Addr} {l : List Rec} (h : RecsW w a l) (m : Vc.Mod S w w') (h1 : ∀ ad, a = some ad → ¬ S ad.block) (h2 : ∀ r ∈ l, ∀ k, aBlk r.ca k → ¬ S k) : RecsW w' a l :=
  ⟨h.sl.mod m h1, fun r hr => (h.cells r hr).mod m fun ad had => h2 r hr _ ⟨ad, had, rfl⟩⟩
def attrA : Attr := ⟨⟨#[110, 97, 109, 101]⟩, 1, none, 0, 0, ⟨0, 0, ⟨#[]⟩⟩⟩
def attrB : Attr := ⟨⟨#[97, 103, 101]⟩, 2, none, 0, 0, ⟨0, 0, ⟨#[]⟩⟩⟩
def tabE (a k : Option Addr) : Tab := ⟨tB, a, 2, [attrA, attrB], k, 1, 1⟩
def raw0 : Raw := ⟨none, 0, 0⟩
def setE (ta oa aa ka : Option Addr) : Set_ := ⟨ta, 1, [tabE aa ka], oa, 2, [⟨⟨#[120]⟩, 1⟩, ⟨⟨#[121]⟩, 2⟩], raw0, raw0, none, 0, [], raw0, raw0⟩
def recsE (a b c : Option Addr) : List Rec := [recE 0 ⟨1, 0, annB⟩ ⟨2, 7, ⟨#[]⟩⟩ a, recE 1 ⟨1, 0, annB⟩ ⟨2, 8, ⟨#[]⟩⟩ b, recE 1 ⟨0, 0, ⟨#[]⟩⟩ ⟨2, 8, ⟨#[]⟩⟩ c]
theorem recsE_all {p : Nat → Prop} {x y z : Option Addr} (h : ∀ k, aBlk x k ∨ aBlk y k ∨ aBlk z k → p k) : ∀ r ∈ recsE x y z, ∀ k, aBlk r.ca k → p k := by
  intro r hr k hk
  simp only [recsE, List.mem_cons, List.not_mem_nil, or_false] at hr
  rcases hr with rfl | rfl | rfl
  · exact h k (.inl hk)
  · exact h k (.inr (.inl hk))
  · exact h k (.inr (.inr hk))
theorem recsE_cells {w : World} {x y z : Option Addr} (hx : TSl encCell 5 w x (recE 0 ⟨1, 0, annB⟩ ⟨2, 7, ⟨#[]⟩⟩ x).cells) (hy : TSl encCell 5 w y (recE 1 ⟨1, 0, annB⟩ ⟨2, 8, ⟨#[]⟩⟩ y).cells) (hz : TSl encCell 5 w z (recE 1 ⟨0, 0, ⟨#[]⟩⟩ ⟨2, 8, ⟨#[]⟩⟩ z).cells) : ∀ r ∈ recsE x y z, TSl encCell 5 w r.ca r.cells := by
  intro r hr
  simp only [recsE, List.mem_cons, List.not_mem_nil, or_false] at hr
  rcases hr with rfl | rfl | rfl
  · exact hx
  · exact hy
  · exact hz
set_option maxRecDepth 100000 in
set_option maxHeartbeats 4000000 in
theorem sample_spec (w : World) : RetsX Try.prog 21 #[] w (fun x : (Option Addr × Option Addr × Option Addr × Option Addr) × Option Addr × Option Addr × Option Addr × Option Addr => .tuple #[.agg (encSet (setE x.1.1 x.1.2.1 x.1.2.2.1 x.1.2.2.2)).toArray, .slice x.2.1 3 3])
    (fun x w' => SetW w' (setE x.1.1 x.1.2.1 x.1.2.2.1 x.1.2.2.2) ∧ RecsW w' x.2.1 (recsE x.2.2.1 x.2.2.2.1 x.2.2.2.2)) := by
  refine enter (args := []) Try.func21 rfl Try.ntmps21 (by kernel_rfl) rfl ?_
  refine V.seq (V.region (VL.alloc Try.zeroValue32 fun b0 w0 hb0 e0 hX0 => VL.op (R.asS rfl) (VL.nil (V.seq (V.region (VL.op (R.build Try.zeroValue93 Try.runUnderlying93 pl93 rfl) (VL.op (R.build Try.zeroValue93 Try.runUnderlying93 pl93 rfl) (VL.buildSl Try.runUnderlying76 Try.sizeOf93 Try.zeroValue93 rfl rfl rfl fun b1 w1 hb1 e1 hX1 => VL.buildSl Try.runUnderlying34 Try.sizeOf3 Try.zeroValue3 rfl rfl rfl fun b2 w2 hb2 e2 hX2 => VL.op (R.build Try.zeroValue78 Try.runUnderlying78 pl78 rfl) (VL.allocSt (v := .agg (encTab (tabE (some ⟨b1, 0, none⟩) (some ⟨b2, 0, none⟩))).toArray) Try.zeroValue78 Try.sizeOf78 rfl rfl rfl rfl rfl fun b1_5 w1_5 hb1_5 e1_5 hB1_5 => VL.nil (V.seq (V.region (VL.op (R.ldA Try.isAgg78 Try.sizeOf78 rfl rfl ((show RowAt _ _ _ (encTab (tabE (some ⟨b1, 0, none⟩) (some ⟨b2, 0, none⟩))) from (hB1_5.rowAt 0 3))) rfl) (VL.buildSl Try.runUnderlying22 Try.sizeOf78 Try.zeroValue78 rfl rfl rfl fun b3 w3 hb3 e3 hX3 => VL.op (R.build Try.zeroValue24 Try.runUnderlying24 pl24 rfl) (VL.op (R.build Try.zeroValue95 Try.runUnderlying95 pl95 rfl) (VL.op (R.build Try.zeroValue95 Try.runUnderlying95 pl95 rfl) (VL.buildSl Try.runUnderlying25 Try.sizeOf95 Try.zeroValue95 rfl rfl rfl fun b4 w4 hb4 e4 hX4 => VL.op (R.build Try.zeroValue32 Try.runUnderlying32 pl32 rfl) (VL.allocSt (v := .agg (encSet (setE (some ⟨b3, 0, none⟩) (some ⟨b4, 0, none⟩) (some ⟨b1, 0, none⟩) (some ⟨b2, 0, none⟩))).toArray) Try.zeroValue32 Try.sizeOf32 rfl rfl rfl rfl rfl fun b2_7 w2_7 hb2_7 e2_7 hB2_7 => VL.nil (V.seq (?_)))))))))))))))))))
  have hA : TSl encAttr 6 w1 (some ⟨b1, 0, none⟩) [attrA, attrB] := OwnT.sl (B := 0) (e := 93) (cap := 2) (OwnT.of_blk (l := [attrA, attrB]) hX1 (Nat.zero_le _) rfl (fun r hr => by obtain ⟨c, _, rfl⟩ := List.mem_map.1 hr; rfl) (by simp [maxLen]))
  have hT : TSl encTab 3 w3 (some ⟨b3, 0, none⟩) [tabE (some ⟨b1, 0, none⟩) (some ⟨b2, 0, none⟩)] := OwnT.sl (B := 0) (e := 78) (cap := 1) (OwnT.of_blk (l := [tabE (some ⟨b1, 0, none⟩) (some ⟨b2, 0, none⟩)]) hX3 (Nat.zero_le _) rfl (fun r hr => by obtain ⟨c, _, rfl⟩ := List.mem_map.1 hr; rfl) (by simp [maxLen]))
  have hO : TSl encOrg 2 w4 (some ⟨b4, 0, none⟩) [⟨⟨#[120]⟩, 1⟩, ⟨⟨#[121]⟩, 2⟩] := OwnT.sl (B := 0) (e := 95) (cap := 2) (OwnT.of_blk (l := ([⟨⟨#[120]⟩, 1⟩, ⟨⟨#[121]⟩, 2⟩] : List Org)) hX4 (Nat.zero_le _) rfl (fun r hr => by obtain ⟨c, _, rfl⟩ := List.mem_map.1 hr; rfl) (by simp [maxLen]))
  have hA := hA.ext (e2.trans (e1_5.trans (e3.trans (e4.trans e2_7))))
  have hT := hT.ext (e4.trans e2_7)
  have hO := hO.ext e2_7
  clear hX1 hX2 hX3 hX4 hB1_5
  have h0 := hX0.lt
  have hX0 := hX0.ext (e1.trans (e2.trans (e1_5.trans (e3.trans (e4.trans e2_7)))))
  have hsz4 : w0.heap.size ≤ w4.heap.size := (e1.trans (e2.trans (e1_5.trans (e3.trans e4)))).size
  have hsz : w0.heap.size ≤ w2_7.heap.size := (e1.trans (e2.trans (e1_5.trans (e3.trans (e4.trans e2_7))))).size
  obtain ⟨se, hse⟩ : ∃ se, se = setE (some ⟨b3, 0, none⟩) (some ⟨b4, 0, none⟩) (some ⟨b1, 0, none⟩) (some ⟨b2, 0, none⟩) := ⟨_, rfl⟩
  rw [← hse] at hB2_7
  refine V.regionT (T := Wr b0 (.cells (encSet se).toArray 32 (0, 0))) mixed 12 (by kernel_rfl) rfl (fun us => VT.op (fun wq eq => R.ldA Try.isAgg32 Try.sizeOf32 rfl rfl ((show RowAt _ _ _ (encSet se) from (hB2_7.mod eq.m (by show ¬ b2_7 = b0; omega)).rowAt 0 7)) rfl) (VT.callP Try.call22 rfl (fun wq eq => text_spec annB _) (VT.callP Try.call23 rfl (fun wq eq => number_spec 7 _) (VT.callX (fun u w' => ∃ a : Option Addr, u = .agg (encRec (recE 0 ⟨1, 0, annB⟩ ⟨2, 7, ⟨#[]⟩⟩ a)).toArray ∧ TSl encCell 5 w' a (recE 0 ⟨1, 0, annB⟩ ⟨2, 7, ⟨#[]⟩⟩ a).cells ∧ ∀ k, aBlk a k → w2_7.heap.size ≤ k) (fun u a b _ ⟨x, hx, h1, h2⟩ eb => ⟨x, hx, h1.mod eb.m (fun ad had h => by have := h2 _ ⟨ad, had, rfl⟩; have h : ad.block = b0 := h; omega), h2⟩) Try.call39 rfl (fun wq eq hq => Rets.mono (record_spec 0 ⟨1, 0, annB⟩ ⟨2, 7, ⟨#[]⟩⟩ wq) fun u w' ⟨x, hu, ⟨h1, h2⟩, he⟩ => ⟨⟨x, hu, h1, fun k hk => Nat.le_trans eq.m.size (h2 k hk)⟩, he⟩) (VT.callP Try.call22 rfl (fun wq eq => text_spec annB _) (VT.callP Try.call23 rfl (fun wq eq => number_spec 8 _) (VT.callX (fun u w' => ∃ a : Option Addr, u = .agg (encRec (recE 1 ⟨1, 0, annB⟩ ⟨2, 8, ⟨#[]⟩⟩ a)).toArray ∧ TSl encCell 5 w' a (recE 1 ⟨1, 0, annB⟩ ⟨2, 8, ⟨#[]⟩⟩ a).cells ∧ ∀ k, aBlk a k → w2_7.heap.size ≤ k) (fun u a b _ ⟨x, hx, h1, h2⟩ eb => ⟨x, hx, h1.mod eb.m (fun ad had h => by have := h2 _ ⟨ad, had, rfl⟩; have h : ad.block = b0 := h; omega), h2⟩) Try.call39 rfl (fun wq eq hq => Rets.mono (record_spec 1 ⟨1, 0, annB⟩ ⟨2, 8, ⟨#[]⟩⟩ wq) fun u w' ⟨x, hu, ⟨h1, h2⟩, he⟩ => ⟨⟨x, hu, h1, fun k hk => Nat.le_trans eq.m.size (h2 k hk)⟩, he⟩) (VT.op (fun wq eq => R.build Try.zeroValue55 Try.runUnderlying55 pl55 rfl) (VT.callP Try.call23 rfl (fun wq eq => number_spec 8 _) (VT.callX (fun u w' => ∃ a : Option Addr, u = .agg (encRec (recE 1 ⟨0, 0, ⟨#[]⟩⟩ ⟨2, 8, ⟨#[]⟩⟩ a)).toArray ∧ TSl encCell 5 w' a (recE 1 ⟨0, 0, ⟨#[]⟩⟩ ⟨2, 8, ⟨#[]⟩⟩ a).cells ∧ ∀ k, aBlk a k → w2_7.heap.size ≤ k) (fun u a b _ ⟨x, hx, h1, h2⟩ eb => ⟨x, hx, h1.mod eb.m (fun ad had h => by have := h2 _ ⟨ad, had, rfl⟩; have h : ad.block = b0 := h; omega), h2⟩) Try.call39 rfl (fun wq eq hq => Rets.mono (record_spec 1 ⟨0, 0, ⟨#[]⟩⟩ ⟨2, 8, ⟨#[]⟩⟩ wq) fun u w' ⟨x, hu, ⟨h1, h2⟩, he⟩ => ⟨⟨x, hu, h1, fun k hk => Nat.le_trans eq.m.size (h2 k hk)⟩, he⟩) (VT.spec (fun u w' => ∃ (b : Nat) (x y z : Option Addr), u = .slice (some ⟨b, 0, none⟩) 3 3 ∧ w2_7.heap.size ≤ b ∧ (∀ k, aBlk x k ∨ aBlk y k ∨ aBlk z k → w2_7.heap.size ≤ k) ∧ RecsW w' (some ⟨b, 0, none⟩) (recsE x y z)) (fun u a b _ ⟨d, x, y, z, hx, h1, h2, h3⟩ (eb : Wr b0 (.cells (encSet se).toArray 32 (0, 0)) a b) => ⟨d, x, y, z, hx, h1, h2, h3.mod eb.m (fun ad had h => by injection had with had; subst had; have h : d = b0 := h; omega) (recsE_all fun k hk h => by have := h2 k hk; have h : k = b0 := h; omega)⟩) rfl (fun wq (eq : Wr b0 (.cells (encSet se).toArray 32 (0, 0)) w2_7 wq) hq => by
        obtain ⟨x, hx, hx1, hx2⟩ := hq 3 (by kernel_rfl)
        obtain ⟨y, hy, hy1, hy2⟩ := hq 6 (by kernel_rfl)
        obtain ⟨z, hz, hz1, hz2⟩ := hq 9 (by kernel_rfl)
        rw [hx, hy, hz]
        refine yieldsR_op (R.buildSl (n := 3) Try.runUnderlying33 Try.sizeOf53 Try.zeroValue53 rfl rfl rfl rfl) ⟨⟨wq.heap.size, x, y, z, rfl, eq.m.size, fun k hk => ?_, ?_, recsE_cells (hx1.ext (Ext.alloc _ _)) (hy1.ext (Ext.alloc _ _)) (hz1.ext (Ext.alloc _ _))⟩, Turn.ext (Ext.alloc _ _)⟩
        · exact hk.elim (hx2 k) fun h => h.elim (hy2 k) (hz2 k)
        · exact OwnT.sl (B := 0) (e := 53) (cap := 3) (OwnT.of_blk (l := recsE x y z) (Blk.alloc _ _) (Nat.zero_le _) rfl (fun r hr => by obtain ⟨c, _, rfl⟩ := List.mem_map.1 hr; rfl) (by simp [maxLen, recsE]))) (VT.spec (fun u w' => Blk w' b0 (.cells (encSet se).toArray 32 (0, 0))) (fun u a b _ h (eb : Wr b0 (.cells (encSet se).toArray 32 (0, 0)) a b) => eb.k h) rfl (fun wq (eq : Wr b0 (.cells (encSet se).toArray 32 (0, 0)) w2_7 wq) hq => by
        obtain ⟨c, hc, hcn⟩ := eq.s 32 7 ⟨_, hX0, rfl⟩
        refine yieldsR_store Try.sizeOf32 (v := .agg (encSet se).toArray) rfl rfl rfl rfl hc (by rw [hcn]; rfl) (by rfl) fun w' m hsz hB => ?_
        rw [putCells_all c _ (by rw [hcn]; rfl)] at hB
        refine ⟨hB, ⟨m, fun _ => hB, fun T n ⟨c2, h2, hn2⟩ => ?_⟩⟩
        have e := h2.symm.trans hc
        injection e with e
        injection e with e1 e2 e3
        subst e2
        exact ⟨_, hB, by rw [← hn2, e1, hcn]; rfl⟩) (VT.nil (fun w5 e5 h5 => ?_)))))))))))))) rfl
  obtain ⟨b, x, y, z, hx, hgb, hg, hR⟩ := h5 10
  have hB : Blk w5 b0 (.cells (encSet se).toArray 32 (0, 0)) := h5 11
  rw [hx]
  have hs5 := e5.m
  have E7 := e0.trans (e1.trans (e2.trans (e1_5.trans (e3.trans (e4.trans e2_7)))))
  have hgt : ∀ q, (q ≤ w2_7.heap.size ∨ q ≤ w2_7.heap.size) → q ≠ b0 → ∀ {ad : Addr}, some (⟨q, 0, none⟩ : Addr) = some ad → ¬ one b0 ad.block := fun q _ hq {ad} had h => by
    injection had with had; subst had; exact hq h
  refine VL.op (R.asS rfl) (VL.nil (V.ret (fretCT (v := .slice _ _ _) rfl rfl rfl rfl rfl Try.isAgg32 Try.sizeOf32 rfl (show RowAt _ _ _ (encSet se) from hB.rowAt 0 7) rfl (?_))))
  refine ⟨((some ⟨b3, 0, none⟩, some ⟨b4, 0, none⟩, some ⟨b1, 0, none⟩, some ⟨b2, 0, none⟩), some ⟨b, 0, none⟩, x, y, z), by rw [hse], ⟨⟨?_, ?_, ?_, TSl.nil _ _ _ _⟩, hR⟩, Mod.own E7 hs5 (by omega)⟩
  · exact hT.mod hs5 fun ad had => hgt b3 (.inl (by have := e3.size; have := e4.size; have := e2_7.size; omega)) (by have := e1.size; have := e2.size; have := e1_5.size; omega) had
  · intro r hr
    rw [show (setE (some ⟨b3, 0, none⟩) (some ⟨b4, 0, none⟩) (some ⟨b1, 0, none⟩) (some ⟨b2, 0, none⟩)).tabs = [tabE (some ⟨b1, 0, none⟩) (some ⟨b2, 0, none⟩)] from rfl, List.mem_singleton] at hr
    subst hr
    exact hA.mod hs5 fun ad had => hgt b1 (.inl (by omega)) (by omega) had
  · exact hO.mod hs5 fun ad had => hgt b4 (.inl (by have := e4.size; have := e2_7.size; omega)) (by have := e3.size; have := e1.size; have := e2.size; have := e1_5.size; omega) had
end Go.Proofs.Ytckihgamnmmbnaa

/- Golden: the example's answers. -/
namespace Go.Proofs.Ytckihgamnmmbnaa
open Go.Vc Go.Sort
theorem choose_fun : chooseF = rchooseF := by funext a b c; exact choose_eq a b c
theorem others_fun : othersF = rothersF := by funext a b c; exact others_eq a b c
def v7 : Val := ⟨2, 7, ⟨#[]⟩⟩
def v8 : Val := ⟨2, 8, ⟨#[]⟩⟩
def vA : Val := ⟨1, 0, annB⟩
def vN : Val := ⟨0, 0, ⟨#[]⟩⟩
section
variable (ta oa aa ka x y z : Option Addr)
theorem ex_base : baseG (setE ta oa aa ka) (recsE x y z) [0, 1, 2] 0 = [vA, v8] := by
  unfold baseG baseC chosen
  rw [choose_fun]
  kernel_rfl
theorem ex_mem : memB (setE ta oa aa ka) (recsE x y z) [0, 1, 2] = true := by kernel_rfl
def wantE : List Fac := [⟨0, 0, 0, [vA, v8], 0, [0, 1, 2]⟩, ⟨0, 0, 1, [vA, v7], 1, [0, 1, 2]⟩, ⟨0, 0, -1, [vA, v7], 2, [0]⟩, ⟨0, 0, -1, [vA, v8], 0, [1]⟩, ⟨0, 0, -1, [vN, v8], 0, [2]⟩]
theorem ex_facts : factsG (setE ta oa aa ka) (recsE x y z) [0, 1, 2] 0 = wantE := by
  unfold factsG
  rw [show ncol (setE ta oa aa ka) 0 = 2 from rfl]
  simp only [vOut, othG, ex_base]
  rw [others_fun]
  kernel_rfl
theorem ex_all : resF (setE ta oa aa ka) (recsE x y z) [0, 0, 0] = (wantE, 0) := by
  have hh : hsF (setE ta oa aa ka) (recsE x y z) [0, 0, 0] = [0] := by kernel_rfl
  have hg : grpF [0, 0, 0] 0 3 = [0, 1, 2] := by kernel_rfl
  have ha : allF (setE ta oa aa ka) (recsE x y z) [0, 0, 0] = wantE := by
    unfold allF
    rw [hh]
    show entF (setE ta oa aa ka) (recsE x y z) [0, 0, 0] 0 ++ [] = _
    rw [List.append_nil]
    show factsG (setE ta oa aa ka) (recsE x y z) (grpF [0, 0, 0] 0 3) 0 = _
    rw [hg]
    exact ex_facts ta oa aa ka x y z
  unfold resF
  rw [if_pos (by kernel_rfl), ha]
  rfl
def oneE : List Fac := [⟨0, 0, 0, [vA, v7], 0, [0]⟩, ⟨0, 1, 0, [vA, v8], 0, [1]⟩, ⟨0, 2, 0, [vN, v8], 0, [2]⟩]
theorem ex_bs0 : baseG (setE ta oa aa ka) (recsE x y z) [0] 0 = [vA, v7] := by
  unfold baseG baseC chosen
  rw [choose_fun]
  kernel_rfl
theorem ex_one0 : factsG (setE ta oa aa ka) (recsE x y z) [0] 0 = [⟨0, 0, 0, [vA, v7], 0, [0]⟩] := by
  unfold factsG
  rw [show ncol (setE ta oa aa ka) 0 = 2 from rfl]
  simp only [vOut, othG, ex_bs0]
  rw [others_fun]
  kernel_rfl
theorem ex_bs1 : baseG (setE ta oa aa ka) (recsE x y z) [1] 0 = [vA, v8] := by
  unfold baseG baseC chosen
  rw [choose_fun]
  kernel_rfl
theorem ex_one1 : factsG (setE ta oa aa ka) (recsE x y z) [1] 0 = [⟨0, 1, 0, [vA, v8], 0, [1]⟩] := by
  unfold factsG
  rw [show ncol (setE ta oa aa ka) 0 = 2 from rfl]
  simp only [vOut, othG, ex_bs1]
  rw [others_fun]
  kernel_rfl
theorem ex_bs2 : baseG (setE ta oa aa ka) (recsE x y z) [2] 0 = [vN, v8] := by
  unfold baseG baseC chosen
  rw [choose_fun]
  kernel_rfl
theorem ex_one2 : factsG (setE ta oa aa ka) (recsE x y z) [2] 0 = [⟨0, 2, 0, [vN, v8], 0, [2]⟩] := by
  unfold factsG
  rw [show ncol (setE ta oa aa ka) 0 = 2 from rfl]
  simp only [vOut, othG, ex_bs2]
  rw [others_fun]
  kernel_rfl
theorem ex_ones : resF (setE ta oa aa ka) (recsE x y z) [0, 1, 2] = (oneE, 0) := by
  have hh : hsF (setE ta oa aa ka) (recsE x y z) [0, 1, 2] = [0, 1, 2] := by kernel_rfl
  have g0 : grpF [0, 1, 2] 0 3 = [0] := by kernel_rfl
  have g1 : grpF [0, 1, 2] 1 3 = [1] := by kernel_rfl
  have g2 : grpF [0, 1, 2] 2 3 = [2] := by kernel_rfl
  have ha : allF (setE ta oa aa ka) (recsE x y z) [0, 1, 2] = oneE := by
    unfold allF
    rw [hh]
    show factsG (setE ta oa aa ka) (recsE x y z) (grpF [0, 1, 2] 0 3) 0 ++ (factsG (setE ta oa aa ka) (recsE x y z) (grpF [0, 1, 2] 1 3) 0 ++ (factsG (setE ta oa aa ka) (recsE x y z) (grpF [0, 1, 2] 2 3) 0 ++ [])) = _
    rw [g0, g1, g2, ex_one0, ex_one1, ex_one2]
    rfl
  unfold resF
  rw [if_pos (by kernel_rfl), ha]
  rfl
theorem ex_bad : entB (setE ta oa aa ka) (recsE x y z) [0, 2, 2] = false := by kernel_rfl
theorem ex_no : resF (setE ta oa aa ka) (recsE x y z) [0, 2, 2] = ([], 1) := by
  unfold resF
  rw [if_neg (by rw [ex_bad]; decide)]
theorem ex_ok : entB (setE ta oa aa ka) (recsE x y z) [0, 0, 0] = true := by kernel_rfl
end
end Go.Proofs.Ytckihgamnmmbnaa

/- Golden: the law's head. -/
namespace Go.Proofs.Ytckihgamnmmbnaa
open Go.Vc Go.Sort
section
variable (ta oa aa ka x y z : Option Addr)
theorem ex_small (L : List Int) (h : L.length ≤ 1000000) : Small (setE ta oa aa ka) (recsE x y z) L := by
  refine ⟨h, by simp [recsE], by simp [setE], by simp [setE], by simp [setE], fun r hr => ?_⟩
  simp only [recsE, List.mem_cons, List.not_mem_nil, or_false] at hr
  rcases hr with rfl | rfl | rfl <;> simp [recE]
theorem base_ex (ra ma : Option Addr) (rc mc : Nat) (w : World) (hS : SetW w (setE ta oa aa ka)) (hR : RecsW w ra (recsE x y z)) (hM : IntSl w ma [0, 1, 2]) :
    RetsX Try.prog 11 #[.agg (encSet (setE ta oa aa ka)).toArray, .slice ra 3 rc, .slice ma 3 mc] w (fun x : Option Addr × Nat => .tuple #[.slice x.1 2 x.2, .int .i64 0]) (fun x w' => OwnT encVal 3 55 w.heap.size w' x.1 x.2 [vA, v8]) := by
  have h := gbase_spec (setE ta oa aa ka) (recsE x y z) [0, 1, 2] ra ma rc mc w (ex_small ta oa aa ka x y z _ (by decide)) hS hR hM
  rw [ex_mem] at h
  simp only [if_true] at h
  have e : ((recsE x y z).getD (([0, 1, 2] : List Int).getD 0 default).toNat default).table = 0 := rfl
  rw [e, ex_base] at h
  exact h
theorem base_ex0 (ra : Option Addr) (rc : Nat) (w : World) (hS : SetW w (setE ta oa aa ka)) (hR : RecsW w ra (recsE x y z)) :
    RetsX Try.prog 11 #[.agg (encSet (setE ta oa aa ka)).toArray, .slice ra 3 rc, .slice none 0 0] w (fun x : Option Addr × Nat => .tuple #[.slice x.1 0 x.2, .int .i64 1]) (fun _ _ => True) := by
  have h := gbase_spec (setE ta oa aa ka) (recsE x y z) [] ra none rc 0 w (ex_small ta oa aa ka x y z _ (by decide)) hS hR (TSl.nil _ _ _ _)
  rw [show memB (setE ta oa aa ka) (recsE x y z) [] = false from rfl] at h
  exact Rets.mono h fun u w' ⟨i, h1, _, h3⟩ => ⟨i, h1, trivial, h3⟩
theorem facts_ex (L : List Int) (hL : L.length ≤ 1000000) (r : List Fac × Int) (hr : resF (setE ta oa aa ka) (recsE x y z) L = r) (ra la : Option Addr) (rc lc : Nat) (w : World) (hS : SetW w (setE ta oa aa ka)) (hR : RecsW w ra (recsE x y z)) (hM : IntSl w la L) :
    RetsX Try.prog 13 #[.agg (encSet (setE ta oa aa ka)).toArray, .slice ra 3 rc, .slice la L.length lc] w (fun x : List Fct × Option Addr × Nat => .tuple #[.slice x.2.1 x.1.length x.2.2, .int .i64 r.2]) (fun x w' => FctsW w' w.heap.size x.2.1 x.2.2 x.1 ∧ x.1.map (·.f) = r.1) := by
  subst hr
  exact gfacts_spec (setE ta oa aa ka) (recsE x y z) L ra la rc lc w (ex_small ta oa aa ka x y z _ hL) hS hR hM
end
theorem int3 {w : World} {b : Nat} {l : List Int} {cs : Array Value} (h : Blk w b (.cells cs 3 (0, 0))) (hl : (l.map encI).flatten = cs.toList) (hn : l.length ≤ maxLen) : IntSl w (some ⟨b, 0, none⟩) l :=
  OwnT.sl (B := 0) (e := 3) (cap := l.length) (OwnT.of_blk (l := l) h (Nat.zero_le _) hl (fun r hr => by obtain ⟨c, _, rfl⟩ := List.mem_map.1 hr; rfl) hn)
theorem val2 {w : World} {b : Nat} {l : List Val} {cs : Array Value} (h : Blk w b (.cells cs 55 (0, 0))) (hl : (l.map encVal).flatten = cs.toList) (hn : l.length ≤ maxLen) : ValSl w (some ⟨b, 0, none⟩) l :=
  OwnT.sl (B := 0) (e := 55) (cap := l.length) (OwnT.of_blk (l := l) h (Nat.zero_le _) hl (fun r hr => by obtain ⟨c, _, rfl⟩ := List.mem_map.1 hr; rfl) hn)
theorem fcts5 {w : World} {b : Nat} {l : List Fct} {cs : Array Value} (h : Blk w b (.cells cs 48 (0, 0))) (hl : (l.map encFct).flatten = cs.toList) (hn : l.length ≤ maxLen) : TSl encFct 6 w (some ⟨b, 0, none⟩) l :=
  OwnT.sl (B := 0) (e := 48) (cap := l.length) (OwnT.of_blk (l := l) h (Nat.zero_le _) hl (fun r hr => by obtain ⟨c, _, rfl⟩ := List.mem_map.1 hr; rfl) hn)
theorem same_ex (a b : Option Addr) (ca cb : Nat) (l m : List Fct) (w : World) (hl : l.length ≤ 9223372036854775807) (hm : m.length ≤ 9223372036854775807) (hS : FctL w a l) (hT : FctL w b m) (h : l.map (·.f) = m.map (·.f)) :
    RetsP Try.prog 16 #[.slice a l.length ca, .slice b m.length cb] w (.bool true) := by
  have := same_spec a b ca cb l m w hl hm hS hT
  rwa [decide_eq_true h] at this
theorem fct_of {w : World} {b c : Nat} {rc fc : Nat} {f : Fac} {o o2 : Obj} (h1 : ValSl w (some ⟨b, 0, none⟩) f.row) (h2 : IntSl w (some ⟨c, 0, none⟩) f.frm) (hb : Blk w b o) (hc : Blk w c o2) : FctW w ⟨f, some ⟨b, 0, none⟩, rc, some ⟨c, 0, none⟩, fc⟩ :=
  ⟨h1, h2, fun k hk => by have := aBlk_some hk; have := hb.lt; omega, fun k hk => by have := aBlk_some hk; have := hc.lt; omega⟩
set_option maxRecDepth 100000 in
set_option maxHeartbeats 8000000 in
theorem head_spec (w : World) : RetsP Try.prog 9 #[] w (.bool true) := by
  refine enter (args := []) Try.func9 rfl Try.ntmps9 (by kernel_rfl) rfl ?_
  refine V.seq (V.region (VL.op (R.asB rfl) (VL.nil (V.seq (V.region (VL.callX Try.call21 rfl (sample_spec _) fun s0 w1 h1 e1 => VL.op (R.mvT rfl) (VL.op (R.extr rfl rfl) (VL.op (R.extr rfl rfl) (VL.allocSt (v := .agg (encSet (setE s0.1.1 s0.1.2.1 s0.1.2.2.1 s0.1.2.2.2)).toArray) Try.zeroValue32 Try.sizeOf32 rfl rfl rfl rfl rfl fun b1_4 w1_4 hb1_4 e1_4 hB1_4 => VL.op (R.asS rfl) (VL.nil (V.seq (?_))))))))))))
  obtain ⟨⟨ta, oa, aa, ka⟩, ra, x, y, z⟩ := s0
  obtain ⟨hS, hR⟩ := h1
  dsimp only at hS hR hB1_4 ⊢
  have hS := hS.ext e1_4
  have hR := hR.ext e1_4
  refine V.region (VL.op (R.ldA Try.isAgg32 Try.sizeOf32 rfl rfl ((show RowAt _ _ _ (encSet (setE ta oa aa ka)) from (hB1_4.ext (Mod.refl _ _)).rowAt 0 7)) rfl) (VL.op (R.mvS rfl) (VL.buildSl Try.runUnderlying34 Try.sizeOf3 Try.zeroValue3 rfl rfl rfl fun b2 w2 hb2 e2 hX2 => VL.callX Try.call11 rfl (base_ex ta oa aa ka x y z ra (some ⟨b2, 0, none⟩) 3 3 _ (hS.ext e2) (hR.ext e2) (int3 (l := [0, 1, 2]) hX2 rfl (by decide))) fun xa wa ha ea => VL.op (R.mvT rfl) (VL.op (R.extr rfl rfl) (VL.op (R.extr rfl rfl) (VL.op (R.asS rfl) (VL.op (R.asI rfl) (VL.nil (V.seq (V.region (VL.op (R.ldA Try.isAgg32 Try.sizeOf32 rfl rfl ((show RowAt _ _ _ (encSet (setE ta oa aa ka)) from (hB1_4.ext (e2.trans ea)).rowAt 0 7)) rfl) (VL.op (R.mvS rfl) (VL.buildSl Try.runUnderlying34 Try.sizeOf3 Try.zeroValue3 rfl rfl rfl fun b3 w3 hb3 e3 hX3 => VL.callX Try.call13 rfl (facts_ex ta oa aa ka x y z [0, 0, 0] (by decide) _ (ex_all ta oa aa ka x y z) ra (some ⟨b3, 0, none⟩) 3 3 _ (hS.ext ((e2.trans ea).trans e3)) (hR.ext ((e2.trans ea).trans e3)) (int3 (l := [0, 0, 0]) hX3 rfl (by decide))) fun xb wb hb eb => VL.op (R.mvT rfl) (VL.op (R.extr rfl rfl) (VL.op (R.extr rfl rfl) (VL.op (R.asS rfl) (VL.op (R.asI rfl) (VL.nil (V.seq (V.region (VL.op (R.ldA Try.isAgg32 Try.sizeOf32 rfl rfl ((show RowAt _ _ _ (encSet (setE ta oa aa ka)) from (hB1_4.ext (((e2.trans ea).trans e3).trans eb)).rowAt 0 7)) rfl) (VL.op (R.mvS rfl) (VL.buildSl Try.runUnderlying34 Try.sizeOf3 Try.zeroValue3 rfl rfl rfl fun b4 w4 hb4 e4 hX4 => VL.callX Try.call13 rfl (facts_ex ta oa aa ka x y z [0, 1, 2] (by decide) _ (ex_ones ta oa aa ka x y z) ra (some ⟨b4, 0, none⟩) 3 3 _ (hS.ext ((((e2.trans ea).trans e3).trans eb).trans e4)) (hR.ext ((((e2.trans ea).trans e3).trans eb).trans e4)) (int3 (l := [0, 1, 2]) hX4 rfl (by decide))) fun xc wc hc ec => VL.op (R.mvT rfl) (VL.op (R.extr rfl rfl) (VL.op (R.extr rfl rfl) (VL.op (R.asS rfl) (VL.op (R.asI rfl) (VL.nil (V.seq (?_))))))))))))))))))))))))))))))
  have E4 := ea.trans (e3.trans (eb.trans (e4.trans ec)))
  have hS := hS.ext (e2.trans E4)
  have hR := hR.ext (e2.trans E4)
  have hB := hB1_4.ext (e2.trans E4)
  have ha := ha.ext (e3.trans (eb.trans (e4.trans ec)))
  obtain ⟨lb, ab, cb⟩ := xb
  obtain ⟨lc, ac, cc⟩ := xc
  obtain ⟨hb, hbq⟩ := hb
  obtain ⟨hc, hcq⟩ := hc
  dsimp only at hb hbq hc hcq ⊢
  have hb := hb.ext (e4.trans ec)
  have E := e1.trans (e1_4.trans (e2.trans E4))
  clear hB1_4 hX2 hX3 hX4 e1 e1_4 e2 ea e3 eb e4 ec E4
  refine V.region (VL.op (R.ldA Try.isAgg32 Try.sizeOf32 rfl rfl ((show RowAt _ _ _ (encSet (setE ta oa aa ka)) from (hB.ext (Mod.refl _ _)).rowAt 0 7)) rfl) (VL.op (R.mvS rfl) (VL.buildSl Try.runUnderlying34 Try.sizeOf3 Try.zeroValue3 rfl rfl rfl fun b5 w5 hb5 e5 hX5 => VL.callX Try.call13 rfl (facts_ex ta oa aa ka x y z [0, 2, 2] (by decide) _ (ex_no ta oa aa ka x y z) ra (some ⟨b5, 0, none⟩) 3 3 _ (hS.ext e5) (hR.ext e5) (int3 (l := [0, 2, 2]) hX5 rfl (by decide))) fun xd wd hd ed => VL.op (R.mvT rfl) (VL.op (R.extr rfl rfl) (VL.op (R.extr rfl rfl) (VL.op (R.asS rfl) (VL.op (R.asI rfl) (VL.nil (V.seq (V.region (VL.op (R.ldA Try.isAgg32 Try.sizeOf32 rfl rfl ((show RowAt _ _ _ (encSet (setE ta oa aa ka)) from (hB.ext (e5.trans ed)).rowAt 0 7)) rfl) (VL.op (R.mvS rfl) (VL.callX Try.call11 rfl (base_ex0 ta oa aa ka x y z ra 3 _ (hS.ext (e5.trans ed)) (hR.ext (e5.trans ed))) fun xe we he ee => VL.op (R.mvT rfl) (VL.op (R.extr rfl rfl) (VL.op (R.extr rfl rfl) (VL.op (R.asS rfl) (VL.op (R.asI rfl) (VL.nil (V.seq (V.region (VL.buildSl Try.runUnderlying34 Try.sizeOf3 Try.zeroValue3 rfl rfl rfl fun b7 w7 hb7 e7 hX7 => VL.op (R.asS rfl) (VL.nil (V.seq (?_))))))))))))))))))))))))
  have E7 := e5.trans (ed.trans (ee.trans e7))
  have hA := int3 (l := [0, 1, 2]) hX7 rfl (by decide)
  have ha := ha.ext E7
  have hb := hb.ext E7
  have hc := hc.ext E7
  have E := E.trans E7
  clear hX5 hS hR hB e5 ed ee e7 E7
  refine V.region (VL.callP Try.call22 rfl (text_spec annB _) fun w8_0 e8_0 => VL.callP Try.call23 rfl (number_spec 8 _) fun w8_1 e8_1 => VL.buildSl Try.runUnderlying37 Try.sizeOf55 Try.zeroValue55 rfl rfl rfl fun b11 w11 hb11 e11 hX11 => VL.op (R.mvS rfl) (VL.op (R.build Try.zeroValue48 Try.runUnderlying48 pl48 rfl) (VL.callP Try.call22 rfl (text_spec annB _) fun w8_5 e8_5 => VL.callP Try.call23 rfl (number_spec 7 _) fun w8_6 e8_6 => VL.buildSl Try.runUnderlying37 Try.sizeOf55 Try.zeroValue55 rfl rfl rfl fun b12 w12 hb12 e12 hX12 => VL.op (R.mvS rfl) (VL.op (R.build Try.zeroValue48 Try.runUnderlying48 pl48 rfl) (VL.callP Try.call22 rfl (text_spec annB _) fun w8_10 e8_10 => VL.callP Try.call23 rfl (number_spec 7 _) fun w8_11 e8_11 => VL.buildSl Try.runUnderlying37 Try.sizeOf55 Try.zeroValue55 rfl rfl rfl fun b13 w13 hb13 e13 hX13 => VL.buildSl Try.runUnderlying34 Try.sizeOf3 Try.zeroValue3 rfl rfl rfl fun b14 w14 hb14 e14 hX14 => VL.op (R.build Try.zeroValue48 Try.runUnderlying48 pl48 rfl) (VL.callP Try.call22 rfl (text_spec annB _) fun w8_15 e8_15 => VL.callP Try.call23 rfl (number_spec 8 _) fun w8_16 e8_16 => VL.buildSl Try.runUnderlying37 Try.sizeOf55 Try.zeroValue55 rfl rfl rfl fun b15 w15 hb15 e15 hX15 => VL.buildSl Try.runUnderlying34 Try.sizeOf3 Try.zeroValue3 rfl rfl rfl fun b16 w16 hb16 e16 hX16 => VL.op (R.build Try.zeroValue48 Try.runUnderlying48 pl48 rfl) (VL.op (R.build Try.zeroValue55 Try.runUnderlying55 pl55 rfl) (VL.callP Try.call23 rfl (number_spec 8 _) fun w8_21 e8_21 => VL.buildSl Try.runUnderlying37 Try.sizeOf55 Try.zeroValue55 rfl rfl rfl fun b17 w17 hb17 e17 hX17 => VL.buildSl Try.runUnderlying34 Try.sizeOf3 Try.zeroValue3 rfl rfl rfl fun b18 w18 hb18 e18 hX18 => VL.op (R.build Try.zeroValue48 Try.runUnderlying48 pl48 rfl) (VL.buildSl Try.runUnderlying41 Try.sizeOf48 Try.zeroValue48 rfl rfl rfl fun b19 w19 hb19 e19 hX19 => VL.op (R.asS rfl) (VL.nil (V.seq (?_))))))))))))
  have x18 := e18.trans e19
  have x17 := e17.trans x18
  have x16 := e16.trans (e8_21.trans x17)
  have x15 := e15.trans x16
  have x14 := e14.trans (e8_15.trans (e8_16.trans x15))
  have x13 := e13.trans x14
  have x12 := e12.trans (e8_10.trans (e8_11.trans x13))
  have x11 := e11.trans (e8_5.trans (e8_6.trans x12))
  have x7 := e8_0.trans (e8_1.trans x11)
  have y17 := x18
  have y16 := e8_21.trans x17
  have y15 := x16
  have y14 := e8_15.trans (e8_16.trans x15)
  have y13 := x14
  have y12 := e8_10.trans (e8_11.trans x13)
  have y11 := e8_5.trans (e8_6.trans x12)
  obtain ⟨fE, hfE⟩ : ∃ fE : List Fct, fE = [⟨⟨0, 0, 0, [vA, v8], 0, [0, 1, 2]⟩, some ⟨b11, 0, none⟩, 2, some ⟨b7, 0, none⟩, 3⟩, ⟨⟨0, 0, 1, [vA, v7], 1, [0, 1, 2]⟩, some ⟨b12, 0, none⟩, 2, some ⟨b7, 0, none⟩, 3⟩, ⟨⟨0, 0, -1, [vA, v7], 2, [0]⟩, some ⟨b13, 0, none⟩, 2, some ⟨b14, 0, none⟩, 1⟩, ⟨⟨0, 0, -1, [vA, v8], 0, [1]⟩, some ⟨b15, 0, none⟩, 2, some ⟨b16, 0, none⟩, 1⟩, ⟨⟨0, 0, -1, [vN, v8], 0, [2]⟩, some ⟨b17, 0, none⟩, 2, some ⟨b18, 0, none⟩, 1⟩] := ⟨_, rfl⟩
  have hF : TSl encFct 6 w19 (some ⟨b19, 0, none⟩) fE := fcts5 hX19 (by rw [hfE]; rfl) (by rw [hfE]; simp [maxLen])
  have hW : ∀ f ∈ fE, FctW w19 f := by
    intro f hf
    rw [hfE] at hf
    simp only [List.mem_cons, List.not_mem_nil, or_false] at hf
    have h7 := hX7.ext x7
    rcases hf with rfl | rfl | rfl | rfl | rfl
    · exact fct_of ((val2 (l := [vA, v8]) hX11 rfl (by decide)).ext y11) (hA.ext x7) (hX11.ext y11) h7
    · exact fct_of ((val2 (l := [vA, v7]) hX12 rfl (by decide)).ext y12) (hA.ext x7) (hX12.ext y12) h7
    · exact fct_of ((val2 (l := [vA, v7]) hX13 rfl (by decide)).ext y13) ((int3 (l := [0]) hX14 rfl (by decide)).ext y14) (hX13.ext y13) (hX14.ext y14)
    · exact fct_of ((val2 (l := [vA, v8]) hX15 rfl (by decide)).ext y15) ((int3 (l := [1]) hX16 rfl (by decide)).ext y16) (hX15.ext y15) (hX16.ext y16)
    · exact fct_of ((val2 (l := [vN, v8]) hX17 rfl (by decide)).ext y17) ((int3 (l := [2]) hX18 rfl (by decide)).ext e19) (hX17.ext y17) (hX18.ext e19)
  have hV := (val2 (l := [vA, v8]) hX11 rfl (by decide)).ext y11
  have hl5 : fE.length = 5 := by rw [hfE]; rfl
  have hq : lb.map (·.f) = fE.map (·.f) := by rw [hbq, hfE]; rfl
  have hshort : ∀ l : List Fct, l.map (·.f) = wantE → ∀ f ∈ l, ShortF f.f := fun l h f hf => by
    have : f.f ∈ wantE := h ▸ List.mem_map_of_mem hf
    simp only [wantE, List.mem_cons, List.not_mem_nil, or_false] at this
    rcases this with e | e | e | e | e <;> rw [e] <;> exact ⟨by decide, by decide⟩
  have hLb : FctL w19 ab lb := ⟨(hb.ext x7).own.sl, (hb.ext x7).each, hshort _ hbq⟩
  have hLe : FctL w19 (some ⟨b19, 0, none⟩) fE := ⟨hF, hW, hshort _ (by rw [← hq]; exact hbq)⟩
  have hlb : lb.length = 5 := by have := congrArg List.length hbq; rw [List.length_map] at this; exact this
  have hlc : lc.length = 3 := by have := congrArg List.length hcq; rw [List.length_map] at this; exact this
  have hce : (lc.getD 2 default).f.ent = 2 := by
    have e1 : (lc.getD 2 default).f = (lc.map (·.f)).getD 2 default := by simp [List.getD, hlc]
    rw [e1, hcq]; rfl
  have he0 : (fE.getD 0 default) = ⟨⟨0, 0, 0, [vA, v8], 0, [0, 1, 2]⟩, some ⟨b11, 0, none⟩, 2, some ⟨b7, 0, none⟩, 3⟩ := by rw [hfE]; rfl
  have ha := ha.ext x7
  have hc := hc.ext x7
  have E := E.trans x7
  have hrow := hF.row (i := 0) (by omega)
  rw [he0] at hrow
  clear hX7 hX11 hX12 hX13 hX14 hX15 hX16 hX17 hX18 hX19 y11 y12 y13 y14 y15 y16 y17 x7 x11 x12 x13 x14 x15 x16 x17 x18 hfE hF hW hb hA
  have hse := fun w' e => same_ex ab (some ⟨b19, 0, none⟩) cb 5 lb fE w' (by omega) (by omega) (hLb.ext e) (hLe.ext e) hq
  rw [hl5] at hse
  refine V.region (VL.op (R.mvI rfl) (VL.op (R.eql rfl rfl) (VL.op (R.mvB rfl) (VL.andP rfl rfl (fun g9_2 => VL.op (R.mvS rfl) (VL.gT rfl rfl (VL.op (R.mvS rfl) (VL.gT rfl rfl (VL.op (R.ixS Try.runUnderlying41 Try.sizeOf48 rfl rfl (by omega) (by omega) (⟨b19, 0, rfl⟩)) (VL.gT rfl rfl (VL.op (R.fld' (o := 3) Try.runUnderlying48 rfl rfl Try.sizeOf37 rfl rfl) (VL.gT rfl rfl (VL.op (R.ld1 Try.isAgg37 rfl (((hrow.ext (Mod.refl _ _)).cell (i := 3) rfl))) (VL.gT rfl rfl (VL.callP Try.call15 rfl (rows_spec xa.1 (some ⟨b11, 0, none⟩) xa.2 2 [vA, v8] [vA, v8] _ (by decide) (by decide) (ha.sl.ext (Mod.refl _ _)) (hV.ext (Mod.refl _ _))) fun w9_8 e9_8 => VL.op (R.pickTB rfl rfl) (VL.op (R.mvB rfl) (VL.and rfl rfl (fun g9_10 => VL.op (R.mvI rfl) (VL.gT rfl rfl (VL.op (R.eql rfl rfl) (VL.op (R.pickTB rfl rfl) (VL.op (R.mvB rfl) (VL.andP rfl rfl (fun g9_14 => VL.op (R.mvS rfl) (VL.gT rfl rfl (VL.op (R.mvS rfl) (VL.gT rfl rfl (VL.callP Try.call16 rfl (hse _ e9_8) fun w9_17 e9_17 => VL.op (R.pickTB rfl rfl) (VL.op (R.mvB rfl) (VL.and rfl rfl (fun g9_19 => VL.op (R.mvI rfl) (VL.gT rfl rfl (VL.op (R.eql rfl rfl) (VL.op (R.pickTB rfl rfl) (VL.op (R.mvB rfl) (VL.andP rfl rfl (fun g9_23 => VL.op (R.mvS rfl) (VL.gT rfl rfl (VL.op (R.lenS Try.runUnderlying41 rfl) (VL.gT rfl rfl (VL.op (R.eql rfl rfl) (VL.op (R.pickTB rfl rfl) (VL.op (R.mvB rfl) (VL.andP rfl rfl (fun g9_28 => VL.op (R.mvS rfl) (VL.gT rfl rfl (VL.op (R.ixS Try.runUnderlying41 Try.sizeOf48 rfl rfl (by omega) (by omega) (hc.own.sl.some (i := 2) (by omega))) (VL.gT rfl rfl (VL.op (R.fld' (o := 1) Try.runUnderlying48 rfl rfl Try.sizeOf3 rfl rfl) (VL.gT rfl rfl (VL.op (R.ld1 Try.isAgg3 rfl ((((hc.own.sl.ext (e9_8.trans e9_17)).row (i := 2) (by omega)).cell (i := 1) rfl))) (VL.gT rfl rfl (VL.op (R.eql rfl rfl) (VL.op (R.pickTB rfl rfl) (VL.op (R.mvB rfl) (VL.andP rfl rfl (fun g9_35 => VL.op (R.mvI rfl) (VL.gT rfl rfl (VL.op (R.eql rfl rfl) (VL.op (R.pickTB rfl rfl) (VL.op (R.mvB rfl) (VL.andP rfl rfl (fun g9_39 => VL.op (R.mvI rfl) (VL.gT rfl rfl (VL.op (R.eql rfl rfl) (VL.op (R.pickTB rfl rfl) (VL.op (R.asB rfl) (VL.nil (V.ret (fret1 (v := .bool _) rfl rfl rfl (⟨?_, E.trans (e9_8.trans e9_17)⟩))))))))) (fun g9_39 => VL.gF rfl rfl (VL.op (R.pickFB rfl rfl) (VL.op (R.asB rfl) (VL.nil (V.ret (fret1 (v := .bool _) rfl rfl rfl (⟨?_, E.trans (e9_8.trans e9_17)⟩))))))))))))) (fun g9_35 => VL.gF rfl rfl (VL.op (R.pickFB rfl rfl) (VL.op (R.mvB rfl) (VL.gF rfl rfl (VL.gF rfl rfl (VL.op (R.pickFB rfl rfl) (VL.op (R.asB rfl) (VL.nil (V.ret (fret1 (v := .bool _) rfl rfl rfl (⟨?_, E.trans (e9_8.trans e9_17)⟩))))))))))))))))))))))) (fun g9_28 => VL.gF rfl rfl (VL.gF rfl rfl (VL.gF rfl rfl (VL.gF rfl rfl (VL.op (R.pickFB rfl rfl) (VL.op (R.mvB rfl) (VL.gF rfl rfl (VL.gF rfl rfl (VL.op (R.pickFB rfl rfl) (VL.op (R.mvB rfl) (VL.gF rfl rfl (VL.gF rfl rfl (VL.op (R.pickFB rfl rfl) (VL.op (R.asB rfl) (VL.nil (V.ret (fret1 (v := .bool _) rfl rfl rfl (⟨?_, E.trans (e9_8.trans e9_17)⟩)))))))))))))))))))))))))) (fun g9_23 => VL.gF rfl rfl (VL.gF rfl rfl (VL.op (R.pickFB rfl rfl) (VL.op (R.mvB rfl) (VL.gF rfl rfl (VL.gF rfl rfl (VL.gF rfl rfl (VL.gF rfl rfl (VL.gF rfl rfl (VL.op (R.pickFB rfl rfl) (VL.op (R.mvB rfl) (VL.gF rfl rfl (VL.gF rfl rfl (VL.op (R.pickFB rfl rfl) (VL.op (R.mvB rfl) (VL.gF rfl rfl (VL.gF rfl rfl (VL.op (R.pickFB rfl rfl) (VL.op (R.asB rfl) (VL.nil (V.ret (fret1 (v := .bool _) rfl rfl rfl (⟨?_, E.trans (e9_8.trans e9_17)⟩))))))))))))))))))))))))))))) (fun g9_19 => VL.gF rfl rfl (VL.op (R.pickFB rfl rfl) (VL.op (R.mvB rfl) (VL.gF rfl rfl (VL.gF rfl rfl (VL.gF rfl rfl (VL.op (R.pickFB rfl rfl) (VL.op (R.mvB rfl) (VL.gF rfl rfl (VL.gF rfl rfl (VL.gF rfl rfl (VL.gF rfl rfl (VL.gF rfl rfl (VL.op (R.pickFB rfl rfl) (VL.op (R.mvB rfl) (VL.gF rfl rfl (VL.gF rfl rfl (VL.op (R.pickFB rfl rfl) (VL.op (R.mvB rfl) (VL.gF rfl rfl (VL.gF rfl rfl (VL.op (R.pickFB rfl rfl) (VL.op (R.asB rfl) (VL.nil (V.ret (fret1 (v := .bool _) rfl rfl rfl (⟨?_, E.trans (e9_8.trans e9_17)⟩)))))))))))))))))))))))))))))))))) (fun g9_14 => VL.gF rfl rfl (VL.gF rfl rfl (VL.op (R.pickFB rfl rfl) (VL.op (R.mvB rfl) (VL.gF rfl rfl (VL.gF rfl rfl (VL.op (R.pickFB rfl rfl) (VL.op (R.mvB rfl) (VL.gF rfl rfl (VL.gF rfl rfl (VL.gF rfl rfl (VL.op (R.pickFB rfl rfl) (VL.op (R.mvB rfl) (VL.gF rfl rfl (VL.gF rfl rfl (VL.gF rfl rfl (VL.gF rfl rfl (VL.gF rfl rfl (VL.op (R.pickFB rfl rfl) (VL.op (R.mvB rfl) (VL.gF rfl rfl (VL.gF rfl rfl (VL.op (R.pickFB rfl rfl) (VL.op (R.mvB rfl) (VL.gF rfl rfl (VL.gF rfl rfl (VL.op (R.pickFB rfl rfl) (VL.op (R.asB rfl) (VL.nil (V.ret (fret1 (v := .bool _) rfl rfl rfl (⟨?_, E.trans e9_8⟩)))))))))))))))))))))))))))))))))))))) (fun g9_10 => VL.gF rfl rfl (VL.op (R.pickFB rfl rfl) (VL.op (R.mvB rfl) (VL.gF rfl rfl (VL.gF rfl rfl (VL.gF rfl rfl (VL.op (R.pickFB rfl rfl) (VL.op (R.mvB rfl) (VL.gF rfl rfl (VL.gF rfl rfl (VL.op (R.pickFB rfl rfl) (VL.op (R.mvB rfl) (VL.gF rfl rfl (VL.gF rfl rfl (VL.gF rfl rfl (VL.op (R.pickFB rfl rfl) (VL.op (R.mvB rfl) (VL.gF rfl rfl (VL.gF rfl rfl (VL.gF rfl rfl (VL.gF rfl rfl (VL.gF rfl rfl (VL.op (R.pickFB rfl rfl) (VL.op (R.mvB rfl) (VL.gF rfl rfl (VL.gF rfl rfl (VL.op (R.pickFB rfl rfl) (VL.op (R.mvB rfl) (VL.gF rfl rfl (VL.gF rfl rfl (VL.op (R.pickFB rfl rfl) (VL.op (R.asB rfl) (VL.nil (V.ret (fret1 (v := .bool _) rfl rfl rfl (⟨?_, E.trans e9_8⟩))))))))))))))))))))))))))))))))))))))))))))))))) (fun g9_2 => VL.gF rfl rfl (VL.gF rfl rfl (VL.gF rfl rfl (VL.gF rfl rfl (VL.gF rfl rfl (VL.op (R.pickFB rfl rfl) (VL.op (R.mvB rfl) (VL.gF rfl rfl (VL.gF rfl rfl (VL.op (R.pickFB rfl rfl) (VL.op (R.mvB rfl) (VL.gF rfl rfl (VL.gF rfl rfl (VL.gF rfl rfl (VL.op (R.pickFB rfl rfl) (VL.op (R.mvB rfl) (VL.gF rfl rfl (VL.gF rfl rfl (VL.op (R.pickFB rfl rfl) (VL.op (R.mvB rfl) (VL.gF rfl rfl (VL.gF rfl rfl (VL.gF rfl rfl (VL.op (R.pickFB rfl rfl) (VL.op (R.mvB rfl) (VL.gF rfl rfl (VL.gF rfl rfl (VL.gF rfl rfl (VL.gF rfl rfl (VL.gF rfl rfl (VL.op (R.pickFB rfl rfl) (VL.op (R.mvB rfl) (VL.gF rfl rfl (VL.gF rfl rfl (VL.op (R.pickFB rfl rfl) (VL.op (R.mvB rfl) (VL.gF rfl rfl (VL.gF rfl rfl (VL.op (R.pickFB rfl rfl) (VL.op (R.asB rfl) (VL.nil (V.ret (fret1 (v := .bool _) rfl rfl rfl (⟨?_, E.trans (Mod.refl _ _)⟩))))))))))))))))))))))))))))))))))))))))))))))))
  · rfl
  · exact absurd rfl g9_39
  · exact absurd hce g9_35
  · exfalso; omega
  · exact absurd rfl g9_23
  · cases g9_19
  · exact absurd rfl g9_14
  · exact absurd rfl (of_decide_eq_false g9_10)
  · exact absurd rfl g9_2
end Go.Proofs.Ytckihgamnmmbnaa
