/- Golden: facts. -/
import Derived.Test.YtckihgamnmmbnaaG9
import Derived.Test.YtckihgamnmmbnaaVcTurn
import Derived.Test.YtckihgamnmmbnaaZiT3
namespace Go.Proofs.Ytckihgamnmmbnaa
open Go.Vc Go.Sort

/-- A fact, without its places. -/
structure Fac where
  table : Int
  ent : Int
  variant : Int
  row : List Val
  cost : Int
  frm : List Int
  deriving DecidableEq
instance : Inhabited Fac := ⟨⟨0, 0, 0, [], 0, []⟩⟩
structure Fct where
  f : Fac
  ra : Option Addr
  rc : Nat
  fa : Option Addr
  fc : Nat
instance : Inhabited Fct := ⟨⟨default, none, 0, none, 0⟩⟩
def encFct (x : Fct) : List Value := [.int .i64 x.f.table, .int .i64 x.f.ent, .int .i64 x.f.variant, .slice x.ra x.f.row.length x.rc, .int .i64 x.f.cost, .slice x.fa x.f.frm.length x.fc]
theorem eltF : Elt encFct 6 := ⟨fun _ => rfl, fun _ => rfl, by decide⟩
structure FctW (w : World) (x : Fct) : Prop where
  row : ValSl w x.ra x.f.row
  frm : IntSl w x.fa x.f.frm
  rlt : ∀ k, aBlk x.ra k → k < w.heap.size
  flt : ∀ k, aBlk x.fa k → k < w.heap.size
theorem FctW.mod {w w' : World} {x : Fct} {S : Nat → Prop} (h : FctW w x) (m : Vc.Mod S w w') (h1 : ∀ k, aBlk x.ra k → ¬ S k) (h2 : ∀ k, aBlk x.fa k → ¬ S k) : FctW w' x :=
  ⟨h.row.mod m fun ad had => h1 _ ⟨ad, had, rfl⟩, h.frm.mod m fun ad had => h2 _ ⟨ad, had, rfl⟩, fun k hk => Nat.lt_of_lt_of_le (h.rlt k hk) m.size, fun k hk => Nat.lt_of_lt_of_le (h.flt k hk) m.size⟩
theorem FctW.ext {w w' : World} {x : Fct} (h : FctW w x) (e : Ext w w') : FctW w' x := h.mod e (fun _ _ h => h) fun _ _ h => h
structure FctsW (w : World) (B : Nat) (a : Option Addr) (cap : Nat) (l : List Fct) : Prop where
  own : OwnT encFct 6 48 B w a cap l
  each : ∀ x ∈ l, FctW w x
  sep : ∀ x ∈ l, Sep a x.ra ∧ Sep a x.fa
  lo : ∀ x ∈ l, (∀ k, aBlk x.ra k → B ≤ k) ∧ (∀ k, aBlk x.fa k → B ≤ k)
theorem FctsW.nil (w : World) (B : Nat) : FctsW w B none 0 [] := ⟨OwnT.nil encFct 6 48 _ _, (fun x hx => by cases hx), (fun x hx => by cases hx), (fun x hx => by cases hx)⟩
theorem FctsW.ext {w w' : World} {B : Nat} {a : Option Addr} {cap : Nat} {l : List Fct} (h : FctsW w B a cap l) (e : Ext w w') : FctsW w' B a cap l := ⟨h.own.ext e, fun x hx => (h.each x hx).ext e, h.sep, h.lo⟩
theorem FctsW.weaken {w : World} {B B' : Nat} {a : Option Addr} {cap : Nat} {l : List Fct} (h : FctsW w B a cap l) (hB : B' ≤ B) : FctsW w B' a cap l := ⟨h.own.weaken hB, h.each, h.sep, fun x hx => ⟨fun k hk => Nat.le_trans hB ((h.lo x hx).1 k hk), fun k hk => Nat.le_trans hB ((h.lo x hx).2 k hk)⟩⟩
/-- More facts. -/
theorem FctsW.app {w w' : World} {B : Nat} {a a' : Option Addr} {cap cap' : Nat} {l l2 : List Fct} (h : FctsW w B a cap l) (hx : ∀ x ∈ l2, FctW w x) (hs : ∀ x ∈ l2, Sep a x.ra ∧ Sep a x.fa) (hl : ∀ x ∈ l2, (∀ k, aBlk x.ra k → B ≤ k) ∧ (∀ k, aBlk x.fa k → B ≤ k)) (ho : OwnT encFct 6 48 B w' a' cap' (l ++ l2)) (m : Vc.Mod (aBlk a) w w') (hf : ∀ k, aBlk a' k → aBlk a k ∨ w.heap.size ≤ k) : FctsW w' B a' cap' (l ++ l2) := by
  have key : ∀ y : Fct, FctW w y → (Sep a y.ra ∧ Sep a y.fa) → FctW w' y ∧ Sep a' y.ra ∧ Sep a' y.fa := fun y hy hs =>
    ⟨hy.mod m (fun k h1 h2 => hs.1 k h2 h1) (fun k h1 h2 => hs.2 k h2 h1), hs.1.grown hf hy.rlt, hs.2.grown hf hy.flt⟩
  refine ⟨ho, fun y hy => ?_, fun y hy => ?_, fun y hy => ?_⟩
  · rcases List.mem_append.1 hy with hy | hy
    · exact (key y (h.each y hy) (h.sep y hy)).1
    · exact (key y (hx y hy) (hs y hy)).1
  · rcases List.mem_append.1 hy with hy | hy
    · exact (key y (h.each y hy) (h.sep y hy)).2
    · exact (key y (hx y hy) (hs y hy)).2
  · rcases List.mem_append.1 hy with hy | hy
    · exact h.lo y hy
    · exact hl y hy
/-- One more fact. -/
theorem FctsW.snoc {w w' : World} {B : Nat} {a a' : Option Addr} {cap cap' : Nat} {l : List Fct} {x : Fct} (h : FctsW w B a cap l) (hx : FctW w x) (hs : Sep a x.ra ∧ Sep a x.fa) (hl : (∀ k, aBlk x.ra k → B ≤ k) ∧ (∀ k, aBlk x.fa k → B ≤ k)) (ho : OwnT encFct 6 48 B w' a' cap' (l ++ [x])) (m : Vc.Mod (aBlk a) w w') (hf : ∀ k, aBlk a' k → aBlk a k ∨ w.heap.size ≤ k) : FctsW w' B a' cap' (l ++ [x]) :=
  h.app (fun y hy => by rw [List.mem_singleton] at hy; subst hy; exact hx) (fun y hy => by rw [List.mem_singleton] at hy; subst hy; exact hs) (fun y hy => by rw [List.mem_singleton] at hy; subst hy; exact hl) ho m hf
def mkF (e : Ent) (variant cost : Int) (row : List Val) (ra : Option Addr) (rc : Nat) (frm : List Int) (x : Option Addr × Nat) : Fct := ⟨⟨e.table, e.mem.getD 0 default, variant, row, cost, frm⟩, ra, rc, x.1, x.2⟩
set_option maxRecDepth 100000 in
set_option maxHeartbeats 4000000 in
theorem fact_spec (e : Ent) (variant cost : Int) (row : List Val) (ra : Option Addr) (rc : Nat) (frm : List Int) (fa : Option Addr) (fc : Nat) (w : World) (hm : 0 < e.mem.length) (hf : frm.length ≤ 1000000) (hax : fa = none → fc = 0) (hE : EntW w e) (hF : IntSl w fa frm) :
    RetsX Try.prog 47 #[.agg (encEnt e).toArray, .int .i64 variant, .int .i64 cost, .slice ra row.length rc, .slice fa frm.length fc] w (fun x : Option Addr × Nat => .agg (encFct (mkF e variant cost row ra rc frm x)).toArray) (fun x w' => OwnT encI 1 3 w.heap.size w' x.1 x.2 frm) := by
  refine enter (args := [_, _, _, _, _]) Try.func47 rfl Try.ntmps47 (by kernel_rfl) rfl ?_
  refine V.seq (V.region (VL.box (v := .agg _) rfl fun b1 w1 hb1 e1 hX1 => VL.alloc Try.zeroValue48 fun b2 w2 hb2 e2 hX2 => VL.nil (V.seq (V.regionS mixed 11 (by kernel_rfl) rfl (fun us => VS.op (fun wq eq => R.fld' (o := 7) Try.runUnderlying72 rfl rfl Try.sizeOf3 rfl rfl) (VS.op (fun wq eq => R.ld1 Try.isAgg3 rfl ((((hX1.ext (e2.trans eq))).cell 7))) (VS.op (fun wq eq => R.fld' (o := 9) Try.runUnderlying72 rfl rfl Try.sizeOf34 rfl rfl) (VS.op (fun wq eq => R.ld1 Try.isAgg34 rfl (((hX1.ext (e2.trans eq)).cell 9))) (VS.op (fun wq eq => R.ixS Try.runUnderlying34 Try.sizeOf3 rfl rfl (by omega) (by omega) (hE.mem.some (i := 0) (by omega))) (VS.op (fun wq eq => R.ld1 Try.isAgg3 rfl ((((hE.mem.ext ((e1.trans e2).trans eq)).row (i := 0) (by omega)).cell (i := 0) rfl))) (VS.op (fun wq eq => R.mvI rfl) (VS.op (fun wq eq => R.mvS rfl) (VS.op (fun wq eq => R.mvI rfl) (VS.op (fun wq eq => R.mvS rfl) (VS.callX (fun u w' => ∃ x : Option Addr × Nat, u = .slice x.1 frm.length x.2 ∧ OwnT encI 1 3 w2.heap.size w' x.1 x.2 frm) (fun u a b _ ⟨x, hx, hO⟩ eb => ⟨x, hx, hO.ext eb⟩) Try.call60 rfl (fun wq eq hq => Rets.mono (cloneI_spec fa fc frm wq hf hax (hF.ext ((e1.trans e2).trans eq))) fun u w' ⟨x, hu, hO, he⟩ => ⟨⟨x, hu, hO.weaken eq.size⟩, he⟩) (VS.nil (fun w3 e3 h3 => ?_))))))))))))) rfl))))
  obtain ⟨x, hx, hO⟩ := h3 10
  rw [hx]
  have hX3 := hX2.ext e3
  refine VL.op (R.build Try.zeroValue48 Try.runUnderlying48 pl48 rfl) (VL.store (v := .agg _) Try.sizeOf48 rfl rfl rfl rfl hX3 rfl rfl fun w4 m4 hs4 hB4 => VL.nil (V.ret (fretC rfl rfl rfl Try.isAgg48 Try.sizeOf48 rfl (show RowAt _ _ _ (encFct (mkF e variant cost row ra rc frm x)) from hB4.rowAt 0 6) rfl (?_))))
  have hlt := hX2.lt
  have s1 := e1.size
  have s2 := e2.size
  refine ⟨x, rfl, (hO.mod m4 fun k hk h => ?_).weaken (by omega), Mod.own ((e1.trans e2).trans e3) m4 (by rw [hb2]; exact s1)⟩
  have h : k = b2 := h
  have := hO.ge k hk
  omega
end Go.Proofs.Ytckihgamnmmbnaa

/- Golden: all facts of an entity. -/
namespace Go.Proofs.Ytckihgamnmmbnaa
open Go.Vc Go.Sort

def othG (s : Set_) (recs : List Rec) (mem : List Int) (t c : Int) : List Int := othersF (ruleG s t c) (colL recs mem c) (colT s recs mem)
theorem othG_mem {s : Set_} {recs : List Rec} {mem : List Int} {t c x : Int} (h : x ∈ othG s recs mem t c) : 0 ≤ x ∧ x < mem.length := by
  have := othersF_mem h
  rw [colL_len] at this
  exact ⟨this.1, this.2.1⟩
theorem othG_len (s : Set_) (recs : List Rec) (mem : List Int) (t c : Int) : (othG s recs mem t c).length ≤ mem.length := by
  have h1 := othK_len (colL recs mem c) (rankF (ruleG s t c) (colL recs mem c) (colT s recs mem)) (rankF (ruleG s t c) (colL recs mem c) (colT s recs mem)).length
  have h2 := rankL_len (ruleG s t c) (colL recs mem c) (colT s recs mem)
  rw [colL_len] at h2
  unfold othG othersF
  exact Nat.le_trans h1 h2
def varF (recs : List Rec) (mem : List Int) (t : Int) (base : List Val) (c : Nat) (i : Int) (n : Nat) : Fac := ⟨t, mem.getD 0 default, n, base.set c ((colL recs mem (c : Nat)).getD i.toNat default).val, 1, mem⟩
def vIn (recs : List Rec) (mem : List Int) (t : Int) (base : List Val) (c : Nat) (oth : List Int) : Nat → List Fac → List Fac
  | 0, o => o
  | j + 1, o => if (vIn recs mem t base c oth j o).length < 5 then vIn recs mem t base c oth j o ++ [varF recs mem t base c (oth.getD j default) (vIn recs mem t base c oth j o).length] else vIn recs mem t base c oth j o
def vOut (s : Set_) (recs : List Rec) (mem : List Int) (t : Int) : Nat → List Fac
  | 0 => [⟨t, mem.getD 0 default, 0, baseG s recs mem t, 0, mem⟩]
  | c + 1 => vIn recs mem t (baseG s recs mem t) c (othG s recs mem t (c : Nat)) (othG s recs mem t (c : Nat)).length (vOut s recs mem t c)
def spF (recs : List Rec) (mem : List Int) (t : Int) (k : Nat) : Fac := ⟨t, mem.getD 0 default, -1, rowG (recs.getD (mem.getD k default).toNat default), if k = 0 then 2 else 0, [mem.getD k default]⟩
def factsG (s : Set_) (recs : List Rec) (mem : List Int) (t : Int) : List Fac := vOut s recs mem t (ncol s t) ++ (if mem.length = 1 then [] else (List.range mem.length).map (spF recs mem t))
theorem vIn_len (recs : List Rec) (mem : List Int) (t : Int) (base : List Val) (c : Nat) (oth : List Int) (j : Nat) (o : List Fac) (h : o.length ≤ 5) : (vIn recs mem t base c oth j o).length ≤ 5 := by
  induction j with
  | zero => exact h
  | succ j ih =>
    rw [vIn]
    split
    · rw [List.length_append, List.length_singleton]; omega
    · exact ih
theorem vOut_len (s : Set_) (recs : List Rec) (mem : List Int) (t : Int) (c : Nat) : (vOut s recs mem t c).length ≤ 5 := by
  induction c with
  | zero => simp [vOut]
  | succ c ih => rw [vOut]; exact vIn_len _ _ _ _ _ _ _ _ ih
theorem intSl_nil {w : World} {a : Option Addr} {cap : Nat} {l : List Int} (h : IntSl w a l) (hp : 0 < l.length) (ha : a = none) : cap = 0 := by
  obtain ⟨b, o, hh⟩ := TSl.some (i := 0) h hp
  rw [ha] at hh; cases hh
theorem intSl_lt {w : World} {a : Option Addr} {l : List Int} (h : IntSl w a l) (hp : 0 < l.length) : ∀ k, aBlk a k → k < w.heap.size := by
  rintro k ⟨ad, rfl, rfl⟩
  exact TSl.lt h hp
/-- The facts while they are made. -/
structure FJ (e : Ent) (xb : Option Addr × Nat) (w1 : World) (F : List Fac) (l : List Fct) (a : Option Addr) (cap : Nat) (w : World) : Prop where
  ex : Ext w1 w
  fs : FctsW w w1.heap.size a cap l
  eq : l.map (·.f) = F
  base : OwnT encVal 3 55 w1.heap.size w xb.1 xb.2 (baseG e.s e.recs e.mem e.table)
  sep : Sep a xb.1
theorem FJ.len {e : Ent} {xb : Option Addr × Nat} {w1 : World} {F : List Fac} {l : List Fct} {a : Option Addr} {cap : Nat} {w : World} (h : FJ e xb w1 F l a cap w) : l.length = F.length := by rw [← h.eq, List.length_map]
set_option maxRecDepth 100000 in
set_option maxHeartbeats 8000000 in
theorem facts_spec (e : Ent) (w : World) (hs : Small e.s e.recs e.mem) (hE : EntW w e) (hok : EntOk e.s e.recs e.mem e.table) :
    RetsX Try.prog 34 #[.agg (encEnt e).toArray] w (fun x : List Fct × Option Addr × Nat => .slice x.2.1 x.1.length x.2.2) (fun x w' => FctsW w' w.heap.size x.2.1 x.2.2 x.1 ∧ x.1.map (·.f) = factsG e.s e.recs e.mem e.table) := by
  have hpos := hok.pos
  have hms := hs.nm
  have hnc := hok.ncol_le hs
  have hbl := baseG_len e.s e.recs e.mem e.table
  refine enter (args := [_]) Try.func34 rfl Try.ntmps34 (by kernel_rfl) rfl ?_
  refine V.seq (V.region (VL.box (v := .agg _) rfl fun b1 w1 hb1 e1 hX1 => VL.op (R.asS rfl) (VL.nil (V.seq (V.region (VL.op (R.ldA Try.isAgg72 Try.sizeOf72 rfl rfl ((show RowAt _ _ _ (encEnt e) from (hX1.ext (Mod.refl _ _)).rowAt 0 10)) rfl) (VL.callX Try.call26 rfl (base_spec e _ hs (hE.ext e1) hok) fun xb w2 hxb e2 => VL.op (R.asS rfl) (VL.nil (V.seq (?_))))))))))
  have hE2 := hE.ext (e1.trans e2)
  have hX2 := hX1.ext e2
  have hax : ∀ {w' : World}, EntW w' e → e.ma = none → e.mc = 0 := fun h => intSl_nil h.mem hpos
  refine V.region (VL.op (R.ldA Try.isAgg72 Try.sizeOf72 rfl rfl ((show RowAt _ _ _ (encEnt e) from (hX2.ext (Mod.refl _ _)).rowAt 0 10)) rfl) (VL.op (R.mvS rfl) (VL.op (R.fld' (o := 9) Try.runUnderlying72 rfl rfl Try.sizeOf34 rfl rfl) (VL.op (R.ld1 Try.isAgg34 rfl (((hX2.ext (Mod.refl _ _)).cell 9))) (VL.callX Try.call47 rfl (fact_spec e 0 0 (baseG e.s e.recs e.mem e.table) xb.1 xb.2 e.mem e.ma e.mc _ hpos hms (hax hE2) hE2 hE2.mem) fun x3 w3 hx3 e3 => VL.buildSl Try.runUnderlying41 Try.sizeOf48 Try.zeroValue48 rfl rfl rfl fun b4 w4 hb4 e4 hX4 => VL.op (R.asS rfl) (VL.nil (V.seq (V.seq (?_)))))))))
  have s1 := e1.size
  have s2 := e2.size
  have s3 := e3.size
  have s4 := e4.size
  have hO4 : OwnT encFct 6 48 w1.heap.size w4 (some ⟨b4, 0, none⟩) 1 [mkF e 0 0 (baseG e.s e.recs e.mem e.table) xb.1 xb.2 e.mem x3] := OwnT.of1 encFct 6 _ hX4 (by omega) rfl rfl
  have hxb4 : OwnT encVal 3 55 w1.heap.size w4 xb.1 xb.2 (baseG e.s e.recs e.mem e.table) := hxb.ext (e3.trans e4)
  have hx34 := hx3.ext e4
  have hJ0 : FJ e xb w1 (vOut e.s e.recs e.mem e.table 0) [mkF e 0 0 (baseG e.s e.recs e.mem e.table) xb.1 xb.2 e.mem x3] (some ⟨b4, 0, none⟩) 1 w4 := by
    refine ⟨e2.trans (e3.trans e4), ⟨hO4, fun x hx => ?_, fun x hx => ?_, fun x hx => ?_⟩, rfl, hxb4, fun k h1 h2 => ?_⟩
    · rw [List.mem_singleton] at hx; subst hx
      exact ⟨hxb4.sl, hx34.sl, fun k hk => hxb4.lt k hk, fun k hk => hx34.lt k hk⟩
    · rw [List.mem_singleton] at hx; subst hx
      exact ⟨fun k h1 h2 => by have := aBlk_some h1; have := hxb.lt k h2; omega, fun k h1 h2 => by have := aBlk_some h1; have := hx3.lt k h2; omega⟩
    · rw [List.mem_singleton] at hx; subst hx
      exact ⟨fun k hk => hxb4.ge k hk, fun k hk => by have := hx34.ge k hk; omega⟩
    · have := aBlk_some h1; have := hxb.lt k h2; omega
  clear hO4 hxb4 hx34 hx3 hxb
  have hE3 := hE.ext e1
  obtain ⟨n, hn⟩ : ∃ n, n = ncol e.s e.table := ⟨_, rfl⟩
  rw [← hn] at hbl
  refine V.region (VL.op (R.mvS rfl) (VL.op (R.lenS Try.runUnderlying37 rfl) (VL.op (R.mvI rfl) (VL.nil (V.block (?_))))))
  refine V.loop [1, 3, 4, 23, 24] (fun x : Nat × List Fct × Option Addr × Nat => [.pointer (some ⟨b1, 0, none⟩), .slice xb.1 n xb.2, .slice x.2.2.1 x.2.1.length x.2.2.2, .int .i64 (n : Nat), .int .i64 (x.1 : Nat)])
    (fun x w' => x.1 ≤ n ∧ FJ e xb w1 (vOut e.s e.recs e.mem e.table x.1) x.2.1 x.2.2.1 x.2.2.2 w') (fun x => n - x.1) (0, _, some ⟨b4, 0, none⟩, 1) (by rw [← hbl]; rfl) ⟨Nat.zero_le _, hJ0⟩ ?_
  rintro ρ ⟨c, l, a, cap⟩ w5 ⟨hc, hJ⟩
  dsimp only at hc hJ ⊢
  have hX5 := hX1.ext hJ.ex
  have hE5 := hE3.ext hJ.ex
  refine V.seq (V.region (VL.op (R.lss rfl rfl) (VL.nil (V.seq (V.condP rfl (fun c25 => V.skip (V.seq (V.block (V.seq (?_))))) (fun c25 => V.exit (V.seq (V.seq (?_)))))))))
  · have hcn : c < n := by omega
    refine V.region (VL.op (R.mvI rfl) (VL.op (R.asI rfl) (VL.nil (V.seq (V.region (VL.op (R.ldA Try.isAgg72 Try.sizeOf72 rfl rfl ((show RowAt _ _ _ (encEnt e) from (hX5.ext (Mod.refl _ _)).rowAt 0 10)) rfl) (VL.op (R.mvI rfl) (VL.callX Try.call48 rfl (columns_spec e (c : Nat) _ (by omega) hs.nm hs.nr hs.nk hs.no hs.nc hE5 (hok.col (by omega))) fun x6 w6 ⟨hx61, hx62⟩ e6 => VL.op (R.mvT rfl) (VL.op (R.extr rfl rfl) (VL.op (R.extr rfl rfl) (VL.op (R.asS rfl) (VL.op (R.asS rfl) (VL.nil (V.seq (?_)))))))))))))))
    have hcl := colL_len e.recs e.mem (c : Nat)
    obtain ⟨oth, hoth⟩ : ∃ oth, oth = othG e.s e.recs e.mem e.table (c : Nat) := ⟨_, rfl⟩
    have hol : oth.length ≤ e.mem.length := by rw [hoth]; exact othG_len _ _ _ _ _
    have hom : ∀ i ∈ oth, 0 ≤ i ∧ i < e.mem.length := fun i hi => othG_mem (hoth ▸ hi)
    have hx62 : OwnT encI 1 3 w5.heap.size w6 x6.2.1 x6.2.2 oth := by rw [hoth]; exact hx62
    have hvl := vOut_len e.s e.recs e.mem e.table c
    rw [show (othersF (ruleG e.s e.table (c : Nat)) (colL e.recs e.mem (c : Nat)) (colT e.s e.recs e.mem)).length = oth.length by rw [hoth]; rfl]
    refine V.region (VL.op (R.mvS rfl) (VL.op (R.lenS Try.runUnderlying34 rfl) (VL.op (R.mvI rfl) (VL.nil (V.block (?_))))))
    refine V.loop [1, 3, 4, 5, 6, 23, 24, 33, 34, 35] (fun x : Nat × List Fct × Option Addr × Nat => [.pointer (some ⟨b1, 0, none⟩), .slice xb.1 n xb.2, .slice x.2.2.1 x.2.1.length x.2.2.2, .int .i64 (c : Nat), .slice x6.1.1 e.mem.length x6.1.2, .int .i64 (n : Nat), .int .i64 (c : Nat), .slice x6.2.1 oth.length x6.2.2, .int .i64 (oth.length : Nat), .int .i64 (x.1 : Nat)])
      (fun x w' => x.1 ≤ oth.length ∧ FJ e xb w1 (vIn e.recs e.mem e.table (baseG e.s e.recs e.mem e.table) c oth x.1 (vOut e.s e.recs e.mem e.table c)) x.2.1 x.2.2.1 x.2.2.2 w' ∧ OwnT encCell 5 57 w5.heap.size w' x6.1.1 x6.1.2 (colL e.recs e.mem (c : Nat)) ∧ OwnT encI 1 3 w5.heap.size w' x6.2.1 x6.2.2 oth ∧ Sep x.2.2.1 x6.1.1 ∧ Sep x.2.2.1 x6.2.1)
      (fun x => oth.length - x.1) (0, l, a, cap) rfl ⟨Nat.zero_le _, ⟨hJ.ex.trans e6, hJ.fs.ext e6, hJ.eq, hJ.base.ext e6, hJ.sep⟩, hx61, hx62, (Sep.fresh hx61.ge fun k hk => hJ.fs.own.lt k hk).symm, (Sep.fresh hx62.ge fun k hk => hJ.fs.own.lt k hk).symm⟩ ?_
    rintro ρ ⟨j, l2, a2, cap2⟩ w7 ⟨hj, hJ2, h61, h62, sp1, sp2⟩
    dsimp only at hj hJ2 h61 h62 sp1 sp2 ⊢
    have hX7 := hX1.ext hJ2.ex
    have hE7 := hE3.ext hJ2.ex
    have hll := hJ2.len
    have hvi := vIn_len e.recs e.mem e.table (baseG e.s e.recs e.mem e.table) c oth j _ hvl
    refine V.seq (V.region (VL.op (R.lss rfl rfl) (VL.nil (V.seq (V.condP rfl (fun c36 => V.skip (V.seq (V.block (V.seq (?_))))) (fun c36 => V.exit (V.region (VL.op (R.add rfl rfl (by omega) (by omega)) (VL.op (R.mvI rfl) (VL.nil (?_)))))))))))
    · have hjl : j < oth.length := by omega
      have him := hom _ (gmem hjl)
      refine V.region (VL.op (R.ixS Try.runUnderlying34 Try.sizeOf3 rfl rfl (by omega) (by omega) ((h62.sl).some (i := j) (by omega))) (VL.op (R.ld1 Try.isAgg3 rfl (((((h62.sl).ext (Mod.refl _ _)).row (i := j) (by omega)).cell (i := 0) rfl))) (VL.op (R.asI rfl) (VL.nil (V.seq (V.region (VL.op (R.mvS rfl) (VL.op (R.lenS Try.runUnderlying41 rfl) (VL.op (R.lss rfl rfl) (VL.nil (V.condP rfl (fun c41 => V.seq (?_)) (fun c41 => V.skip (V.region (VL.op (R.add rfl rfl (by omega) (by omega)) (VL.op (R.mvI rfl) (VL.nil (?_)))))))))))))))))
      · have hbs := hJ2.base
        obtain ⟨base, hbase⟩ : ∃ base, base = baseG e.s e.recs e.mem e.table := ⟨_, rfl⟩
        rw [← hbase] at hbs hbl hll hvi
        have hlen : (vIn e.recs e.mem e.table base c oth j (vOut e.s e.recs e.mem e.table c)).length < 5 := by omega
        have hc11 := cloneV_spec xb.1 xb.2 base w7 (by omega) hbs.hax hbs.sl
        rw [hbl] at hc11
        refine V.region (VL.op (R.mvS rfl) (VL.callX Try.call50 rfl (hc11) fun x8 w8 h8 e8 => VL.op (R.asS rfl) (VL.nil (V.seq (?_)))))
        have h61_lt : ∀ k, aBlk x6.1.1 k → k < w7.heap.size := h61.lt
        have h62_lt : ∀ k, aBlk x6.2.1 k → k < w7.heap.size := h62.lt
        have h61 := h61.ext e8
        have h62 := h62.ext e8
        have hE8 := hE7.ext e8
        have hX8 := hX7.ext e8
        refine V.region (VL.op (R.mvS rfl) (VL.op (R.mvI rfl) (VL.op (R.mvS rfl) (VL.op (R.mvI rfl) (VL.op (R.ixS Try.runUnderlying51 Try.sizeOf57 rfl rfl (by omega) (by omega) (h61.sl.some (i := (oth.getD j default).toNat) (by omega))) (VL.op (R.fld' (o := 0) Try.runUnderlying57 rfl rfl Try.sizeOf55 rfl rfl) (VL.op (R.ldA Try.isAgg55 Try.sizeOf55 rfl rfl ((show RowAt _ _ _ (encVal ((colL e.recs e.mem (c : Nat)).getD (oth.getD j default).toNat default).val) from (((h61.sl.ext (Mod.refl _ _)).row (i := (oth.getD j default).toNat) (by omega)).sub 0 3 rfl))) rfl) (VL.op (R.ixS Try.runUnderlying37 Try.sizeOf55 rfl rfl (by omega) (by omega) (h8.sl.some (i := c) (by omega))) (VL.ownSt eltV (v := .agg _) Try.sizeOf55 (h8) c 0 ((colL e.recs e.mem (c : Nat)).getD (oth.getD j default).toNat default).val rfl rfl (by omega) rfl rfl rfl rfl rfl fun w9 h9 m9 hs9 => VL.nil (?_))))))))))
        have E9 : Ext w7 w9 := Mod.ownA e8 m9 h8.ge
        have hX9 := hX7.ext E9
        have hE9 := hE7.ext E9
        have hb9 := hbs.ext E9
        have hfs9 := hJ2.fs.ext E9
        have h61 := h61.mod m9 fun k h1 h2 => by have := h8.ge k h2; have := h61_lt k h1; omega
        have h62 := h62.mod m9 fun k h1 h2 => by have := h8.ge k h2; have := h62_lt k h1; omega
        obtain ⟨v, hv⟩ : ∃ v, v = ((colL e.recs e.mem (c : Nat)).getD (oth.getD j default).toNat default).val := ⟨_, rfl⟩
        rw [← hv] at h9
        have hrl : (base.set c v).length = n := by rw [List.length_set]; exact hbl
        have hfs := fun w' hE' => fact_spec e (l2.length : Nat) 1 (base.set c v) x8.1 x8.2 e.mem e.ma e.mc w' hpos hms (hax hE') hE' hE'.mem
        simp only [hrl] at hfs
        have hsz := hJ2.ex.size
        have hsz9 := E9.size
        refine V.region (VL.op (R.mvS rfl) (VL.op (R.ldA Try.isAgg72 Try.sizeOf72 rfl rfl ((show RowAt _ _ _ (encEnt e) from (hX9.ext (Mod.refl _ _)).rowAt 0 10)) rfl) (VL.op (R.mvS rfl) (VL.op (R.lenS Try.runUnderlying41 rfl) (VL.op (R.mvS rfl) (VL.op (R.fld' (o := 9) Try.runUnderlying72 rfl rfl Try.sizeOf34 rfl rfl) (VL.op (R.ld1 Try.isAgg34 rfl (((hX9.ext (Mod.refl _ _)).cell 9))) (VL.callX Try.call47 rfl (hfs _ hE9) fun x10 w10 h10 e10 => VL.append1 el41 Try.runUnderlying41 Try.sizeOf48 Try.zeroValue48 rfl (mkF e (l2.length : Nat) 1 (base.set c v) x8.1 x8.2 e.mem x10) rfl rfl rfl (hfs9.ext e10).own rfl rfl rfl (by omega) (by unfold maxLen; omega) (by have := e10.size; omega) fun a11 ca11 w11 vt11 ho11 m11 hf11 => VL.op (R.asS rfl) (VL.nil (V.region (VL.op (R.add rfl rfl (by omega) (by omega)) (VL.op (R.mvI rfl) (VL.nil (?_))))))))))))))
        have hx10 : FctW w10 (mkF e (l2.length : Nat) 1 (base.set c v) x8.1 x8.2 e.mem x10) := ⟨h9.sl.ext e10, h10.sl, fun k hk => (h9.ext e10).lt k hk, fun k hk => h10.lt k hk⟩
        have hfs11 := (hfs9.ext e10).snoc hx10 ⟨fun k h1 h2 => by have := h9.ge k h2; have := hJ2.fs.own.lt k h1; omega, fun k h1 h2 => by have := h10.ge k h2; have := hJ2.fs.own.lt k h1; omega⟩ ⟨fun k hk => by have := h9.ge k hk; omega, fun k hk => by have := h10.ge k hk; omega⟩ ho11 m11 hf11
        have hE11 := e10.size
        refine ⟨(j + 1, l2 ++ [mkF e (l2.length : Nat) 1 (base.set c v) x8.1 x8.2 e.mem x10], a11, ca11), ?_, ⟨by dsimp only; omega, ⟨?_, hfs11, ?_, ?_, ?_⟩, ?_, ?_, ?_, ?_⟩, by dsimp only; omega⟩
        · dsimp only; rw [List.length_append]; rfl
        · exact Mod.ownA (hJ2.ex.trans (E9.trans e10)) m11 fun k hk => hfs9.own.ge k hk
        · rw [List.map_append, hJ2.eq, vIn, ← hbase, if_pos hlen, ← hll, hv]; rfl
        · rw [← hbase]; exact (hb9.ext e10).mod m11 fun k h1 h2 => hJ2.sep k h2 h1
        · exact hJ2.sep.grown hf11 fun k hk => by have := hbs.lt k hk; omega
        · exact (h61.ext e10).mod m11 fun k h1 h2 => sp1 k h2 h1
        · exact (h62.ext e10).mod m11 fun k h1 h2 => sp2 k h2 h1
        · exact sp1.grown hf11 fun k hk => by have := h61_lt k hk; omega
        · exact sp2.grown hf11 fun k hk => by have := h62_lt k hk; omega
      · have hst : vIn e.recs e.mem e.table (baseG e.s e.recs e.mem e.table) c oth (j + 1) (vOut e.s e.recs e.mem e.table c) = vIn e.recs e.mem e.table (baseG e.s e.recs e.mem e.table) c oth j (vOut e.s e.recs e.mem e.table c) := by
          rw [vIn, if_neg (by omega)]
        exact ⟨(j + 1, l2, a2, cap2), rfl, ⟨by dsimp only; omega, by dsimp only; rw [hst]; exact hJ2, h61, h62, sp1, sp2⟩, by dsimp only; omega⟩
    · have hjl : j = oth.length := by omega
      subst hjl
      refine ⟨(c + 1, l2, a2, cap2), rfl, ⟨by dsimp only; omega, ?_⟩, by dsimp only; omega⟩
      dsimp only
      rw [vOut, ← hoth]; exact hJ2
  · have hcn : c = n := by omega
    subst hcn
    have hfg : factsG e.s e.recs e.mem e.table = vOut e.s e.recs e.mem e.table c ++ (if e.mem.length = 1 then [] else (List.range e.mem.length).map (spF e.recs e.mem e.table)) := by unfold factsG; rw [← hn]
    have hvl := vOut_len e.s e.recs e.mem e.table c
    have hl5 := hJ.len
    refine V.region (VL.op (R.fld' (o := 9) Try.runUnderlying72 rfl rfl Try.sizeOf34 rfl rfl) (VL.op (R.ld1 Try.isAgg34 rfl (((hX5.ext (Mod.refl _ _)).cell 9))) (VL.op (R.lenS Try.runUnderlying34 rfl) (VL.op (R.eql rfl rfl) (VL.nil (V.condP rfl (fun c67 => V.seq (?_)) (fun c67 => V.skip (V.seq (V.region (VL.op (R.asI rfl) (VL.nil (V.seq (V.seq (?_))))))))))))))
    · refine V.region (VL.op (R.mvS rfl) (VL.op (R.asS rfl) (VL.nil (V.ret (fret1 (v := .slice _ _ _) rfl rfl rfl (⟨(l, a, cap), rfl, ⟨hJ.fs.weaken s1, ?_⟩, e1.trans hJ.ex⟩))))))
      rw [hfg, if_pos (by omega), List.append_nil]; exact hJ.eq
    · refine V.region (VL.op (R.fld' (o := 9) Try.runUnderlying72 rfl rfl Try.sizeOf34 rfl rfl) (VL.op (R.ld1 Try.isAgg34 rfl (((hX5.ext (Mod.refl _ _)).cell 9))) (VL.op (R.lenS Try.runUnderlying34 rfl) (VL.op (R.mvI rfl) (VL.nil (V.block (?_)))))))
      refine V.loop [1, 4, 11, 70, 71, 72] (fun x : Nat × List Fct × Option Addr × Nat => [.pointer (some ⟨b1, 0, none⟩), .slice x.2.2.1 x.2.1.length x.2.2.2, .int .i64 (if x.1 = 0 then 2 else 0), .slice e.ma e.mem.length e.mc, .int .i64 (e.mem.length : Nat), .int .i64 (x.1 : Nat)])
        (fun x w' => x.1 ≤ e.mem.length ∧ Ext w1 w' ∧ FctsW w' w1.heap.size x.2.2.1 x.2.2.2 x.2.1 ∧ x.2.1.map (·.f) = vOut e.s e.recs e.mem e.table c ++ (List.range x.1).map (spF e.recs e.mem e.table)) (fun x => e.mem.length - x.1) (0, l, a, cap) rfl ⟨Nat.zero_le _, hJ.ex, hJ.fs, by simpa using hJ.eq⟩ ?_
      rintro ρ ⟨k, l2, a2, cap2⟩ w7 ⟨hk, ex, hfs, heq⟩
      dsimp only at hk ex hfs heq ⊢
      have hX7 := hX1.ext ex
      have hE7 := hE3.ext ex
      have hll : l2.length = (vOut e.s e.recs e.mem e.table c).length + k := by
        have := congrArg List.length heq
        simpa using this
      refine V.seq (V.region (VL.op (R.lss rfl rfl) (VL.nil (V.seq (V.condP rfl (fun c73 => V.skip (V.seq (V.block (V.seq (?_))))) (fun c73 => V.exit (V.seq (V.region (VL.op (R.mvS rfl) (VL.op (R.asS rfl) (VL.nil (V.ret (fret1 (v := .slice _ _ _) rfl rfl rfl (?_))))))))))))))
      · have hkl : k < e.mem.length := by omega
        obtain ⟨hm0, hm1, hm2⟩ := hok.mem _ (gmem hkl)
        have hcl := hE7.recs.cell hm1
        have hcb := hs.nc _ (gmem hm1)
        have hsz := ex.size
        refine V.region (VL.op (R.ixS Try.runUnderlying34 Try.sizeOf3 rfl rfl (by omega) (by omega) ((hE7.mem).some (i := k) (by omega))) (VL.op (R.ld1 Try.isAgg3 rfl (((((hE7.mem).ext (Mod.refl _ _)).row (i := k) (by omega)).cell (i := 0) rfl))) (VL.op (R.asI rfl) (VL.nil (V.seq (?_))))))
        refine V.regionS mixed 13 (by kernel_rfl) rfl (fun us => VS.op (fun wq eq => R.mvS rfl) (VS.op (fun wq eq => R.ldA Try.isAgg72 Try.sizeOf72 rfl rfl ((show RowAt _ _ _ (encEnt e) from (hX7.ext eq).rowAt 0 10)) rfl) (VS.op (fun wq eq => R.mvI rfl) (VS.op (fun wq eq => R.fld' (o := 8) Try.runUnderlying72 rfl rfl Try.sizeOf33 rfl rfl) (VS.op (fun wq eq => R.ld1 Try.isAgg33 rfl (((hX7.ext eq).cell 8))) (VS.op (fun wq eq => R.mvI rfl) (VS.op (fun wq eq => R.ixS Try.runUnderlying33 Try.sizeOf53 rfl rfl (by omega) (by omega) (hE7.recs.sl.some (i := (e.mem.getD k default).toNat) (by omega))) (VS.op (fun wq eq => R.ldA Try.isAgg53 Try.sizeOf53 rfl rfl ((show RowAt _ _ _ (encRec (e.recs.getD (e.mem.getD k default).toNat default)) from ((hE7.recs.sl.ext eq).row (i := (e.mem.getD k default).toNat) (by omega)))) rfl) (VS.callX (fun u w' => ∃ x : Option Addr × Nat, u = .slice x.1 (rowG (e.recs.getD (e.mem.getD k default).toNat default)).length x.2 ∧ OwnT encVal 3 55 w7.heap.size w' x.1 x.2 (rowG (e.recs.getD (e.mem.getD k default).toNat default))) (fun u a b _ ⟨x, hx, hO⟩ eb => ⟨x, hx, hO.ext eb⟩) Try.call51 rfl (fun wq eq hq => Rets.mono (row_spec (e.recs.getD (e.mem.getD k default).toNat default) wq hcb (hcl.ext eq)) fun u w' ⟨x, hu, hO, he⟩ => ⟨⟨x, hu, hO.weaken eq.size⟩, he⟩) (VS.op (fun wq eq => R.mvI rfl) (VS.spec (SB1 encI 1 3 w7.heap.size (e.mem.getD k default)) SB1.mono rfl (fun wq eq hq => yieldsR_build1 Try.runUnderlying34 Try.sizeOf3 Try.zeroValue3 rfl rfl rfl (e.mem.getD k default) rfl rfl rfl eq.size fun b w2 ho he => ⟨⟨b, rfl, ho⟩, he⟩) (VS.callX (fun u w' => ∃ x : Fct, u = .agg (encFct x).toArray ∧ x.f = spF e.recs e.mem e.table k ∧ FctW w' x ∧ (∀ y, aBlk x.ra y → w7.heap.size ≤ y) ∧ (∀ y, aBlk x.fa y → w7.heap.size ≤ y)) (fun u a b _ ⟨x, hx, h1, h2, h3⟩ eb => ⟨x, hx, h1, h2.ext eb, h3⟩) Try.call47 rfl (fun wq eq hq => by
              obtain ⟨x8, hx8, ho8⟩ := hq 8 (by kernel_rfl)
              obtain ⟨b, hb, hO⟩ := hq 10 (by kernel_rfl)
              rw [hx8, hb]
              refine Rets.mono (fact_spec e (-1) (if k = 0 then 2 else 0) (rowG (e.recs.getD (e.mem.getD k default).toNat default)) x8.1 x8.2 [e.mem.getD k default] (some ⟨b, 0, none⟩) 1 wq hpos (by simp) (fun h => by cases h) (hE7.ext eq) hO.sl) ?_
              rintro u w' ⟨x, rfl, ho, he⟩
              exact ⟨⟨_, rfl, rfl, ⟨ho8.sl.ext he, ho.sl, fun y hy => (ho8.ext he).lt y hy, fun y hy => ho.lt y hy⟩, fun y hy => ho8.ge y hy, fun y hy => Nat.le_trans eq.size (ho.ge y hy)⟩, he⟩) (VS.spec (fun u w' => ∃ (x : Fct) (b : Nat), u = .slice (some ⟨b, 0, none⟩) 1 1 ∧ OwnT encFct 6 48 w7.heap.size w' (some ⟨b, 0, none⟩) 1 [x] ∧ x.f = spF e.recs e.mem e.table k ∧ FctW w' x ∧ (∀ y, aBlk x.ra y → w7.heap.size ≤ y) ∧ (∀ y, aBlk x.fa y → w7.heap.size ≤ y)) (fun u a b _ ⟨x, b', hx, hO, h1, h2, h3⟩ eb => ⟨x, b', hx, hO.ext eb, h1, h2.ext eb, h3⟩) rfl (fun wq eq hq => by
              obtain ⟨x, hx, h1, h2, h3⟩ := hq 11 (by kernel_rfl)
              exact yieldsR_build1 Try.runUnderlying41 Try.sizeOf48 Try.zeroValue48 rfl rfl rfl x hx rfl rfl eq.size fun b w2 ho he => ⟨⟨x, b, rfl, ho, h1, h2.ext he, h3⟩, he⟩) (VS.nil (fun w8 e8 h8 => ?_))))))))))))))) rfl
        obtain ⟨x, b, hb, hO, hxf, hxW, hg1, hg2⟩ := h8 12
        rw [hb]
        have hfs8 := hfs.ext e8
        have hs8 := e8.size
        refine VL.appendT el41 (fun _ => rfl) rfl (rfl) (hfs8.own) rfl ( (show 1 = [x].length from rfl)) ((OwnT.sl hO)) ((fun h => by cases h)) (by simp; omega) (by simp [maxLen]; omega) (by omega) rfl fun a9 cap9 w9 ho9 m9 hf9 => VL.op (R.asS rfl) (VL.nil (V.region (VL.op (R.asI rfl) (VL.nil (V.region (VL.op (R.add rfl rfl (by omega) (by omega)) (VL.op (R.mvI rfl) (VL.nil (?_)))))))))
        have hx8 : Sep a2 x.ra ∧ Sep a2 x.fa := ⟨fun y h1 h2 => by have := hg1 y h2; have := hfs.own.lt y h1; omega, fun y h1 h2 => by have := hg2 y h2; have := hfs.own.lt y h1; omega⟩
        have hfs9 := hfs8.snoc hxW hx8 ⟨fun y hy => by have := hg1 y hy; omega, fun y hy => by have := hg2 y hy; omega⟩ ho9 m9 hf9
        refine ⟨(k + 1, l2 ++ [x], a9, cap9), ?_, ⟨by dsimp only; omega, Mod.ownA (ex.trans e8) m9 hfs8.own.ge, hfs9, ?_⟩, by dsimp only; omega⟩
        · dsimp only; rw [List.length_append, if_neg (Nat.succ_ne_zero k)]; rfl
        · dsimp only; rw [List.map_append, heq, range_succ_map, List.append_assoc, List.map_singleton, hxf]
      · have hkl : k = e.mem.length := by omega
        subst hkl
        refine ⟨(l2, a2, cap2), rfl, ⟨hfs.weaken s1, ?_⟩, e1.trans ex⟩
        rw [hfg, if_neg (by omega)]; exact heq
end Go.Proofs.Ytckihgamnmmbnaa

/- Golden: the base row of members; the stable sort of nothing. -/
namespace Go.Proofs.Ytckihgamnmmbnaa
open Go.Vc Go.Sort

set_option maxRecDepth 100000 in
set_option maxHeartbeats 4000000 in
theorem gbase_spec (s : Set_) (recs : List Rec) (mem : List Int) (ra ma : Option Addr) (rc mc : Nat) (w : World) (hs : Small s recs mem) (hS : SetW w s) (hR : RecsW w ra recs) (hM : IntSl w ma mem) :
    RetsX Try.prog 11 #[.agg (encSet s).toArray, .slice ra recs.length rc, .slice ma mem.length mc] w
      (fun x : Option Addr × Nat => .tuple #[.slice x.1 (if memB s recs mem = true then baseG s recs mem (recs.getD (mem.getD 0 default).toNat default).table else []).length x.2, .int .i64 (if memB s recs mem = true then 0 else 1)])
      (fun x w' => OwnT encVal 3 55 w.heap.size w' x.1 x.2 (if memB s recs mem = true then baseG s recs mem (recs.getD (mem.getD 0 default).toNat default).table else [])) := by
  refine enter (args := [_, _, _]) Try.func11 rfl Try.ntmps11 (by kernel_rfl) rfl ?_
  refine V.seq (V.region (VL.box (v := .agg _) rfl fun b1 w1 hb1 e1 hX1 => VL.op (R.asS rfl) (VL.op (R.asI rfl) (VL.nil (V.seq (V.region (VL.op (R.ldA Try.isAgg32 Try.sizeOf32 rfl rfl ((show RowAt _ _ _ (encSet s) from (hX1.ext (Mod.refl _ _)).rowAt 0 7)) rfl) (VL.op (R.mvS rfl) (VL.op (R.mvS rfl) (VL.callP Try.call25 rfl (of_spec s recs mem ra ma rc mc _ hs.nm hs.nr hs.nt (hS.ext e1) (hR.ext e1) (hM.ext e1)) fun w1_3 e1_3 => VL.op (R.mvT rfl) (VL.op (R.extr rfl rfl) (VL.op (R.extr rfl rfl) (VL.allocSt (v := .agg (encEnt (ofE s recs mem ra ma rc mc)).toArray) Try.zeroValue72 Try.sizeOf72 rfl rfl rfl rfl rfl fun b1_7 w1_7 hb1_7 e1_7 hB1_7 => VL.op (R.asB rfl) (VL.nil (V.seq (V.seq (V.region (VL.op (R.mvB rfl) (VL.op (R.not rfl) (VL.nil (V.cond rfl (fun c18 => V.seq (?_)) (fun c18 => V.skip (V.seq (?_))))))))))))))))))))))))
  · have hb : memB s recs mem = false := by simpa using c18
    rw [hb]
    refine V.region (VL.op (R.asS rfl) (VL.op (R.asI rfl) (VL.nil (V.ret (fret2 (v := .slice _ _ _) (x := .int _ _) rfl rfl rfl rfl rfl (⟨(none, 0), rfl, OwnT.nil encVal 3 55 _ _, e1.trans (e1_3.trans e1_7)⟩))))))
  · have hb : memB s recs mem = true := by simpa using c18
    have hoe : ofE s recs mem ra ma rc mc = ⟨s, (recs.getD (mem.getD 0 default).toNat default).table, ra, rc, recs, ma, mc, mem⟩ := by unfold ofE; rw [if_pos hb]
    rw [hb]
    rw [hoe] at hB1_7
    have hE : EntW w ⟨s, (recs.getD (mem.getD 0 default).toNat default).table, ra, rc, recs, ma, mc, mem⟩ := ⟨hS, hR, hM⟩
    have E7 := e1.trans (e1_3.trans e1_7)
    refine V.region (VL.op (R.ldA Try.isAgg72 Try.sizeOf72 rfl rfl ((show RowAt _ _ _ (encEnt ⟨s, (recs.getD (mem.getD 0 default).toNat default).table, ra, rc, recs, ma, mc, mem⟩) from (hB1_7.ext (Mod.refl _ _)).rowAt 0 10)) rfl) (VL.callX Try.call26 rfl (base_spec ⟨s, (recs.getD (mem.getD 0 default).toNat default).table, ra, rc, recs, ma, mc, mem⟩ _ hs (hE.ext E7) (memB_ok hb)) fun x w2 hx e2 => VL.op (R.asS rfl) (VL.op (R.asI rfl) (VL.nil (V.ret (fret2 (v := .slice _ _ _) (x := .int _ _) rfl rfl rfl rfl rfl (⟨x, rfl, hx.weaken E7.size, E7.trans e2⟩)))))))
set_option maxHeartbeats 4000000 in
theorem ins0_spec (g : Nat) (cb : List Value) (cap : Nat) (a : Option Addr) (w : World) : RetsP Try.prog 58 #[.slice a 0 cap, .int .i64 0, .int .i64 0, .func (.func g) #[] cb.toArray] w (.tuple #[]) := by
  refine enter (args := [_, _, _, _]) Try.func58 rfl Try.ntmps58 (by kernel_rfl) rfl ?_
  refine V.seq (V.region (VL.op (R.mvI rfl) (VL.op (R.add rfl rfl (by omega) (by omega)) (VL.op (R.asI rfl) (VL.nil (V.block (?_)))))))
  refine V.loop [2, 8] (fun _ : Unit => [.int .i64 0, .int .i64 1]) (fun _ w' => Ext w w') (fun _ => 0) () rfl (Mod.refl _ _) ?_
  rintro ρ _ w1 e1
  refine V.seq (V.seq (V.region (VL.op (R.mvI rfl) (VL.op (R.mvI rfl) (VL.op (R.lss rfl rfl) (VL.nil (V.condP rfl (fun c14 => V.skip (V.seq (V.block (V.seq (?_))))) (fun c14 => V.exit (fend0 rfl (⟨rfl, e1⟩))))))))))
  all_goals (exfalso; omega)
set_option maxHeartbeats 4000000 in
theorem stable0_spec (g : Nat) (cb : List Value) (cap : Nat) (a : Option Addr) (w : World) : RetsP Try.prog 46 #[.slice a 0 cap, .int .i64 0, .func (.func g) #[] cb.toArray] w (.tuple #[]) := by
  refine enter (args := [_, _, _]) Try.func46 rfl Try.ntmps46 (by kernel_rfl) rfl ?_
  refine V.seq (V.region (VL.op (R.asI rfl) (VL.nil (V.seq (V.region (VL.op (R.mvI rfl) (VL.op (R.asI rfl) (VL.op (R.asI rfl) (VL.nil (V.seq (V.block (?_))))))))))))
  refine V.loop [0, 1, 2, 6, 7, 8] (fun _ : Unit => [.slice a 0 cap, .int .i64 0, .func (.func g) #[] cb.toArray, .int .i64 20, .int .i64 0, .int .i64 20]) (fun _ w' => Ext w w') (fun _ => 0) () rfl (Mod.refl _ _) ?_
  rintro ρ _ w1 e1
  refine V.seq (V.seq (V.region (VL.op (R.mvI rfl) (VL.op (R.mvI rfl) (VL.op (R.leq rfl rfl) (VL.nil (V.condP rfl (fun c13 => V.skip (V.block (V.seq (?_)))) (fun c13 => V.exit (V.seq (?_))))))))))
  · exfalso; omega
  · refine V.region (VL.op (R.mvS rfl) (VL.op (R.mvI rfl) (VL.op (R.mvI rfl) (VL.op (R.mvF rfl) (VL.callP Try.call58 rfl (ins0_spec g cb cap a _) fun w6_4 e6_4 => VL.nil (V.block (?_)))))))
    refine V.loop [1, 6] (fun _ : Unit => [.int .i64 0, .int .i64 20]) (fun _ w' => Ext w w') (fun _ => 0) () rfl (e1.trans (by assumption)) ?_
    rintro ρ _ w2 e2
    refine V.seq (V.seq (V.region (VL.op (R.mvI rfl) (VL.op (R.mvI rfl) (VL.op (R.lss rfl rfl) (VL.nil (V.condP rfl (fun c30 => V.skip (V.block (V.seq (?_)))) (fun c30 => V.exit (fend0 rfl (⟨rfl, e2⟩))))))))))
    all_goals (exfalso; omega)
set_option maxHeartbeats 4000000 in
theorem sort0_spec (g : Nat) (cb : List Value) (cap : Nat) (a : Option Addr) (w : World) : RetsP Try.prog 32 #[.slice a 0 cap, .func (.func g) #[] cb.toArray] w (.tuple #[]) := by
  refine enter (args := [_, _]) Try.func32 rfl Try.ntmps32 (by kernel_rfl) rfl ?_
  refine V.region (VL.op (R.mvS rfl) (VL.op (R.mvS rfl) (VL.op (R.lenS Try.runUnderlying34 rfl) (VL.op (R.mvF rfl) (VL.callP Try.call46 rfl (stable0_spec g cb cap a _) fun w0_4 e0_4 => VL.nil (fend0 rfl (⟨rfl, e0_4⟩)))))))
end Go.Proofs.Ytckihgamnmmbnaa
