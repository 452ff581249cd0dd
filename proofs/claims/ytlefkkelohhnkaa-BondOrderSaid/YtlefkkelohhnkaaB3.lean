/- Bond: comparing numbers, texts, keys, decisions and pairs. -/
import Derived.Test.YtlefkkelohhnkaaTy
import Derived.Test.YtlefkkelohhnkaaVcClear
namespace Go.Proofs.Ytlefkkelohhnkaa
open Go.Vc

theorem isNaN_spec (x : Int) (w : World) : RetsP Try.prog 51 #[.int .i64 x] w (.bool false) := by
  refine enter (args := [_]) Try.func51 rfl Try.ntmps51 (by kernel_rfl) rfl ?_
  refine V.seq (V.region (VL.op (R.asB rfl) (VL.nil (V.seq (V.region (VL.op (R.mvI rfl) (VL.op (R.mvI rfl) (VL.op (R.neq rfl rfl) (VL.op (R.asB rfl) (VL.nil (V.ret (fret1 (v := .bool _) rfl rfl rfl (⟨?_, (Mod.refl _ _)⟩)))))))))))))
  simp
theorem isNaNG_spec (x : ByteArray) (w : World) : RetsP Try.prog 52 #[.string x] w (.bool false) := by
  refine enter (args := [_]) Try.func52 rfl Try.ntmps52 (by kernel_rfl) rfl ?_
  refine V.seq (V.region (VL.op (R.asB rfl) (VL.nil (V.seq (V.region (VL.op (R.mvG rfl) (VL.op (R.mvG rfl) (VL.op (R.neqG rfl rfl) (VL.op (R.asB rfl) (VL.nil (V.ret (fret1 (v := .bool _) rfl rfl rfl (⟨?_, (Mod.refl _ _)⟩)))))))))))))
  simp
theorem cmpI_spec (a b : Int) (w : World) : RetsP Try.prog 45 #[.int .i64 a, .int .i64 b] w (.int .i64 (cmpI a b)) := by
  refine enter (args := [_, _]) Try.func45 rfl Try.ntmps45 (by kernel_rfl) rfl ?_
  refine V.seq (V.region (VL.op (R.asI rfl) (VL.nil (V.seq (V.region (VL.op (R.mvI rfl) (VL.callP Try.call51 rfl (isNaN_spec _ _) fun w1_1 e1_1 => VL.op (R.asB rfl) (VL.nil (V.seq (V.region (VL.op (R.mvI rfl) (VL.callP Try.call51 rfl (isNaN_spec _ _) fun w2_1 e2_1 => VL.op (R.asB rfl) (VL.nil (V.seq (V.seq (V.region (VL.op (R.mvB rfl) (VL.nil (V.cond rfl (fun c11 => V.seq (V.seq (V.region (VL.op (R.mvB rfl) (VL.nil (V.cond rfl (fun c12 => V.seq (V.region (VL.op (R.asI rfl) (VL.nil (V.ret (fret1 (v := .int _ _) rfl rfl rfl (⟨?_, (e1_1.trans e2_1)⟩))))))) (fun c12 => V.skip (V.seq (V.region (VL.op (R.asI rfl) (VL.nil (V.ret (fret1 (v := .int _ _) rfl rfl rfl (⟨?_, (e1_1.trans e2_1)⟩)))))))))))))) (fun c11 => V.skip (V.seq (V.seq (V.region (VL.op (R.mvB rfl) (VL.nil (V.cond rfl (fun c13 => V.seq (V.region (VL.op (R.asI rfl) (VL.nil (V.ret (fret1 (v := .int _ _) rfl rfl rfl (⟨?_, (e1_1.trans e2_1)⟩))))))) (fun c13 => V.skip (V.seq (V.seq (V.region (VL.op (R.mvI rfl) (VL.op (R.mvI rfl) (VL.op (R.lss rfl rfl) (VL.nil (V.condP rfl (fun c16 => V.seq (V.region (VL.op (R.asI rfl) (VL.nil (V.ret (fret1 (v := .int _ _) rfl rfl rfl (⟨?_, (e1_1.trans e2_1)⟩))))))) (fun c16 => V.skip (V.seq (V.seq (V.region (VL.op (R.mvI rfl) (VL.op (R.mvI rfl) (VL.op (R.gtr rfl rfl) (VL.nil (V.condP rfl (fun c19 => V.seq (V.region (VL.op (R.asI rfl) (VL.nil (V.ret (fret1 (v := .int _ _) rfl rfl rfl (⟨?_, (e1_1.trans e2_1)⟩))))))) (fun c19 => V.skip (V.seq (V.region (VL.op (R.asI rfl) (VL.nil (V.ret (fret1 (v := .int _ _) rfl rfl rfl (⟨?_, (e1_1.trans e2_1)⟩))))))))))))))))))))))))))))))))))))))))))))))))))))
  all_goals first | (simp_all [cmpI]; done) | (simp_all [cmpI]; (repeat' split) <;> omega)
theorem cmpG_spec (a b : ByteArray) (w : World) : RetsP Try.prog 46 #[.string a, .string b] w (.int .i64 (cmpG a b)) := by
  refine enter (args := [_, _]) Try.func46 rfl Try.ntmps46 (by kernel_rfl) rfl ?_
  refine V.seq (V.region (VL.op (R.asI rfl) (VL.nil (V.seq (V.region (VL.op (R.mvG rfl) (VL.callP Try.call52 rfl (isNaNG_spec _ _) fun w1_1 e1_1 => VL.op (R.asB rfl) (VL.nil (V.seq (V.region (VL.op (R.mvG rfl) (VL.callP Try.call52 rfl (isNaNG_spec _ _) fun w2_1 e2_1 => VL.op (R.asB rfl) (VL.nil (V.seq (V.seq (V.region (VL.op (R.mvB rfl) (VL.nil (V.cond rfl (fun c11 => V.seq (V.seq (V.region (VL.op (R.mvB rfl) (VL.nil (V.cond rfl (fun c12 => V.seq (V.region (VL.op (R.asI rfl) (VL.nil (V.ret (fret1 (v := .int _ _) rfl rfl rfl (⟨?_, (e1_1.trans e2_1)⟩))))))) (fun c12 => V.skip (V.seq (V.region (VL.op (R.asI rfl) (VL.nil (V.ret (fret1 (v := .int _ _) rfl rfl rfl (⟨?_, (e1_1.trans e2_1)⟩)))))))))))))) (fun c11 => V.skip (V.seq (V.seq (V.region (VL.op (R.mvB rfl) (VL.nil (V.cond rfl (fun c13 => V.seq (V.region (VL.op (R.asI rfl) (VL.nil (V.ret (fret1 (v := .int _ _) rfl rfl rfl (⟨?_, (e1_1.trans e2_1)⟩))))))) (fun c13 => V.skip (V.seq (V.seq (V.region (VL.op (R.mvG rfl) (VL.op (R.mvG rfl) (VL.op (R.lssG rfl rfl) (VL.nil (V.cond rfl (fun c16 => V.seq (V.region (VL.op (R.asI rfl) (VL.nil (V.ret (fret1 (v := .int _ _) rfl rfl rfl (⟨?_, (e1_1.trans e2_1)⟩))))))) (fun c16 => V.skip (V.seq (V.seq (V.region (VL.op (R.mvG rfl) (VL.op (R.mvG rfl) (VL.op (R.gtrG rfl rfl) (VL.nil (V.cond rfl (fun c19 => V.seq (V.region (VL.op (R.asI rfl) (VL.nil (V.ret (fret1 (v := .int _ _) rfl rfl rfl (⟨?_, (e1_1.trans e2_1)⟩))))))) (fun c19 => V.skip (V.seq (V.region (VL.op (R.asI rfl) (VL.nil (V.ret (fret1 (v := .int _ _) rfl rfl rfl (⟨?_, (e1_1.trans e2_1)⟩))))))))))))))))))))))))))))))))))))))))))))))))))))
  all_goals first | (simp_all [cmpG]; done) | (simp [cmpG, *] at *; simp_all; done)
theorem or_spec (a : Option Addr) (cap : Nat) (l : List Int) (w : World) (hm : l.length ≤ 9223372036854775807) (hS : IntSl w a l) :
    RetsP Try.prog 33 #[.slice a l.length cap] w (.int .i64 (orL l)) := by
  refine enter (args := [_]) Try.func33 rfl Try.ntmps33 (by kernel_rfl) rfl ?_
  refine V.seq (V.region (VL.op (R.asI rfl) (VL.nil (V.seq (V.region (VL.op (R.asI rfl) (VL.nil (V.seq (V.seq (V.region (VL.op (R.mvS rfl) (VL.op (R.lenS Try.runUnderlying26 rfl) (VL.op (R.mvI rfl) (VL.nil (V.block (?_))))))))))))))))
  refine V.loop [3, 6, 7, 8] (fun k : Nat => [.int .i64 0, .slice a l.length cap, .int .i64 l.length, .int .i64 k]) (fun k w' => k ≤ l.length ∧ (∀ i, i < k → l.getD i 0 = 0) ∧ Ext w w') (fun k => l.length - k) 0 rfl ⟨by omega, by intro i hi; omega, Mod.refl _ _⟩ ?_
  rintro ρ k w1 ⟨hk, hi, e⟩
  refine V.seq (V.region (VL.op (R.lss rfl rfl) (VL.nil (V.seq (V.condP rfl (fun c9 => V.skip (V.seq (V.block (V.seq (V.region (VL.op (R.ixS Try.runUnderlying26 Try.sizeOf3 rfl rfl (by omega) (by omega) ((hS).some (i := k) (by omega))) (VL.op (R.ld1 Try.isAgg3 rfl (((((hS).ext e).row (i := k) (by omega)).cell (i := 0) rfl))) (VL.op (R.asI rfl) (VL.nil (V.seq (V.region (VL.op (R.mvI rfl) (VL.op (R.mvI rfl) (VL.op (R.neq rfl rfl) (VL.nil (V.condP rfl (fun c14 => V.seq (V.region (VL.op (R.mvI rfl) (VL.op (R.asI rfl) (VL.nil (V.ret (fret1 (v := .int _ _) rfl rfl rfl (⟨?_, e⟩)))))))) (fun c14 => V.skip (V.region (VL.op (R.add rfl rfl (by omega) (by omega)) (VL.op (R.mvI rfl) (VL.nil (⟨k + 1, rfl, ⟨by omega, ?_, e⟩, by omega⟩)))))))))))))))))))))) (fun c9 => V.exit (V.seq (V.region (VL.op (R.mvI rfl) (VL.op (R.asI rfl) (VL.nil (V.ret (fret1 (v := .int _ _) rfl rfl rfl (⟨?_, e⟩))))))))))))))
  · rw [orL_at l k (by omega) hi c14]; rfl
  · intro i hik
    by_cases h : i = k
    · subst h; exact Classical.not_not.1 c14
    · exact hi i (by omega)
  · rw [orL_none l fun i hik => hi i (by omega)]

structure Key where
  src : Int
  tab : ByteArray
  rec_ : ByteArray
  deriving DecidableEq
instance : Inhabited Key := ⟨⟨0, ⟨#[]⟩, ⟨#[]⟩⟩⟩
def encKey (k : Key) : List Value := [.int .i64 k.src, .string k.tab, .string k.rec_]
structure Dec where
  kind : Int
  a : Key
  b : Key
  deriving DecidableEq
instance : Inhabited Dec := ⟨⟨0, default, default⟩⟩
def encDec (d : Dec) : List Value := [.int .i64 d.kind] ++ encKey d.a ++ encKey d.b
/-- The comparison of keys. -/
def cmpKey : Key → Key → Int := thenC (fun a b => cmpI a.src b.src) (thenC (fun a b => cmpG a.tab b.tab) fun a b => cmpG a.rec_ b.rec_)
theorem cmpKey_cmp : Cmp cmpKey := thenC_cmp (cmpI_cmp.on fun a : Key => a.src) (thenC_cmp (cmpG_cmp.on fun a : Key => a.tab) (cmpG_cmp.on fun a : Key => a.rec_))
theorem cmpKey_or (a b : Key) : cmpKey a b = orL [cmpI a.src b.src, cmpG a.tab b.tab, cmpG a.rec_ b.rec_] := by
  unfold cmpKey thenC
  simp only [orL_cons]
  by_cases h : cmpG a.rec_ b.rec_ = 0
  · rw [h]; rfl
  · simp [h, orL]
theorem cmpKey_zero (a b : Key) : cmpKey a b = 0 ↔ a = b := by
  obtain ⟨s, t, r⟩ := a
  obtain ⟨s', t', r'⟩ := b
  unfold cmpKey thenC
  simp only [cmpI_zero, cmpG_zero, Key.mk.injEq]
  by_cases h1 : s = s'
  · subst h1
    rw [if_pos rfl]
    by_cases h2 : t = t'
    · subst h2; rw [if_pos rfl, cmpG_zero]; simp
    · rw [if_neg h2, cmpG_zero]; simp [h2]
  · rw [if_neg h1, cmpI_zero]; simp [h1]
/-- The comparison of decisions, by their pairs. -/
def cmpDec : Dec → Dec → Int := thenC (fun a b => cmpKey a.a b.a) fun a b => cmpKey a.b b.b
theorem cmpDec_cmp : Cmp cmpDec := thenC_cmp (cmpKey_cmp.on fun a : Dec => a.a) (cmpKey_cmp.on fun a : Dec => a.b)
theorem cmpDec_or (a b : Dec) : cmpDec a b = orL [cmpKey a.a b.a, cmpKey a.b b.b] := by
  unfold cmpDec thenC
  simp only [orL_cons]
  by_cases h : cmpKey a.b b.b = 0
  · rw [h]; rfl
  · simp [h, orL]
set_option maxHeartbeats 1000000 in
theorem order_spec (a b : Key) (w : World) : RetsP Try.prog 30 #[.agg (encKey a).toArray, .agg (encKey b).toArray] w (.int .i64 (cmpKey a b)) := by
  rw [cmpKey_or]
  refine enter (args := [_, _]) Try.func30 rfl Try.ntmps30 (by kernel_rfl) rfl ?_
  refine V.seq (V.region (VL.box (v := .agg _) rfl fun b1 w1 hb1 e1 hX1 => VL.box (v := .agg _) rfl fun b2 w2 hb2 e2 hX2 => VL.op (R.asI rfl) (VL.nil (V.seq (V.regionQ mixed 15 (by kernel_rfl) rfl (fun w' => Ext _ w') (Ext.drawn _) (VQ.op (fun wq eq => R.fld' (o := 0) Try.runUnderlying37 rfl rfl Try.sizeOf3 rfl rfl) (VQ.op (fun wq eq => R.ld1 Try.isAgg3 rfl ((((hX1.ext e2).ext eq).cell _))) (VQ.op (fun wq eq => R.fld' (o := 0) Try.runUnderlying37 rfl rfl Try.sizeOf3 rfl rfl) (VQ.op (fun wq eq => R.ld1 Try.isAgg3 rfl (((hX2.ext eq).cell _))) (VQ.callP (fun _ _ h k => Mod.trans h k) Try.call45 rfl (fun wq eq => cmpI_spec _ _ _) (VQ.op (fun wq eq => R.fld' (o := 1) Try.runUnderlying37 rfl rfl Try.sizeOf9 rfl rfl) (VQ.op (fun wq eq => R.ld1 Try.isAgg9 rfl ((((hX1.ext e2).ext eq).cell _))) (VQ.op (fun wq eq => R.fld' (o := 1) Try.runUnderlying37 rfl rfl Try.sizeOf9 rfl rfl) (VQ.op (fun wq eq => R.ld1 Try.isAgg9 rfl (((hX2.ext eq).cell _))) (VQ.callP (fun _ _ h k => Mod.trans h k) Try.call46 rfl (fun wq eq => cmpG_spec _ _ _) (VQ.op (fun wq eq => R.fld' (o := 2) Try.runUnderlying37 rfl rfl Try.sizeOf9 rfl rfl) (VQ.op (fun wq eq => R.ld1 Try.isAgg9 rfl ((((hX1.ext e2).ext eq).cell _))) (VQ.op (fun wq eq => R.fld' (o := 2) Try.runUnderlying37 rfl rfl Try.sizeOf9 rfl rfl) (VQ.op (fun wq eq => R.ld1 Try.isAgg9 rfl (((hX2.ext eq).cell _))) (VQ.callP (fun _ _ h k => Mod.trans h k) Try.call46 rfl (fun wq eq => cmpG_spec _ _ _) (VQ.nil fun w1q e1q => VL.buildSl Try.runUnderlying26 Try.sizeOf3 Try.zeroValue3 rfl rfl rfl fun b3 w3 hb3 e3 hX3 => ?_)))))))))))))))))))))
  refine VL.callP Try.call33 rfl (or_spec _ 3 [cmpI a.src b.src, cmpG a.tab b.tab, cmpG a.rec_ b.rec_] _ (by simp) (OwnT.sl (B := 0) (e := 3) (cap := 3) (OwnT.of_blk (l := [cmpI a.src b.src, cmpG a.tab b.tab, cmpG a.rec_ b.rec_]) hX3 (Nat.zero_le _) rfl (encI_len _) (by simp [maxLen])))) fun w1_16 e1_16 => VL.op (R.asI rfl) (VL.nil (V.ret (fret1 (v := .int _ _) rfl rfl rfl (⟨rfl, ((((e1.trans e2).trans e1q).trans e3).trans e1_16)⟩))))
set_option maxHeartbeats 1000000 in
theorem decOrder_spec (a b : Dec) (w : World) : RetsP Try.prog 32 #[.agg (encDec a).toArray, .agg (encDec b).toArray] w (.int .i64 (cmpDec a b)) := by
  rw [cmpDec_or]
  refine enter (args := [_, _]) Try.func32 rfl Try.ntmps32 (by kernel_rfl) rfl ?_
  refine V.seq (V.region (VL.box (v := .agg _) rfl fun b1 w1 hb1 e1 hX1 => VL.box (v := .agg _) rfl fun b2 w2 hb2 e2 hX2 => VL.op (R.asI rfl) (VL.nil (V.seq (V.regionQ mixed 10 (by kernel_rfl) rfl (fun w' => Ext _ w') (Ext.drawn _) (VQ.op (fun wq eq => R.fld' (o := 1) Try.runUnderlying39 rfl rfl Try.sizeOf37 rfl rfl) (VQ.op (fun wq eq => R.ldA Try.isAgg37 Try.sizeOf37 rfl rfl ((show RowAt _ _ _ (encKey a.a) from (((hX1.ext e2).ext eq).rowAt 1 3))) rfl) (VQ.op (fun wq eq => R.fld' (o := 1) Try.runUnderlying39 rfl rfl Try.sizeOf37 rfl rfl) (VQ.op (fun wq eq => R.ldA Try.isAgg37 Try.sizeOf37 rfl rfl ((show RowAt _ _ _ (encKey b.a) from ((hX2.ext eq).rowAt 1 3))) rfl) (VQ.callP (fun _ _ h k => Mod.trans h k) Try.call30 rfl (fun wq eq => order_spec a.a b.a _) (VQ.op (fun wq eq => R.fld' (o := 4) Try.runUnderlying39 rfl rfl Try.sizeOf37 rfl rfl) (VQ.op (fun wq eq => R.ldA Try.isAgg37 Try.sizeOf37 rfl rfl ((show RowAt _ _ _ (encKey a.b) from (((hX1.ext e2).ext eq).rowAt 4 3))) rfl) (VQ.op (fun wq eq => R.fld' (o := 4) Try.runUnderlying39 rfl rfl Try.sizeOf37 rfl rfl) (VQ.op (fun wq eq => R.ldA Try.isAgg37 Try.sizeOf37 rfl rfl ((show RowAt _ _ _ (encKey b.b) from ((hX2.ext eq).rowAt 4 3))) rfl) (VQ.callP (fun _ _ h k => Mod.trans h k) Try.call30 rfl (fun wq eq => order_spec a.b b.b _) (VQ.nil fun w1q e1q => VL.buildSl Try.runUnderlying26 Try.sizeOf3 Try.zeroValue3 rfl rfl rfl fun b3 w3 hb3 e3 hX3 => ?_))))))))))))))))
  refine VL.callP Try.call33 rfl (or_spec _ 2 [cmpKey a.a b.a, cmpKey a.b b.b] _ (by simp) (OwnT.sl (B := 0) (e := 3) (cap := 2) (OwnT.of_blk (l := [cmpKey a.a b.a, cmpKey a.b b.b]) hX3 (Nat.zero_le _) rfl (encI_len _) (by simp [maxLen])))) fun w1_11 e1_11 => VL.op (R.asI rfl) (VL.nil (V.ret (fret1 (v := .int _ _) rfl rfl rfl (⟨rfl, ((((e1.trans e2).trans e1q).trans e3).trans e1_11)⟩))))
/-- Keys and decisions of the reference. -/
def keyLt (a b : Key) : Bool := decide (cmpKey a b < 0)
theorem keyLt_eq (a b : Key) : keyLt a b = if a.src ≠ b.src then decide (a.src < b.src) else if a.tab ≠ b.tab then sLt a.tab b.tab else sLt a.rec_ b.rec_ := by
  unfold keyLt cmpKey thenC
  simp only [ne_eq, ite_not]
  by_cases h1 : a.src = b.src
  · rw [if_pos h1, if_pos ((cmpI_zero _ _).2 h1)]
    by_cases h2 : a.tab = b.tab
    · rw [if_pos h2, if_pos ((cmpG_zero _ _).2 h2)]
      by_cases h : sLt a.rec_ b.rec_ = true
      · rw [h]; exact decide_eq_true ((cmpG_neg _ _).2 h)
      · rw [Bool.eq_false_iff.2 h]; exact decide_eq_false fun e => h ((cmpG_neg _ _).1 e)
    · rw [if_neg h2, if_neg (fun e => h2 ((cmpG_zero _ _).1 e))]
      by_cases h : sLt a.tab b.tab = true
      · rw [h]; exact decide_eq_true ((cmpG_neg _ _).2 h)
      · rw [Bool.eq_false_iff.2 h]; exact decide_eq_false fun e => h ((cmpG_neg _ _).1 e)
  · rw [if_neg h1, if_neg (fun e => h1 ((cmpI_zero _ _).1 e))]
    exact decide_eq_decide.2 (cmpI_neg _ _)
end Go.Proofs.Ytlefkkelohhnkaa

/- Bond: equality of keys, decisions and pairs. -/
namespace Go.Proofs.Ytlefkkelohhnkaa
open Go.Vc

def encK (k : Key) : Value := .agg (encKey k).toArray
def encD (d : Dec) : Value := .agg (encDec d).toArray
def encPr (p : Int × Int) : List Value := [.int .i64 p.1, .int .i64 p.2]
def encP (p : Int × Int) : Value := .agg (encPr p).toArray
def encKK (p : Key × Key) : Value := .agg (encKey p.1 ++ encKey p.2).toArray
theorem key37 : KeyT Try.prog 37 encK where
  td := ⟨_, Try.underlying37, fun a b => .inl rfl⟩
  eq := by
    rintro ⟨k, n, t⟩ ⟨k', n', t'⟩ w
    show (Op.equalIn (9999 + 1) 37 _ _).run Try.prog w = _
    unfold Op.equalIn
    simp [go_sem, encK, encKey, ba_list]
    by_cases h1 : k = k' <;> by_cases h2 : n = n' <;> by_cases h3 : t = t' <;> simp [h1, h2, h3]
  chk := by
    rintro e ⟨k, n, t⟩ w
    have h1 := chkI (P := Try.prog) (T := 3) (n := 9998) (e := e) (k := .i64) (x := k) Try.runUnderlying3
    have h2 := chkG (P := Try.prog) (T := 9) (n := 9998) (e := e) (x := n) Try.runUnderlying9
    have h3 := chkG (P := Try.prog) (T := 9) (n := 9998) (e := e) (x := t) Try.runUnderlying9
    show (Instr.checkKey e (9999 + 1) 37 _).run Try.prog w = _
    unfold Instr.checkKey
    simp [go_sem, encK, encKey, h1, h2, h3]
  stay := by
    rintro ⟨k, n, t⟩
    show Instr.sameBits (9999 + 1) _ _ = true
    simp [encK, encKey, Instr.sameBits, ba_beq]
theorem chk37 (e : Bool) (a : Key) (w : World) : (Instr.checkKey e (9998 + 1) 37 (encK a)).run Try.prog w = .ok () w := by
  obtain ⟨k, n, t⟩ := a
  have h1 := chkI (P := Try.prog) (T := 3) (n := 9997) (e := e) (k := .i64) (x := k) Try.runUnderlying3
  have h2 := chkG (P := Try.prog) (T := 9) (n := 9997) (e := e) (x := n) Try.runUnderlying9
  have h3 := chkG (P := Try.prog) (T := 9) (n := 9997) (e := e) (x := t) Try.runUnderlying9
  unfold Instr.checkKey
  simp [go_sem, encK, encKey, h1, h2, h3]
theorem key39 : KeyT Try.prog 39 encD where
  td := ⟨_, Try.underlying39, fun a b => .inl rfl⟩
  eq := by
    rintro ⟨k, ⟨a1, a2, a3⟩, ⟨b1, b2, b3⟩⟩ ⟨k', ⟨a1', a2', a3'⟩, ⟨b1', b2', b3'⟩⟩ w
    show (Op.equalIn (9999 + 1) 39 _ _).run Try.prog w = _
    unfold Op.equalIn
    simp [go_sem, encD, encDec, encKey, ba_list]
    (repeat' split) <;> simp_all
  chk := by
    rintro e ⟨k, a, b⟩ w
    have h0 := chkI (P := Try.prog) (T := 3) (n := 9998) (e := e) (k := .i64) (x := k) Try.runUnderlying3
    have h1 := chk37 e a w
    have h2 := chk37 e b w
    show (Instr.checkKey e (9999 + 1) 39 _).run Try.prog w = _
    unfold Instr.checkKey
    simp [encK, encKey] at h1 h2
    simp [go_sem, encD, encDec, encKey, h0, h1, h2]
  stay := by
    rintro ⟨k, ⟨a1, a2, a3⟩, ⟨b1, b2, b3⟩⟩
    show Instr.sameBits (9999 + 1) _ _ = true
    simp [encD, encDec, encKey, Instr.sameBits, ba_beq]
theorem key48 : KeyT Try.prog 48 encP where
  td := ⟨_, Try.underlying48, fun a b => .inl rfl⟩
  eq := by
    rintro ⟨a, b⟩ ⟨a', b'⟩ w
    show (Op.equalIn (9999 + 1) 48 _ _).run Try.prog w = _
    unfold Op.equalIn
    have hr : List.range' 0 2 = [0, 1] := rfl
    simp [go_sem, encP, encPr, hr]
    (repeat' split) <;> simp_all
  chk := by
    rintro e ⟨a, b⟩ w
    have h1 := chkI (P := Try.prog) (T := 3) (n := 9998) (e := e) (k := .i64) (x := a) Try.runUnderlying3
    have h2 := chkI (P := Try.prog) (T := 3) (n := 9998) (e := e) (k := .i64) (x := b) Try.runUnderlying3
    show (Instr.checkKey e (9999 + 1) 48 _).run Try.prog w = _
    unfold Instr.checkKey
    have hr : List.range' 0 2 = [0, 1] := rfl
    simp [go_sem, encP, encPr, h1, h2, hr]
  stay := by
    rintro ⟨a, b⟩
    show Instr.sameBits (9999 + 1) _ _ = true
    simp [encP, encPr, Instr.sameBits]
theorem key57 : KeyT Try.prog 57 encKK where
  td := ⟨_, Try.underlying57, fun a b => .inl rfl⟩
  eq := by
    rintro ⟨⟨a1, a2, a3⟩, ⟨b1, b2, b3⟩⟩ ⟨⟨a1', a2', a3'⟩, ⟨b1', b2', b3'⟩⟩ w
    show (Op.equalIn (9999 + 1) 57 _ _).run Try.prog w = _
    unfold Op.equalIn
    have hr : List.range' 0 2 = [0, 1] := rfl
    simp [go_sem, encKK, encKey, ba_list, hr]
    (repeat' split) <;> simp_all
  chk := by
    rintro e ⟨a, b⟩ w
    have h1 := chk37 e a w
    have h2 := chk37 e b w
    show (Instr.checkKey e (9999 + 1) 57 _).run Try.prog w = _
    unfold Instr.checkKey
    simp [encK, encKey] at h1 h2
    have hr : List.range' 0 2 = [0, 1] := rfl
    simp [go_sem, encKK, encKey, h1, h2, hr]
  stay := by
    rintro ⟨⟨a1, a2, a3⟩, ⟨b1, b2, b3⟩⟩
    show Instr.sameBits (9999 + 1) _ _ = true
    simp [encKK, encKey, Instr.sameBits, ba_beq]
end Go.Proofs.Ytlefkkelohhnkaa

/- Bond: the reference's small functions; comparing pairs. -/
namespace Go.Proofs.Ytlefkkelohhnkaa
open Go.Vc

theorem getD_extT {α : Type} [Inhabited α] {l m : List α} (h : l.length = m.length) (hi : ∀ i, i < l.length → l.getD i default = m.getD i default) : l = m := by
  apply List.ext_getElem h
  intro i h1 h2
  have := hi i h1
  simpa [List.getD, h1, h2] using this
structure Rec where
  key : Key
  table : Int
  since : Int
  cells : Value
instance : Inhabited Rec := ⟨⟨default, 0, 0, undef⟩⟩
def encRec (r : Rec) : List Value := encKey r.key ++ [.int .i64 r.table, .int .i64 r.since, r.cells]
abbrev RecSl (w : World) (a : Option Addr) (l : List Rec) : Prop := TSl encRec 6 w a l
abbrev DecSl (w : World) (a : Option Addr) (l : List Dec) : Prop := TSl encDec 7 w a l
abbrev PrSl (w : World) (a : Option Addr) (l : List (Int × Int)) : Prop := TSl encPr 2 w a l
theorem encK_agg (v : Key) : ∃ cs, encK v = .agg cs := ⟨_, rfl⟩
theorem encD_agg (v : Dec) : ∃ cs, encD v = .agg cs := ⟨_, rfl⟩
theorem encP_agg (v : Int × Int) : ∃ cs, encP v = .agg cs := ⟨_, rfl⟩
theorem eltDec : Elt encDec 7 := ⟨fun _ => rfl, fun _ => rfl, by decide⟩
theorem eltPr : Elt encPr 2 := ⟨fun _ => rfl, fun _ => rfl, by decide⟩
theorem eltI : Elt encI 1 := ⟨fun _ => rfl, fun _ => rfl, by decide⟩

def fewB (n m : Nat) : Bool := decide (n ≤ 60) && decide (m ≤ 60)
theorem few_spec (a b : Option Addr) (ca cb n m : Nat) (w : World) : RetsP Try.prog 10 #[.slice a n ca, .slice b m cb] w (.bool (fewB n m)) := by
  refine enter (args := [_, _]) Try.func10 rfl Try.ntmps10 (by kernel_rfl) rfl ?_
  refine V.seq (V.region (VL.op (R.asB rfl) (VL.nil (V.seq (V.region (VL.op (R.mvS rfl) (VL.op (R.lenS Try.runUnderlying22 rfl) (VL.op (R.leq rfl rfl) (VL.op (R.mvB rfl) (VL.andP rfl rfl (fun g1_3 => VL.op (R.mvS rfl) (VL.gT rfl rfl (VL.op (R.lenS Try.runUnderlying23 rfl) (VL.gT rfl rfl (VL.op (R.leq rfl rfl) (VL.op (R.pickTB rfl rfl) (VL.op (R.asB rfl) (VL.nil (V.ret (fret1 (v := .bool _) rfl rfl rfl (⟨?_, (Mod.refl _ _)⟩))))))))))) (fun g1_3 => VL.gF rfl rfl (VL.gF rfl rfl (VL.op (R.pickFB rfl rfl) (VL.op (R.asB rfl) (VL.nil (V.ret (fret1 (v := .bool _) rfl rfl rfl (⟨?_, (Mod.refl _ _)⟩))))))))))))))))))
  · have e : fewB n m = decide ((m : Int) ≤ 60) := by
      unfold fewB
      rw [show decide (n ≤ 60) = true from decide_eq_true (by omega), Bool.true_and]
      exact decide_eq_decide.2 (by omega)
    rw [e]
  · have e : fewB n m = false := by
      unfold fewB
      rw [show decide (n ≤ 60) = false from decide_eq_false (by omega), Bool.false_and]
    rw [e]

theorem ints_spec (a b : Option Addr) (ca cb : Nat) (l m : List Int) (w : World) (hl : l.length ≤ 9223372036854775807) (hm : m.length ≤ 9223372036854775807) (hS : IntSl w a l) (hT : IntSl w b m) :
    RetsP Try.prog 13 #[.slice a l.length ca, .slice b m.length cb] w (.bool (decide (l = m))) := by
  refine enter (args := [_, _]) Try.func13 rfl Try.ntmps13 (by kernel_rfl) rfl ?_
  refine V.seq (V.region (VL.op (R.asB rfl) (VL.nil (V.seq (V.seq (V.region (VL.op (R.mvS rfl) (VL.op (R.lenS Try.runUnderlying26 rfl) (VL.op (R.mvS rfl) (VL.op (R.lenS Try.runUnderlying26 rfl) (VL.op (R.neq rfl rfl) (VL.nil (V.condP rfl (fun c10 => V.seq (V.region (VL.op (R.asB rfl) (VL.nil (V.ret (fret1 (v := .bool _) rfl rfl rfl (⟨?_, (Mod.refl _ _)⟩))))))) (fun c10 => V.skip (V.seq (V.seq (V.region (VL.op (R.asI rfl) (VL.nil (V.block (?_)))))))))))))))))))))
  · have : l ≠ m := by rintro rfl; exact c10 rfl
    simp [this]
  have hlm : l.length = m.length := by have := Classical.not_not.1 c10; omega
  refine V.loop [0, 1, 5] (fun k : Nat => [.slice a l.length ca, .slice b m.length cb, .int .i64 k]) (fun k w' => k ≤ l.length ∧ (∀ i, i < k → l.getD i default = m.getD i default) ∧ Ext w w') (fun k => l.length - k) 0 rfl ⟨by omega, by intro i hi; omega, Mod.refl _ _⟩ ?_
  rintro ρ k w1 ⟨hk, hi, e⟩
  refine V.seq (V.seq (V.region (VL.op (R.mvI rfl) (VL.op (R.mvS rfl) (VL.op (R.lenS Try.runUnderlying26 rfl) (VL.op (R.lss rfl rfl) (VL.nil (V.condP rfl (fun c14 => V.skip (V.seq (V.block (V.seq (V.regionQ mixed 9 (by kernel_rfl) rfl (fun w' => Ext _ w') (Ext.drawn _) (VQ.op (fun wq eq => R.mvS rfl) (VQ.op (fun wq eq => R.mvI rfl) (VQ.op (fun wq eq => R.ixS Try.runUnderlying26 Try.sizeOf3 rfl rfl (by omega) (by omega) ((hS).some (i := k) (by omega))) (VQ.op (fun wq eq => R.ld1 Try.isAgg3 rfl (((((hS).ext (e.trans eq)).row (i := k) (by omega)).cell (i := 0) rfl))) (VQ.op (fun wq eq => R.mvS rfl) (VQ.op (fun wq eq => R.mvI rfl) (VQ.op (fun wq eq => R.ixS Try.runUnderlying26 Try.sizeOf3 rfl rfl (by omega) (by omega) ((hT).some (i := k) (by omega))) (VQ.op (fun wq eq => R.ld1 Try.isAgg3 rfl (((((hT).ext (e.trans eq)).row (i := k) (by omega)).cell (i := 0) rfl))) (VQ.op (fun wq eq => R.neq rfl rfl) (VQ.nil fun w6q e6q => VL.nil (V.condP rfl (fun c25 => V.seq (V.region (VL.op (R.asB rfl) (VL.nil (V.ret (fret1 (v := .bool _) rfl rfl rfl (⟨?_, (e.trans e6q)⟩))))))) (fun c25 => V.skip (V.region (VL.op (R.mvI rfl) (VL.op (R.add rfl rfl (by omega) (by omega)) (VL.op (R.asI rfl) (VL.nil (⟨k + 1, rfl, ⟨by omega, ?_, (e.trans e6q)⟩, by omega⟩))))))))))))))))))))))) (fun c14 => V.exit (V.seq (V.region (VL.op (R.asB rfl) (VL.nil (V.ret (fret1 (v := .bool _) rfl rfl rfl (⟨?_, e⟩))))))))))))))))
  · have : l ≠ m := by rintro rfl; exact c25 rfl
    simp [this]
  · intro i hik
    by_cases h : i = k
    · subst h; exact Classical.not_not.1 c25
    · exact hi i (by omega)
  · have : l = m := getD_extT hlm fun i hik => hi i (by omega)
    simp [this]
theorem pairs_spec (a b : Option Addr) (ca cb : Nat) (l m : List (Int × Int)) (w : World) (hl : l.length ≤ 9223372036854775807) (hm : m.length ≤ 9223372036854775807) (hS : PrSl w a l) (hT : PrSl w b m) :
    RetsP Try.prog 14 #[.slice a l.length ca, .slice b m.length cb] w (.bool (decide (l = m))) := by
  refine enter (args := [_, _]) Try.func14 rfl Try.ntmps14 (by kernel_rfl) rfl ?_
  refine V.seq (V.region (VL.op (R.asB rfl) (VL.nil (V.seq (V.seq (V.region (VL.op (R.mvS rfl) (VL.op (R.lenS Try.runUnderlying27 rfl) (VL.op (R.mvS rfl) (VL.op (R.lenS Try.runUnderlying27 rfl) (VL.op (R.neq rfl rfl) (VL.nil (V.condP rfl (fun c10 => V.seq (V.region (VL.op (R.asB rfl) (VL.nil (V.ret (fret1 (v := .bool _) rfl rfl rfl (⟨?_, (Mod.refl _ _)⟩))))))) (fun c10 => V.skip (V.seq (V.seq (V.region (VL.op (R.asI rfl) (VL.nil (V.block (?_)))))))))))))))))))))
  · have : l ≠ m := by rintro rfl; exact c10 rfl
    simp [this]
  have hlm : l.length = m.length := by have := Classical.not_not.1 c10; omega
  refine V.loop [0, 1, 5] (fun k : Nat => [.slice a l.length ca, .slice b m.length cb, .int .i64 k]) (fun k w' => k ≤ l.length ∧ (∀ i, i < k → l.getD i default = m.getD i default) ∧ Ext w w') (fun k => l.length - k) 0 rfl ⟨by omega, by intro i hi; omega, Mod.refl _ _⟩ ?_
  rintro ρ k w1 ⟨hk, hi, e⟩
  refine V.seq (V.seq (V.region (VL.op (R.mvI rfl) (VL.op (R.mvS rfl) (VL.op (R.lenS Try.runUnderlying27 rfl) (VL.op (R.lss rfl rfl) (VL.nil (V.condP rfl (fun c14 => V.skip (V.seq (V.block (V.seq (V.regionQ mixed 9 (by kernel_rfl) rfl (fun w' => Ext _ w') (Ext.drawn _) (VQ.op (fun wq eq => R.mvS rfl) (VQ.op (fun wq eq => R.mvI rfl) (VQ.op (fun wq eq => R.ixS Try.runUnderlying27 Try.sizeOf48 rfl rfl (by omega) (by omega) ((hS).some (i := k) (by omega))) (VQ.op (fun wq eq => R.ldA Try.isAgg48 Try.sizeOf48 rfl rfl ((((hS).ext (e.trans eq)).row (i := k) (by omega))) rfl) (VQ.op (fun wq eq => R.mvS rfl) (VQ.op (fun wq eq => R.mvI rfl) (VQ.op (fun wq eq => R.ixS Try.runUnderlying27 Try.sizeOf48 rfl rfl (by omega) (by omega) ((hT).some (i := k) (by omega))) (VQ.op (fun wq eq => R.ldA Try.isAgg48 Try.sizeOf48 rfl rfl ((((hT).ext (e.trans eq)).row (i := k) (by omega))) rfl) (VQ.op (fun wq eq => R.neqK key48 Try.eqGuardType48 encP_agg (l.getD k default) (m.getD k default) rfl rfl) (VQ.nil fun w6q e6q => VL.nil (V.condP rfl (fun c25 => V.seq (V.region (VL.op (R.asB rfl) (VL.nil (V.ret (fret1 (v := .bool _) rfl rfl rfl (⟨?_, (e.trans e6q)⟩))))))) (fun c25 => V.skip (V.region (VL.op (R.mvI rfl) (VL.op (R.add rfl rfl (by omega) (by omega)) (VL.op (R.asI rfl) (VL.nil (⟨k + 1, rfl, ⟨by omega, ?_, (e.trans e6q)⟩, by omega⟩))))))))))))))))))))))) (fun c14 => V.exit (V.seq (V.region (VL.op (R.asB rfl) (VL.nil (V.ret (fret1 (v := .bool _) rfl rfl rfl (⟨?_, e⟩))))))))))))))))
  · have : l ≠ m := by rintro rfl; exact c25 rfl
    simp [this]
  · intro i hik
    by_cases h : i = k
    · subst h; exact Classical.not_not.1 c25
    · exact hi i (by omega)
  · have : l = m := getD_extT hlm fun i hik => hi i (by omega)
    simp [this]
theorem same_spec (a b : Option Addr) (ca cb : Nat) (l m : List Dec) (w : World) (hl : l.length ≤ 9223372036854775807) (hm : m.length ≤ 9223372036854775807) (hS : DecSl w a l) (hT : DecSl w b m) :
    RetsP Try.prog 15 #[.slice a l.length ca, .slice b m.length cb] w (.bool (decide (l = m))) := by
  refine enter (args := [_, _]) Try.func15 rfl Try.ntmps15 (by kernel_rfl) rfl ?_
  refine V.seq (V.region (VL.op (R.asB rfl) (VL.nil (V.seq (V.seq (V.region (VL.op (R.mvS rfl) (VL.op (R.lenS Try.runUnderlying23 rfl) (VL.op (R.mvS rfl) (VL.op (R.lenS Try.runUnderlying23 rfl) (VL.op (R.neq rfl rfl) (VL.nil (V.condP rfl (fun c10 => V.seq (V.region (VL.op (R.asB rfl) (VL.nil (V.ret (fret1 (v := .bool _) rfl rfl rfl (⟨?_, (Mod.refl _ _)⟩))))))) (fun c10 => V.skip (V.seq (V.seq (V.region (VL.op (R.asI rfl) (VL.nil (V.block (?_)))))))))))))))))))))
  · have : l ≠ m := by rintro rfl; exact c10 rfl
    simp [this]
  have hlm : l.length = m.length := by have := Classical.not_not.1 c10; omega
  refine V.loop [0, 1, 5] (fun k : Nat => [.slice a l.length ca, .slice b m.length cb, .int .i64 k]) (fun k w' => k ≤ l.length ∧ (∀ i, i < k → l.getD i default = m.getD i default) ∧ Ext w w') (fun k => l.length - k) 0 rfl ⟨by omega, by intro i hi; omega, Mod.refl _ _⟩ ?_
  rintro ρ k w1 ⟨hk, hi, e⟩
  refine V.seq (V.seq (V.region (VL.op (R.mvI rfl) (VL.op (R.mvS rfl) (VL.op (R.lenS Try.runUnderlying23 rfl) (VL.op (R.lss rfl rfl) (VL.nil (V.condP rfl (fun c14 => V.skip (V.seq (V.block (V.seq (V.regionQ mixed 9 (by kernel_rfl) rfl (fun w' => Ext _ w') (Ext.drawn _) (VQ.op (fun wq eq => R.mvS rfl) (VQ.op (fun wq eq => R.mvI rfl) (VQ.op (fun wq eq => R.ixS Try.runUnderlying23 Try.sizeOf39 rfl rfl (by omega) (by omega) ((hS).some (i := k) (by omega))) (VQ.op (fun wq eq => R.ldA Try.isAgg39 Try.sizeOf39 rfl rfl ((((hS).ext (e.trans eq)).row (i := k) (by omega))) rfl) (VQ.op (fun wq eq => R.mvS rfl) (VQ.op (fun wq eq => R.mvI rfl) (VQ.op (fun wq eq => R.ixS Try.runUnderlying23 Try.sizeOf39 rfl rfl (by omega) (by omega) ((hT).some (i := k) (by omega))) (VQ.op (fun wq eq => R.ldA Try.isAgg39 Try.sizeOf39 rfl rfl ((((hT).ext (e.trans eq)).row (i := k) (by omega))) rfl) (VQ.op (fun wq eq => R.neqK key39 Try.eqGuardType39 encD_agg (l.getD k default) (m.getD k default) rfl rfl) (VQ.nil fun w6q e6q => VL.nil (V.condP rfl (fun c25 => V.seq (V.region (VL.op (R.asB rfl) (VL.nil (V.ret (fret1 (v := .bool _) rfl rfl rfl (⟨?_, (e.trans e6q)⟩))))))) (fun c25 => V.skip (V.region (VL.op (R.mvI rfl) (VL.op (R.add rfl rfl (by omega) (by omega)) (VL.op (R.asI rfl) (VL.nil (⟨k + 1, rfl, ⟨by omega, ?_, (e.trans e6q)⟩, by omega⟩))))))))))))))))))))))) (fun c14 => V.exit (V.seq (V.region (VL.op (R.asB rfl) (VL.nil (V.ret (fret1 (v := .bool _) rfl rfl rfl (⟨?_, e⟩))))))))))))))))
  · have : l ≠ m := by rintro rfl; exact c25 rfl
    simp [this]
  · intro i hik
    by_cases h : i = k
    · subst h; exact Classical.not_not.1 c25
    · exact hi i (by omega)
  · have : l = m := getD_extT hlm fun i hik => hi i (by omega)
    simp [this]
theorem less_spec (a b : Key) (w : World) : RetsP Try.prog 36 #[.agg (encKey a).toArray, .agg (encKey b).toArray] w (.bool (keyLt a b)) := by
  rw [keyLt_eq]
  refine enter (args := [_, _]) Try.func36 rfl Try.ntmps36 (by kernel_rfl) rfl ?_
  refine V.seq (V.region (VL.box (v := .agg _) rfl fun b0_0 w0_0 hb0_0 e0_0 hB0_0 => VL.box (v := .agg _) rfl fun b0_1 w0_1 hb0_1 e0_1 hB0_1 => VL.op (R.asB rfl) (VL.nil (V.seq (V.seq (V.region (VL.op (R.fld' (o := 0) Try.runUnderlying37 rfl rfl Try.sizeOf3 rfl rfl) (VL.op (R.ld1 Try.isAgg3 rfl (((hB0_0.ext e0_1).cell _))) (VL.op (R.fld' (o := 0) Try.runUnderlying37 rfl rfl Try.sizeOf3 rfl rfl) (VL.op (R.ld1 Try.isAgg3 rfl ((hB0_1.cell _))) (VL.op (R.neq rfl rfl) (VL.nil (V.condP rfl (fun c9 => V.seq (V.region (VL.op (R.fld' (o := 0) Try.runUnderlying37 rfl rfl Try.sizeOf3 rfl rfl) (VL.op (R.ld1 Try.isAgg3 rfl (((hB0_0.ext e0_1).cell _))) (VL.op (R.fld' (o := 0) Try.runUnderlying37 rfl rfl Try.sizeOf3 rfl rfl) (VL.op (R.ld1 Try.isAgg3 rfl ((hB0_1.cell _))) (VL.op (R.lss rfl rfl) (VL.op (R.asB rfl) (VL.nil (V.ret (fret1 (v := .bool _) rfl rfl rfl (⟨?_, (e0_0.trans e0_1)⟩)))))))))))) (fun c9 => V.skip (V.seq (V.seq (V.region (VL.op (R.fld' (o := 1) Try.runUnderlying37 rfl rfl Try.sizeOf9 rfl rfl) (VL.op (R.ld1 Try.isAgg9 rfl (((hB0_0.ext e0_1).cell _))) (VL.op (R.fld' (o := 1) Try.runUnderlying37 rfl rfl Try.sizeOf9 rfl rfl) (VL.op (R.ld1 Try.isAgg9 rfl ((hB0_1.cell _))) (VL.op (R.neqG rfl rfl) (VL.nil (V.condP rfl (fun c19 => V.seq (V.region (VL.op (R.fld' (o := 1) Try.runUnderlying37 rfl rfl Try.sizeOf9 rfl rfl) (VL.op (R.ld1 Try.isAgg9 rfl (((hB0_0.ext e0_1).cell _))) (VL.op (R.fld' (o := 1) Try.runUnderlying37 rfl rfl Try.sizeOf9 rfl rfl) (VL.op (R.ld1 Try.isAgg9 rfl ((hB0_1.cell _))) (VL.op (R.lssG rfl rfl) (VL.op (R.asB rfl) (VL.nil (V.ret (fret1 (v := .bool _) rfl rfl rfl (⟨?_, (e0_0.trans e0_1)⟩)))))))))))) (fun c19 => V.skip (V.seq (V.region (VL.op (R.fld' (o := 2) Try.runUnderlying37 rfl rfl Try.sizeOf9 rfl rfl) (VL.op (R.ld1 Try.isAgg9 rfl (((hB0_0.ext e0_1).cell _))) (VL.op (R.fld' (o := 2) Try.runUnderlying37 rfl rfl Try.sizeOf9 rfl rfl) (VL.op (R.ld1 Try.isAgg9 rfl ((hB0_1.cell _))) (VL.op (R.lssG rfl rfl) (VL.op (R.asB rfl) (VL.nil (V.ret (fret1 (v := .bool _) rfl rfl rfl (⟨?_, (e0_0.trans e0_1)⟩)))))))))))))))))))))))))))))))))))))
  all_goals simp_all
def formed (d : Dec) : Bool := decide (1 ≤ d.kind) && decide (d.kind ≤ 3) && keyLt d.a d.b
theorem formed_spec (d : Dec) (w : World) : RetsP Try.prog 20 #[.agg (encDec d).toArray] w (.bool (formed d)) := by
  refine enter (args := [_]) Try.func20 rfl Try.ntmps20 (by kernel_rfl) rfl ?_
  refine V.seq (V.region (VL.box (v := .agg _) rfl fun b0_0 w0_0 hb0_0 e0_0 hB0_0 => VL.op (R.asB rfl) (VL.nil (V.seq (V.region (VL.op (R.fld' (o := 0) Try.runUnderlying39 rfl rfl Try.sizeOf3 rfl rfl) (VL.op (R.ld1 Try.isAgg3 rfl ((hB0_0.cell _))) (VL.op (R.geq rfl rfl) (VL.op (R.mvB rfl) (VL.andP rfl rfl (fun g1_3 => VL.op (R.fld' (o := 0) Try.runUnderlying39 rfl rfl Try.sizeOf3 rfl rfl) (VL.gT rfl rfl (VL.op (R.ld1 Try.isAgg3 rfl ((hB0_0.cell _))) (VL.gT rfl rfl (VL.op (R.leq rfl rfl) (VL.op (R.pickTB rfl rfl) (VL.op (R.mvB rfl) (VL.andP rfl rfl (fun g1_8 => VL.op (R.fld' (o := 1) Try.runUnderlying39 rfl rfl Try.sizeOf37 rfl rfl) (VL.gT rfl rfl (VL.op (R.ldA Try.isAgg37 Try.sizeOf37 rfl rfl ((show RowAt _ _ _ (encKey d.a) from (hB0_0.rowAt 1 3))) rfl) (VL.gT rfl rfl (VL.op (R.fld' (o := 4) Try.runUnderlying39 rfl rfl Try.sizeOf37 rfl rfl) (VL.gT rfl rfl (VL.op (R.ldA Try.isAgg37 Try.sizeOf37 rfl rfl ((show RowAt _ _ _ (encKey d.b) from (hB0_0.rowAt 4 3))) rfl) (VL.gT rfl rfl (VL.callP Try.call36 rfl (less_spec d.a d.b _) fun w1_13 e1_13 => VL.op (R.pickTB rfl rfl) (VL.op (R.asB rfl) (VL.nil (V.ret (fret1 (v := .bool _) rfl rfl rfl (⟨?_, (e0_0.trans e1_13)⟩)))))))))))))) (fun g1_8 => VL.gF rfl rfl (VL.gF rfl rfl (VL.gF rfl rfl (VL.gF rfl rfl (VL.op (R.pickFB rfl rfl) (VL.op (R.asB rfl) (VL.nil (V.ret (fret1 (v := .bool _) rfl rfl rfl (⟨?_, e0_0⟩)))))))))))))))))) (fun g1_3 => VL.gF rfl rfl (VL.gF rfl rfl (VL.op (R.pickFB rfl rfl) (VL.op (R.mvB rfl) (VL.gF rfl rfl (VL.gF rfl rfl (VL.gF rfl rfl (VL.gF rfl rfl (VL.gF rfl rfl (VL.op (R.pickFB rfl rfl) (VL.op (R.asB rfl) (VL.nil (V.ret (fret1 (v := .bool _) rfl rfl rfl (⟨?_, e0_0⟩)))))))))))))))))))))))))
  all_goals first | (simp_all [formed]; done) | (simp_all [formed]; omega)
def befD (a b : Dec) : Bool := decide (cmpDec a b < 0)
theorem befD_eq (a b : Dec) : befD a b = (keyLt a.a b.a || (decide (a.a = b.a) && keyLt a.b b.b)) := by
  unfold befD cmpDec thenC keyLt
  by_cases h : cmpKey a.a b.a = 0
  · rw [if_pos h, (cmpKey_zero _ _).1 h, cmpKey_cmp.self]; simp
  · rw [if_neg h, decide_eq_false (fun e => h ((cmpKey_zero _ _).2 e))]; simp
theorem before_spec (a b : Dec) (w : World) : RetsP Try.prog 21 #[.agg (encDec a).toArray, .agg (encDec b).toArray] w (.bool (befD a b)) := by
  rw [befD_eq]
  refine enter (args := [_, _]) Try.func21 rfl Try.ntmps21 (by kernel_rfl) rfl ?_
  refine V.seq (V.region (VL.box (v := .agg _) rfl fun b0_0 w0_0 hb0_0 e0_0 hB0_0 => VL.box (v := .agg _) rfl fun b0_1 w0_1 hb0_1 e0_1 hB0_1 => VL.op (R.asB rfl) (VL.nil (V.seq (V.region (VL.op (R.fld' (o := 1) Try.runUnderlying39 rfl rfl Try.sizeOf37 rfl rfl) (VL.op (R.ldA Try.isAgg37 Try.sizeOf37 rfl rfl ((show RowAt _ _ _ (encKey a.a) from ((hB0_0.ext e0_1).rowAt 1 3))) rfl) (VL.op (R.fld' (o := 1) Try.runUnderlying39 rfl rfl Try.sizeOf37 rfl rfl) (VL.op (R.ldA Try.isAgg37 Try.sizeOf37 rfl rfl ((show RowAt _ _ _ (encKey b.a) from (hB0_1.rowAt 1 3))) rfl) (VL.callP Try.call36 rfl (less_spec a.a b.a _) fun w1_4 e1_4 => VL.op (R.mvB rfl) (VL.or rfl rfl (fun g1_5 => VL.op (R.fld' (o := 1) Try.runUnderlying39 rfl rfl Try.sizeOf37 rfl rfl) (VL.gT rfl rfl (VL.op (R.ldA Try.isAgg37 Try.sizeOf37 rfl rfl ((show RowAt _ _ _ (encKey a.a) from (((hB0_0.ext e0_1).ext e1_4).rowAt 1 3))) rfl) (VL.gT rfl rfl (VL.op (R.fld' (o := 1) Try.runUnderlying39 rfl rfl Try.sizeOf37 rfl rfl) (VL.gT rfl rfl (VL.op (R.ldA Try.isAgg37 Try.sizeOf37 rfl rfl ((show RowAt _ _ _ (encKey b.a) from ((hB0_1.ext e1_4).rowAt 1 3))) rfl) (VL.gT rfl rfl (VL.op (R.eqlK key37 Try.eqGuardType37 encK_agg a.a b.a rfl rfl) (VL.gT rfl rfl (VL.op (R.mvB rfl) (VL.andP rfl rfl (fun g1_11 => VL.op (R.fld' (o := 4) Try.runUnderlying39 rfl rfl Try.sizeOf37 rfl rfl) (VL.gT rfl rfl (VL.op (R.ldA Try.isAgg37 Try.sizeOf37 rfl rfl ((show RowAt _ _ _ (encKey a.b) from (((hB0_0.ext e0_1).ext e1_4).rowAt 4 3))) rfl) (VL.gT rfl rfl (VL.op (R.fld' (o := 4) Try.runUnderlying39 rfl rfl Try.sizeOf37 rfl rfl) (VL.gT rfl rfl (VL.op (R.ldA Try.isAgg37 Try.sizeOf37 rfl rfl ((show RowAt _ _ _ (encKey b.b) from ((hB0_1.ext e1_4).rowAt 4 3))) rfl) (VL.gT rfl rfl (VL.callP Try.call36 rfl (less_spec a.b b.b _) fun w1_16 e1_16 => VL.gT rfl rfl (VL.op (R.pickTB rfl rfl) (VL.op (R.pickFB rfl rfl) (VL.op (R.asB rfl) (VL.nil (V.ret (fret1 (v := .bool _) rfl rfl rfl (⟨?_, (((e0_0.trans e0_1).trans e1_4).trans e1_16)⟩)))))))))))))))) (fun g1_11 => VL.gF rfl rfl (VL.gF rfl rfl (VL.gF rfl rfl (VL.gF rfl rfl (VL.gT rfl rfl (VL.op (R.pickFB rfl rfl) (VL.op (R.pickFB rfl rfl) (VL.op (R.asB rfl) (VL.nil (V.ret (fret1 (v := .bool _) rfl rfl rfl (⟨?_, ((e0_0.trans e0_1).trans e1_4)⟩)))))))))))))))))))))))) (fun g1_5 => VL.gF rfl rfl (VL.gF rfl rfl (VL.gF rfl rfl (VL.gF rfl rfl (VL.gF rfl rfl (VL.gU rfl rfl (VL.gU rfl rfl (VL.gU rfl rfl (VL.gU rfl rfl (VL.gU rfl rfl (VL.gF rfl rfl (VL.op (R.pickTB rfl rfl) (VL.op (R.asB rfl) (VL.nil (V.ret (fret1 (v := .bool _) rfl rfl rfl (⟨?_, ((e0_0.trans e0_1).trans e1_4)⟩))))))))))))))))))))))))))))
  all_goals simp_all
/-- The index of the first record with a key. -/
def idxF (l : List Rec) (k : Key) : Int := match l.findIdx? fun r => decide (r.key = k) with | some i => i | none => -1
theorem findIdx_at {α : Type} [Inhabited α] (p : α → Bool) (l : List α) (k : Nat) (hk : k < l.length) (h0 : ∀ i, i < k → p (l.getD i default) = false) (h1 : p (l.getD k default) = true) : l.findIdx? p = some k := by
  rw [List.findIdx?_eq_some_iff_getElem]
  refine ⟨hk, by simpa [List.getD, hk] using h1, fun j hj => ?_⟩
  have := h0 j hj
  simp [List.getD, show j < l.length by omega] at this
  simp [this]
theorem findIdx_none {α : Type} [Inhabited α] (p : α → Bool) (l : List α) (h0 : ∀ i, i < l.length → p (l.getD i default) = false) : l.findIdx? p = none := by
  rw [List.findIdx?_eq_none_iff]
  intro x hx
  obtain ⟨i, hi, rfl⟩ := List.getElem_of_mem hx
  have := h0 i hi
  simpa [List.getD, hi] using this
theorem index_spec (a : Option Addr) (ca : Nat) (l : List Rec) (k : Key) (w : World) (hl : l.length ≤ 9223372036854775807) (hS : RecSl w a l) :
    RetsP Try.prog 22 #[.slice a l.length ca, .agg (encKey k).toArray] w (.int .i64 (idxF l k)) := by
  refine enter (args := [_, _]) Try.func22 rfl Try.ntmps22 (by kernel_rfl) rfl ?_
  refine V.seq (V.region (VL.box (v := .agg _) rfl fun b1 w1 hb1 e1 hB1 => VL.op (R.asI rfl) (VL.nil (V.seq (V.seq (V.region (VL.op (R.asI rfl) (VL.nil (V.block (?_))))))))))
  refine V.loop [0, 3, 5] (fun j : Nat => [.slice a l.length ca, .pointer (some ⟨b1, 0, none⟩), .int .i64 j]) (fun j w' => j ≤ l.length ∧ (∀ i, i < j → decide ((l.getD i default).key = k) = false) ∧ Ext w1 w') (fun j => l.length - j) 0 rfl ⟨by omega, by intro i hi; omega, Mod.refl _ _⟩ ?_
  rintro ρ j w2 ⟨hj, hi, e⟩
  refine V.seq (V.seq (V.region (VL.op (R.mvI rfl) (VL.op (R.mvS rfl) (VL.op (R.lenS Try.runUnderlying22 rfl) (VL.op (R.lss rfl rfl) (VL.nil (V.condP rfl (fun c9 => V.skip (V.seq (V.block (V.seq (V.regionQ mixed 7 (by kernel_rfl) rfl (fun w' => Ext _ w') (Ext.drawn _) (VQ.op (fun wq eq => R.mvS rfl) (VQ.op (fun wq eq => R.mvI rfl) (VQ.op (fun wq eq => R.ixS Try.runUnderlying22 Try.sizeOf66 rfl rfl (by omega) (by omega) ((hS.ext e1).some (i := j) (by omega))) (VQ.op (fun wq eq => R.fld' (o := 0) Try.runUnderlying66 rfl rfl Try.sizeOf37 rfl rfl) (VQ.op (fun wq eq => R.ldA Try.isAgg37 Try.sizeOf37 rfl rfl ((show RowAt _ _ _ (encKey (l.getD j default).key) from ((((hS.ext e1).ext (e.trans eq)).row (i := j) (by omega)).sub 0 3 rfl))) rfl) (VQ.op (fun wq eq => R.ldA Try.isAgg37 Try.sizeOf37 rfl rfl ((hB1.ext (e.trans eq)).rowAt 0 3) rfl) (VQ.op (fun wq eq => R.eqlK key37 Try.eqGuardType37 encK_agg (l.getD j default).key k rfl rfl) (VQ.nil fun w4q e4q => VL.nil (V.condP rfl (fun c18 => V.seq (V.region (VL.op (R.mvI rfl) (VL.op (R.asI rfl) (VL.nil (V.ret (fret1 (v := .int _ _) rfl rfl rfl (⟨?_, e1.trans (e.trans e4q)⟩)))))))) (fun c18 => V.skip (V.region (VL.op (R.mvI rfl) (VL.op (R.add rfl rfl (by omega) (by omega)) (VL.op (R.asI rfl) (VL.nil (⟨j + 1, rfl, ⟨by omega, ?_, (e.trans e4q)⟩, by omega⟩))))))))))))))))))))) (fun c9 => V.exit (V.seq (V.region (VL.op (R.asI rfl) (VL.nil (V.ret (fret1 (v := .int _ _) rfl rfl rfl (⟨?_, e1.trans e⟩))))))))))))))))
  · have := findIdx_at (fun r : Rec => decide (r.key = k)) l j (by omega) hi (decide_eq_true c18)
    unfold idxF; rw [this]
  · intro i hij
    by_cases h : i = j
    · subst h; exact decide_eq_false c18
    · exact hi i (by omega)
  · have := findIdx_none (fun r : Rec => decide (r.key = k)) l fun i h => hi i (by omega)
    unfold idxF; rw [this]
end Go.Proofs.Ytlefkkelohhnkaa
