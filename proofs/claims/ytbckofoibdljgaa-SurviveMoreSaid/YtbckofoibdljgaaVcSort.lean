/- A row of elements that is rewritten in place; calls that answer nothing but turn memory. -/
import Derived.Test.YtbckofoibdljgaaVcMap
import Derived.Sort.AssemblyPlain
namespace Go.Vc
open Go.Sort

theorem putCells_get (c : Array Value) (o : Nat) (vs : List Value) (h : o + vs.length ≤ c.size) (x : Nat) :
    (putCells c o vs)[x]? = if x < o then c[x]? else if x < o + vs.length then vs[x - o]? else c[x]? := by
  unfold putCells
  have ho : (c.toList.take o).length = o := by simp; omega
  by_cases h1 : x < o
  · rw [if_pos h1]
    simp only [List.getElem?_toArray]
    rw [List.append_assoc, List.getElem?_append_left (by omega), List.getElem?_take, if_pos h1]; simp
  · rw [if_neg h1]
    by_cases h2 : x < o + vs.length
    · rw [if_pos h2]
      simp only [List.getElem?_toArray]
      rw [List.append_assoc, List.getElem?_append_right (by omega), ho, List.getElem?_append_left (by omega)]
    · rw [if_neg h2]
      simp only [List.getElem?_toArray]
      rw [List.append_assoc, List.getElem?_append_right (by omega), ho, List.getElem?_append_right (by omega), List.getElem?_drop]
      rw [show o + vs.length + (x - o - vs.length) = x from by omega]; simp
theorem putCells_size (c : Array Value) (o : Nat) (vs : List Value) (h : o + vs.length ≤ c.size) : (putCells c o vs).size = c.size := by
  unfold putCells; simp; omega

/-- How the elements lie: 'K' cells each. -/
structure Elt {α : Type} (enc : α → List Value) (K : Nat) : Prop where
  len : ∀ x, (enc x).length = K
  one : ∀ x, allOne (enc x) = true
  pos : 0 < K
/-- A row that begins at 'a' holds 'd'; outside its block the memory is that of 'w0'. -/
structure Srt {α : Type} [Inhabited α] (enc : α → List Value) (K : Nat) (w0 : World) (a : Option Addr) (d : Array α) (w : World) : Prop where
  m : Mod (aBlk a) w0 w
  c : ∃ blk off c T, a = some ⟨blk, off, none⟩ ∧ Blk w blk (.cells c T (0, 0)) ∧ ∀ q, q < d.size → ∀ r, r < K → (c[off + q * K + r]? = (enc d[q]!)[r]? ∧ off + q * K + r < c.size)
section
variable {α : Type} [Inhabited α] {enc : α → List Value} {K : Nat} {w0 w w' : World} {a : Option Addr} {d : Array α}
theorem Srt.ext (h : Srt enc K w0 a d w) (e : Ext w w') : Srt enc K w0 a d w' := by
  obtain ⟨blk, off, c, T, ha, hB, hc⟩ := h.c
  exact ⟨h.m.then e fun _ _ h => h.elim, blk, off, c, T, ha, hB.ext e, hc⟩
theorem Srt.to {d' : Array α} (h : Srt enc K w0 a d w) (e : d = d') : Srt enc K w0 a d' w := e ▸ h
theorem Srt.rb (h : Srt enc K w0 a d w) : Srt enc K w a d w := ⟨Mod.refl _ _, h.c⟩
theorem Srt.back {d' : Array α} (h : Srt enc K w0 a d w) (k : Srt enc K w a d' w') : Srt enc K w0 a d' w' := ⟨h.m.then k.m fun _ _ h => h, k.c⟩
theorem Srt.ad (h : Srt enc K w0 a d w) : ∃ b off, a = some ⟨b, off, none⟩ := by
  obtain ⟨blk, off, c, T, ha, hB, hc⟩ := h.c
  exact ⟨blk, off, ha⟩
theorem Srt.row (E : Elt enc K) (h : Srt enc K w0 a d w) {j i : Nat} (he : j = i) (hi : i < d.size) : RowAt w (eAddr a K j).block (eAddr a K j).off (enc d[i]!) := by
  subst he
  obtain ⟨blk, off, c, T, rfl, hB, hc⟩ := h.c
  refine ⟨c, T, _, hB, fun r hr => ?_⟩
  rw [E.len] at hr
  exact (hc j hi r hr).1
theorem getD_bang (d : Array α) (i : Nat) : d.toList.getD i default = d[i]! := by
  rw [getElem!_def]
  simp [List.getD]
  cases d[i]? <;> rfl
theorem Srt.sl (E : Elt enc K) (h : Srt enc K w0 a d w) : TSl enc K w a d.toList := by
  obtain ⟨blk, off, c, T, rfl, hB, hc⟩ := h.c
  refine ⟨?_, .inr ⟨blk, off, rfl, c, T, _, hB, ?_⟩⟩
  · intro r hr
    obtain ⟨x, _, rfl⟩ := List.mem_map.1 hr
    exact E.len x
  · have hl : ∀ r ∈ d.toList.map enc, r.length = K := by
      intro r hr
      obtain ⟨x, _, rfl⟩ := List.mem_map.1 hr
      exact E.len x
    intro i hi
    rw [flatten_len _ K hl] at hi
    simp only [List.length_map, Array.length_toList] at hi
    have hp := E.pos
    have hq : i / K < d.size := by rw [Nat.div_lt_iff_lt_mul hp]; exact hi
    have hr : i % K < K := Nat.mod_lt _ hp
    have hi' : i / K * K + i % K = i := by rw [Nat.mul_comm]; exact Nat.div_add_mod i K
    have h1 := flatten_get _ K hl (i / K) (enc d[i / K]!) (by rw [← getD_bang]; simp [hq]) (i % K) hr
    rw [hi'] at h1
    rw [h1]
    have h2 := (hc _ hq _ hr).1
    rwa [Nat.add_assoc, hi'] at h2
theorem Srt.of_own {B e cap : Nat} (E : Elt enc K) (h : OwnT enc K e B w a cap d.toList) (hs : 0 < d.size) : Srt enc K w a d w := by
  have hl : ∀ r ∈ d.toList.map enc, r.length = K := h.len
  rcases h.own.2 with ⟨_, h0⟩ | ⟨g, cap', cur, hv, hB, hg, hn, hcs, hc, ht⟩
  · rw [List.length_map, Array.length_toList] at h0; omega
  · injection hv with ha _ _
    subst ha
    refine ⟨Mod.refl _ _, g, 0, cur, e, rfl, hg, fun q hq r hr => ?_⟩
    have hr2 : q * K + r < d.size * K := by
      calc q * K + r < q * K + K := by omega
        _ = (q + 1) * K := by rw [Nat.succ_mul]
        _ ≤ d.size * K := Nat.mul_le_mul_right _ (by omega)
    have h1 := flatten_get _ K hl q (enc d[q]!) (by rw [← getD_bang]; simp [hq]) r hr
    rw [Nat.zero_add, ← h1, ← ht, List.getElem?_take]
    have hlen : (d.toList.map enc).flatten.length = d.size * K := by rw [flatten_len _ K hl]; simp
    have hsz : (d.toList.map enc).flatten.length ≤ cur.size := by rw [← ht]; simp; omega
    refine ⟨?_, by omega⟩
    rw [if_pos (by simp; omega)]; simp
/-- An element is written. -/
theorem Srt.set (E : Elt enc K) {P : Program} {t : TypeId} (hsz : ∀ w, (sizeOf t).run P w = .ok K w) (h : Srt enc K w0 a d w) {i : Nat} (hi : i < d.size) {v : Value} {u : α} (hv : v.cells.toList = enc u) :
    ∃ w', (storeVar t (eAddr a K i) v).run P w = .ok () w' ∧ Srt enc K w0 a (d.setIfInBounds i u) w' := by
  obtain ⟨blk, off, c, T, rfl, hB, hc⟩ := h.c
  have hvs : v.cells.size = K := by rw [← E.len u, ← hv]; simp
  have hp := E.pos
  have hfit : off + i * K + K ≤ c.size := by have := (hc i hi (K - 1) (by omega)).2; omega
  refine ⟨_, storeVar_run (by simpa [hvs] using hsz) hB (by rw [hvs]; exact hfit) ((allOne_iff _).1 (by rw [hv]; exact E.one u)), ?_⟩
  refine ⟨h.m.then (setRow_mod _ _ _) fun x _ hx => ⟨_, rfl, hx.symm⟩, blk, off, _, T, rfl, setRow_heap w blk c _ T _ hB, fun q hq r hr => ?_⟩
  have hfit' : off + i * K + v.cells.toList.length ≤ c.size := by simpa [hvs] using hfit
  have hle : aoff (some ⟨blk, off, none⟩) + i * K = off + i * K := rfl
  rw [hle, putCells_get c _ _ hfit', putCells_size c _ _ hfit']
  have hq' : q < d.size := by simpa using hq
  have hl : v.cells.toList.length = K := by simpa using hvs
  rw [hl]
  refine ⟨?_, (hc q hq' r hr).2⟩
  by_cases hqi : q = i
  · subst hqi
    have e1 : (d.setIfInBounds q u)[q]! = u := by rw [getElem!_pos (d.setIfInBounds q u) q hq]; simp
    rw [e1, if_neg (by omega), if_pos (by omega), hv]
    congr 1; omega
  · have e1 : (d.setIfInBounds i u)[q]! = d[q]! := by
      rw [getElem!_pos (d.setIfInBounds i u) q hq, getElem!_pos d q hq', Array.getElem_setIfInBounds_ne hq' (Ne.symm hqi)]
    rw [e1]
    have : (if off + q * K + r < off + i * K then c[off + q * K + r]? else if off + q * K + r < off + i * K + K then v.cells.toList[off + q * K + r - (off + i * K)]? else c[off + q * K + r]?) = c[off + q * K + r]? := by
      by_cases h1 : q < i
      · have h2 : (q + 1) * K ≤ i * K := Nat.mul_le_mul_right _ h1
        rw [Nat.succ_mul] at h2
        rw [if_pos (by omega)]
      · have h2 : (i + 1) * K ≤ q * K := Nat.mul_le_mul_right _ (by omega)
        rw [Nat.succ_mul] at h2
        rw [if_neg (by omega), if_neg (by omega)]
    rw [this]
    exact (hc q hq' r hr).1
end

section
variable {α : Type} [Inhabited α] {enc : α → List Value} {K : Nat} {w0 w w' : World} {a : Option Addr} {d : Array α}
/-- One cell of an element is written. -/
theorem Srt.setCell (E : Elt enc K) {P : Program} {t : TypeId} (hsz : ∀ w, (sizeOf t).run P w = .ok 1 w) (h : Srt enc K w0 a d w) {i j : Nat} (hi : i < d.size) (hj : j < K) {v : Value} (hv : v.cells.toList = [v]) (h1 : v.oneCell' = true) {u : α} (hu : enc u = (enc d[i]!).set j v) :
    ∃ w', (storeVar t ⟨abk a, aoff a + i * K + j, none⟩ v).run P w = .ok () w' ∧ Srt enc K w0 a (d.setIfInBounds i u) w' := by
  obtain ⟨blk, off, c, T, rfl, hB, hc⟩ := h.c
  have hvs : v.cells.size = 1 := by have := congrArg List.length hv; simpa using this
  have hfit : off + i * K + j + 1 ≤ c.size := by have := (hc i hi j hj).2; omega
  refine ⟨_, storeVar_run (by simpa [hvs] using hsz) hB (by rw [hvs]; exact hfit) (by intro x hx; rw [hv] at hx; simp at hx; subst hx; exact h1), ?_⟩
  refine ⟨h.m.then (setRow_mod _ _ _) fun x _ hx => ⟨_, rfl, hx.symm⟩, blk, off, _, T, rfl, setRow_heap w blk c _ T _ hB, fun q hq r hr => ?_⟩
  have hl : v.cells.toList.length = 1 := by rw [hv]; rfl
  have hfit' : off + i * K + j + v.cells.toList.length ≤ c.size := by rw [hl]; exact hfit
  have hle : aoff (some ⟨blk, off, none⟩) + i * K + j = off + i * K + j := rfl
  rw [hle, putCells_get c _ _ hfit', putCells_size c _ _ hfit', hl]
  have hq' : q < d.size := by simpa using hq
  refine ⟨?_, (hc q hq' r hr).2⟩
  by_cases hqi : q = i
  · subst hqi
    have e1 : (d.setIfInBounds q u)[q]! = u := by rw [getElem!_pos (d.setIfInBounds q u) q hq]; simp
    rw [e1, hu, List.getElem?_set, E.len]
    by_cases hr1 : j = r
    · subst hr1
      rw [if_pos rfl, if_pos hj, if_neg (by omega), if_pos (by omega), hv]
      simp
    · rw [if_neg hr1]
      have : (if off + q * K + r < off + q * K + j then c[off + q * K + r]? else if off + q * K + r < off + q * K + j + 1 then v.cells.toList[off + q * K + r - (off + q * K + j)]? else c[off + q * K + r]?) = c[off + q * K + r]? := by
        by_cases h2 : r < j
        · rw [if_pos (by omega)]
        · rw [if_neg (by omega), if_neg (by omega)]
      rw [this]; exact (hc q hq' r hr).1
  · have e1 : (d.setIfInBounds i u)[q]! = d[q]! := by
      rw [getElem!_pos (d.setIfInBounds i u) q hq, getElem!_pos d q hq', Array.getElem_setIfInBounds_ne hq' (Ne.symm hqi)]
    rw [e1]
    have : (if off + q * K + r < off + i * K + j then c[off + q * K + r]? else if off + q * K + r < off + i * K + j + 1 then v.cells.toList[off + q * K + r - (off + i * K + j)]? else c[off + q * K + r]?) = c[off + q * K + r]? := by
      by_cases h1 : q < i
      · have h2 : (q + 1) * K ≤ i * K := Nat.mul_le_mul_right _ h1
        rw [Nat.succ_mul] at h2
        rw [if_pos (by omega)]
      · have h2 : (i + 1) * K ≤ q * K := Nat.mul_le_mul_right _ (by omega)
        rw [Nat.succ_mul] at h2
        rw [if_neg (by omega), if_neg (by omega)]
    rw [this]
    exact (hc q hq' r hr).1
/-- The same cells, read as other things. -/
theorem Srt.conv {β : Type} [Inhabited β] {enc' : β → List Value} {d' : Array β} (h : Srt enc K w0 a d w) (hs : d'.size = d.size) (he : ∀ q, q < d.size → enc' d'[q]! = enc d[q]!) : Srt enc' K w0 a d' w := by
  obtain ⟨blk, off, c, T, ha, hB, hc⟩ := h.c
  exact ⟨h.m, blk, off, c, T, ha, hB, fun q hq r hr => by rw [he q (by omega)]; exact hc q (by omega) r hr⟩
end

section
variable {P : Program} {N : Nat} {L : List Oper} {Q : Exit → Env → World → Prop} {ρ : Env} {w : World} {rest : List Oper}
variable {d : Nat} {q : Op} {ty : TypeId} {p : String} {af : Array Edge} {x y : Operand} {t : TypeId}
variable {α : Type} [Inhabited α] {enc : α → List Value} {K : Nat} {w0 : World} {a : Option Addr} {da : Array α}
theorem R.storeSt (E : Elt enc K) (hsz : ∀ w, (sizeOf t).run P w = .ok K w) (h : Srt enc K w0 a da w) {j i : Nat} (hx : tm ρ x = .pointer (some (eAddr a K j))) (he : j = i) (hi : i < da.size) {u : α} (hy : (tm ρ y).cells.toList = enc u) :
    ∃ w', run1 P ρ (.store t x y) ty w = .ok .skip w' ∧ Srt enc K w0 a (da.setIfInBounds i u) w' := by
  subst he
  obtain ⟨w', h1, h2⟩ := h.set E hsz hi hy
  refine ⟨w', ?_, h2⟩
  have h1 : (storeVar t ⟨abk a, aoff a + j * K, none⟩ (tm ρ y)).run P w = .ok () w' := h1
  simp only [run1, execOp, hx, Instr.storeAt, Instr.sureAddr, Sem.run_bind, Sem.run_pure, Result.andThen_ok, eAddr, h1]
theorem VL.storeSt (E : Elt enc K) (hsz : ∀ w, (sizeOf t).run P w = .ok K w) (hs : Srt enc K w0 a da w) {j i : Nat} (hx : tm ρ x = .pointer (some (eAddr a K j))) (he : j = i) (hi : i < da.size) {u : α} (hy : (tm ρ y).cells.toList = enc u)
    (h : ∀ w', Srt enc K w0 a (da.setIfInBounds i u) w' → VL P N L Q rest ρ w') :
    VL P N L Q ({ dst := none, op := .store t x y, type := ty, pos := p, after := af, guard := none } :: rest) ρ w := by
  obtain ⟨w', h1, h2⟩ := R.storeSt (P := P) (ρ := ρ) (ty := ty) E hsz hs hx he hi hy
  exact VL.op0 h1 (h w' h2)

theorem VL.storeCell (E : Elt enc K) (hsz : ∀ w, (sizeOf t).run P w = .ok 1 w) (hs : Srt enc K w0 a da w) {ad : Addr} {i j : Nat} (hx : tm ρ x = .pointer (some ad)) (had : ad = ⟨abk a, aoff a + i * K + j, none⟩) (hi : i < da.size) (hj : j < K) {v : Value} (hy : tm ρ y = v) (hv : v.cells.toList = [v]) (h1 : v.oneCell' = true) {u : α} (hu : enc u = (enc da[i]!).set j v)
    (h : ∀ w', Srt enc K w0 a (da.setIfInBounds i u) w' → VL P N L Q rest ρ w') :
    VL P N L Q ({ dst := none, op := .store t x y, type := ty, pos := p, after := af, guard := none } :: rest) ρ w := by
  subst had
  obtain ⟨w', h1, h2⟩ := hs.setCell E (P := P) (t := t) hsz hi hj hv h1 hu
  refine VL.op0 ?_ (h w' h2)
  simp only [run1, execOp, hx, hy, Instr.storeAt, Instr.sureAddr, Sem.run_bind, Sem.run_pure, Result.andThen_ok, h1]

/-- A call whose value is known, and what it leaves. -/
def RetsK (P : Program) (f : FuncId) (args : Array Value) (w : World) (v : Value) (K : World → Prop) : Prop := Rets P f args w fun u w' => u = v ∧ K w'
theorem VL.callK {f : FuncId} {l : List Operand} {vs : List Value} {ts : Array TypeId} {v : Value} {K : World → Prop} (hc : IsFn P f) (ha : l.map (tm ρ) = vs) (hf : RetsK P f vs.toArray w v K)
    (h : ∀ w', K w' → VL P N L Q rest (upd ρ d v) w') :
    VL P N L Q ({ dst := some d, op := .call { callee := .value (.func f), args := l.toArray, argTypes := ts }, type := ty, pos := p, after := af, guard := none } :: rest) ρ w :=
  VL.call hc ha (hf.mono fun _ w' ⟨hv, hK⟩ => by rw [hv]; exact h w' hK)
end
section
variable {P : Program} {N : Nat} {L : List Oper} {Q : Exit → Env → World → Prop} {ρ : Env} {l : List Oper} {C0 C1 : World → Prop} {m i j : Nat} {K : Env → Prop} {q : Op} {ty : TypeId} {p : String} {af : Array Edge}
theorem VW.wr0 (hr : ∀ w, C0 w → ∃ w', run1 P ρ q ty w = .ok .skip w' ∧ C1 w') (h : VW P L C0 C1 m j (i + 1) l ρ K) (hi : Nat.beq i m = true := by rfl) :
    VW P L C0 C1 m (j + 1) i ({ dst := none, op := q, type := ty, pos := p, after := af, guard := none } :: l) ρ K := by
  refine ⟨⟨fun _ => ⟨undef, ?_, h.go⟩, fun hw => by simp [wantedE, Region.wanted] at hw⟩⟩
  rw [hi, cond_true]
  intro w hw
  obtain ⟨w', h1, h2⟩ := hr w hw
  unfold yieldsTo; rw [run1_eq, h1]; exact ⟨rfl, h2⟩
end

section
variable {P : Program} {N : Nat} {L : List Oper} {Q : Exit → Env → World → Prop} {ρ : Env} {w : World} {rest : List Oper}
variable {d : Nat} {ty t t' : TypeId} {p : String} {af : Array Edge} {x : Operand}
theorem R.addE {y : Operand} {a b z : Int} (hx : tm ρ x = .int .i64 a) (hy : tm ρ y = .int .i64 b) (h : a + b = z) (h1 : -9223372036854775808 ≤ z) (h2 : z ≤ 9223372036854775807) :
    run1 P ρ (.binOp .add t x y t') ty w = .ok (.value (.int .i64 z)) w := by subst h; exact R.add hx hy h1 h2
theorem R.subE {y : Operand} {a b z : Int} (hx : tm ρ x = .int .i64 a) (hy : tm ρ y = .int .i64 b) (h : a - b = z) (h1 : -9223372036854775808 ≤ z) (h2 : z ≤ 9223372036854775807) :
    run1 P ρ (.binOp .sub t x y t') ty w = .ok (.value (.int .i64 z)) w := by subst h; exact R.sub hx hy h1 h2
theorem R.nilCheck {ad : Addr} (hx : tm ρ x = .pointer (some ad)) : run1 P ρ (.nilCheck x) ty w = .ok (.value (.pointer (some ad))) w := by
  simp [run1, go_sem, hx]
theorem wrap_u64 {n : Int} (h0 : 0 ≤ n) (h1 : n < 18446744073709551616) : IntKind.u64.wrap n = n := by
  simp [IntKind.wrap, IntKind.bits, IntKind.signed]; omega
theorem R.conv {src dst : TypeId} {D : TypeDesc} {k k0 : IntKind} {n : Int} (hs : ∀ w, (underlying src).run P w = .ok D w) (hd : ∀ w, (underlying dst).run P w = .ok (.int k) w) (hx : tm ρ x = .int k0 n) (hw : k.wrap n = n) :
    run1 P ρ (.convert src dst x) ty w = .ok (.value (.int k n)) w := by
  simp [run1, execOp, convert, Conv.intToInt, go_sem, hs, hd, hx, hw]
theorem R.subU {y : Operand} {a b : Int} (hx : tm ρ x = .int .u64 a) (hy : tm ρ y = .int .u64 b) (h1 : 0 ≤ a - b) (h2 : a - b < 18446744073709551616) :
    run1 P ρ (.binOp .sub t x y t') ty w = .ok (.value (.int .u64 (a - b))) w := by rw [R.subw hx hy, wrap_u64 h1 h2]
theorem R.shl {y : Operand} {k ky : IntKind} {a b : Int} (hx : tm ρ x = .int k a) (hy : tm ρ y = .int ky b) (h : 0 ≤ b) :
    run1 P ρ (.binOp .shl t x y t') ty w = .ok (.value (.int k (k.wrap (a * 2 ^ Min.min b.toNat k.bits)))) w := by
  have : ¬ b < 0 := by omega
  simp [run1, execOp, binOp, Op.shift, go_sem, hx, hy, this]
theorem R.shr {y : Operand} {k ky : IntKind} {a b : Int} (hx : tm ρ x = .int k a) (hy : tm ρ y = .int ky b) (h : 0 ≤ b) :
    run1 P ρ (.binOp .shr t x y t') ty w = .ok (.value (.int k (a.fdiv (2 ^ Min.min b.toNat k.bits)))) w := by
  have : ¬ b < 0 := by omega
  simp [run1, execOp, binOp, Op.shift, go_sem, hx, hy, this]
theorem R.xor {y : Operand} {k : IntKind} {a b : Int} (hx : tm ρ x = .int k a) (hy : tm ρ y = .int k b) :
    run1 P ρ (.binOp .xor t x y t') ty w = .ok (.value (.int k (k.wrap (BitVec.ofInt k.bits a ^^^ BitVec.ofInt k.bits b).toNat))) w := by
  simp [run1, execOp, binOp, Op.intBits, go_sem, hx, hy]
theorem R.andU {y : Operand} {a b : Int} (hx : tm ρ x = .int .u64 a) (hy : tm ρ y = .int .u64 b) :
    run1 P ρ (.binOp .and t x y t') ty w = .ok (.value (.int .u64 (IntKind.u64.wrap (BitVec.ofInt 64 a &&& BitVec.ofInt 64 b).toNat))) w := by
  simp [run1, execOp, binOp, Op.intBits, go_sem, hx, hy]; rfl
theorem and_le (a b : Int) (h0 : 0 ≤ b) (h1 : b < 18446744073709551616) : 0 ≤ IntKind.u64.wrap (BitVec.ofInt 64 a &&& BitVec.ofInt 64 b).toNat ∧ IntKind.u64.wrap (BitVec.ofInt 64 a &&& BitVec.ofInt 64 b).toNat ≤ b := by
  have h2 : (BitVec.ofInt 64 a &&& BitVec.ofInt 64 b).toNat ≤ (BitVec.ofInt 64 b).toNat := by
    rw [BitVec.toNat_and]; exact Nat.and_le_right
  have h3 : ((BitVec.ofInt 64 b).toNat : Int) = b := by
    rw [BitVec.toNat_ofInt]; omega
  rw [wrap_u64 (by omega) (by omega)]
  omega
/-- A call whose value is one of several, and what it leaves. -/
def RetsY {ι : Type} (P : Program) (f : FuncId) (args : Array Value) (w : World) (val : ι → Value) (K : ι → World → Prop) : Prop := Rets P f args w fun u w' => ∃ i, u = val i ∧ K i w'
theorem VL.callY {ι : Type} {f : FuncId} {l : List Operand} {vs : List Value} {ts : Array TypeId} {val : ι → Value} {K : ι → World → Prop} (hc : IsFn P f) (ha : l.map (tm ρ) = vs) (hf : RetsY P f vs.toArray w val K)
    (h : ∀ i w', K i w' → VL P N L Q rest (upd ρ d (val i)) w') :
    VL P N L Q ({ dst := some d, op := .call { callee := .value (.func f), args := l.toArray, argTypes := ts }, type := ty, pos := p, after := af, guard := none } :: rest) ρ w :=
  VL.call hc ha (hf.mono fun _ w' ⟨i, hv, hK⟩ => by rw [hv]; exact h i w' hK)
end
/-- A row that is sorted, and a counter beside it. -/
structure Swp {α : Type} [Inhabited α] (enc : α → List Value) (K : Nat) (w0 : World) (a : Option Addr) (d : Array α) (T : TypeId) (s : Nat) (v : Int) (w : World) : Prop where
  srt : Srt enc K w0 a d w
  lo : w0.heap.size ≤ s
  ab : abk a < w0.heap.size
  cell : Blk w s (.cells #[.int .i64 v] T (0, 0))
section
variable {α : Type} [Inhabited α] {enc : α → List Value} {K : Nat} {w0 w w' : World} {a : Option Addr} {d : Array α} {T : TypeId} {s : Nat} {v : Int}
theorem Srt.own (h : Srt enc K w0 a d w) (hs : w0.heap.size ≤ s) (ha : abk a < w0.heap.size) (m : Mod (one s) w w') : Srt enc K w0 a d w' := by
  obtain ⟨blk, off, c, T, rfl, hB, hc⟩ := h.c
  refine ⟨Mod.ownA h.m m fun x hx => by rw [hx]; exact hs, blk, off, c, T, rfl, hB.mod m fun e => ?_, hc⟩
  have e : blk = s := e
  have ha : blk < w0.heap.size := ha
  omega
theorem Swp.ext (h : Swp enc K w0 a d T s v w) (e : Ext w w') : Swp enc K w0 a d T s v w' := ⟨h.srt.ext e, h.lo, h.ab, h.cell.ext e⟩
theorem Swp.set {v' : Int} (h : Swp enc K w0 a d T s v w) (m : Mod (one s) w w') (hB : Blk w' s (.cells #[.int .i64 v'] T (0, 0))) : Swp enc K w0 a d T s v' w' :=
  ⟨h.srt.own h.lo h.ab m, h.lo, h.ab, hB⟩
end
end Go.Vc
