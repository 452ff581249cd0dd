/- Slices of the call's own: elements written in place, lists appended, slices that lie apart. -/
import Derived.Test.YtbckofoibdljgaaVcMap2
import Derived.Test.YtbckofoibdljgaaVcSort
namespace Go.Vc

section
variable {α : Type} [Inhabited α] {enc : α → List Value} {K e B cap : Nat} {w w' : World} {a : Option Addr} {l : List α}
theorem map_set_flat {enc : α → List Value} (hl : ∀ x, (enc x).length = K) (hp : 0 < K) (l : List α) {i j : Nat} (hi : i < l.length) {vs : List Value} (hj : j + vs.length ≤ K) {u : α}
    (hu : enc u = (enc (l.getD i default)).take j ++ vs ++ (enc (l.getD i default)).drop (j + vs.length)) (x : Nat) :
    ((l.set i u).map enc).flatten[x]? = if x < i * K + j then (l.map enc).flatten[x]? else if x < i * K + j + vs.length then vs[x - (i * K + j)]? else (l.map enc).flatten[x]? := by
  have h1 : ∀ r ∈ l.map enc, r.length = K := fun r hr => by obtain ⟨y, _, rfl⟩ := List.mem_map.1 hr; exact hl y
  have h2 : ∀ r ∈ (l.set i u).map enc, r.length = K := fun r hr => by obtain ⟨y, _, rfl⟩ := List.mem_map.1 hr; exact hl y
  have hx : x / K * K + x % K = x := by rw [Nat.mul_comm]; exact Nat.div_add_mod x K
  have hr : x % K < K := Nat.mod_lt _ hp
  by_cases hq : x / K < l.length
  · have e1 := flatten_get _ K h1 (x / K) (enc (l.getD (x / K) default)) (by simp [hq]) (x % K) hr
    have hq2 : x / K < (l.set i u).length := by simpa using hq
    have e2 := flatten_get _ K h2 (x / K) (enc ((l.set i u).getD (x / K) default)) (by rw [List.getElem?_map, List.getElem?_eq_getElem hq2, List.getD, List.getElem?_eq_getElem hq2]; rfl) (x % K) hr
    rw [hx] at e1 e2
    rw [e1, e2]
    have hg : l.getD i default = l[i] := by simp [List.getD, hi]
    by_cases hqi : x / K = i
    · have e3 : (l.set i u).getD (x / K) default = u := by rw [hqi]; simp [List.getD, hi]
      rw [e3, hu, hqi]
      rw [hqi] at hx
      have hlen := hl (l.getD i default)
      generalize enc (l.getD i default) = r0 at hlen
      by_cases c1 : x < i * K + j
      · rw [if_pos c1, List.append_assoc, List.getElem?_append_left (by simp [hlen]; omega), List.getElem?_take, if_pos (by omega)]
      · rw [if_neg c1]
        by_cases c2 : x < i * K + j + vs.length
        · rw [if_pos c2, List.append_assoc, List.getElem?_append_right (by simp [hlen]; omega), List.getElem?_append_left (by simp [hlen]; omega)]
          congr 1; simp [hlen]; omega
        · rw [if_neg c2, List.getElem?_append_right (by simp [hlen]; omega), List.getElem?_drop]
          congr 1; simp [hlen]; omega
    · have e3 : (l.set i u).getD (x / K) default = l.getD (x / K) default := by simp [List.getD, List.getElem?_set, Ne.symm hqi]
      rw [e3]
      have c : (if x < i * K + j then (enc (l.getD (x / K) default))[x % K]? else if x < i * K + j + vs.length then vs[x - (i * K + j)]? else (enc (l.getD (x / K) default))[x % K]?) = (enc (l.getD (x / K) default))[x % K]? := by
        rcases Nat.lt_or_gt_of_ne hqi with h | h
        · have h2 : (x / K + 1) * K ≤ i * K := Nat.mul_le_mul_right _ h
          rw [Nat.succ_mul] at h2
          rw [if_pos (by omega)]
        · have h2 : (i + 1) * K ≤ x / K * K := Nat.mul_le_mul_right _ h
          rw [Nat.succ_mul] at h2
          rw [if_neg (by omega), if_neg (by omega)]
      rw [c]
  · have hge : l.length * K ≤ x := by
      have h2 : l.length * K ≤ x / K * K := Nat.mul_le_mul_right _ (by omega)
      omega
    have h3 : (i + 1) * K ≤ l.length * K := Nat.mul_le_mul_right _ hi
    rw [Nat.succ_mul] at h3
    rw [if_neg (by omega), if_neg (by omega), List.getElem?_eq_none (by rw [flatten_len _ K h2]; simp; exact hge), List.getElem?_eq_none (by rw [flatten_len _ K h1]; simp; exact hge)]

/-- Part of an element is written. -/
theorem OwnT.put (E : Elt enc K) (h : OwnT enc K e B w a cap l) {i j : Nat} (hi : i < l.length) {P : Program} {t : TypeId} {v : Value} (hsz : ∀ w, (sizeOf t).run P w = .ok v.cells.size w) (hj : j + v.cells.size ≤ K) (h1 : allOne v.cells.toList = true) {u : α}
    (hu : enc u = (enc (l.getD i default)).take j ++ v.cells.toList ++ (enc (l.getD i default)).drop (j + v.cells.size)) :
    ∃ w', (storeVar t ⟨abk a, aoff a + i * K + j, none⟩ v).run P w = .ok () w' ∧ OwnT enc K e B w' a cap (l.set i u) ∧ Mod (aBlk a) w w' ∧ w'.heap.size = w.heap.size := by
  have hl : ∀ r ∈ l.map enc, r.length = K := h.len
  have hl2 : ∀ r ∈ (l.set i u).map enc, r.length = K := fun r hr => by obtain ⟨y, _, rfl⟩ := List.mem_map.1 hr; exact E.len y
  have hf : (l.map enc).flatten.length = l.length * K := by rw [flatten_len _ K hl, List.length_map]
  have h3 : (i + 1) * K ≤ l.length * K := Nat.mul_le_mul_right _ hi
  rw [Nat.succ_mul] at h3
  rcases h.own.2 with ⟨_, h0⟩ | ⟨g, cap', cur, hv, hB, hg, hn, hcs, hc, ht⟩
  · rw [List.length_map] at h0; omega
  · injection hv with ha hn' hcap
    subst ha
    simp only [List.length_map] at hn ht hcap
    have h4 : l.length * K ≤ cap' * K := Nat.mul_le_mul_right _ hn
    have hfit : i * K + j + v.cells.size ≤ cur.size := by omega
    have hoff : aoff (some ⟨g, 0, none⟩) + i * K + j = i * K + j := by show 0 + i * K + j = _; omega
    refine ⟨_, storeVar_run (b := g) (off := aoff (some ⟨g, 0, none⟩) + i * K + j) hsz hg (by rw [hoff]; exact hfit) ((allOne_iff _).1 h1), ?_, (setRow_mod _ _ _).weaken fun x _ hx => ⟨_, rfl, hx.symm⟩, by simp [World.setRow]⟩
    rw [hoff]
    refine ⟨hl2, ?_, .inr ⟨g, cap', _, by rw [hcap], hB, setRow_heap w g cur _ e _ hg, by simpa using hn, hcs, ?_, ?_⟩⟩
    · rw [flatten_len _ K hl2]
    · rw [putCells_size _ _ _ (by simpa using hfit)]; exact hc
    · refine List.ext_getElem? fun x => ?_
      have e := map_set_flat E.len E.pos l hi (vs := v.cells.toList) (by simpa using hj) (by simpa using hu) x
      rw [e, List.getElem?_take]
      have ep := putCells_get cur (i * K + j) v.cells.toList (by simpa using hfit) x
      have ep' : (putCells cur (i * K + j) v.cells.toList).toList[x]? = (putCells cur (i * K + j) v.cells.toList)[x]? := by simp
      simp only [List.length_map, List.length_set]
      by_cases hx : x < l.length * K
      · rw [if_pos hx, ep', ep, ← ht, List.getElem?_take, if_pos hx]
        simp
      · rw [if_neg hx, if_neg (by omega), if_neg (by simp; omega), List.getElem?_eq_none (by omega)]

def Sep (a b : Option Addr) : Prop := ∀ k, aBlk a k → ¬ aBlk b k
theorem Sep.symm {a b : Option Addr} (h : Sep a b) : Sep b a := fun k h1 h2 => h k h2 h1
theorem Sep.nil (b : Option Addr) : Sep none b := fun _ h => by obtain ⟨_, h, _⟩ := h; cases h
theorem Sep.nil' (b : Option Addr) : Sep b none := (Sep.nil b).symm
/-- A slice that has grown still lies apart from one that was there. -/
theorem Sep.grown {a a' b : Option Addr} {n : Nat} (h : Sep a b) (hf : ∀ k, aBlk a' k → aBlk a k ∨ n ≤ k) (hb : ∀ k, aBlk b k → k < n) : Sep a' b := by
  intro k h1 h2
  rcases hf k h1 with h3 | h3
  · exact h k h3 h2
  · have := hb k h2; omega
theorem Sep.fresh {a b : Option Addr} {n : Nat} (ha : ∀ k, aBlk a k → n ≤ k) (hb : ∀ k, aBlk b k → k < n) : Sep a b := fun k h1 h2 => by have := ha k h1; have := hb k h2; omega
theorem OwnT.lt {α : Type} {enc : α → List Value} {s e B : Nat} {w : World} {a : Option Addr} {cap : Nat} {l : List α} (h : OwnT enc s e B w a cap l) : ∀ k, aBlk a k → k < w.heap.size := fun k hk => (OwnSl.blk h k hk).2
theorem OwnT.ge {α : Type} {enc : α → List Value} {s e B : Nat} {w : World} {a : Option Addr} {cap : Nat} {l : List α} (h : OwnT enc s e B w a cap l) : ∀ k, aBlk a k → B ≤ k := fun k hk => (OwnSl.blk h k hk).1
theorem OwnT.weaken {α : Type} {enc : α → List Value} {s e B B' : Nat} {w : World} {a : Option Addr} {cap : Nat} {l : List α} (h : OwnT enc s e B w a cap l) (hB : B' ≤ B) : OwnT enc s e B' w a cap l := OwnSl.weaken h hB
theorem OwnT.of0 {α : Type} (enc : α → List Value) (s : Nat) {e B b : Nat} {w : World} (h : Blk w b (.cells #[] e (0, 0))) (hB : B ≤ b) : OwnT enc s e B w (some ⟨b, 0, none⟩) 0 [] :=
  OwnT.of_blk (l := ([] : List α)) h hB rfl (by simp) (Nat.zero_le _)
theorem OwnT.of1 {α : Type} (enc : α → List Value) (s : Nat) {e B b : Nat} {w : World} (u : α) {cs : Array Value} (h : Blk w b (.cells cs e (0, 0))) (hB : B ≤ b) (hu : enc u = cs.toList) (hs : (enc u).length = s) : OwnT enc s e B w (some ⟨b, 0, none⟩) 1 [u] :=
  OwnT.of_blk (l := [u]) h hB (by simpa using hu) (by simpa using hs) (show 1 ≤ maxLen by decide)
theorem OwnT.hax {α : Type} {enc : α → List Value} {s e B : Nat} {w : World} {a : Option Addr} {cap : Nat} {l : List α} (h : OwnT enc s e B w a cap l) (ha : a = none) : cap = 0 := by
  rcases h.own.2 with ⟨hv, _⟩ | ⟨g, cap', cur, hv, _⟩
  · injection hv
  · injection hv with h1; rw [ha] at h1; cases h1
theorem aBlk_some {b off : Nat} {k : Nat} (h : aBlk (some ⟨b, off, none⟩) k) : k = b := by obtain ⟨_, h, rfl⟩ := h; injection h with h; subst h; rfl
/-- A slice that came in lies below what the call makes. -/
theorem TSl.mod0 {α : Type} {enc : α → List Value} {s : Nat} {w w' : World} {a : Option Addr} {l : List α} {S : Nat → Prop} {n : Nat} (h : TSl enc s w a l) (m : Mod S w w') (hS : ∀ k, S k → n ≤ k) (hn : w.heap.size ≤ n) : TSl enc s w' a l :=
  TSl.ext h (m.weaken fun x hx hs => by have := hS x hs; omega)
end

section
variable {P : Program} {N : Nat} {L : List Oper} {Q : Exit → Env → World → Prop} {ρ : Env} {w : World} {rest : List Oper}
variable {d : Nat} {ty : TypeId} {p : String} {af : Array Edge} {x y : Operand} {t : TypeId}
variable {α : Type} [Inhabited α] {enc : α → List Value} {K e B cap : Nat} {a : Option Addr} {l : List α}
theorem R.ownSt (E : Elt enc K) {v : Value} {s : Nat} (hsz : ∀ w, (sizeOf t).run P w = .ok s w) (h : OwnT enc K e B w a cap l) {ad : Addr} (i j : Nat) (u : α) (hx : tm ρ x = .pointer (some ad)) (had : ad = ⟨abk a, aoff a + i * K + j, none⟩) (hi : i < l.length)
    (hy : tm ρ y = v) (hs : v.cells.size = s) (hj : Nat.ble (j + s) K = true) (h1 : allOne v.cells.toList = true) (hu : enc u = (enc (l.getD i default)).take j ++ v.cells.toList ++ (enc (l.getD i default)).drop (j + s)) :
    ∃ w', run1 P ρ (.store t x y) ty w = .ok .skip w' ∧ OwnT enc K e B w' a cap (l.set i u) ∧ Mod (aBlk a) w w' ∧ w'.heap.size = w.heap.size := by
  subst had; subst hs
  obtain ⟨w', e1, e2, e3, e4⟩ := h.put E (P := P) (t := t) hi hsz (Nat.le_of_ble_eq_true hj) h1 hu
  refine ⟨w', ?_, e2, e3, e4⟩
  simp only [run1, execOp, hx, hy, Instr.storeAt, Instr.sureAddr, Sem.run_bind, Sem.run_pure, Result.andThen_ok, e1]
theorem VL.ownSt (E : Elt enc K) {v : Value} {s : Nat} (hsz : ∀ w, (sizeOf t).run P w = .ok s w) (h : OwnT enc K e B w a cap l) {ad : Addr} (i j : Nat) (u : α) (hx : tm ρ x = .pointer (some ad)) (had : ad = ⟨abk a, aoff a + i * K + j, none⟩) (hi : i < l.length)
    (hy : tm ρ y = v) (hs : v.cells.size = s) (hj : Nat.ble (j + s) K = true) (h1 : allOne v.cells.toList = true) (hu : enc u = (enc (l.getD i default)).take j ++ v.cells.toList ++ (enc (l.getD i default)).drop (j + s))
    (k : ∀ w', OwnT enc K e B w' a cap (l.set i u) → Mod (aBlk a) w w' → w'.heap.size = w.heap.size → VL P N L Q rest ρ w') :
    VL P N L Q ({ dst := none, op := .store t x y, type := ty, pos := p, after := af, guard := none } :: rest) ρ w := by
  obtain ⟨w', e1, e2, e3, e4⟩ := R.ownSt (P := P) (ρ := ρ) (ty := ty) E hsz h i j u hx had hi hy hs hj h1 hu
  exact VL.op0 e1 (k w' e2 e3 e4)

end
theorem R.remE {P : Program} {ρ : Env} {w : World} {ty t ty2 : TypeId} {x y : Operand} {k : IntKind} {a b z : Int} (hx : tm ρ x = .int k a) (hy : tm ρ y = .int k b) (h1 : 0 ≤ a) (h2 : 0 < b) (hz : a % b = z) :
    run1 P ρ (.binOp .rem t x y ty2) ty w = .ok (.value (.int k z)) w := by rw [← hz]; exact R.rem hx hy h1 h2
section
variable {P : Program} {N : Nat} {L : List Oper} {Q : Exit → Env → World → Prop} {ρ : Env} {w : World} {rest : List Oper}
variable {d : Nat} {ty : TypeId} {p : String} {af : Array Edge} {x y : Operand} {t : TypeId}
variable {α : Type} {enc : α → List Value} {e B cap : Nat} {a : Option Addr} {l : List α}
theorem VL.appendT {s bytes : Nat} {z : Value} (E : ElT P t e s bytes z) {n : Nat} {ax : Option Addr} {m c : Nat} {news : List α}
    (hone : ∀ u, allOne (enc u) = true) (hx : tm ρ x = .slice a n cap) (hn : n = l.length) (hown : OwnT enc s e B w a cap l) (hy : tm ρ y = .slice ax m c) (hm : m = news.length) (hs : TSl enc s w ax news) (hax : ax = none → c = 0)
    (hbytes : (l.length + news.length) * bytes ≤ 140737488355328) (h63 : l.length + news.length ≤ maxLen) (hB : B ≤ w.heap.size) {nm : Nat} (hN : n + m = nm)
    (h : ∀ a' cap' w', OwnT enc s e B w' a' cap' (l ++ news) → Mod (aBlk a) w w' → (∀ k, aBlk a' k → aBlk a k ∨ w.heap.size ≤ k) → VL P N L Q rest (upd ρ d (.slice a' nm cap')) w') :
    VL P N L Q ({ dst := some d, op := .call { callee := .builtin .append, args := #[x, y], argTypes := #[t, t] }, type := ty, pos := p, after := af, guard := none } :: rest) ρ w := by
  subst hN
  refine VL.append E hx (by rw [hn]; simp) hown hy (by rw [hm]; simp) hs hax ?_ (by simpa using hbytes) (by simpa using h63) hB fun a' cap' w' ho hm' hf => h a' cap' w' ?_ hm' hf
  · intro r hr u hu
    obtain ⟨y, _, rfl⟩ := List.mem_map.1 hr
    exact (allOne_iff _).1 (hone y) u hu
  · unfold OwnT; rw [List.map_append]; exact ho
end
end Go.Vc
