/- The reference's others. -/
import Derived.Test.YtbckofoibdljgaaS6
namespace Go.Proofs.Ytbckofoibdljgaa
open Go.Vc

theorem filter_add {α : Type} (p : α → Bool) (l : List α) : l.length = (l.filter p).length + (l.filter fun x => !p x).length := by
  induction l with
  | nil => rfl
  | cons x l ih => by_cases h : p x = true <;> simp [List.filter_cons, h] <;> omega
theorem nodup_len (n : Nat) (d : List Int) (hd : d.Nodup) (hr : inR n d) : d.length ≤ n := by
  induction n generalizing d with
  | zero =>
    cases d with
    | nil => simp
    | cons x d => have := hr x (by simp); omega
  | succ n ih =>
    have h1 : (d.filter fun x => decide (x ≠ (n : Int))).length ≤ n := by
      refine ih _ (hd.filter _) ?_
      intro j hj
      have h := List.mem_filter.1 hj
      have := hr j h.1
      have := of_decide_eq_true h.2
      omega
    have h2 : (d.filter fun x => decide (x = (n : Int))).length ≤ 1 := by
      have h3 : (d.filter fun x => decide (x = (n : Int))) = d.filter (fun x => x == (n : Int)) := by congr
      rw [h3, ← List.count_eq_length_filter]
      exact List.nodup_iff_count.1 hd _
    have h4 := filter_add (fun x => decide (x = (n : Int))) d
    have h5 : (d.filter fun x => !decide (x = (n : Int))) = d.filter (fun x => decide (x ≠ (n : Int))) := by congr; funext x; simp
    rw [h5] at h4
    omega

def doneF (by_ : Int) (l : List Cell) (t : List Int) : Nat → List Int → List Int
  | 0, d => d
  | m + 1, d => if bestF by_ l t d < 0 then d else doneF by_ l t m (d ++ [bestF by_ l t d])
def rothersF (by_ : Int) (l : List Cell) (t : List Int) : List Int :=
  if rchooseF by_ l t < 0 then [] else (doneF by_ l t l.length [rchooseF by_ l t]).drop 1

theorem bestK_ok (by_ : Int) (l : List Cell) (t wl : List Int) (k : Nat) (h : 0 ≤ bestK by_ l t wl k) : okW l wl (bestK by_ l t wl k).toNat = true := by
  induction k with
  | zero => simp [bestK] at h
  | succ k ih =>
    rw [bestK] at h ⊢
    split at h
    · rename_i hc
      rw [if_pos hc]
      exact (Bool.and_eq_true _ _ ▸ hc).1
    · rename_i hc
      rw [if_neg hc]
      exact ih h
theorem bestF_new (by_ : Int) (l : List Cell) (t wl : List Int) (h : 0 ≤ bestF by_ l t wl) : bestF by_ l t wl ∉ wl := by
  intro hm
  have h1 := bestK_ok by_ l t wl l.length h
  unfold okW at h1
  rw [Bool.and_eq_true, List.all_eq_true] at h1
  have := h1.2 _ hm
  simp [diffB, bestF] at this

/-- The list that is made so far. -/
structure DoneJ (by_ : Int) (l : List Cell) (t : List Int) (d : List Int) : Prop where
  m : ∃ m, doneF by_ l t l.length [rchooseF by_ l t] = doneF by_ l t m d ∧ l.length + 1 ≤ m + d.length
  nd : d.Nodup
  r : inR l.length d
  pos : 1 ≤ d.length
theorem DoneJ.len {by_ : Int} {l : List Cell} {t d : List Int} (h : DoneJ by_ l t d) : d.length ≤ l.length := nodup_len _ _ h.nd h.r
theorem DoneJ.step {by_ : Int} {l : List Cell} {t d : List Int} (h : DoneJ by_ l t d) (hb : ¬ bestF by_ l t d < 0) : DoneJ by_ l t (d ++ [bestF by_ l t d]) := by
  obtain ⟨m, he, hm⟩ := h.m
  have := h.len
  cases m with
  | zero => omega
  | succ m =>
    rw [doneF, if_neg hb] at he
    refine ⟨⟨m, he, by simp; omega⟩, ?_, ?_, by simp⟩
    · rw [List.nodup_append]
      refine ⟨h.nd, by simp, ?_⟩
      intro x hx y hy hxy
      simp at hy
      subst hy; subst hxy
      exact bestF_new _ _ _ _ (by omega) hx
    · intro j hj
      rcases List.mem_append.1 hj with hj | hj
      · exact h.r j hj
      · simp at hj
        subst hj
        have := bestF_lt by_ l t d
        omega
theorem DoneJ.fin {by_ : Int} {l : List Cell} {t d : List Int} (h : DoneJ by_ l t d) (hb : bestF by_ l t d < 0) : doneF by_ l t l.length [rchooseF by_ l t] = d := by
  obtain ⟨m, he, hm⟩ := h.m
  rw [he]
  cases m with
  | zero => rfl
  | succ m => rw [doneF, if_pos hb]
theorem DoneJ.start (by_ : Int) (l : List Cell) (t : List Int) (h : ¬ rchooseF by_ l t < 0) : DoneJ by_ l t [rchooseF by_ l t] := by
  refine ⟨⟨l.length, rfl, by simp⟩, by simp, ?_, by simp⟩
  intro j hj
  simp at hj
  subst hj
  have := rchooseF_lt by_ l t
  omega

set_option maxHeartbeats 1000000 in
theorem rothers_spec (by_ : Int) (a b : Option Addr) (ca cb : Nat) (l : List Cell) (t : List Int) (w : World) (hm : l.length ≤ 1000000)
    (hS : CellSl w a l) (hT : IntSl w b t) :
    RetsX Try.prog 16 #[.int .i64 by_, .slice a l.length ca, .slice b t.length cb] w (fun x : Option Addr × Nat => .slice x.1 (rothersF by_ l t).length x.2) (fun x w' => IntSl w' x.1 (rothersF by_ l t) ∧ (x.1 = none → x.2 = 0)) := by
  refine enter (args := [_, _, _]) Try.func16 rfl Try.ntmps16 (by kernel_rfl) rfl ?_
  refine V.seq (V.region (VL.op (R.asS rfl) (VL.nil (V.seq (V.region (VL.op (R.mvI rfl) (VL.op (R.mvS rfl) (VL.op (R.mvS rfl) (VL.callP Try.call13 rfl (rchoose_spec by_ a b ca cb l t _ (by omega) (hS.ext (Mod.refl _ _)) (hT.ext (Mod.refl _ _))) fun w1_3 e1_3 => VL.op (R.asI rfl) (VL.nil (V.seq (V.seq (V.region (VL.op (R.mvI rfl) (VL.op (R.lss rfl rfl) (VL.nil (V.condP rfl (fun c15 => V.seq (V.region (VL.op (R.asS rfl) (VL.nil (V.ret (fret1 (v := .slice _ _ _) rfl rfl rfl (⟨(none, 0), ?_, ⟨?_, fun _ => rfl⟩, e1_3⟩))))))) (fun c15 => V.skip (V.seq (V.region (VL.op (R.mvI rfl) (VL.buildSl Try.runUnderlying23 Try.sizeOf3 Try.zeroValue3 rfl rfl rfl fun b4_1 w4_1 hb4_1 e4_1 hB4_1 => VL.op (R.asS rfl) (VL.nil (V.block (?_)))))))))))))))))))))))))
  · unfold rothersF; rw [if_pos c15]; rfl
  · unfold rothersF; rw [if_pos c15]; exact TSl.nil _ _ _ _
  have hr : rightB by_ l.length t.length = true := by
    by_cases h : rightB by_ l.length t.length = true
    · exact h
    · exfalso; apply c15; unfold rchooseF; rw [if_neg h]; decide
  simp [rightB] at hr
  have hO := OwnT.of_blk (enc := encI) (s := 1) (e := 3) (B := w.heap.size) (l := [rchooseF by_ l t]) hB4_1 (by rw [hb4_1]; exact e1_3.size) rfl (by simp [encI]) (by simp [maxLen])
  refine V.loop [0, 1, 2, 8] (fun x : List Int × Option Addr × Nat => [.int .i64 by_, .slice a l.length ca, .slice b t.length cb, .slice x.2.1 x.1.length x.2.2])
    (fun x w' => DoneJ by_ l t x.1 ∧ OwnT encI 1 3 w.heap.size w' x.2.1 x.2.2 x.1 ∧ Ext w w') (fun x => l.length + 1 - x.1.length) ([rchooseF by_ l t], some ⟨b4_1, 0, none⟩, 1) rfl ⟨DoneJ.start _ _ _ c15, hO, e1_3.trans e4_1⟩ ?_
  rintro ρ ⟨d, a2, c2⟩ w2 ⟨hd, ho, e⟩
  dsimp only at hd ho e ⊢
  have hd1 := hd.len
  have hd2 := hd.pos
  refine V.block (V.seq (V.region (VL.op (R.mvI rfl) (VL.op (R.mvS rfl) (VL.op (R.mvS rfl) (VL.op (R.mvS rfl) (VL.callP Try.call23 rfl (best_spec by_ a b a2 ca cb c2 l t d _ (by omega) (by omega) (by omega) (by omega) (by omega) hd.r (hS.ext e) (hT.ext e) ho.sl) fun w5_4 e5_4 => VL.op (R.asI rfl) (VL.nil (V.seq (V.seq (V.region (VL.op (R.mvI rfl) (VL.op (R.lss rfl rfl) (VL.nil (V.condP rfl (fun c24 => V.seq (V.region (VL.op (R.mvS rfl) (VL.op (R.slLo Try.runUnderlying23 Try.sizeOf3 rfl rfl (by omega) (by omega)) (VL.op (R.asS rfl) (VL.nil (V.ret (fret1 (v := .slice _ _ _) rfl rfl rfl (⟨(cutA a2 1 1 c2, c2 - 1), ?_, ⟨?_, ?_⟩, (e.trans e5_4)⟩))))))))) (fun c24 => V.skip (V.region (VL.op (R.mvS rfl) (VL.op (R.mvI rfl) (VL.append1 el23 Try.runUnderlying23 Try.sizeOf3 Try.zeroValue3 rfl (bestF by_ l t d) rfl rfl rfl (ho.ext e5_4) rfl rfl rfl (by omega) (by unfold maxLen; omega) ((e.trans e5_4)).size fun a3 c3 w3 vt hO3 hM3 hF3 => VL.op (R.asS rfl) (VL.nil (⟨(d ++ [bestF by_ l t d], a3, c3), ?_, ⟨hd.step c24, hO3, (Mod.ownA (e.trans e5_4) hM3 (fun k hk => (OwnSl.blk (ho.ext e5_4) k hk).1))⟩, by simp; omega⟩))))))))))))))))))))))
  · have hf : rothersF by_ l t = d.drop 1 := by unfold rothersF; rw [if_neg c15, hd.fin c24]
    rw [hf, List.length_drop]; rfl
  · have hf : rothersF by_ l t = d.drop 1 := by unfold rothersF; rw [if_neg c15, hd.fin c24]
    rw [hf]
    exact ((ho.ext e5_4).sl).drop 1 c2 (ho.cap)
  · obtain ⟨x, y, hx⟩ := ho.sl.some (i := 0) (by omega)
    intro h
    exfalso
    subst hx
    simp only [cutA] at h
    split at h <;> simp at h
  · rw [List.length_append]; rfl
end Go.Proofs.Ytbckofoibdljgaa
