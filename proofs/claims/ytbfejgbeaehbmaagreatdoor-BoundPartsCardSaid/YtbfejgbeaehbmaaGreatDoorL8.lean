/- Hyper: the walk of law HyperFixed. -/
import Derived.Test.YtbfejgbeaehbmaaGreatDoorL4
import Derived.Test.YtbfejgbeaehbmaaGreatDoorJ
namespace Go.Proofs.YtbfejgbeaehbmaaGreatDoor
open Go.Vc
theorem GIn.glen {w : World} {g : GrW} {m : Int} (h : GIn w g) (hf : FewE g.edges m) : GLen g := ⟨h.c, h.e.len, fun x hx => ⟨by have := hf.e x hx; omega, (h.e.each x hx).2.1⟩⟩
theorem verts_is (a : Option Addr) (c : Nat) (l : List Int) (n : Int) (w : World) (hl : l.length ≤ 1000000) (hS : IntSl w a l) (h : setB l n = true) :
    RetsP Tryz.prog 60 #[.slice a l.length c, .int .i64 n] w (.bool true) := by
  have := verts_spec a c l n w (by omega) hS
  rwa [h] at this
theorem freeK_set (E : List (List Int)) (N : Nat) : setB (freeK E N) (N : Int) = true := setB_iff.2 ⟨freeK_inc E N, fun x hx => by have := freeK_mem.1 hx; omega⟩
theorem aloneK_set (E : List (List Int)) (N : Nat) : setB (aloneK E N) (N : Int) = true := setB_iff.2 ⟨aloneK_inc E N, fun x hx => by have := aloneK_mem.1 hx; omega⟩
theorem filt_len (p : Nat → Bool) (k : Nat) : (((List.range k).filter p).map fun i => ((i : Nat) : Int)).length ≤ k := by
  rw [List.length_map]; exact Nat.le_trans (List.length_filter_le _ _) (by simp)
end Go.Proofs.YtbfejgbeaehbmaaGreatDoor
