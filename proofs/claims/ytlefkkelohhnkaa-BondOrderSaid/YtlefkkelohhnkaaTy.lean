/- Facts on the types of the program, by program. -/
import Derived.Test.YtlefkkelohhnkaaRows
import Derived.Test.YtlefkkelohhnkaaVcOwn
namespace Go.Proofs.Ytlefkkelohhnkaa
open Go.Vc
theorem mixed : Try.prog.follows .mixedOrders = true := by kernel_rfl
theorem pl37 (w : World) : ((#[{ name := "Source", type := 3, offset := 0, embedded := false, tag := "", pkgPath := "", byteOffset := 0 }, { name := "Table", type := 9, offset := 1, embedded := false, tag := "", pkgPath := "", byteOffset := 8 }, { name := "Record", type := 9, offset := 2, embedded := false, tag := "", pkgPath := "", byteOffset := 24 }] : Array Field).mapM (m := Sem) fun f => do pure (f.offset, ← sizeOf f.type)).run Try.prog w = .ok [(0, 1), (1, 1), (2, 1)].toArray w := by
  simp [Array.mapM_eq_foldlM, Sem.run_bind, Try.sizeOf3, Try.sizeOf9, Result.andThen_ok, Sem.run_pure]
theorem pl39 (w : World) : ((#[{ name := "Kind", type := 3, offset := 0, embedded := false, tag := "", pkgPath := "", byteOffset := 0 }, { name := "A", type := 37, offset := 1, embedded := false, tag := "", pkgPath := "", byteOffset := 8 }, { name := "B", type := 37, offset := 4, embedded := false, tag := "", pkgPath := "", byteOffset := 48 }] : Array Field).mapM (m := Sem) fun f => do pure (f.offset, ← sizeOf f.type)).run Try.prog w = .ok [(0, 1), (1, 3), (4, 3)].toArray w := by
  simp [Array.mapM_eq_foldlM, Sem.run_bind, Try.sizeOf3, Try.sizeOf37, Result.andThen_ok, Sem.run_pure]
theorem pl66 (w : World) : ((#[{ name := "Key", type := 37, offset := 0, embedded := false, tag := "", pkgPath := "", byteOffset := 0 }, { name := "Table", type := 3, offset := 3, embedded := false, tag := "", pkgPath := "", byteOffset := 40 }, { name := "Since", type := 3, offset := 4, embedded := false, tag := "", pkgPath := "", byteOffset := 48 }, { name := "Cells", type := 64, offset := 5, embedded := false, tag := "", pkgPath := "", byteOffset := 56 }] : Array Field).mapM (m := Sem) fun f => do pure (f.offset, ← sizeOf f.type)).run Try.prog w = .ok [(0, 3), (3, 1), (4, 1), (5, 1)].toArray w := by
  simp [Array.mapM_eq_foldlM, Sem.run_bind, Try.sizeOf3, Try.sizeOf37, Try.sizeOf64, Result.andThen_ok, Sem.run_pure]
theorem el23 : ElT Try.prog 23 39 7 88 (Try.t39.zero.getD undef) := ⟨Try.underlying23, ⟨_, by unfold Tables.info?; rw [if_pos (by rw [Try.types_size]; decide)]; exact Try.type39, rfl, rfl, rfl⟩, rfl, by decide⟩
theorem el26 : ElT Try.prog 26 3 1 8 (Try.t3.zero.getD undef) := ⟨Try.underlying26, ⟨_, by unfold Tables.info?; rw [if_pos (by rw [Try.types_size]; decide)]; exact Try.type3, rfl, rfl, rfl⟩, rfl, by decide⟩
theorem el27 : ElT Try.prog 27 48 2 16 (Try.t48.zero.getD undef) := ⟨Try.underlying27, ⟨_, by unfold Tables.info?; rw [if_pos (by rw [Try.types_size]; decide)]; exact Try.type48, rfl, rfl, rfl⟩, rfl, by decide⟩
end Go.Proofs.Ytlefkkelohhnkaa
