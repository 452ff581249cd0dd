/- Facts on the types of the program, by program. -/
import Derived.Test.YtglaigeellpikaaRows
import Derived.Test.YtglaigeellpikaaXVcOwn
namespace Go.Proofs.Ytglaigeellpikaa
open Go.Vc
theorem mixed : Try.prog.follows .mixedOrders = true := by kernel_rfl
theorem pl40 (w : World) : ((#[{ name := "A", type := 3, offset := 0, embedded := false, tag := "", pkgPath := "", byteOffset := 0 }, { name := "B", type := 3, offset := 1, embedded := false, tag := "", pkgPath := "", byteOffset := 8 }, { name := "Weight", type := 3, offset := 2, embedded := false, tag := "", pkgPath := "", byteOffset := 16 }] : Array Field).mapM (m := Sem) fun f => do pure (f.offset, ← sizeOf f.type)).run Try.prog w = .ok [(0, 1), (1, 1), (2, 1)].toArray w := by
  simp [Array.mapM_eq_foldlM, Sem.run_bind, Try.sizeOf3, Result.andThen_ok]
theorem pl52 (w : World) : ((#[{ name := "same", type := 23, offset := 0, embedded := false, tag := "", pkgPath := "cleanse/cluster", byteOffset := 0 }, { name := "weights", type := 49, offset := 1, embedded := false, tag := "", pkgPath := "cleanse/cluster", byteOffset := 24 }, { name := "apart", type := 50, offset := 2, embedded := false, tag := "", pkgPath := "cleanse/cluster", byteOffset := 32 }] : Array Field).mapM (m := Sem) fun f => do pure (f.offset, ← sizeOf f.type)).run Try.prog w = .ok [(0, 1), (1, 1), (2, 1)].toArray w := by
  simp [Array.mapM_eq_foldlM, Sem.run_bind, Try.sizeOf23, Try.sizeOf49, Try.sizeOf50, Result.andThen_ok]
theorem el22 : ElT Try.prog 22 40 3 24 (Try.t40.zero.getD undef) := ⟨Try.underlying22, ⟨_, by unfold Tables.info?; rw [if_pos (by rw [Try.types_size]; decide)]; exact Try.type40, rfl, rfl, rfl⟩, rfl, by decide⟩
theorem el23 : ElT Try.prog 23 3 1 8 (Try.t3.zero.getD undef) := ⟨Try.underlying23, ⟨_, by unfold Tables.info?; rw [if_pos (by rw [Try.types_size]; decide)]; exact Try.type3, rfl, rfl, rfl⟩, rfl, by decide⟩
theorem el24 : ElT Try.prog 24 42 2 16 (Try.t42.zero.getD undef) := ⟨Try.underlying24, ⟨_, by unfold Tables.info?; rw [if_pos (by rw [Try.types_size]; decide)]; exact Try.type42, rfl, rfl, rfl⟩, rfl, by decide⟩
theorem el34 : ElT Try.prog 34 23 1 24 (Try.t23.zero.getD undef) := ⟨Try.underlying34, ⟨_, by unfold Tables.info?; rw [if_pos (by rw [Try.types_size]; decide)]; exact Try.type23, rfl, rfl, rfl⟩, rfl, by decide⟩
end Go.Proofs.Ytglaigeellpikaa
