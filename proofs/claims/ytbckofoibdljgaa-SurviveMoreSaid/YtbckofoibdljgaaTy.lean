/- Facts on the types of the program, by program. -/
import Derived.Test.YtbckofoibdljgaaRows
import Derived.Test.YtbckofoibdljgaaVcMap
namespace Go.Proofs.Ytbckofoibdljgaa
open Go.Vc
theorem mixed : Try.prog.follows .mixedOrders = true := by kernel_rfl
theorem pl32 (w : World) : ((#[{ name := "Kind", type := 3, offset := 0, embedded := false, tag := "", pkgPath := "", byteOffset := 0 }, { name := "N", type := 3, offset := 1, embedded := false, tag := "", pkgPath := "", byteOffset := 8 }, { name := "Text", type := 9, offset := 2, embedded := false, tag := "", pkgPath := "", byteOffset := 16 }] : Array Field).mapM (m := Sem) fun f => do pure (f.offset, ← sizeOf f.type)).run Try.prog w = .ok [(0, 1), (1, 1), (2, 1)].toArray w := by
  simp [Array.mapM_eq_foldlM, Sem.run_bind, Try.sizeOf3, Try.sizeOf9, Result.andThen_ok, Sem.run_pure]
theorem pl34 (w : World) : ((#[{ name := "Value", type := 32, offset := 0, embedded := false, tag := "", pkgPath := "", byteOffset := 0 }, { name := "Seq", type := 3, offset := 3, embedded := false, tag := "", pkgPath := "", byteOffset := 32 }, { name := "Time", type := 3, offset := 4, embedded := false, tag := "", pkgPath := "", byteOffset := 40 }] : Array Field).mapM (m := Sem) fun f => do pure (f.offset, ← sizeOf f.type)).run Try.prog w = .ok [(0, 3), (3, 1), (4, 1)].toArray w := by
  simp [Array.mapM_eq_foldlM, Sem.run_bind, Try.sizeOf3, Try.sizeOf32, Result.andThen_ok, Sem.run_pure]
theorem pl44 (w : World) : ((#[{ name := "Cell", type := 34, offset := 0, embedded := true, tag := "", pkgPath := "", byteOffset := 0 }, { name := "at", type := 3, offset := 5, embedded := false, tag := "", pkgPath := "cleanse/survive", byteOffset := 48 }, { name := "trust", type := 3, offset := 6, embedded := false, tag := "", pkgPath := "cleanse/survive", byteOffset := 56 }, { name := "many", type := 3, offset := 7, embedded := false, tag := "", pkgPath := "cleanse/survive", byteOffset := 64 }] : Array Field).mapM (m := Sem) fun f => do pure (f.offset, ← sizeOf f.type)).run Try.prog w = .ok [(0, 5), (5, 1), (6, 1), (7, 1)].toArray w := by
  simp [Array.mapM_eq_foldlM, Sem.run_bind, Try.sizeOf3, Try.sizeOf34, Result.andThen_ok, Sem.run_pure]
theorem el22 : ElT Try.prog 22 34 5 48 (Try.t34.zero.getD undef) := ⟨Try.underlying22, ⟨_, by unfold Tables.info?; rw [if_pos (by rw [Try.types_size]; decide)]; exact Try.type34, rfl, rfl, rfl⟩, rfl, by decide⟩
theorem el23 : ElT Try.prog 23 3 1 8 (Try.t3.zero.getD undef) := ⟨Try.underlying23, ⟨_, by unfold Tables.info?; rw [if_pos (by rw [Try.types_size]; decide)]; exact Try.type3, rfl, rfl, rfl⟩, rfl, by decide⟩
theorem el41 : ElT Try.prog 41 44 8 72 (Try.t44.zero.getD undef) := ⟨Try.underlying41, ⟨_, by unfold Tables.info?; rw [if_pos (by rw [Try.types_size]; decide)]; exact Try.type44, rfl, rfl, rfl⟩, rfl, by decide⟩
end Go.Proofs.Ytbckofoibdljgaa
