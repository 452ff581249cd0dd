/- Facts on the types of the program, by program. -/
import Derived.Test.YtoengpialdolbaaGreatDoorRows
import Derived.Test.YtoengpialdolbaaGreatDoorVcOwn
namespace Go.Proofs.YtoengpialdolbaaGreatDoor
open Go.Vc
theorem mixed : Tryz.prog.follows .mixedOrders = true := by kernel_rfl
theorem pl25 (w : World) : ((#[{ name := "N", type := 3, offset := 0, embedded := false, tag := "", pkgPath := "", byteOffset := 0 }, { name := "Cost", type := 22, offset := 1, embedded := false, tag := "", pkgPath := "", byteOffset := 8 }, { name := "Edges", type := 23, offset := 2, embedded := false, tag := "", pkgPath := "", byteOffset := 32 }] : Array Field).mapM (m := Sem) fun f => do pure (f.offset, ← sizeOf f.type)).run Tryz.prog w = .ok [(0, 1), (1, 1), (2, 1)].toArray w := by
  simp [Array.mapM_eq_foldlM, Sem.run_bind, Tryz.sizeOf3, Tryz.sizeOf22, Tryz.sizeOf23, Result.andThen_ok, Sem.run_pure]
theorem el22 : ElT Tryz.prog 22 3 1 8 (Tryz.t3.zero.getD undef) := ⟨Tryz.underlying22, ⟨_, by unfold Tables.info?; rw [if_pos (by rw [Tryz.types_size]; decide)]; exact Tryz.type3, rfl, rfl, rfl⟩, rfl, by decide⟩
theorem el23 : ElT Tryz.prog 23 22 1 24 (Tryz.t22.zero.getD undef) := ⟨Tryz.underlying23, ⟨_, by unfold Tables.info?; rw [if_pos (by rw [Tryz.types_size]; decide)]; exact Tryz.type22, rfl, rfl, rfl⟩, rfl, by decide⟩
theorem el63 : ElT Tryz.prog 63 5 1 1 (Tryz.t5.zero.getD undef) := ⟨Tryz.underlying63, ⟨_, by unfold Tables.info?; rw [if_pos (by rw [Tryz.types_size]; decide)]; exact Tryz.type5, rfl, rfl, rfl⟩, rfl, by decide⟩
end Go.Proofs.YtoengpialdolbaaGreatDoor
