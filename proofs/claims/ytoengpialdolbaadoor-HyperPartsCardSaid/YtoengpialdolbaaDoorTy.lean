/- Facts on the types of the program, by program. -/
import Derived.Test.YtoengpialdolbaaDoorRows
import Derived.Test.YtoengpialdolbaaDoorVcOwn
namespace Go.Proofs.YtoengpialdolbaaDoor
open Go.Vc
theorem mixed : Tryd.prog.follows .mixedOrders = true := by kernel_rfl
theorem pl33 (w : World) : ((#[{ name := "N", type := 3, offset := 0, embedded := false, tag := "", pkgPath := "", byteOffset := 0 }, { name := "Cost", type := 27, offset := 1, embedded := false, tag := "", pkgPath := "", byteOffset := 8 }, { name := "Edges", type := 22, offset := 2, embedded := false, tag := "", pkgPath := "", byteOffset := 32 }] : Array Field).mapM (m := Sem) fun f => do pure (f.offset, ← sizeOf f.type)).run Tryd.prog w = .ok [(0, 1), (1, 1), (2, 1)].toArray w := by
  simp [Array.mapM_eq_foldlM, Sem.run_bind, Tryd.sizeOf3, Tryd.sizeOf22, Tryd.sizeOf27, Result.andThen_ok, Sem.run_pure]
theorem el22 : ElT Tryd.prog 22 27 1 24 (Tryd.t27.zero.getD undef) := ⟨Tryd.underlying22, ⟨_, by unfold Tables.info?; rw [if_pos (by rw [Tryd.types_size]; decide)]; exact Tryd.type27, rfl, rfl, rfl⟩, rfl, by decide⟩
theorem el27 : ElT Tryd.prog 27 3 1 8 (Tryd.t3.zero.getD undef) := ⟨Tryd.underlying27, ⟨_, by unfold Tables.info?; rw [if_pos (by rw [Tryd.types_size]; decide)]; exact Tryd.type3, rfl, rfl, rfl⟩, rfl, by decide⟩
theorem el41 : ElT Tryd.prog 41 5 1 1 (Tryd.t5.zero.getD undef) := ⟨Tryd.underlying41, ⟨_, by unfold Tables.info?; rw [if_pos (by rw [Tryd.types_size]; decide)]; exact Tryd.type5, rfl, rfl, rfl⟩, rfl, by decide⟩
end Go.Proofs.YtoengpialdolbaaDoor
