/- Facts on the types of the program, by program. -/
import Derived.Test.YtlnbkoojelhjdaaGreatDoorRows
import Derived.Test.YtlnbkoojelhjdaaGreatDoorXVcOwn
namespace Go.Proofs.YtlnbkoojelhjdaaGreatDoor
open Go.Vc
theorem mixed : Tryz.prog.follows .mixedOrders = true := by kernel_rfl
theorem pl25 (w : World) : ((#[{ name := "N", type := 3, offset := 0, embedded := false, tag := "", pkgPath := "", byteOffset := 0 }, { name := "Cost", type := 22, offset := 1, embedded := false, tag := "", pkgPath := "", byteOffset := 8 }, { name := "Edges", type := 23, offset := 2, embedded := false, tag := "", pkgPath := "", byteOffset := 32 }] : Array Field).mapM (m := Sem) fun f => do pure (f.offset, ← sizeOf f.type)).run Tryz.prog w = .ok [(0, 1), (1, 1), (2, 1)].toArray w := by
 simp [Array.mapM_eq_foldlM, Sem.run_bind, Tryz.sizeOf3, Tryz.sizeOf22, Tryz.sizeOf23, Result.andThen_ok]
theorem pl59 (w : World) : ((#[{ name := "g", type := 25, offset := 0, embedded := false, tag := "", pkgPath := "cleanse/repair", byteOffset := 0 }, { name := "in", type := 41, offset := 3, embedded := false, tag := "", pkgPath := "cleanse/repair", byteOffset := 56 }, { name := "full", type := 22, offset := 4, embedded := false, tag := "", pkgPath := "cleanse/repair", byteOffset := 80 }, { name := "edges", type := 23, offset := 5, embedded := false, tag := "", pkgPath := "cleanse/repair", byteOffset := 104 }] : Array Field).mapM (m := Sem) fun f => do pure (f.offset, ← sizeOf f.type)).run Tryz.prog w = .ok [(0, 3), (3, 1), (4, 1), (5, 1)].toArray w := by
 simp [Array.mapM_eq_foldlM, Sem.run_bind, Tryz.sizeOf22, Tryz.sizeOf23, Tryz.sizeOf25, Tryz.sizeOf41, Result.andThen_ok]
theorem pl79 (w : World) : ((#[{ name := "set", type := 22, offset := 0, embedded := false, tag := "", pkgPath := "cleanse/repair", byteOffset := 0 }, { name := "cost", type := 3, offset := 1, embedded := false, tag := "", pkgPath := "cleanse/repair", byteOffset := 24 }] : Array Field).mapM (m := Sem) fun f => do pure (f.offset, ← sizeOf f.type)).run Tryz.prog w = .ok [(0, 1), (1, 1)].toArray w := by
 simp [Array.mapM_eq_foldlM, Sem.run_bind, Tryz.sizeOf3, Tryz.sizeOf22, Result.andThen_ok]
theorem el22 : ElT Tryz.prog 22 3 1 8 (Tryz.t3.zero.getD undef) := ⟨Tryz.underlying22, ⟨_, by unfold Tables.info?; rw [if_pos (by rw [Tryz.types_size]; decide)]; exact Tryz.type3, rfl, rfl, rfl⟩, rfl, by decide⟩
theorem el23 : ElT Tryz.prog 23 22 1 24 (Tryz.t22.zero.getD undef) := ⟨Tryz.underlying23, ⟨_, by unfold Tables.info?; rw [if_pos (by rw [Tryz.types_size]; decide)]; exact Tryz.type22, rfl, rfl, rfl⟩, rfl, by decide⟩
theorem el75 : ElT Tryz.prog 75 79 2 32 (Tryz.t79.zero.getD undef) := ⟨Tryz.underlying75, ⟨_, by unfold Tables.info?; rw [if_pos (by rw [Tryz.types_size]; decide)]; exact Tryz.type79, rfl, rfl, rfl⟩, rfl, by decide⟩
theorem el116 : ElT Tryz.prog 116 5 1 1 (Tryz.t5.zero.getD undef) := ⟨Tryz.underlying116, ⟨_, by unfold Tables.info?; rw [if_pos (by rw [Tryz.types_size]; decide)]; exact Tryz.type5, rfl, rfl, rfl⟩, rfl, by decide⟩
end Go.Proofs.YtlnbkoojelhjdaaGreatDoor
