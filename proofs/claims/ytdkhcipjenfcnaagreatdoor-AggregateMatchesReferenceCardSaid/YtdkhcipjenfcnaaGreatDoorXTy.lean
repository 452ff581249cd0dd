/- Facts on the types of the program, by program. -/
import Derived.Test.YtdkhcipjenfcnaaGreatDoorRows
import Derived.Test.YtdkhcipjenfcnaaGreatDoorXVcOwn
namespace Go.Proofs.YtdkhcipjenfcnaaGreatDoor
set_option maxRecDepth 100000
set_option maxHeartbeats 16000000
open Go.Vc Go.Proofs.Tryz
theorem mixed:prog.follows .mixedOrders=true:=by kernel_rfl
theorem pl25 (w : World) : ((#[{ name := "N", type := 3, offset := 0, embedded := false, tag := "", pkgPath := "", byteOffset := 0 }, { name := "Cost", type := 22, offset := 1, embedded := false, tag := "", pkgPath := "", byteOffset := 8 }, { name := "Edges", type := 23, offset := 2, embedded := false, tag := "", pkgPath := "", byteOffset := 32 }] : Array Field).mapM (m := Sem) fun f => do pure (f.offset, ← sizeOf f.type)).run prog w = .ok [(0, 1), (1, 1), (2, 1)].toArray w := by
 simp [Array.mapM_eq_foldlM,Sem.run_bind,sizeOf3,sizeOf22,sizeOf23,Result.andThen_ok]
theorem pl30 (w : World) : ((#[{ name := "Steps", type := 28, offset := 0, embedded := false, tag := "", pkgPath := "", byteOffset := 0 }] : Array Field).mapM (m := Sem) fun f => do pure (f.offset, ← sizeOf f.type)).run prog w = .ok [(0, 1)].toArray w := by
 simp [Array.mapM_eq_foldlM,sizeOf28,Result.andThen_ok]
theorem pl32 (w : World) : ((#[{ name := "From", type := 3, offset := 0, embedded := false, tag := "", pkgPath := "", byteOffset := 0 }, { name := "To", type := 3, offset := 1, embedded := false, tag := "", pkgPath := "", byteOffset := 8 }, { name := "Low", type := 22, offset := 2, embedded := false, tag := "", pkgPath := "", byteOffset := 16 }, { name := "High", type := 22, offset := 3, embedded := false, tag := "", pkgPath := "", byteOffset := 40 }, { name := "Least", type := 30, offset := 4, embedded := false, tag := "", pkgPath := "", byteOffset := 64 }, { name := "Most", type := 30, offset := 5, embedded := false, tag := "", pkgPath := "", byteOffset := 88 }] : Array Field).mapM (m := Sem) fun f => do pure (f.offset, ← sizeOf f.type)).run prog w = .ok [(0, 1), (1, 1), (2, 1), (3, 1), (4, 1), (5, 1)].toArray w := by
 simp [Array.mapM_eq_foldlM,Sem.run_bind,sizeOf3,sizeOf22,sizeOf30,Result.andThen_ok]
theorem pl64 (w : World) : ((#[{ name := "limit", type := 3, offset := 0, embedded := false, tag := "", pkgPath := "cleanse/aggregate", byteOffset := 0 }, { name := "best", type := 61, offset := 1, embedded := false, tag := "", pkgPath := "cleanse/aggregate", byteOffset := 8 }, { name := "good", type := 62, offset := 2, embedded := false, tag := "", pkgPath := "cleanse/aggregate", byteOffset := 16 }] : Array Field).mapM (m := Sem) fun f => do pure (f.offset, ← sizeOf f.type)).run prog w = .ok [(0, 1), (1, 1), (2, 1)].toArray w := by
 simp [Array.mapM_eq_foldlM,Sem.run_bind,sizeOf3,sizeOf61,sizeOf62,Result.andThen_ok]
theorem pl72 (w : World) : ((#[{ name := "g", type := 25, offset := 0, embedded := false, tag := "", pkgPath := "cleanse/aggregate", byteOffset := 0 }, { name := "vertices", type := 22, offset := 3, embedded := false, tag := "", pkgPath := "cleanse/aggregate", byteOffset := 56 }] : Array Field).mapM (m := Sem) fun f => do pure (f.offset, ← sizeOf f.type)).run prog w = .ok [(0, 3), (3, 1)].toArray w := by
 simp [Array.mapM_eq_foldlM,Sem.run_bind,sizeOf22,sizeOf25,Result.andThen_ok]
theorem pl87 (w : World) : ((#[{ name := "g", type := 25, offset := 0, embedded := false, tag := "", pkgPath := "cleanse/repair", byteOffset := 0 }, { name := "in", type := 79, offset := 3, embedded := false, tag := "", pkgPath := "cleanse/repair", byteOffset := 56 }, { name := "full", type := 22, offset := 4, embedded := false, tag := "", pkgPath := "cleanse/repair", byteOffset := 80 }, { name := "edges", type := 23, offset := 5, embedded := false, tag := "", pkgPath := "cleanse/repair", byteOffset := 104 }] : Array Field).mapM (m := Sem) fun f => do pure (f.offset, ← sizeOf f.type)).run prog w = .ok [(0, 3), (3, 1), (4, 1), (5, 1)].toArray w := by
 simp [Array.mapM_eq_foldlM,Sem.run_bind,sizeOf22,sizeOf23,sizeOf25,sizeOf79,Result.andThen_ok]
theorem pl95 (w : World) : ((#[{ name := "g", type := 25, offset := 0, embedded := false, tag := "", pkgPath := "cleanse/aggregate", byteOffset := 0 }, { name := "edges", type := 23, offset := 3, embedded := false, tag := "", pkgPath := "cleanse/aggregate", byteOffset := 56 }, { name := "state", type := 22, offset := 4, embedded := false, tag := "", pkgPath := "cleanse/aggregate", byteOffset := 80 }] : Array Field).mapM (m := Sem) fun f => do pure (f.offset, ← sizeOf f.type)).run prog w = .ok [(0, 3), (3, 1), (4, 1)].toArray w := by
 simp [Array.mapM_eq_foldlM,Sem.run_bind,sizeOf22,sizeOf23,sizeOf25,Result.andThen_ok]
theorem pl100 (w : World) : ((#[{ name := "Kind", type := 3, offset := 0, embedded := false, tag := "", pkgPath := "", byteOffset := 0 }, { name := "At", type := 3, offset := 1, embedded := false, tag := "", pkgPath := "", byteOffset := 8 }, { name := "In", type := 3, offset := 2, embedded := false, tag := "", pkgPath := "", byteOffset := 16 }, { name := "Out", type := 3, offset := 3, embedded := false, tag := "", pkgPath := "", byteOffset := 24 }] : Array Field).mapM (m := Sem) fun f => do pure (f.offset, ← sizeOf f.type)).run prog w = .ok [(0, 1), (1, 1), (2, 1), (3, 1)].toArray w := by
 simp [Array.mapM_eq_foldlM,Sem.run_bind,sizeOf3,Result.andThen_ok]
theorem el22:ElT prog 22 3 1 8 (Tryz.t3.zero.getD undef):=⟨underlying22,⟨_,by unfold Tables.info?;rw [if_pos (by rw [Tryz.types_size];decide)];exact Tryz.type3,rfl,rfl,rfl⟩,rfl,by decide⟩
theorem el23:ElT prog 23 22 1 24 (Tryz.t22.zero.getD undef):=⟨underlying23,⟨_,by unfold Tables.info?;rw [if_pos (by rw [Tryz.types_size];decide)];exact Tryz.type22,rfl,rfl,rfl⟩,rfl,by decide⟩
theorem el28:ElT prog 28 100 4 32 (Tryz.t100.zero.getD undef):=⟨underlying28,⟨_,by unfold Tables.info?;rw [if_pos (by rw [Tryz.types_size];decide)];exact Tryz.type100,rfl,rfl,rfl⟩,rfl,by decide⟩
theorem el69:ElT prog 69 72 4 80 (Tryz.t72.zero.getD undef):=⟨underlying69,⟨_,by unfold Tables.info?;rw [if_pos (by rw [Tryz.types_size];decide)];exact Tryz.type72,rfl,rfl,rfl⟩,rfl,by decide⟩
theorem el79:ElT prog 79 4 1 1 (Tryz.t4.zero.getD undef):=⟨underlying79,⟨_,by unfold Tables.info?;rw [if_pos (by rw [Tryz.types_size];decide)];exact Tryz.type4,rfl,rfl,rfl⟩,rfl,by decide⟩
theorem el149:ElT prog 149 5 1 1 (Tryz.t5.zero.getD undef):=⟨underlying149,⟨_,by unfold Tables.info?;rw [if_pos (by rw [Tryz.types_size];decide)];exact Tryz.type5,rfl,rfl,rfl⟩,rfl,by decide⟩
theorem rQ {N:Nat} {L:List Oper} {Q:Exit→Env→World→Prop} {ρ:Env} {id:Nat} {w:World} (k:Nat) (h:VQ Tryz.prog L (fun w'=>Ext w w') k L ρ fun ρ'=>∀ w',Ext w w'→VL Tryz.prog N L Q (L.drop k) ρ' w') (hr:regOk L k=true:=by kernel_rfl) (hk:Nat.ble k L.length=true:=by rfl):V Tryz.prog N (.region id L.toArray true) Q ρ w:=V.regionQ mixed k hr hk _ (Ext.drawn _) h
abbrev ag22:=@Tryz.isAgg22
abbrev ag23:=@Tryz.isAgg23
abbrev ag25:=@Tryz.isAgg25
abbrev ag28:=@Tryz.isAgg28
abbrev ag3:=@Tryz.isAgg3
abbrev ag32:=@Tryz.isAgg32
abbrev ag72:=@Tryz.isAgg72
abbrev ag92:=@Tryz.isAgg92
abbrev ru100:=@Tryz.runUnderlying100
abbrev ru108:=@Tryz.runUnderlying108
abbrev ru22:=@Tryz.runUnderlying22
abbrev ru23:=@Tryz.runUnderlying23
abbrev ru25:=@Tryz.runUnderlying25
abbrev ru28:=@Tryz.runUnderlying28
abbrev ru3:=@Tryz.runUnderlying3
abbrev ru30:=@Tryz.runUnderlying30
abbrev ru32:=@Tryz.runUnderlying32
abbrev ru64:=@Tryz.runUnderlying64
abbrev ru69:=@Tryz.runUnderlying69
abbrev ru79:=@Tryz.runUnderlying79
abbrev ru87:=@Tryz.runUnderlying87
abbrev ru95:=@Tryz.runUnderlying95
abbrev sz100:=@Tryz.sizeOf100
abbrev sz22:=@Tryz.sizeOf22
abbrev sz23:=@Tryz.sizeOf23
abbrev sz25:=@Tryz.sizeOf25
abbrev sz28:=@Tryz.sizeOf28
abbrev sz3:=@Tryz.sizeOf3
abbrev sz30:=@Tryz.sizeOf30
abbrev sz32:=@Tryz.sizeOf32
abbrev sz4:=@Tryz.sizeOf4
abbrev sz72:=@Tryz.sizeOf72
abbrev zv100:=@Tryz.zeroValue100
abbrev zv22:=@Tryz.zeroValue22
abbrev zv25:=@Tryz.zeroValue25
abbrev zv3:=@Tryz.zeroValue3
abbrev zv32:=@Tryz.zeroValue32
abbrev zv72:=@Tryz.zeroValue72
end Go.Proofs.YtdkhcipjenfcnaaGreatDoor
