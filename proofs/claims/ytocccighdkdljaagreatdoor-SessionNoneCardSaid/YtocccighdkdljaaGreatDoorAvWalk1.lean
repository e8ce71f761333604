/- 9 texts of the program logic over abstract values, joined: each is proved without any condition beyond its own words. -/
import Derived.Test.YtocccighdkdljaaGreatDoorProg
import Derived.Test.YtocccighdkdljaaGreatDoorAvEngine3
import Derived.Test.YtocccighdkdljaaGreatDoorAvEngine4
import Derived.LaidEql
import Derived.Stop.Asserts
import Derived.RowKitTokens
/- The type table of the program, as facts. Printed by mktab.py. -/
set_option linter.unusedVariables false
namespace Go.Proofs.YtocccighdkdljaaGreatDoor.Tab
open Go Go.Proofs Go.Av
@[simp] theorem zero3 : zeroT Tryz.prog 3 = some [M.c (C.v (Value.int IntKind.i64 0))] := by kernel_rfl
@[simp] theorem zero5 : zeroT Tryz.prog 5 = some [M.c (C.v (Value.int IntKind.u8 0))] := by kernel_rfl
@[simp] theorem zero9 : zeroT Tryz.prog 9 = some [M.c (C.v (Value.string { data := { toList := [] } }))] := by kernel_rfl
@[simp] theorem zero24 : zeroT Tryz.prog 24 = some (List.replicate 32 (M.c (C.v (Value.int IntKind.u8 0)))) := by kernel_rfl
@[simp] theorem zero27 : zeroT Tryz.prog 27 = some [M.c (C.v (Value.int IntKind.u32 0)), M.c (C.v (Value.int IntKind.u8 0)), M.c (C.v (Value.int IntKind.u8 0)), M.c (C.v (Value.int IntKind.u8 0)), M.c (C.v (Value.int IntKind.u8 0)), M.c (C.v (Value.int IntKind.u8 0)), M.c (C.v (Value.int IntKind.u8 0)), M.c (C.v (Value.int IntKind.u8 0)), M.c (C.v (Value.int IntKind.u8 0)), M.c (C.v (Value.int IntKind.u8 0)), M.c (C.v (Value.int IntKind.u8 0)), M.c (C.v (Value.int IntKind.u8 0)), M.c (C.v (Value.int IntKind.u8 0)), M.c (C.v (Value.int IntKind.u8 0)), M.c (C.v (Value.int IntKind.u8 0)), M.c (C.v (Value.int IntKind.u8 0)), M.c (C.v (Value.int IntKind.u8 0)), M.c (C.v (Value.int IntKind.u8 0)), M.c (C.v (Value.int IntKind.u8 0)), M.c (C.v (Value.int IntKind.u8 0)), M.c (C.v (Value.int IntKind.u8 0)), M.c (C.v (Value.int IntKind.u8 0)), M.c (C.v (Value.int IntKind.u8 0)), M.c (C.v (Value.int IntKind.u8 0)), M.c (C.v (Value.int IntKind.u8 0)), M.c (C.v (Value.int IntKind.u8 0)), M.c (C.v (Value.int IntKind.u8 0)), M.c (C.v (Value.int IntKind.u8 0)), M.c (C.v (Value.int IntKind.u8 0)), M.c (C.v (Value.int IntKind.u8 0)), M.c (C.v (Value.int IntKind.u8 0)), M.c (C.v (Value.int IntKind.u8 0)), M.c (C.v (Value.int IntKind.u8 0)), M.c (C.v (Value.int IntKind.u8 0)), M.c (C.v (Value.int IntKind.u8 0)), M.c (C.v (Value.int IntKind.u8 0)), M.c (C.v (Value.int IntKind.u8 0)), M.c (C.v (Value.int IntKind.u8 0)), M.c (C.v (Value.int IntKind.u8 0)), M.c (C.v (Value.int IntKind.u8 0)), M.c (C.v (Value.int IntKind.u8 0)), M.c (C.v (Value.int IntKind.u8 0)), M.c (C.v (Value.int IntKind.u8 0)), M.c (C.v (Value.int IntKind.u8 0)), M.c (C.v (Value.int IntKind.u8 0)), M.c (C.v (Value.int IntKind.u8 0)), M.c (C.v (Value.int IntKind.u8 0)), M.c (C.v (Value.int IntKind.u8 0)), M.c (C.v (Value.int IntKind.u8 0)), M.c (C.v (Value.int IntKind.u8 0)), M.c (C.v (Value.int IntKind.u8 0)), M.c (C.v (Value.int IntKind.u8 0)), M.c (C.v (Value.int IntKind.u8 0)), M.c (C.v (Value.int IntKind.u8 0)), M.c (C.v (Value.int IntKind.u8 0)), M.c (C.v (Value.int IntKind.u8 0)), M.c (C.v (Value.int IntKind.u8 0)), M.c (C.v (Value.int IntKind.u8 0)), M.c (C.v (Value.int IntKind.u8 0)), M.c (C.v (Value.int IntKind.u8 0)), M.c (C.v (Value.int IntKind.u8 0)), M.c (C.v (Value.int IntKind.u8 0)), M.c (C.v (Value.int IntKind.u8 0)), M.c (C.v (Value.int IntKind.u8 0)), M.c (C.v (Value.int IntKind.u8 0)), M.c (C.v (Value.int IntKind.u64 0))] := by kernel_rfl
@[simp] theorem zero29 : zeroT Tryz.prog 29 = some [M.c (C.v (Value.int IntKind.u32 0)), M.c (C.v (Value.int IntKind.u8 0)), M.c (C.v (Value.int IntKind.u8 0)), M.c (C.v (Value.int IntKind.u8 0)), M.c (C.v (Value.int IntKind.u8 0)), M.c (C.v (Value.int IntKind.u8 0)), M.c (C.v (Value.int IntKind.u8 0)), M.c (C.v (Value.int IntKind.u8 0)), M.c (C.v (Value.int IntKind.u8 0)), M.c (C.v (Value.int IntKind.u8 0)), M.c (C.v (Value.int IntKind.u8 0)), M.c (C.v (Value.int IntKind.u8 0)), M.c (C.v (Value.int IntKind.u8 0)), M.c (C.v (Value.int IntKind.u8 0)), M.c (C.v (Value.int IntKind.u8 0)), M.c (C.v (Value.int IntKind.u8 0)), M.c (C.v (Value.int IntKind.u8 0)), M.c (C.v (Value.int IntKind.u8 0)), M.c (C.v (Value.int IntKind.u8 0)), M.c (C.v (Value.int IntKind.u8 0)), M.c (C.v (Value.int IntKind.u8 0)), M.c (C.v (Value.int IntKind.u8 0)), M.c (C.v (Value.int IntKind.u8 0)), M.c (C.v (Value.int IntKind.u8 0)), M.c (C.v (Value.int IntKind.u8 0)), M.c (C.v (Value.int IntKind.u8 0)), M.c (C.v (Value.int IntKind.u8 0)), M.c (C.v (Value.int IntKind.u8 0)), M.c (C.v (Value.int IntKind.u8 0)), M.c (C.v (Value.int IntKind.u8 0)), M.c (C.v (Value.int IntKind.u8 0)), M.c (C.v (Value.int IntKind.u8 0)), M.c (C.v (Value.int IntKind.u8 0)), M.c (C.v (Value.int IntKind.u8 0)), M.c (C.v (Value.int IntKind.u8 0)), M.c (C.v (Value.int IntKind.u8 0)), M.c (C.v (Value.int IntKind.u8 0)), M.c (C.v (Value.int IntKind.u8 0)), M.c (C.v (Value.int IntKind.u8 0)), M.c (C.v (Value.int IntKind.u8 0)), M.c (C.v (Value.int IntKind.u8 0)), M.c (C.v (Value.int IntKind.u8 0)), M.c (C.v (Value.int IntKind.u8 0)), M.c (C.v (Value.int IntKind.u8 0)), M.c (C.v (Value.int IntKind.u8 0)), M.c (C.v (Value.int IntKind.u8 0)), M.c (C.v (Value.int IntKind.u8 0)), M.c (C.v (Value.int IntKind.u8 0)), M.c (C.v (Value.int IntKind.u8 0)), M.c (C.v (Value.int IntKind.u8 0)), M.c (C.v (Value.int IntKind.u8 0)), M.c (C.v (Value.int IntKind.u8 0)), M.c (C.v (Value.int IntKind.u8 0)), M.c (C.v (Value.int IntKind.u8 0)), M.c (C.v (Value.int IntKind.u8 0)), M.c (C.v (Value.int IntKind.u8 0)), M.c (C.v (Value.int IntKind.u8 0)), M.c (C.v (Value.int IntKind.u8 0)), M.c (C.v (Value.int IntKind.u8 0)), M.c (C.v (Value.int IntKind.u8 0)), M.c (C.v (Value.int IntKind.u8 0)), M.c (C.v (Value.int IntKind.u8 0)), M.c (C.v (Value.int IntKind.u8 0)), M.c (C.v (Value.int IntKind.u8 0)), M.c (C.v (Value.int IntKind.u8 0)), M.c (C.v (Value.int IntKind.u64 0)), M.c (C.v (Value.int IntKind.u8 0)), M.c (C.v (Value.int IntKind.u8 0)), M.c (C.v (Value.int IntKind.u8 0)), M.c (C.v (Value.int IntKind.u8 0)), M.c (C.v (Value.int IntKind.u8 0)), M.c (C.v (Value.int IntKind.u8 0)), M.c (C.v (Value.int IntKind.u8 0)), M.c (C.v (Value.int IntKind.u8 0)), M.c (C.v (Value.int IntKind.u8 0)), M.c (C.v (Value.int IntKind.u8 0)), M.c (C.v (Value.int IntKind.u8 0)), M.c (C.v (Value.int IntKind.u8 0)), M.c (C.v (Value.int IntKind.u8 0)), M.c (C.v (Value.int IntKind.u8 0)), M.c (C.v (Value.int IntKind.u8 0)), M.c (C.v (Value.int IntKind.u8 0)), M.c (C.v (Value.int IntKind.u8 0)), M.c (C.v (Value.int IntKind.u8 0)), M.c (C.v (Value.int IntKind.u8 0)), M.c (C.v (Value.int IntKind.u8 0)), M.c (C.v (Value.int IntKind.u8 0)), M.c (C.v (Value.int IntKind.u8 0)), M.c (C.v (Value.int IntKind.u8 0)), M.c (C.v (Value.int IntKind.u8 0)), M.c (C.v (Value.int IntKind.u8 0)), M.c (C.v (Value.int IntKind.u8 0)), M.c (C.v (Value.int IntKind.u8 0)), M.c (C.v (Value.int IntKind.u8 0)), M.c (C.v (Value.int IntKind.u8 0)), M.c (C.v (Value.int IntKind.u8 0)), M.c (C.v (Value.int IntKind.u8 0)), M.c (C.v (Value.int IntKind.u8 0)), M.c (C.v (Value.int IntKind.i64 0)), M.c (C.v (Value.int IntKind.i64 0)), M.c (C.v (Value.int IntKind.i64 0)), M.c (C.v (Value.int IntKind.i64 0)), M.c (C.v (Value.int IntKind.i64 0)), M.c (C.v (Value.int IntKind.i64 0))] := by kernel_rfl
@[simp] theorem zero36 : zeroT Tryz.prog 36 = some [M.c (C.v (Value.string { data := { toList := [] } })), M.c (C.v (Value.int IntKind.u8 0)), M.c (C.v (Value.int IntKind.u8 0)), M.c (C.v (Value.int IntKind.u8 0)), M.c (C.v (Value.int IntKind.u8 0)), M.c (C.v (Value.int IntKind.u8 0)), M.c (C.v (Value.int IntKind.u8 0)), M.c (C.v (Value.int IntKind.u8 0)), M.c (C.v (Value.int IntKind.u8 0)), M.c (C.v (Value.int IntKind.u8 0)), M.c (C.v (Value.int IntKind.u8 0)), M.c (C.v (Value.int IntKind.u8 0)), M.c (C.v (Value.int IntKind.u8 0)), M.c (C.v (Value.int IntKind.u8 0)), M.c (C.v (Value.int IntKind.u8 0)), M.c (C.v (Value.int IntKind.u8 0)), M.c (C.v (Value.int IntKind.u8 0)), M.c (C.v (Value.int IntKind.u8 0)), M.c (C.v (Value.int IntKind.u8 0)), M.c (C.v (Value.int IntKind.u8 0)), M.c (C.v (Value.int IntKind.u8 0)), M.c (C.v (Value.int IntKind.u8 0)), M.c (C.v (Value.int IntKind.u8 0)), M.c (C.v (Value.int IntKind.u8 0)), M.c (C.v (Value.int IntKind.u8 0)), M.c (C.v (Value.int IntKind.u8 0)), M.c (C.v (Value.int IntKind.u8 0)), M.c (C.v (Value.int IntKind.u8 0)), M.c (C.v (Value.int IntKind.u8 0)), M.c (C.v (Value.int IntKind.u8 0)), M.c (C.v (Value.int IntKind.u8 0)), M.c (C.v (Value.int IntKind.u8 0)), M.c (C.v (Value.int IntKind.u8 0)), M.c (C.v (Value.int IntKind.i64 0)), M.c (C.v (Value.int IntKind.i64 0))] := by kernel_rfl
@[simp] theorem zero40 : zeroT Tryz.prog 40 = some [M.c (C.v (Value.int IntKind.u8 0)), M.c (C.v (Value.int IntKind.u8 0)), M.c (C.v (Value.int IntKind.u8 0)), M.c (C.v (Value.int IntKind.u8 0)), M.c (C.v (Value.int IntKind.u8 0)), M.c (C.v (Value.int IntKind.u8 0)), M.c (C.v (Value.int IntKind.u8 0)), M.c (C.v (Value.int IntKind.u8 0)), M.c (C.v (Value.int IntKind.u8 0)), M.c (C.v (Value.int IntKind.u8 0)), M.c (C.v (Value.int IntKind.u8 0)), M.c (C.v (Value.int IntKind.u8 0)), M.c (C.v (Value.int IntKind.u8 0)), M.c (C.v (Value.int IntKind.u8 0)), M.c (C.v (Value.int IntKind.u8 0)), M.c (C.v (Value.int IntKind.u8 0)), M.c (C.v (Value.int IntKind.u8 0)), M.c (C.v (Value.int IntKind.u8 0)), M.c (C.v (Value.int IntKind.u8 0)), M.c (C.v (Value.int IntKind.u8 0)), M.c (C.v (Value.int IntKind.u8 0)), M.c (C.v (Value.int IntKind.u8 0)), M.c (C.v (Value.int IntKind.u8 0)), M.c (C.v (Value.int IntKind.u8 0)), M.c (C.v (Value.int IntKind.u8 0)), M.c (C.v (Value.int IntKind.u8 0)), M.c (C.v (Value.int IntKind.u8 0)), M.c (C.v (Value.int IntKind.u8 0)), M.c (C.v (Value.int IntKind.u8 0)), M.c (C.v (Value.int IntKind.u8 0)), M.c (C.v (Value.int IntKind.u8 0)), M.c (C.v (Value.int IntKind.u8 0)), M.c (C.v (Value.int IntKind.u32 0)), M.c (C.v (Value.int IntKind.i64 0)), M.c (C.v (Value.string { data := { toList := [] } }))] := by kernel_rfl
@[simp] theorem zero119 : zeroT Tryz.prog 119 = some [M.c (C.v (Value.int IntKind.i64 0)), M.c (C.v (Value.map none))] := by kernel_rfl
@[simp] theorem zero123 : zeroT Tryz.prog 123 = some [M.c (C.v Value.nilIface)] := by kernel_rfl
@[simp] theorem zero129 : zeroT Tryz.prog 129 = some [M.c (C.v (Value.int IntKind.i64 0)), M.c (C.v (Value.string { data := { toList := [] } }))] := by kernel_rfl
@[simp] theorem zero177 : zeroT Tryz.prog 177 = some [M.c (C.v (Value.int IntKind.u64 0)), M.c (C.v (Value.int IntKind.u64 0)), M.c (C.v (Value.int IntKind.u64 0)), M.c (C.v (Value.int IntKind.u64 0))] := by kernel_rfl
@[simp] theorem zero279 : zeroT Tryz.prog 279 = some [M.c (C.v (Value.int IntKind.i64 0)), M.c (C.v (Value.int IntKind.i64 0)), M.c (C.v (Value.string { data := { toList := [] } }))] := by kernel_rfl
@[simp] theorem zero306 : zeroT Tryz.prog 306 = some (List.replicate 64 (M.c (C.v (Value.int IntKind.u32 0)))) := by kernel_rfl
@[simp] theorem zero352 : zeroT Tryz.prog 352 = some (List.replicate 8 (M.c (C.v (Value.int IntKind.u32 0)))) := by kernel_rfl
@[simp] theorem zero354 : zeroT Tryz.prog 354 = some [M.c (C.v (Value.int IntKind.u32 0)), M.c (C.v (Value.int IntKind.u32 0)), M.c (C.v (Value.int IntKind.u32 0)), M.c (C.v (Value.int IntKind.u32 0)), M.c (C.v (Value.int IntKind.u32 0)), M.c (C.v (Value.int IntKind.u32 0)), M.c (C.v (Value.int IntKind.u32 0)), M.c (C.v (Value.int IntKind.u32 0)), M.c (C.v (Value.string { data := { toList := [] } })), M.c (C.v (Value.int IntKind.u64 0)), M.c (C.v (Value.bool false))] := by kernel_rfl
@[simp] theorem ty3 : szT Tryz.prog 3 = 1 ∧ szOb Tryz.prog 3 = 1 ∧ szBx Tryz.prog 3 = 1 ∧ isAggT Tryz.prog 3 = false ∧ okT Tryz.prog 3 = true ∧ okE Tryz.prog 3 = true ∧ okZ Tryz.prog 3 = true ∧ Program.bytesOf Tryz.prog 3 = 8 := by refine ⟨?_, ?_, ?_, ?_, ?_, ?_, ?_, ?_⟩ <;> kernel_rfl
@[simp] theorem ty4 : szT Tryz.prog 4 = 1 ∧ szOb Tryz.prog 4 = 1 ∧ szBx Tryz.prog 4 = 1 ∧ isAggT Tryz.prog 4 = false ∧ okT Tryz.prog 4 = true ∧ okE Tryz.prog 4 = true ∧ okZ Tryz.prog 4 = true ∧ Program.bytesOf Tryz.prog 4 = 1 := by refine ⟨?_, ?_, ?_, ?_, ?_, ?_, ?_, ?_⟩ <;> kernel_rfl
@[simp] theorem ty5 : szT Tryz.prog 5 = 1 ∧ szOb Tryz.prog 5 = 1 ∧ szBx Tryz.prog 5 = 1 ∧ isAggT Tryz.prog 5 = false ∧ okT Tryz.prog 5 = true ∧ okE Tryz.prog 5 = true ∧ okZ Tryz.prog 5 = true ∧ Program.bytesOf Tryz.prog 5 = 1 := by refine ⟨?_, ?_, ?_, ?_, ?_, ?_, ?_, ?_⟩ <;> kernel_rfl
@[simp] theorem ty9 : szT Tryz.prog 9 = 1 ∧ szOb Tryz.prog 9 = 1 ∧ szBx Tryz.prog 9 = 1 ∧ isAggT Tryz.prog 9 = false ∧ okT Tryz.prog 9 = true ∧ okE Tryz.prog 9 = true ∧ okZ Tryz.prog 9 = true ∧ Program.bytesOf Tryz.prog 9 = 16 := by refine ⟨?_, ?_, ?_, ?_, ?_, ?_, ?_, ?_⟩ <;> kernel_rfl
@[simp] theorem ty22 : szT Tryz.prog 22 = 1 ∧ szOb Tryz.prog 22 = 1 ∧ szBx Tryz.prog 22 = 1 ∧ isAggT Tryz.prog 22 = false ∧ okT Tryz.prog 22 = true ∧ okE Tryz.prog 22 = true ∧ okZ Tryz.prog 22 = true ∧ Program.bytesOf Tryz.prog 22 = 4 := by refine ⟨?_, ?_, ?_, ?_, ?_, ?_, ?_, ?_⟩ <;> kernel_rfl
@[simp] theorem ty24 : szT Tryz.prog 24 = 32 ∧ leavesX Tryz.prog 24 = some (List.replicate 32 0) ∧ szOb Tryz.prog 24 = 1 ∧ szBx Tryz.prog 24 = 1 ∧ isAggT Tryz.prog 24 = true ∧ okT Tryz.prog 24 = true ∧ okE Tryz.prog 24 = true ∧ okZ Tryz.prog 24 = true ∧ Program.bytesOf Tryz.prog 24 = 32 := by refine ⟨?_, ?_, ?_, ?_, ?_, ?_, ?_, ?_, ?_⟩ <;> kernel_rfl
@[simp] theorem ty25 : szT Tryz.prog 25 = 1 ∧ szOb Tryz.prog 25 = 1 ∧ szBx Tryz.prog 25 = 1 ∧ isAggT Tryz.prog 25 = false ∧ okT Tryz.prog 25 = true ∧ okE Tryz.prog 25 = true ∧ okZ Tryz.prog 25 = true ∧ Program.bytesOf Tryz.prog 25 = 8 := by refine ⟨?_, ?_, ?_, ?_, ?_, ?_, ?_, ?_⟩ <;> kernel_rfl
@[simp] theorem ty27 : szT Tryz.prog 27 = 66 ∧ leavesX Tryz.prog 27 = some (List.replicate 66 0) ∧ szOb Tryz.prog 27 = 1 ∧ szBx Tryz.prog 27 = 1 ∧ isAggT Tryz.prog 27 = true ∧ okT Tryz.prog 27 = true ∧ okE Tryz.prog 27 = true ∧ okZ Tryz.prog 27 = true ∧ Program.bytesOf Tryz.prog 27 = 80 := by refine ⟨?_, ?_, ?_, ?_, ?_, ?_, ?_, ?_, ?_⟩ <;> kernel_rfl
@[simp] theorem ty29 : szT Tryz.prog 29 = 104 ∧ leavesX Tryz.prog 29 = some (List.replicate 104 0) ∧ szOb Tryz.prog 29 = 1 ∧ szBx Tryz.prog 29 = 1 ∧ isAggT Tryz.prog 29 = true ∧ okT Tryz.prog 29 = true ∧ okE Tryz.prog 29 = true ∧ okZ Tryz.prog 29 = true ∧ Program.bytesOf Tryz.prog 29 = 160 := by refine ⟨?_, ?_, ?_, ?_, ?_, ?_, ?_, ?_, ?_⟩ <;> kernel_rfl
@[simp] theorem ty36 : szT Tryz.prog 36 = 35 ∧ leavesX Tryz.prog 36 = some [2, 0, 0, 0, 0, 0, 0, 0, 0, 0, 0, 0, 0, 0, 0, 0, 0, 0, 0, 0, 0, 0, 0, 0, 0, 0, 0, 0, 0, 0, 0, 0, 0, 0, 0] ∧ szOb Tryz.prog 36 = 1 ∧ szBx Tryz.prog 36 = 1 ∧ isAggT Tryz.prog 36 = true ∧ okT Tryz.prog 36 = true ∧ okE Tryz.prog 36 = true ∧ okZ Tryz.prog 36 = true ∧ Program.bytesOf Tryz.prog 36 = 64 := by refine ⟨?_, ?_, ?_, ?_, ?_, ?_, ?_, ?_, ?_⟩ <;> kernel_rfl
@[simp] theorem ty40 : szT Tryz.prog 40 = 35 ∧ leavesX Tryz.prog 40 = some [0, 0, 0, 0, 0, 0, 0, 0, 0, 0, 0, 0, 0, 0, 0, 0, 0, 0, 0, 0, 0, 0, 0, 0, 0, 0, 0, 0, 0, 0, 0, 0, 0, 0, 2] ∧ szOb Tryz.prog 40 = 1 ∧ szBx Tryz.prog 40 = 1 ∧ isAggT Tryz.prog 40 = true ∧ okT Tryz.prog 40 = true ∧ okE Tryz.prog 40 = true ∧ okZ Tryz.prog 40 = true ∧ Program.bytesOf Tryz.prog 40 = 64 := by refine ⟨?_, ?_, ?_, ?_, ?_, ?_, ?_, ?_, ?_⟩ <;> kernel_rfl
@[simp] theorem ty43 : szT Tryz.prog 43 = 1 ∧ szOb Tryz.prog 43 = 1 ∧ szBx Tryz.prog 43 = 1 ∧ isAggT Tryz.prog 43 = false ∧ okT Tryz.prog 43 = true ∧ okE Tryz.prog 43 = true ∧ okZ Tryz.prog 43 = true ∧ Program.bytesOf Tryz.prog 43 = 24 := by refine ⟨?_, ?_, ?_, ?_, ?_, ?_, ?_, ?_⟩ <;> kernel_rfl
@[simp] theorem ty44 : szT Tryz.prog 44 = 1 ∧ szOb Tryz.prog 44 = 1 ∧ szBx Tryz.prog 44 = 1 ∧ isAggT Tryz.prog 44 = false ∧ okT Tryz.prog 44 = true ∧ okE Tryz.prog 44 = true ∧ okZ Tryz.prog 44 = true ∧ Program.bytesOf Tryz.prog 44 = 24 := by refine ⟨?_, ?_, ?_, ?_, ?_, ?_, ?_, ?_⟩ <;> kernel_rfl
@[simp] theorem ty53 : szT Tryz.prog 53 = 1 ∧ szOb Tryz.prog 53 = 1 ∧ szBx Tryz.prog 53 = 1 ∧ isAggT Tryz.prog 53 = false ∧ okT Tryz.prog 53 = true ∧ okE Tryz.prog 53 = true ∧ okZ Tryz.prog 53 = true ∧ Program.bytesOf Tryz.prog 53 = 24 := by refine ⟨?_, ?_, ?_, ?_, ?_, ?_, ?_, ?_⟩ <;> kernel_rfl
@[simp] theorem ty74 : szT Tryz.prog 74 = 1 ∧ szOb Tryz.prog 74 = 1 ∧ szBx Tryz.prog 74 = 1 ∧ isAggT Tryz.prog 74 = false ∧ okT Tryz.prog 74 = true ∧ okE Tryz.prog 74 = true ∧ okZ Tryz.prog 74 = true ∧ Program.bytesOf Tryz.prog 74 = 16 := by refine ⟨?_, ?_, ?_, ?_, ?_, ?_, ?_, ?_⟩ <;> kernel_rfl
@[simp] theorem ty117 : szT Tryz.prog 117 = 1 ∧ szOb Tryz.prog 117 = 1 ∧ szBx Tryz.prog 117 = 1 ∧ isAggT Tryz.prog 117 = false ∧ okT Tryz.prog 117 = true ∧ okE Tryz.prog 117 = true ∧ okZ Tryz.prog 117 = true ∧ Program.bytesOf Tryz.prog 117 = 8 := by refine ⟨?_, ?_, ?_, ?_, ?_, ?_, ?_, ?_⟩ <;> kernel_rfl
@[simp] theorem ty119 : szT Tryz.prog 119 = 2 ∧ szOb Tryz.prog 119 = 2 ∧ szBx Tryz.prog 119 = 2 ∧ isAggT Tryz.prog 119 = true ∧ okT Tryz.prog 119 = true ∧ okE Tryz.prog 119 = true ∧ okZ Tryz.prog 119 = true ∧ Program.bytesOf Tryz.prog 119 = 16 := by refine ⟨?_, ?_, ?_, ?_, ?_, ?_, ?_, ?_⟩ <;> kernel_rfl
@[simp] theorem ty123 : szT Tryz.prog 123 = 1 ∧ szOb Tryz.prog 123 = 1 ∧ szBx Tryz.prog 123 = 1 ∧ isAggT Tryz.prog 123 = true ∧ okT Tryz.prog 123 = true ∧ okE Tryz.prog 123 = true ∧ okZ Tryz.prog 123 = true ∧ Program.bytesOf Tryz.prog 123 = 16 := by refine ⟨?_, ?_, ?_, ?_, ?_, ?_, ?_, ?_⟩ <;> kernel_rfl
@[simp] theorem ty129 : szT Tryz.prog 129 = 2 ∧ leavesX Tryz.prog 129 = some [0, 2] ∧ szOb Tryz.prog 129 = 2 ∧ szBx Tryz.prog 129 = 2 ∧ isAggT Tryz.prog 129 = true ∧ okT Tryz.prog 129 = true ∧ okE Tryz.prog 129 = true ∧ okZ Tryz.prog 129 = true ∧ Program.bytesOf Tryz.prog 129 = 24 := by refine ⟨?_, ?_, ?_, ?_, ?_, ?_, ?_, ?_, ?_⟩ <;> kernel_rfl
@[simp] theorem ty177 : szT Tryz.prog 177 = 4 ∧ leavesX Tryz.prog 177 = some (List.replicate 4 0) ∧ szOb Tryz.prog 177 = 1 ∧ szBx Tryz.prog 177 = 1 ∧ isAggT Tryz.prog 177 = true ∧ okT Tryz.prog 177 = true ∧ okE Tryz.prog 177 = true ∧ okZ Tryz.prog 177 = true ∧ Program.bytesOf Tryz.prog 177 = 32 := by refine ⟨?_, ?_, ?_, ?_, ?_, ?_, ?_, ?_, ?_⟩ <;> kernel_rfl
@[simp] theorem ty245 : szT Tryz.prog 245 = 1 ∧ szOb Tryz.prog 245 = 1 ∧ szBx Tryz.prog 245 = 1 ∧ isAggT Tryz.prog 245 = false ∧ okT Tryz.prog 245 = true ∧ okE Tryz.prog 245 = true ∧ okZ Tryz.prog 245 = true ∧ Program.bytesOf Tryz.prog 245 = 24 := by refine ⟨?_, ?_, ?_, ?_, ?_, ?_, ?_, ?_⟩ <;> kernel_rfl
@[simp] theorem ty276 : szT Tryz.prog 276 = 1 ∧ szOb Tryz.prog 276 = 1 ∧ szBx Tryz.prog 276 = 1 ∧ isAggT Tryz.prog 276 = false ∧ okT Tryz.prog 276 = true ∧ okE Tryz.prog 276 = true ∧ okZ Tryz.prog 276 = true ∧ Program.bytesOf Tryz.prog 276 = 24 := by refine ⟨?_, ?_, ?_, ?_, ?_, ?_, ?_, ?_⟩ <;> kernel_rfl
@[simp] theorem ty279 : szT Tryz.prog 279 = 3 ∧ leavesX Tryz.prog 279 = some [0, 0, 2] ∧ szOb Tryz.prog 279 = 3 ∧ szBx Tryz.prog 279 = 3 ∧ isAggT Tryz.prog 279 = true ∧ okT Tryz.prog 279 = true ∧ okE Tryz.prog 279 = true ∧ okZ Tryz.prog 279 = true ∧ Program.bytesOf Tryz.prog 279 = 32 := by refine ⟨?_, ?_, ?_, ?_, ?_, ?_, ?_, ?_, ?_⟩ <;> kernel_rfl
@[simp] theorem ty306 : szT Tryz.prog 306 = 64 ∧ leavesX Tryz.prog 306 = some (List.replicate 64 0) ∧ szOb Tryz.prog 306 = 1 ∧ szBx Tryz.prog 306 = 1 ∧ isAggT Tryz.prog 306 = true ∧ okT Tryz.prog 306 = true ∧ okE Tryz.prog 306 = true ∧ okZ Tryz.prog 306 = true ∧ Program.bytesOf Tryz.prog 306 = 256 := by refine ⟨?_, ?_, ?_, ?_, ?_, ?_, ?_, ?_, ?_⟩ <;> kernel_rfl
@[simp] theorem ty352 : szT Tryz.prog 352 = 8 ∧ leavesX Tryz.prog 352 = some (List.replicate 8 0) ∧ szOb Tryz.prog 352 = 1 ∧ szBx Tryz.prog 352 = 1 ∧ isAggT Tryz.prog 352 = true ∧ okT Tryz.prog 352 = true ∧ okE Tryz.prog 352 = true ∧ okZ Tryz.prog 352 = true ∧ Program.bytesOf Tryz.prog 352 = 32 := by refine ⟨?_, ?_, ?_, ?_, ?_, ?_, ?_, ?_, ?_⟩ <;> kernel_rfl
@[simp] theorem ty354 : szT Tryz.prog 354 = 11 ∧ leavesX Tryz.prog 354 = some [0, 0, 0, 0, 0, 0, 0, 0, 2, 0, 1] ∧ szOb Tryz.prog 354 = 11 ∧ szBx Tryz.prog 354 = 11 ∧ isAggT Tryz.prog 354 = true ∧ okT Tryz.prog 354 = true ∧ okE Tryz.prog 354 = true ∧ okZ Tryz.prog 354 = true ∧ Program.bytesOf Tryz.prog 354 = 64 := by refine ⟨?_, ?_, ?_, ?_, ?_, ?_, ?_, ?_, ?_⟩ <;> kernel_rfl
theorem mixed : Tryz.prog.follows .mixedOrders = true := by kernel_rfl
attribute [simp] Tryz.underlying0
attribute [simp] Tryz.underlying1
attribute [simp] Tryz.underlying2
attribute [simp] Tryz.underlying3
attribute [simp] Tryz.underlying4
attribute [simp] Tryz.underlying5
attribute [simp] Tryz.underlying6
attribute [simp] Tryz.underlying7
attribute [simp] Tryz.underlying8
attribute [simp] Tryz.underlying9
attribute [simp] Tryz.underlying10
attribute [simp] Tryz.underlying11
attribute [simp] Tryz.underlying12
attribute [simp] Tryz.underlying13
attribute [simp] Tryz.underlying14
attribute [simp] Tryz.underlying15
attribute [simp] Tryz.underlying16
attribute [simp] Tryz.underlying17
attribute [simp] Tryz.underlying18
attribute [simp] Tryz.underlying19
attribute [simp] Tryz.underlying20
attribute [simp] Tryz.underlying21
attribute [simp] Tryz.underlying22
attribute [simp] Tryz.underlying23
attribute [simp] Tryz.underlying24
attribute [simp] Tryz.underlying25
attribute [simp] Tryz.underlying26
attribute [simp] Tryz.underlying27
attribute [simp] Tryz.underlying28
attribute [simp] Tryz.underlying29
attribute [simp] Tryz.underlying30
attribute [simp] Tryz.underlying31
attribute [simp] Tryz.underlying32
attribute [simp] Tryz.underlying33
attribute [simp] Tryz.underlying34
attribute [simp] Tryz.underlying35
attribute [simp] Tryz.underlying36
attribute [simp] Tryz.underlying37
attribute [simp] Tryz.underlying38
attribute [simp] Tryz.underlying39
attribute [simp] Tryz.underlying40
attribute [simp] Tryz.underlying41
attribute [simp] Tryz.underlying42
attribute [simp] Tryz.underlying43
attribute [simp] Tryz.underlying44
attribute [simp] Tryz.underlying45
attribute [simp] Tryz.underlying46
attribute [simp] Tryz.underlying47
attribute [simp] Tryz.underlying48
attribute [simp] Tryz.underlying49
attribute [simp] Tryz.underlying50
attribute [simp] Tryz.underlying51
attribute [simp] Tryz.underlying52
attribute [simp] Tryz.underlying53
attribute [simp] Tryz.underlying54
attribute [simp] Tryz.underlying55
attribute [simp] Tryz.underlying56
attribute [simp] Tryz.underlying57
attribute [simp] Tryz.underlying58
attribute [simp] Tryz.underlying59
attribute [simp] Tryz.underlying60
attribute [simp] Tryz.underlying61
attribute [simp] Tryz.underlying62
attribute [simp] Tryz.underlying63
attribute [simp] Tryz.underlying64
attribute [simp] Tryz.underlying65
attribute [simp] Tryz.underlying66
attribute [simp] Tryz.underlying67
attribute [simp] Tryz.underlying68
attribute [simp] Tryz.underlying69
attribute [simp] Tryz.underlying70
attribute [simp] Tryz.underlying71
attribute [simp] Tryz.underlying72
attribute [simp] Tryz.underlying73
attribute [simp] Tryz.underlying74
attribute [simp] Tryz.underlying75
attribute [simp] Tryz.underlying76
attribute [simp] Tryz.underlying77
attribute [simp] Tryz.underlying78
attribute [simp] Tryz.underlying79
attribute [simp] Tryz.underlying80
attribute [simp] Tryz.underlying81
attribute [simp] Tryz.underlying82
attribute [simp] Tryz.underlying83
attribute [simp] Tryz.underlying84
attribute [simp] Tryz.underlying85
attribute [simp] Tryz.underlying86
attribute [simp] Tryz.underlying87
attribute [simp] Tryz.underlying88
attribute [simp] Tryz.underlying89
attribute [simp] Tryz.underlying90
attribute [simp] Tryz.underlying91
attribute [simp] Tryz.underlying92
attribute [simp] Tryz.underlying93
attribute [simp] Tryz.underlying94
attribute [simp] Tryz.underlying95
attribute [simp] Tryz.underlying96
attribute [simp] Tryz.underlying97
attribute [simp] Tryz.underlying98
attribute [simp] Tryz.underlying99
attribute [simp] Tryz.underlying100
attribute [simp] Tryz.underlying101
attribute [simp] Tryz.underlying102
attribute [simp] Tryz.underlying103
attribute [simp] Tryz.underlying104
attribute [simp] Tryz.underlying105
attribute [simp] Tryz.underlying106
attribute [simp] Tryz.underlying107
attribute [simp] Tryz.underlying108
attribute [simp] Tryz.underlying109
attribute [simp] Tryz.underlying110
attribute [simp] Tryz.underlying111
attribute [simp] Tryz.underlying112
attribute [simp] Tryz.underlying113
attribute [simp] Tryz.underlying114
attribute [simp] Tryz.underlying115
attribute [simp] Tryz.underlying116
attribute [simp] Tryz.underlying117
attribute [simp] Tryz.underlying118
attribute [simp] Tryz.underlying119
attribute [simp] Tryz.underlying120
attribute [simp] Tryz.underlying121
attribute [simp] Tryz.underlying122
attribute [simp] Tryz.underlying123
attribute [simp] Tryz.underlying124
attribute [simp] Tryz.underlying125
attribute [simp] Tryz.underlying126
attribute [simp] Tryz.underlying127
attribute [simp] Tryz.underlying128
attribute [simp] Tryz.underlying129
attribute [simp] Tryz.underlying130
attribute [simp] Tryz.underlying131
attribute [simp] Tryz.underlying132
attribute [simp] Tryz.underlying133
attribute [simp] Tryz.underlying134
attribute [simp] Tryz.underlying135
attribute [simp] Tryz.underlying136
attribute [simp] Tryz.underlying137
attribute [simp] Tryz.underlying138
attribute [simp] Tryz.underlying139
attribute [simp] Tryz.underlying140
attribute [simp] Tryz.underlying141
attribute [simp] Tryz.underlying142
attribute [simp] Tryz.underlying143
attribute [simp] Tryz.underlying144
attribute [simp] Tryz.underlying145
attribute [simp] Tryz.underlying146
attribute [simp] Tryz.underlying147
attribute [simp] Tryz.underlying148
attribute [simp] Tryz.underlying149
attribute [simp] Tryz.underlying150
attribute [simp] Tryz.underlying151
attribute [simp] Tryz.underlying152
attribute [simp] Tryz.underlying153
attribute [simp] Tryz.underlying154
attribute [simp] Tryz.underlying155
attribute [simp] Tryz.underlying156
attribute [simp] Tryz.underlying157
attribute [simp] Tryz.underlying158
attribute [simp] Tryz.underlying159
attribute [simp] Tryz.underlying160
attribute [simp] Tryz.underlying161
attribute [simp] Tryz.underlying162
attribute [simp] Tryz.underlying163
attribute [simp] Tryz.underlying164
attribute [simp] Tryz.underlying165
attribute [simp] Tryz.underlying166
attribute [simp] Tryz.underlying167
attribute [simp] Tryz.underlying168
attribute [simp] Tryz.underlying169
attribute [simp] Tryz.underlying170
attribute [simp] Tryz.underlying171
attribute [simp] Tryz.underlying172
attribute [simp] Tryz.underlying173
attribute [simp] Tryz.underlying174
attribute [simp] Tryz.underlying175
attribute [simp] Tryz.underlying176
attribute [simp] Tryz.underlying177
attribute [simp] Tryz.underlying178
attribute [simp] Tryz.underlying179
attribute [simp] Tryz.underlying180
attribute [simp] Tryz.underlying181
attribute [simp] Tryz.underlying182
attribute [simp] Tryz.underlying183
attribute [simp] Tryz.underlying184
attribute [simp] Tryz.underlying185
attribute [simp] Tryz.underlying186
attribute [simp] Tryz.underlying187
attribute [simp] Tryz.underlying188
attribute [simp] Tryz.underlying189
attribute [simp] Tryz.underlying190
attribute [simp] Tryz.underlying191
attribute [simp] Tryz.underlying192
attribute [simp] Tryz.underlying193
attribute [simp] Tryz.underlying194
attribute [simp] Tryz.underlying195
attribute [simp] Tryz.underlying196
attribute [simp] Tryz.underlying197
attribute [simp] Tryz.underlying198
attribute [simp] Tryz.underlying199
attribute [simp] Tryz.underlying200
attribute [simp] Tryz.underlying201
attribute [simp] Tryz.underlying202
attribute [simp] Tryz.underlying203
attribute [simp] Tryz.underlying204
attribute [simp] Tryz.underlying205
attribute [simp] Tryz.underlying206
attribute [simp] Tryz.underlying207
attribute [simp] Tryz.underlying208
attribute [simp] Tryz.underlying209
attribute [simp] Tryz.underlying210
attribute [simp] Tryz.underlying211
attribute [simp] Tryz.underlying212
attribute [simp] Tryz.underlying213
attribute [simp] Tryz.underlying214
attribute [simp] Tryz.underlying215
attribute [simp] Tryz.underlying216
attribute [simp] Tryz.underlying217
attribute [simp] Tryz.underlying218
attribute [simp] Tryz.underlying219
attribute [simp] Tryz.underlying220
attribute [simp] Tryz.underlying221
attribute [simp] Tryz.underlying222
attribute [simp] Tryz.underlying223
attribute [simp] Tryz.underlying224
attribute [simp] Tryz.underlying225
attribute [simp] Tryz.underlying226
attribute [simp] Tryz.underlying227
attribute [simp] Tryz.underlying228
attribute [simp] Tryz.underlying229
attribute [simp] Tryz.underlying230
attribute [simp] Tryz.underlying231
attribute [simp] Tryz.underlying232
attribute [simp] Tryz.underlying233
attribute [simp] Tryz.underlying234
attribute [simp] Tryz.underlying235
attribute [simp] Tryz.underlying236
attribute [simp] Tryz.underlying237
attribute [simp] Tryz.underlying238
attribute [simp] Tryz.underlying239
attribute [simp] Tryz.underlying240
attribute [simp] Tryz.underlying241
attribute [simp] Tryz.underlying242
attribute [simp] Tryz.underlying243
attribute [simp] Tryz.underlying244
attribute [simp] Tryz.underlying245
attribute [simp] Tryz.underlying246
attribute [simp] Tryz.underlying247
attribute [simp] Tryz.underlying248
attribute [simp] Tryz.underlying249
attribute [simp] Tryz.underlying250
attribute [simp] Tryz.underlying251
attribute [simp] Tryz.underlying252
attribute [simp] Tryz.underlying253
attribute [simp] Tryz.underlying254
attribute [simp] Tryz.underlying255
attribute [simp] Tryz.underlying256
attribute [simp] Tryz.underlying257
attribute [simp] Tryz.underlying258
attribute [simp] Tryz.underlying259
attribute [simp] Tryz.underlying260
attribute [simp] Tryz.underlying261
attribute [simp] Tryz.underlying262
attribute [simp] Tryz.underlying263
attribute [simp] Tryz.underlying264
attribute [simp] Tryz.underlying265
attribute [simp] Tryz.underlying266
attribute [simp] Tryz.underlying267
attribute [simp] Tryz.underlying268
attribute [simp] Tryz.underlying269
attribute [simp] Tryz.underlying270
attribute [simp] Tryz.underlying271
attribute [simp] Tryz.underlying272
attribute [simp] Tryz.underlying273
attribute [simp] Tryz.underlying274
attribute [simp] Tryz.underlying275
attribute [simp] Tryz.underlying276
attribute [simp] Tryz.underlying277
attribute [simp] Tryz.underlying278
attribute [simp] Tryz.underlying279
attribute [simp] Tryz.underlying280
attribute [simp] Tryz.underlying281
attribute [simp] Tryz.underlying282
attribute [simp] Tryz.underlying283
attribute [simp] Tryz.underlying284
attribute [simp] Tryz.underlying285
attribute [simp] Tryz.underlying286
attribute [simp] Tryz.underlying287
attribute [simp] Tryz.underlying288
attribute [simp] Tryz.underlying289
attribute [simp] Tryz.underlying290
attribute [simp] Tryz.underlying291
attribute [simp] Tryz.underlying292
attribute [simp] Tryz.underlying293
attribute [simp] Tryz.underlying294
attribute [simp] Tryz.underlying295
attribute [simp] Tryz.underlying296
attribute [simp] Tryz.underlying297
attribute [simp] Tryz.underlying298
attribute [simp] Tryz.underlying299
attribute [simp] Tryz.underlying300
attribute [simp] Tryz.underlying301
attribute [simp] Tryz.underlying302
attribute [simp] Tryz.underlying303
attribute [simp] Tryz.underlying304
attribute [simp] Tryz.underlying305
attribute [simp] Tryz.underlying306
attribute [simp] Tryz.underlying307
attribute [simp] Tryz.underlying308
attribute [simp] Tryz.underlying309
attribute [simp] Tryz.underlying310
attribute [simp] Tryz.underlying311
attribute [simp] Tryz.underlying312
attribute [simp] Tryz.underlying313
attribute [simp] Tryz.underlying314
attribute [simp] Tryz.underlying315
attribute [simp] Tryz.underlying316
attribute [simp] Tryz.underlying317
attribute [simp] Tryz.underlying318
attribute [simp] Tryz.underlying319
attribute [simp] Tryz.underlying320
attribute [simp] Tryz.underlying321
attribute [simp] Tryz.underlying322
attribute [simp] Tryz.underlying323
attribute [simp] Tryz.underlying324
attribute [simp] Tryz.underlying325
attribute [simp] Tryz.underlying326
attribute [simp] Tryz.underlying327
attribute [simp] Tryz.underlying328
attribute [simp] Tryz.underlying329
attribute [simp] Tryz.underlying330
attribute [simp] Tryz.underlying331
attribute [simp] Tryz.underlying332
attribute [simp] Tryz.underlying333
attribute [simp] Tryz.underlying334
attribute [simp] Tryz.underlying335
attribute [simp] Tryz.underlying336
attribute [simp] Tryz.underlying337
attribute [simp] Tryz.underlying338
attribute [simp] Tryz.underlying339
attribute [simp] Tryz.underlying340
attribute [simp] Tryz.underlying341
attribute [simp] Tryz.underlying342
attribute [simp] Tryz.underlying343
attribute [simp] Tryz.underlying344
attribute [simp] Tryz.underlying345
attribute [simp] Tryz.underlying346
attribute [simp] Tryz.underlying347
attribute [simp] Tryz.underlying348
attribute [simp] Tryz.underlying349
attribute [simp] Tryz.underlying350
attribute [simp] Tryz.underlying351
attribute [simp] Tryz.underlying352
attribute [simp] Tryz.underlying353
attribute [simp] Tryz.underlying354
attribute [simp] Tryz.underlying355
attribute [simp] Tryz.underlying356
attribute [simp] Tryz.underlying357
attribute [simp] Tryz.underlying358
attribute [simp] Tryz.underlying359
attribute [simp] Tryz.underlying360
attribute [simp] Tryz.underlying361
attribute [simp] Tryz.underlying362
attribute [simp] Tryz.underlying363
attribute [simp] Tryz.underlying364
attribute [simp] Tryz.underlying365
attribute [simp] Tryz.underlying366
attribute [simp] Tryz.underlying367
attribute [simp] Tryz.underlying368
attribute [simp] Tryz.underlying369
attribute [simp] Tryz.underlying370
attribute [simp] Tryz.underlying371
attribute [simp] Tryz.underlying372
attribute [simp] Tryz.underlying373
attribute [simp] Tryz.underlying374
attribute [simp] Tryz.underlying375
attribute [simp] Tryz.underlying376
attribute [simp] Tryz.underlying377
attribute [simp] Tryz.underlying378
attribute [simp] Tryz.underlying379
attribute [simp] Tryz.underlying380
attribute [simp] Tryz.underlying381
attribute [simp] Tryz.underlying382
attribute [simp] Tryz.underlying383
attribute [simp] Tryz.underlying384
attribute [simp] Tryz.underlying385
attribute [simp] Tryz.underlying386
attribute [simp] Tryz.underlying387
attribute [simp] Tryz.underlying388
attribute [simp] Tryz.underlying389
attribute [simp] Tryz.underlying390
attribute [simp] Tryz.underlying391
attribute [simp] Tryz.underlying392
attribute [simp] Tryz.underlying393
attribute [simp] Tryz.underlying394
attribute [simp] Tryz.underlying395
attribute [simp] Tryz.underlying396
attribute [simp] Tryz.underlying397
attribute [simp] Tryz.underlying398
attribute [simp] Tryz.underlying399
attribute [simp] Tryz.underlying400
attribute [simp] Tryz.underlying401
attribute [simp] Tryz.underlying402
attribute [simp] Tryz.underlying403
attribute [simp] Tryz.underlying404
attribute [simp] Tryz.underlying405
attribute [simp] Tryz.underlying406
attribute [simp] Tryz.underlying407
attribute [simp] Tryz.underlying408
attribute [simp] Tryz.underlying409
attribute [simp] Tryz.underlying410
attribute [simp] Tryz.underlying411
attribute [simp] Tryz.underlying412
attribute [simp] Tryz.underlying413
attribute [simp] Tryz.underlying414
attribute [simp] Tryz.underlying415
attribute [simp] Tryz.underlying416
attribute [simp] Tryz.underlying417
attribute [simp] Tryz.underlying418
attribute [simp] Tryz.underlying419
attribute [simp] Tryz.underlying420
attribute [simp] Tryz.underlying421
attribute [simp] Tryz.underlying422
attribute [simp] Tryz.underlying423
attribute [simp] Tryz.underlying424
end Go.Proofs.YtocccighdkdljaaGreatDoor.Tab

set_option exponentiation.threshold 1000
set_option linter.unusedVariables false
set_option linter.unusedSimpArgs false
set_option maxRecDepth 100000
set_option maxHeartbeats 4000000
namespace Go.Av
open Go Go.Proofs Go.Proofs.YtocccighdkdljaaGreatDoor Go.RowKit
attribute [local simp] List.getElem?_cons_zero List.getElem?_cons_succ
open Go.Extern.Stop Go.Stop Go.Extern
namespace Er
theorem typeOf_ (t : TypeId) (h : (t == 121 || t == 123 || t == 129) = true) (v : Value) (w : World) : (ReflectliteType.typeOf #[.iface t v]).run Tryz.prog w = .ok (.iface 258 (.agg #[.pointer (some ⟨2, t, none⟩)])) w := by
  simp only [Bool.or_eq_true, beq_iff_eq] at h
  rcases h with (rfl | rfl) | rfl <;> kernel_rfl
theorem comparableS (w : World) : ((ReflectliteType.method fun t => do Rtype.noPackHeld "Comparable" t; (fun a => Value.bool a.comparable) <$> typeInfo t) #[.agg #[.pointer (some ⟨2, 121, none⟩)]]).run Tryz.prog w = .ok (.bool true) w := by kernel_rfl
theorem mComparable (v : Value) (w : World) : (Go.method 525 258 v "Comparable").run Tryz.prog w = .ok (329, v) w := by kernel_rfl
theorem mUnwrap (v : Value) (w : World) : (Go.method 525 123 v "Unwrap").run Tryz.prog w = .ok (319, v) w := by kernel_rfl
theorem compS : (Tryz.prog.info? 121).map (·.comparable) = some true := by kernel_rfl
theorem noIsW (v : Value) (w : World) : (Instr.typeAssert (.iface 123 v) 74 260 true).run Tryz.prog w = .ok (.tuple #[.nilIface, .bool false]) w := run_typeAssert_lacksB Tryz.underlying260 (by kernel_rfl) (by kernel_rfl) v _ w
theorem noIsS (v : Value) (w : World) : (Instr.typeAssert (.iface 121 v) 74 260 true).run Tryz.prog w = .ok (.tuple #[.nilIface, .bool false]) w := run_typeAssert_lacksB Tryz.underlying260 (by kernel_rfl) (by kernel_rfl) v _ w
theorem unW (v : Value) (w : World) : (Instr.typeAssert (.iface 123 v) 74 263 true).run Tryz.prog w = .ok (.tuple #[.iface 123 v, .bool true]) w := run_typeAssert_hasB Tryz.underlying263 (by kernel_rfl) v _ w
theorem unS (v : Value) (w : World) : (Instr.typeAssert (.iface 121 v) 74 263 true).run Tryz.prog w = .ok (.tuple #[.nilIface, .bool false]) w := run_typeAssert_lacksB Tryz.underlying263 (by kernel_rfl) (by kernel_rfl) v _ w
theorem unsS (v : Value) (w : World) : (Instr.typeAssert (.iface 121 v) 74 265 true).run Tryz.prog w = .ok (.tuple #[.nilIface, .bool false]) w := run_typeAssert_lacksB Tryz.underlying265 (by kernel_rfl) (by kernel_rfl) v _ w
theorem eqSS (s t : ByteArray) (w : World) : (binOp .eql 74 (.iface 121 (.string s)) (.iface 121 (.string t))).run Tryz.prog w = .ok (.bool (s == t)) w := by
  obtain ⟨i, hi, hc⟩ := Option.map_eq_some_iff.1 compS
  have key : ∀ d : Nat, (Op.equalIn (d + 2) 74 (.iface 121 (.string s)) (.iface 121 (.string t))).run Tryz.prog w = .ok (s == t) w := fun d => by
    simp [Op.equalIn, run_underlying Tryz.underlying74, run_underlying Tryz.underlying121, typeInfo, hi, hc]
  have k2 := key 9998
  simp only [binOp]
  simp [Op.equal, Op.maxDepth, k2]
set_option maxHeartbeats 4000000 in
theorem is_sign (s t : ByteArray) (w : World) :
    Calls Tryz.prog 61 #[.iface 123 (.agg #[.iface 121 (.string s)]), .iface 121 (.string t)] w fun e w' => e = .returned (.bool (s == t)) ∧ RowKit.Below w.heap.size w w' := by
  have hT := @run_callFunc_extern Tryz.prog 104 _ ReflectliteType.typeOf Tryz.func104 (by kernel_rfl) (by kernel_rfl) (by kernel_rfl) (by kernel_rfl)
  have hC := @run_callFunc_extern Tryz.prog 329 _ (ReflectliteType.method fun t => do Rtype.noPackHeld "Comparable" t; pure (.bool (← typeInfo t).comparable)) Tryz.func329 (by kernel_rfl) (by kernel_rfl) (by kernel_rfl) (by kernel_rfl)
  have tT := typeOf_ 121 rfl
  have cT := comparableS
  have mR := mComparable
  have nW := noIsW
  have nS := noIsS
  have uW := unW
  have uS := unS
  have vS := unsS
  have mU := mUnwrap
  have heq := eqSS s t
  have hty := fun v u => run_eql_iface_types (P := Tryz.prog) 123 121 v u Tryz.underlying74 (by decide) w
  go_enter Tryz.func61, Tryz.ntmps61
  go_wp2
  refine wp_loop_rounds 2 ?_
  rw [rounds_succ]
  go_wp2
  rw [rounds_succ]
  cases hst : (s == t)
  · rw [hst] at heq
    go_wp2
    go_ret
    exact ⟨by rw [hst]; rfl, (Below.refl _ _).alloc (Nat.le_refl _) _⟩
  · rw [hst] at heq
    go_wp2
    go_ret
    exact ⟨by rw [hst]; rfl, (Below.refl _ _).alloc (Nat.le_refl _) _⟩
end Er
end Go.Av

set_option exponentiation.threshold 1000
set_option linter.unusedVariables false
set_option linter.unusedSimpArgs false
set_option maxRecDepth 100000
set_option maxHeartbeats 4000000
namespace Go.Av
open Go Go.Proofs Go.Proofs.YtocccighdkdljaaGreatDoor Go.RowKit
attribute [local simp] List.getElem?_cons_zero List.getElem?_cons_succ
open Go.Extern.Stop Go.Stop Go.Extern
namespace Er
def w5 (e : Int) (b : ByteArray) (t : Addr) (w : World) : World :=
  ((((w.alloc (.cells #[.pointer (some t)] 132)).alloc (.cells #[.pointer (some ⟨2, 132, none⟩), .pointer (some ⟨w.heap.size, 0, none⟩), .int .u64 150] 197)).alloc (.cells #[.pointer (some ⟨2, 132, none⟩), .pointer (some ⟨w.heap.size, 0, none⟩), .int .u64 150] 197)).alloc (.cells #[.iface 129 (.agg #[.int .i64 e, .string b])] 123)).alloc (.cells #[.int .i64 e, .string b] 129)
end Er
def signC (s : ByteArray) : C := .ifc 121 false [.v (.string s)]
def refC (e : Int) (b : ByteArray) : C := .ifc 129 true [.v (.int .i64 e), .v (.string b)]
def wrC (x : C) : C := .ifc 123 true [x]
theorem rep_sign {w : World} {S : Nat → Prop} {s : ByteArray} {y : Value} (h : RepC w S (signC s) y) : y = .iface 121 (.string s) := by
  unfold signC at h
  cases h with
  | ifc1 t c y h => cases h; rfl
theorem rep_wr {w : World} {S : Nat → Prop} {x : C} {y : Value} (h : RepC w S (wrC x) y) : ∃ u, y = .iface 123 (.agg #[u]) ∧ RepC w S x u := by
  unfold wrC at h
  cases h with
  | ifca t cs arr hs ho h =>
    obtain ⟨l⟩ := arr
    match l, hs with
    | [u], _ =>
      have h0 := h 0 (by simp) _ rfl
      simp only [List.getElem_toArray, List.getElem_cons_zero] at h0
      exact ⟨u, rfl, h0⟩
theorem isSign_den (s t : ByteArray) : DenV Tryz.prog 61 [.c (wrC (signC s)), .c (signC t)] (.c (.v (.bool (s == t)))) := by
  refine Den.of_below (by kernel_rfl) rfl fun w E vals hs ha hst => ?_
  obtain ⟨va, vb, rfl⟩ : ∃ va vb, vals = #[va, vb] := by
    obtain ⟨l⟩ := vals
    match l, hs with
    | [a, b], _ => exact ⟨a, b, rfl⟩
  have h1 := ha 0 _ rfl
  have h2 := ha 1 _ rfl
  simp only [Array.getD_eq_getD_getElem?, List.getElem?_toArray, List.getElem?_cons_zero, List.getElem?_cons_succ, Option.getD_some] at h1 h2
  cases h1 with
  | c h1 =>
    cases h2 with
    | c h2 =>
      obtain rfl := rep_sign h2
      obtain ⟨u, rfl, hu⟩ := rep_wr h1
      obtain rfl := rep_sign hu
      exact Er.is_sign s t w
def refO (e : Int) (b : ByteArray) : Ob := ⟨129, 2, false, 0, [.c (.v (.int .i64 e)), .c (.v (.string b))], none⟩
end Go.Av

set_option exponentiation.threshold 1000
set_option linter.unusedVariables false
set_option linter.unusedSimpArgs false
set_option maxRecDepth 100000
set_option maxHeartbeats 4000000
namespace Go.Av
open Go Go.Proofs Go.Proofs.YtocccighdkdljaaGreatDoor Go.RowKit
attribute [local simp] List.getElem?_cons_zero List.getElem?_cons_succ
def b8 (b : UInt8) : C := .v (.int .u8 (b.toNat : Int))
def bytesC (l : List UInt8) : List C := l.map b8
def bsS (l : List UInt8) : ByteArray := ⟨l.toArray⟩
def u64C (n : Nat) : C := .v (.int .u64 (n : Int))
def putN : Nat → Nat → List UInt8
  | _, 0 => []
  | x, n + 1 => putN (x / 256) n ++ [UInt8.ofNat x]
theorem putN_len (x n : Nat) : (putN x n).length = n := by
  induction n generalizing x with
  | zero => rfl
  | succ n ih => rw [putN, List.length_append, ih]; rfl
theorem putN_succ (x n : Nat) : putN x (n + 1) = UInt8.ofNat (x / 256 ^ n) :: putN x n := by
  induction n generalizing x with
  | zero => simp [putN]
  | succ n ih =>
    rw [putN, ih, putN, List.cons_append, Nat.div_div_eq_div_mul, Nat.pow_succ, Nat.mul_comm]
theorem bytesM_bytes (l : List UInt8) : bytesM (up (bytesC l)) = some l := by
  induction l with
  | nil => rfl
  | cons x xs ih =>
    simp only [bytesC, up, List.map_cons] at *
    simp only [bytesM, b8] at *
    rw [ih]
    simp
theorem ofNat_mod (x : Nat) : ((UInt8.ofNat x).toNat : Int) = ((x % 256 : Nat) : Int) := by simp
theorem put_den (x n : Nat) (hx : x < 18446744073709551616) (hn : n ≤ 1000000) : DenV Tryz.prog 224 [.c (u64C x), .c (iC n)] (.c (.v (.string (bsS (putN x n))))) := by
  refine Den.frame rfl rfl ?_
  refine den_of Tryz.func224 rfl rfl (by simp [Tryz.ntmps224]) (fun X hX hO => ?_)
  rw [Tryz.ntmps224] at hX
  simp only [Tryz.results224]
  repeat' (first 
   | (with_reducible first | refine awp_scope ?_ | refine awp_seq ?_ | refine awp_block ?_)
   | ((with_reducible first | refine awp_label ?_ | refine awp_skip ?_ | refine awp_exit ?_ | refine hother _ _ rfl ?_); try simp only [thenA, inBlockA, noGotoA, if_true, Nat.reduceEqDiff, if_false, ↓reduceIte])
   | ((with_reducible first | refine awp_reg 26 hX [0, 1, 4, 5, 6, 9, 10, 11] ?_ | change postOf _ _ _ _ _); simp [-List.reduceReplicate, Nat.add_one_le_iff, -getElem?_pos, -getElem?_neg, u64C, iC])
   | ((first | (with_reducible refine awp_ret ?_; try simp only [thenA, inBlockA, noGotoA])); try simp [-List.reduceReplicate, Nat.add_one_le_iff, -getElem?_pos, -getElem?_neg, u64C, iC])
   | (with_reducible refine awp_if_b rfl (fun hc => ?_) (fun hc => ?_) <;> (try simp [-getElem?_pos, -getElem?_neg] at hc) <;> (try (exfalso; omega)))
   | (with_reducible refine And.intro (by omega) ?_)
   | fail)
  refine awp_forU [0, 1, 5, 9, 10] (fun i (_u : Unit) => [(0, .c (u64C (x / 256 ^ i))), (10, .c (iC i))]) (fun i (_u : Unit) => [⟨5, 1, false, 0, up (List.replicate (n - i) (b8 0) ++ bytesC (putN x i)), none⟩]) (fun i (_u : Unit) => True) (n) (()) (by first | trivial | (simp; done) | omega | (intros; simp at *; done)) (by simp [-List.reduceReplicate, keep, u64C, iC, b8, putN, bytesC]) (by simp [-List.reduceReplicate, u64C, iC, b8, putN, bytesC]) ?_
  rintro i _u Q1 hi hH next hother
  conv => arg 5; arg 1; simp only [List.cons_append, List.nil_append, keep, get, Nat.reduceEqDiff, if_true, if_false, ↓reduceIte]
  have hwi := wrap_in ((i : Int) + 1) (by omega)
  have hw1 := wrap_in ((n : Int) - 1) (by omega)
  have hw2 := wrap_in ((n : Int) - 1 - (i : Int)) (by omega)
  have hlx : x / 256 ^ i ≤ x := Nat.div_le_self _ _
  have hw3 := modU8 ((x / 256 ^ i : Nat) : Int)
  by_cases hlt : i < n
  · have hb : .v (.int .u8 (((x / 256 ^ i : Nat) : Int) % 256)) = b8 (UInt8.ofNat (x / 256 ^ i)) := by unfold b8; rw [ofNat_mod]; rfl
    have hset : (List.replicate (n - i) (b8 0) ++ bytesC (putN x i)).set (n - 1 - i) (b8 (UInt8.ofNat (x / 256 ^ i))) = List.replicate (n - (i + 1)) (b8 0) ++ bytesC (putN x (i + 1)) := by
      rw [show n - i = (n - (i + 1)) + 1 by omega, List.replicate_succ', List.append_assoc, List.set_append_right _ _ (by simp; omega), List.length_replicate, show n - 1 - i - (n - (i + 1)) = 0 by omega, putN_succ]
      rfl
    have hln : (List.replicate (n - i) (b8 0) ++ bytesC (putN x i)).length = n := by simp [bytesC, putN_len]; omega
    have hdiv : ((x / 256 ^ i : Nat) : Int).fdiv 256 = ((x / 256 ^ (i + 1) : Nat) : Int) := by rw [Nat.pow_succ, ← Nat.div_div_eq_div_mul]; exact fdiv_nat _ 256
    generalize hxj : x / 256 ^ (i + 1) = xj at *
    have ht : ((n : Int) - 1 - (i : Int)).toNat = n - 1 - i := by omega
    have c1 : (i : Int) ≤ (n : Int) - 1 := by omega
    have c2 : (n : Int) - 1 - (i : Int) < n := by omega
    have c3 : n - 1 - i < n := by omega
    generalize List.replicate (n - i) (b8 0) ++ bytesC (putN x i) = r0 at *
    generalize hxi : x / 256 ^ i = xi at *
    repeat' (first 
     | (with_reducible first | refine awp_scope ?_ | refine awp_seq ?_ | refine awp_block ?_)
     | ((with_reducible first | refine awp_label ?_ | refine awp_skip ?_ | refine awp_exit ?_ | refine hother _ _ rfl ?_); try simp only [thenA, inBlockA, noGotoA, if_true, Nat.reduceEqDiff, if_false, ↓reduceIte])
     | ((with_reducible first | refine awp_reg 26 hX [0, 1, 4, 5, 6, 9, 10, 11] ?_ | change postOf _ _ _ _ _); simp [-List.reduceReplicate, Nat.add_one_le_iff, -getElem?_pos, -getElem?_neg, u64C, iC, hlt, hwi, hw1, hw2, hw3, ht, c1, c2, c3, hln, hdiv, IntKind.bits])
     | ((first | (with_reducible refine awp_ret ?_; try simp only [thenA, inBlockA, noGotoA])); try simp [-List.reduceReplicate, Nat.add_one_le_iff, -getElem?_pos, -getElem?_neg, u64C, iC, hlt, hwi, hw1, hw2, hw3, ht, c1, c2, c3, hln, hdiv, IntKind.bits])
     | (with_reducible refine awp_if_b rfl (fun hc => ?_) (fun hc => ?_) <;> (try simp [-getElem?_pos, -getElem?_neg] at hc) <;> (try (exfalso; omega)))
     | (with_reducible refine And.intro (by omega) ?_)
     | fail)
    refine next _ _ () hlt trivial (by simp [keep, u64C, iC, hxj]) ?_
    rw [hb, hset]
  · have hin : i = n := by omega
    subst hin
    have hbm := bytesM_bytes (putN x i)
    have htk : (bytesC (putN x i)).take i = bytesC (putN x i) := List.take_of_length_le (by simp [bytesC, putN_len])
    have hl : (bytesC (putN x i)).length = i := by simp [bytesC, putN_len]
    generalize hr : bytesC (putN x i) = r at *
    repeat' (first 
     | (with_reducible first | refine awp_scope ?_ | refine awp_seq ?_ | refine awp_block ?_)
     | ((with_reducible first | refine awp_label ?_ | refine awp_skip ?_ | refine awp_exit ?_ | refine hother _ _ rfl ?_); try simp only [thenA, inBlockA, noGotoA, if_true, Nat.reduceEqDiff, if_false, ↓reduceIte])
     | ((with_reducible first | refine awp_reg 26 hX [0, 1, 4, 5, 6, 9, 10, 11] ?_ | change postOf _ _ _ _ _); simp [-List.reduceReplicate, Nat.add_one_le_iff, -getElem?_pos, -getElem?_neg, u64C, iC, hlt, hbm, hl, htk, hr, bsS])
     | ((first | (with_reducible refine awp_ret ?_; try simp only [thenA, inBlockA, noGotoA])); try simp [-List.reduceReplicate, Nat.add_one_le_iff, -getElem?_pos, -getElem?_neg, u64C, iC, hlt, hbm, hl, htk, hr, bsS])
     | (with_reducible refine awp_if_b rfl (fun hc => ?_) (fun hc => ?_) <;> (try simp [-getElem?_pos, -getElem?_neg] at hc) <;> (try (exfalso; omega)))
     | (with_reducible refine And.intro (by omega) ?_)
     | fail)
theorem put64_den (x : Nat) (hx : x < 18446744073709551616) : DenV Tryz.prog 156 [.c (u64C x)] (.c (.v (.string (bsS (putN x 8))))) := by
  refine Den.frame rfl rfl ?_
  refine den_of Tryz.func156 rfl rfl (by simp [Tryz.ntmps156]) (fun X hX hO => ?_)
  rw [Tryz.ntmps156] at hX
  simp only [Tryz.results156]
  repeat' (first 
   | (with_reducible first | refine awp_scope ?_ | refine awp_seq ?_ | refine awp_block ?_)
   | ((with_reducible first | refine awp_label ?_ | refine awp_skip ?_ | refine awp_exit ?_); try simp only [thenA, inBlockA, noGotoA, if_true, Nat.reduceEqDiff, if_false, ↓reduceIte])
   | ((with_reducible first | refine awp_reg 5 hX [0, 2] ?_ | change postOf _ _ _ _ _); simp [-List.reduceReplicate, Nat.add_one_le_iff, -getElem?_pos, -getElem?_neg, u64C])
   | ((first | (with_reducible refine awp_ret ?_; try simp only [thenA, inBlockA, noGotoA]) | ((with_reducible refine Den.at_ (f := 224) ?_); refine (put_den x 8 hx (by omega) _).det ?_)); try simp [-List.reduceReplicate, Nat.add_one_le_iff, -getElem?_pos, -getElem?_neg, u64C])
   | (with_reducible refine awp_if_b rfl (fun hc => ?_) (fun hc => ?_) <;> (try simp [-getElem?_pos, -getElem?_neg] at hc) <;> (try (exfalso; omega)))
   | (with_reducible refine And.intro (by omega) ?_)
   | fail)
theorem bs_append (a b : List UInt8) : bsS a ++ bsS b = bsS (a ++ b) := by
  apply ByteArray.ext
  simp [bsS]
theorem bs_size (l : List UInt8) : (bsS l).size = l.length := by simp [bsS, ByteArray.size]
end Go.Av

set_option exponentiation.threshold 1000
set_option linter.unusedVariables false
set_option linter.unusedSimpArgs false
set_option maxRecDepth 100000
set_option maxHeartbeats 4000000
namespace Go.Av
open Go Go.Proofs Go.Proofs.YtocccighdkdljaaGreatDoor Go.RowKit
attribute [local simp] List.getElem?_cons_zero List.getElem?_cons_succ
def strC (l : List ByteArray) : C := .sl (l.map fun s => .v (.string s)) l.length false
theorem opens_u64 {P : Program} {t : TypeId} (ht : P.underlying t = some (.int .u64)) : Opens P t (fun n : Nat => [u64C n]) (fun n => n < 18446744073709551616) :=
  (opens_int ht).conv fun n hn => by
    have h : 0 ≤ n ∧ n ≤ 18446744073709551615 := by simpa [Lit.wf, IntKind.min, IntKind.max, IntKind.signed, IntKind.bits] using hn
    exact ⟨n.toNat, by omega, by simp only [u64C]; rw [show ((n.toNat : Nat) : Int) = n by omega]⟩
end Go.Av

set_option exponentiation.threshold 1000
set_option linter.unusedVariables false
set_option linter.unusedSimpArgs false
set_option maxRecDepth 100000
set_option maxHeartbeats 4000000
namespace Go.Av
open Go Go.Proofs Go.Proofs.YtocccighdkdljaaGreatDoor Go.RowKit
attribute [local simp] List.getElem?_cons_zero List.getElem?_cons_succ
def putV (x : Nat) : List UInt8 := if x < 128 then [UInt8.ofNat x] else UInt8.ofNat (x % 128 + 128) :: putV (x / 128)
end Go.Av

set_option exponentiation.threshold 1000
set_option linter.unusedVariables false
set_option linter.unusedSimpArgs false
set_option maxRecDepth 100000
set_option maxHeartbeats 4000000
namespace Go.Av
open Go Go.Proofs Go.Proofs.YtocccighdkdljaaGreatDoor Go.RowKit
attribute [local simp] List.getElem?_cons_zero List.getElem?_cons_succ
def leadV : Nat → List UInt8 → Nat
  | 0, _ => 0
  | _ + 1, [] => 0
  | k + 1, b :: r => if 128 ≤ b.toNat then leadV k r + 1 else 0
def valV (l : List UInt8) : Nat → Nat
  | 0 => 0
  | n + 1 => valV l n + (l.getD n 0).toNat % 128 * 128 ^ n
def takeV (b : ByteArray) : Nat × Nat × Nat :=
  let l := b.data.toList
  let n := leadV 10 l
  if n = 10 then (0, 0, 2) else if n = l.length then (0, 0, 1) else if 0 < n ∧ (l.getD n 0).toNat = 0 then (0, 0, 2) else if n = 9 ∧ 1 < (l.getD n 0).toNat then (0, 0, 3) else (valV l (n + 1), n + 1, 0)
def takeM (p : Nat × Nat × Nat) : M := .tup [.c (u64C p.1), .c (iC p.2.1), .c (iC p.2.2)]
end Go.Av

set_option exponentiation.threshold 1000
set_option linter.unusedVariables false
set_option linter.unusedSimpArgs false
set_option maxRecDepth 100000
set_option maxHeartbeats 4000000
namespace Go.Av
open Go Go.Proofs Go.Proofs.YtocccighdkdljaaGreatDoor Go.RowKit
attribute [local simp] List.getElem?_cons_zero List.getElem?_cons_succ
def hornV (l : List UInt8) (n : Nat) : Nat → Nat
  | 0 => 0
  | k + 1 => hornV l n k * 128 + (l.getD (n - k) 0).toNat % 128
end Go.Av

set_option exponentiation.threshold 1000
set_option linter.unusedVariables false
set_option linter.unusedSimpArgs false
set_option maxRecDepth 100000
set_option maxHeartbeats 4000000
namespace Go.Av
open Go Go.Proofs Go.Proofs.YtocccighdkdljaaGreatDoor Go.RowKit
attribute [local simp] List.getElem?_cons_zero List.getElem?_cons_succ
def bC8 (b : UInt8) : C := .v (.int .u8 (b.toNat : Int))
def hashM (l : List UInt8) : M := .agg (up (l.map bC8))
theorem eq_hash (l l' : List UInt8) (h : l.length = 32) (h' : l'.length = 32) : eqM (List.replicate 32 0) (up (l.map bC8)) (up (l'.map bC8)) = some (decide (l = l')) := by
  have e := eqM_ints (k := .u8) 32 (l.map fun b => (b.toNat : Int)) (l'.map fun b => (b.toNat : Int)) (by simp [h]) (by simp [h'])
  have inj : (l.map (fun b => (b.toNat : Int)) = l'.map fun b => (b.toNat : Int)) ↔ l = l' := by
    constructor
    · intro h
      exact List.map_inj_right (fun a b hab => UInt8.toNat_inj.1 (by omega)) |>.1 h
    · intro h; rw [h]
  rw [List.map_map, List.map_map] at e
  simp only [inj] at e
  exact e
theorem lt_hash (n : Nat) (l : List UInt8) : ltB n (hashM l) = true := by
  simp only [hashM, ltB]
  exact ltBs_up n _
theorem bytesM_b8 (l : List UInt8) : bytesM (up (l.map bC8)) = some l := by
  induction l with
  | nil => rfl
  | cons x xs ih =>
    simp only [up, List.map_cons] at *
    simp only [bytesM, bC8] at *
    rw [ih]
    simp
end Go.Av
