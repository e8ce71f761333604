/- 7 texts of the program logic over abstract values, joined: each is proved without any condition beyond its own words. -/
import Derived.Test.YtpcnacknlgmmlaaProg
import Derived.Test.YtpcnacknlgmmlaaAvEngine3
import Derived.Test.YtpcnacknlgmmlaaAvEngine4
/- The type table of the program, as facts. Printed by mktab.py. -/
set_option linter.unusedVariables false
namespace Go.Proofs.Ytpcnacknlgmmlaa.Tab
open Go Go.Proofs Go.Av
@[simp] theorem zero5 : zeroT Try.prog 5 = some [M.c (C.v (Value.int IntKind.u8 0))] := by kernel_rfl
@[simp] theorem zero9 : zeroT Try.prog 9 = some [M.c (C.v (Value.string { data := { toList := [] } }))] := by kernel_rfl
@[simp] theorem zero45 : zeroT Try.prog 45 = some (List.replicate 32 (M.c (C.v (Value.int IntKind.u8 0)))) := by kernel_rfl
@[simp] theorem zero47 : zeroT Try.prog 47 = some [M.c (C.v (Value.int IntKind.u32 0)), M.c (C.v (Value.int IntKind.u8 0)), M.c (C.v (Value.int IntKind.u8 0)), M.c (C.v (Value.int IntKind.u8 0)), M.c (C.v (Value.int IntKind.u8 0)), M.c (C.v (Value.int IntKind.u8 0)), M.c (C.v (Value.int IntKind.u8 0)), M.c (C.v (Value.int IntKind.u8 0)), M.c (C.v (Value.int IntKind.u8 0)), M.c (C.v (Value.int IntKind.u8 0)), M.c (C.v (Value.int IntKind.u8 0)), M.c (C.v (Value.int IntKind.u8 0)), M.c (C.v (Value.int IntKind.u8 0)), M.c (C.v (Value.int IntKind.u8 0)), M.c (C.v (Value.int IntKind.u8 0)), M.c (C.v (Value.int IntKind.u8 0)), M.c (C.v (Value.int IntKind.u8 0)), M.c (C.v (Value.int IntKind.u8 0)), M.c (C.v (Value.int IntKind.u8 0)), M.c (C.v (Value.int IntKind.u8 0)), M.c (C.v (Value.int IntKind.u8 0)), M.c (C.v (Value.int IntKind.u8 0)), M.c (C.v (Value.int IntKind.u8 0)), M.c (C.v (Value.int IntKind.u8 0)), M.c (C.v (Value.int IntKind.u8 0)), M.c (C.v (Value.int IntKind.u8 0)), M.c (C.v (Value.int IntKind.u8 0)), M.c (C.v (Value.int IntKind.u8 0)), M.c (C.v (Value.int IntKind.u8 0)), M.c (C.v (Value.int IntKind.u8 0)), M.c (C.v (Value.int IntKind.u8 0)), M.c (C.v (Value.int IntKind.u8 0)), M.c (C.v (Value.int IntKind.u8 0)), M.c (C.v (Value.int IntKind.u8 0)), M.c (C.v (Value.int IntKind.u8 0)), M.c (C.v (Value.int IntKind.u8 0)), M.c (C.v (Value.int IntKind.u8 0)), M.c (C.v (Value.int IntKind.u8 0)), M.c (C.v (Value.int IntKind.u8 0)), M.c (C.v (Value.int IntKind.u8 0)), M.c (C.v (Value.int IntKind.u8 0)), M.c (C.v (Value.int IntKind.u8 0)), M.c (C.v (Value.int IntKind.u8 0)), M.c (C.v (Value.int IntKind.u8 0)), M.c (C.v (Value.int IntKind.u8 0)), M.c (C.v (Value.int IntKind.u8 0)), M.c (C.v (Value.int IntKind.u8 0)), M.c (C.v (Value.int IntKind.u8 0)), M.c (C.v (Value.int IntKind.u8 0)), M.c (C.v (Value.int IntKind.u8 0)), M.c (C.v (Value.int IntKind.u8 0)), M.c (C.v (Value.int IntKind.u8 0)), M.c (C.v (Value.int IntKind.u8 0)), M.c (C.v (Value.int IntKind.u8 0)), M.c (C.v (Value.int IntKind.u8 0)), M.c (C.v (Value.int IntKind.u8 0)), M.c (C.v (Value.int IntKind.u8 0)), M.c (C.v (Value.int IntKind.u8 0)), M.c (C.v (Value.int IntKind.u8 0)), M.c (C.v (Value.int IntKind.u8 0)), M.c (C.v (Value.int IntKind.u8 0)), M.c (C.v (Value.int IntKind.u8 0)), M.c (C.v (Value.int IntKind.u8 0)), M.c (C.v (Value.int IntKind.u8 0)), M.c (C.v (Value.int IntKind.u8 0)), M.c (C.v (Value.int IntKind.u64 0))] := by kernel_rfl
@[simp] theorem zero49 : zeroT Try.prog 49 = some [M.c (C.v (Value.int IntKind.u32 0)), M.c (C.v (Value.int IntKind.u8 0)), M.c (C.v (Value.int IntKind.u8 0)), M.c (C.v (Value.int IntKind.u8 0)), M.c (C.v (Value.int IntKind.u8 0)), M.c (C.v (Value.int IntKind.u8 0)), M.c (C.v (Value.int IntKind.u8 0)), M.c (C.v (Value.int IntKind.u8 0)), M.c (C.v (Value.int IntKind.u8 0)), M.c (C.v (Value.int IntKind.u8 0)), M.c (C.v (Value.int IntKind.u8 0)), M.c (C.v (Value.int IntKind.u8 0)), M.c (C.v (Value.int IntKind.u8 0)), M.c (C.v (Value.int IntKind.u8 0)), M.c (C.v (Value.int IntKind.u8 0)), M.c (C.v (Value.int IntKind.u8 0)), M.c (C.v (Value.int IntKind.u8 0)), M.c (C.v (Value.int IntKind.u8 0)), M.c (C.v (Value.int IntKind.u8 0)), M.c (C.v (Value.int IntKind.u8 0)), M.c (C.v (Value.int IntKind.u8 0)), M.c (C.v (Value.int IntKind.u8 0)), M.c (C.v (Value.int IntKind.u8 0)), M.c (C.v (Value.int IntKind.u8 0)), M.c (C.v (Value.int IntKind.u8 0)), M.c (C.v (Value.int IntKind.u8 0)), M.c (C.v (Value.int IntKind.u8 0)), M.c (C.v (Value.int IntKind.u8 0)), M.c (C.v (Value.int IntKind.u8 0)), M.c (C.v (Value.int IntKind.u8 0)), M.c (C.v (Value.int IntKind.u8 0)), M.c (C.v (Value.int IntKind.u8 0)), M.c (C.v (Value.int IntKind.u8 0)), M.c (C.v (Value.int IntKind.u8 0)), M.c (C.v (Value.int IntKind.u8 0)), M.c (C.v (Value.int IntKind.u8 0)), M.c (C.v (Value.int IntKind.u8 0)), M.c (C.v (Value.int IntKind.u8 0)), M.c (C.v (Value.int IntKind.u8 0)), M.c (C.v (Value.int IntKind.u8 0)), M.c (C.v (Value.int IntKind.u8 0)), M.c (C.v (Value.int IntKind.u8 0)), M.c (C.v (Value.int IntKind.u8 0)), M.c (C.v (Value.int IntKind.u8 0)), M.c (C.v (Value.int IntKind.u8 0)), M.c (C.v (Value.int IntKind.u8 0)), M.c (C.v (Value.int IntKind.u8 0)), M.c (C.v (Value.int IntKind.u8 0)), M.c (C.v (Value.int IntKind.u8 0)), M.c (C.v (Value.int IntKind.u8 0)), M.c (C.v (Value.int IntKind.u8 0)), M.c (C.v (Value.int IntKind.u8 0)), M.c (C.v (Value.int IntKind.u8 0)), M.c (C.v (Value.int IntKind.u8 0)), M.c (C.v (Value.int IntKind.u8 0)), M.c (C.v (Value.int IntKind.u8 0)), M.c (C.v (Value.int IntKind.u8 0)), M.c (C.v (Value.int IntKind.u8 0)), M.c (C.v (Value.int IntKind.u8 0)), M.c (C.v (Value.int IntKind.u8 0)), M.c (C.v (Value.int IntKind.u8 0)), M.c (C.v (Value.int IntKind.u8 0)), M.c (C.v (Value.int IntKind.u8 0)), M.c (C.v (Value.int IntKind.u8 0)), M.c (C.v (Value.int IntKind.u8 0)), M.c (C.v (Value.int IntKind.u64 0)), M.c (C.v (Value.int IntKind.u8 0)), M.c (C.v (Value.int IntKind.u8 0)), M.c (C.v (Value.int IntKind.u8 0)), M.c (C.v (Value.int IntKind.u8 0)), M.c (C.v (Value.int IntKind.u8 0)), M.c (C.v (Value.int IntKind.u8 0)), M.c (C.v (Value.int IntKind.u8 0)), M.c (C.v (Value.int IntKind.u8 0)), M.c (C.v (Value.int IntKind.u8 0)), M.c (C.v (Value.int IntKind.u8 0)), M.c (C.v (Value.int IntKind.u8 0)), M.c (C.v (Value.int IntKind.u8 0)), M.c (C.v (Value.int IntKind.u8 0)), M.c (C.v (Value.int IntKind.u8 0)), M.c (C.v (Value.int IntKind.u8 0)), M.c (C.v (Value.int IntKind.u8 0)), M.c (C.v (Value.int IntKind.u8 0)), M.c (C.v (Value.int IntKind.u8 0)), M.c (C.v (Value.int IntKind.u8 0)), M.c (C.v (Value.int IntKind.u8 0)), M.c (C.v (Value.int IntKind.u8 0)), M.c (C.v (Value.int IntKind.u8 0)), M.c (C.v (Value.int IntKind.u8 0)), M.c (C.v (Value.int IntKind.u8 0)), M.c (C.v (Value.int IntKind.u8 0)), M.c (C.v (Value.int IntKind.u8 0)), M.c (C.v (Value.int IntKind.u8 0)), M.c (C.v (Value.int IntKind.u8 0)), M.c (C.v (Value.int IntKind.u8 0)), M.c (C.v (Value.int IntKind.u8 0)), M.c (C.v (Value.int IntKind.u8 0)), M.c (C.v (Value.int IntKind.u8 0)), M.c (C.v (Value.int IntKind.i64 0)), M.c (C.v (Value.int IntKind.i64 0)), M.c (C.v (Value.int IntKind.i64 0)), M.c (C.v (Value.int IntKind.i64 0)), M.c (C.v (Value.int IntKind.i64 0)), M.c (C.v (Value.int IntKind.i64 0))] := by kernel_rfl
@[simp] theorem zero67 : zeroT Try.prog 67 = some [M.c (C.v (Value.pointer none))] := by kernel_rfl
@[simp] theorem zero88 : zeroT Try.prog 88 = some [M.c (C.v (Value.pointer none)), M.c (C.v (Value.slice none 0 0))] := by kernel_rfl
@[simp] theorem zero97 : zeroT Try.prog 97 = some [M.c (C.v (Value.string { data := { toList := [] } })), M.c (C.v (Value.int IntKind.i64 0))] := by kernel_rfl
@[simp] theorem zero99 : zeroT Try.prog 99 = some [M.c (C.v (Value.string { data := { toList := [] } })), M.c (C.v (Value.int IntKind.i64 0))] := by kernel_rfl
@[simp] theorem zero110 : zeroT Try.prog 110 = some [M.c (C.v (Value.int IntKind.u64 0)), M.c (C.v (Value.int IntKind.u64 0)), M.c (C.v (Value.int IntKind.u64 0)), M.c (C.v (Value.int IntKind.u64 0))] := by kernel_rfl
@[simp] theorem zero153 : zeroT Try.prog 153 = some (List.replicate 8 (M.c (C.v (Value.int IntKind.u32 0)))) := by kernel_rfl
@[simp] theorem zero155 : zeroT Try.prog 155 = some [M.c (C.v (Value.int IntKind.u32 0)), M.c (C.v (Value.int IntKind.u32 0)), M.c (C.v (Value.int IntKind.u32 0)), M.c (C.v (Value.int IntKind.u32 0)), M.c (C.v (Value.int IntKind.u32 0)), M.c (C.v (Value.int IntKind.u32 0)), M.c (C.v (Value.int IntKind.u32 0)), M.c (C.v (Value.int IntKind.u32 0)), M.c (C.v (Value.string { data := { toList := [] } })), M.c (C.v (Value.int IntKind.u64 0)), M.c (C.v (Value.bool false))] := by kernel_rfl
@[simp] theorem zero159 : zeroT Try.prog 159 = some (List.replicate 64 (M.c (C.v (Value.int IntKind.u32 0)))) := by kernel_rfl
@[simp] theorem ty3 : szT Try.prog 3 = 1 ∧ szOb Try.prog 3 = 1 ∧ szBx Try.prog 3 = 1 ∧ isAggT Try.prog 3 = false ∧ okT Try.prog 3 = true ∧ okE Try.prog 3 = true ∧ okZ Try.prog 3 = true ∧ Program.bytesOf Try.prog 3 = 8 := by refine ⟨?_, ?_, ?_, ?_, ?_, ?_, ?_, ?_⟩ <;> kernel_rfl
@[simp] theorem ty4 : szT Try.prog 4 = 1 ∧ szOb Try.prog 4 = 1 ∧ szBx Try.prog 4 = 1 ∧ isAggT Try.prog 4 = false ∧ okT Try.prog 4 = true ∧ okE Try.prog 4 = true ∧ okZ Try.prog 4 = true ∧ Program.bytesOf Try.prog 4 = 1 := by refine ⟨?_, ?_, ?_, ?_, ?_, ?_, ?_, ?_⟩ <;> kernel_rfl
@[simp] theorem ty5 : szT Try.prog 5 = 1 ∧ szOb Try.prog 5 = 1 ∧ szBx Try.prog 5 = 1 ∧ isAggT Try.prog 5 = false ∧ okT Try.prog 5 = true ∧ okE Try.prog 5 = true ∧ okZ Try.prog 5 = true ∧ Program.bytesOf Try.prog 5 = 1 := by refine ⟨?_, ?_, ?_, ?_, ?_, ?_, ?_, ?_⟩ <;> kernel_rfl
@[simp] theorem ty9 : szT Try.prog 9 = 1 ∧ szOb Try.prog 9 = 1 ∧ szBx Try.prog 9 = 1 ∧ isAggT Try.prog 9 = false ∧ okT Try.prog 9 = true ∧ okE Try.prog 9 = true ∧ okZ Try.prog 9 = true ∧ Program.bytesOf Try.prog 9 = 16 := by refine ⟨?_, ?_, ?_, ?_, ?_, ?_, ?_, ?_⟩ <;> kernel_rfl
@[simp] theorem ty22 : szT Try.prog 22 = 1 ∧ szOb Try.prog 22 = 1 ∧ szBx Try.prog 22 = 1 ∧ isAggT Try.prog 22 = false ∧ okT Try.prog 22 = true ∧ okE Try.prog 22 = true ∧ okZ Try.prog 22 = true ∧ Program.bytesOf Try.prog 22 = 24 := by refine ⟨?_, ?_, ?_, ?_, ?_, ?_, ?_, ?_⟩ <;> kernel_rfl
@[simp] theorem ty27 : szT Try.prog 27 = 1 ∧ szOb Try.prog 27 = 1 ∧ szBx Try.prog 27 = 1 ∧ isAggT Try.prog 27 = false ∧ okT Try.prog 27 = true ∧ okE Try.prog 27 = true ∧ okZ Try.prog 27 = true ∧ Program.bytesOf Try.prog 27 = 8 := by refine ⟨?_, ?_, ?_, ?_, ?_, ?_, ?_, ?_⟩ <;> kernel_rfl
@[simp] theorem ty38 : szT Try.prog 38 = 1 ∧ szOb Try.prog 38 = 1 ∧ szBx Try.prog 38 = 1 ∧ isAggT Try.prog 38 = false ∧ okT Try.prog 38 = true ∧ okE Try.prog 38 = true ∧ okZ Try.prog 38 = true ∧ Program.bytesOf Try.prog 38 = 8 := by refine ⟨?_, ?_, ?_, ?_, ?_, ?_, ?_, ?_⟩ <;> kernel_rfl
@[simp] theorem ty43 : szT Try.prog 43 = 1 ∧ szOb Try.prog 43 = 1 ∧ szBx Try.prog 43 = 1 ∧ isAggT Try.prog 43 = false ∧ okT Try.prog 43 = true ∧ okE Try.prog 43 = true ∧ okZ Try.prog 43 = true ∧ Program.bytesOf Try.prog 43 = 4 := by refine ⟨?_, ?_, ?_, ?_, ?_, ?_, ?_, ?_⟩ <;> kernel_rfl
@[simp] theorem ty45 : szT Try.prog 45 = 32 ∧ leavesX Try.prog 45 = some (List.replicate 32 0) ∧ szOb Try.prog 45 = 1 ∧ szBx Try.prog 45 = 1 ∧ isAggT Try.prog 45 = true ∧ okT Try.prog 45 = true ∧ okE Try.prog 45 = true ∧ okZ Try.prog 45 = true ∧ Program.bytesOf Try.prog 45 = 32 := by refine ⟨?_, ?_, ?_, ?_, ?_, ?_, ?_, ?_, ?_⟩ <;> kernel_rfl
@[simp] theorem ty47 : szT Try.prog 47 = 66 ∧ leavesX Try.prog 47 = some (List.replicate 66 0) ∧ szOb Try.prog 47 = 1 ∧ szBx Try.prog 47 = 1 ∧ isAggT Try.prog 47 = true ∧ okT Try.prog 47 = true ∧ okE Try.prog 47 = true ∧ okZ Try.prog 47 = true ∧ Program.bytesOf Try.prog 47 = 80 := by refine ⟨?_, ?_, ?_, ?_, ?_, ?_, ?_, ?_, ?_⟩ <;> kernel_rfl
@[simp] theorem ty49 : szT Try.prog 49 = 104 ∧ leavesX Try.prog 49 = some (List.replicate 104 0) ∧ szOb Try.prog 49 = 1 ∧ szBx Try.prog 49 = 1 ∧ isAggT Try.prog 49 = true ∧ okT Try.prog 49 = true ∧ okE Try.prog 49 = true ∧ okZ Try.prog 49 = true ∧ Program.bytesOf Try.prog 49 = 160 := by refine ⟨?_, ?_, ?_, ?_, ?_, ?_, ?_, ?_, ?_⟩ <;> kernel_rfl
@[simp] theorem ty64 : szT Try.prog 64 = 1 ∧ szOb Try.prog 64 = 1 ∧ szBx Try.prog 64 = 1 ∧ isAggT Try.prog 64 = false ∧ okT Try.prog 64 = true ∧ okE Try.prog 64 = true ∧ okZ Try.prog 64 = true ∧ Program.bytesOf Try.prog 64 = 24 := by refine ⟨?_, ?_, ?_, ?_, ?_, ?_, ?_, ?_⟩ <;> kernel_rfl
@[simp] theorem ty67 : szT Try.prog 67 = 1 ∧ szOb Try.prog 67 = 1 ∧ szBx Try.prog 67 = 1 ∧ isAggT Try.prog 67 = false ∧ okT Try.prog 67 = true ∧ okE Try.prog 67 = true ∧ okZ Try.prog 67 = true ∧ Program.bytesOf Try.prog 67 = 8 := by refine ⟨?_, ?_, ?_, ?_, ?_, ?_, ?_, ?_⟩ <;> kernel_rfl
@[simp] theorem ty83 : szT Try.prog 83 = 1 ∧ szOb Try.prog 83 = 1 ∧ szBx Try.prog 83 = 1 ∧ isAggT Try.prog 83 = false ∧ okT Try.prog 83 = true ∧ okE Try.prog 83 = true ∧ okZ Try.prog 83 = true ∧ Program.bytesOf Try.prog 83 = 8 := by refine ⟨?_, ?_, ?_, ?_, ?_, ?_, ?_, ?_⟩ <;> kernel_rfl
@[simp] theorem ty84 : szT Try.prog 84 = 1 ∧ szOb Try.prog 84 = 1 ∧ szBx Try.prog 84 = 1 ∧ isAggT Try.prog 84 = false ∧ okT Try.prog 84 = true ∧ okE Try.prog 84 = true ∧ okZ Try.prog 84 = true ∧ Program.bytesOf Try.prog 84 = 24 := by refine ⟨?_, ?_, ?_, ?_, ?_, ?_, ?_, ?_⟩ <;> kernel_rfl
@[simp] theorem ty86 : szT Try.prog 86 = 2 ∧ szOb Try.prog 86 = 2 ∧ szBx Try.prog 86 = 2 ∧ isAggT Try.prog 86 = true ∧ okT Try.prog 86 = true ∧ okE Try.prog 86 = true ∧ okZ Try.prog 86 = true ∧ Program.bytesOf Try.prog 86 = 32 := by refine ⟨?_, ?_, ?_, ?_, ?_, ?_, ?_, ?_⟩ <;> kernel_rfl
@[simp] theorem ty88 : szT Try.prog 88 = 2 ∧ szOb Try.prog 88 = 2 ∧ szBx Try.prog 88 = 2 ∧ isAggT Try.prog 88 = true ∧ okT Try.prog 88 = true ∧ okE Try.prog 88 = true ∧ okZ Try.prog 88 = true ∧ Program.bytesOf Try.prog 88 = 32 := by refine ⟨?_, ?_, ?_, ?_, ?_, ?_, ?_, ?_⟩ <;> kernel_rfl
@[simp] theorem ty95 : szT Try.prog 95 = 1 ∧ szOb Try.prog 95 = 1 ∧ szBx Try.prog 95 = 1 ∧ isAggT Try.prog 95 = false ∧ okT Try.prog 95 = true ∧ okE Try.prog 95 = true ∧ okZ Try.prog 95 = true ∧ Program.bytesOf Try.prog 95 = 24 := by refine ⟨?_, ?_, ?_, ?_, ?_, ?_, ?_, ?_⟩ <;> kernel_rfl
@[simp] theorem ty97 : szT Try.prog 97 = 2 ∧ leavesX Try.prog 97 = some [2, 0] ∧ szOb Try.prog 97 = 2 ∧ szBx Try.prog 97 = 2 ∧ isAggT Try.prog 97 = true ∧ okT Try.prog 97 = true ∧ okE Try.prog 97 = true ∧ okZ Try.prog 97 = true ∧ Program.bytesOf Try.prog 97 = 24 := by refine ⟨?_, ?_, ?_, ?_, ?_, ?_, ?_, ?_, ?_⟩ <;> kernel_rfl
@[simp] theorem ty99 : szT Try.prog 99 = 2 ∧ leavesX Try.prog 99 = some [2, 0] ∧ szOb Try.prog 99 = 2 ∧ szBx Try.prog 99 = 2 ∧ isAggT Try.prog 99 = true ∧ okT Try.prog 99 = true ∧ okE Try.prog 99 = true ∧ okZ Try.prog 99 = true ∧ Program.bytesOf Try.prog 99 = 24 := by refine ⟨?_, ?_, ?_, ?_, ?_, ?_, ?_, ?_, ?_⟩ <;> kernel_rfl
@[simp] theorem ty110 : szT Try.prog 110 = 4 ∧ leavesX Try.prog 110 = some (List.replicate 4 0) ∧ szOb Try.prog 110 = 1 ∧ szBx Try.prog 110 = 1 ∧ isAggT Try.prog 110 = true ∧ okT Try.prog 110 = true ∧ okE Try.prog 110 = true ∧ okZ Try.prog 110 = true ∧ Program.bytesOf Try.prog 110 = 32 := by refine ⟨?_, ?_, ?_, ?_, ?_, ?_, ?_, ?_, ?_⟩ <;> kernel_rfl
@[simp] theorem ty153 : szT Try.prog 153 = 8 ∧ leavesX Try.prog 153 = some (List.replicate 8 0) ∧ szOb Try.prog 153 = 1 ∧ szBx Try.prog 153 = 1 ∧ isAggT Try.prog 153 = true ∧ okT Try.prog 153 = true ∧ okE Try.prog 153 = true ∧ okZ Try.prog 153 = true ∧ Program.bytesOf Try.prog 153 = 32 := by refine ⟨?_, ?_, ?_, ?_, ?_, ?_, ?_, ?_, ?_⟩ <;> kernel_rfl
@[simp] theorem ty155 : szT Try.prog 155 = 11 ∧ leavesX Try.prog 155 = some [0, 0, 0, 0, 0, 0, 0, 0, 2, 0, 1] ∧ szOb Try.prog 155 = 11 ∧ szBx Try.prog 155 = 11 ∧ isAggT Try.prog 155 = true ∧ okT Try.prog 155 = true ∧ okE Try.prog 155 = true ∧ okZ Try.prog 155 = true ∧ Program.bytesOf Try.prog 155 = 64 := by refine ⟨?_, ?_, ?_, ?_, ?_, ?_, ?_, ?_, ?_⟩ <;> kernel_rfl
@[simp] theorem ty159 : szT Try.prog 159 = 64 ∧ leavesX Try.prog 159 = some (List.replicate 64 0) ∧ szOb Try.prog 159 = 1 ∧ szBx Try.prog 159 = 1 ∧ isAggT Try.prog 159 = true ∧ okT Try.prog 159 = true ∧ okE Try.prog 159 = true ∧ okZ Try.prog 159 = true ∧ Program.bytesOf Try.prog 159 = 256 := by refine ⟨?_, ?_, ?_, ?_, ?_, ?_, ?_, ?_, ?_⟩ <;> kernel_rfl
theorem mixed : Try.prog.follows .mixedOrders = true := by kernel_rfl
attribute [simp] Try.underlying0
attribute [simp] Try.underlying1
attribute [simp] Try.underlying2
attribute [simp] Try.underlying3
attribute [simp] Try.underlying4
attribute [simp] Try.underlying5
attribute [simp] Try.underlying6
attribute [simp] Try.underlying7
attribute [simp] Try.underlying8
attribute [simp] Try.underlying9
attribute [simp] Try.underlying10
attribute [simp] Try.underlying11
attribute [simp] Try.underlying12
attribute [simp] Try.underlying13
attribute [simp] Try.underlying14
attribute [simp] Try.underlying15
attribute [simp] Try.underlying16
attribute [simp] Try.underlying17
attribute [simp] Try.underlying18
attribute [simp] Try.underlying19
attribute [simp] Try.underlying20
attribute [simp] Try.underlying21
attribute [simp] Try.underlying22
attribute [simp] Try.underlying23
attribute [simp] Try.underlying24
attribute [simp] Try.underlying25
attribute [simp] Try.underlying26
attribute [simp] Try.underlying27
attribute [simp] Try.underlying28
attribute [simp] Try.underlying29
attribute [simp] Try.underlying30
attribute [simp] Try.underlying31
attribute [simp] Try.underlying32
attribute [simp] Try.underlying33
attribute [simp] Try.underlying34
attribute [simp] Try.underlying35
attribute [simp] Try.underlying36
attribute [simp] Try.underlying37
attribute [simp] Try.underlying38
attribute [simp] Try.underlying39
attribute [simp] Try.underlying40
attribute [simp] Try.underlying41
attribute [simp] Try.underlying42
attribute [simp] Try.underlying43
attribute [simp] Try.underlying44
attribute [simp] Try.underlying45
attribute [simp] Try.underlying46
attribute [simp] Try.underlying47
attribute [simp] Try.underlying48
attribute [simp] Try.underlying49
attribute [simp] Try.underlying50
attribute [simp] Try.underlying51
attribute [simp] Try.underlying52
attribute [simp] Try.underlying53
attribute [simp] Try.underlying54
attribute [simp] Try.underlying55
attribute [simp] Try.underlying56
attribute [simp] Try.underlying57
attribute [simp] Try.underlying58
attribute [simp] Try.underlying59
attribute [simp] Try.underlying60
attribute [simp] Try.underlying61
attribute [simp] Try.underlying62
attribute [simp] Try.underlying63
attribute [simp] Try.underlying64
attribute [simp] Try.underlying65
attribute [simp] Try.underlying66
attribute [simp] Try.underlying67
attribute [simp] Try.underlying68
attribute [simp] Try.underlying69
attribute [simp] Try.underlying70
attribute [simp] Try.underlying71
attribute [simp] Try.underlying72
attribute [simp] Try.underlying73
attribute [simp] Try.underlying74
attribute [simp] Try.underlying75
attribute [simp] Try.underlying76
attribute [simp] Try.underlying77
attribute [simp] Try.underlying78
attribute [simp] Try.underlying79
attribute [simp] Try.underlying80
attribute [simp] Try.underlying81
attribute [simp] Try.underlying82
attribute [simp] Try.underlying83
attribute [simp] Try.underlying84
attribute [simp] Try.underlying85
attribute [simp] Try.underlying86
attribute [simp] Try.underlying87
attribute [simp] Try.underlying88
attribute [simp] Try.underlying89
attribute [simp] Try.underlying90
attribute [simp] Try.underlying91
attribute [simp] Try.underlying92
attribute [simp] Try.underlying93
attribute [simp] Try.underlying94
attribute [simp] Try.underlying95
attribute [simp] Try.underlying96
attribute [simp] Try.underlying97
attribute [simp] Try.underlying98
attribute [simp] Try.underlying99
attribute [simp] Try.underlying100
attribute [simp] Try.underlying101
attribute [simp] Try.underlying102
attribute [simp] Try.underlying103
attribute [simp] Try.underlying104
attribute [simp] Try.underlying105
attribute [simp] Try.underlying106
attribute [simp] Try.underlying107
attribute [simp] Try.underlying108
attribute [simp] Try.underlying109
attribute [simp] Try.underlying110
attribute [simp] Try.underlying111
attribute [simp] Try.underlying112
attribute [simp] Try.underlying113
attribute [simp] Try.underlying114
attribute [simp] Try.underlying115
attribute [simp] Try.underlying116
attribute [simp] Try.underlying117
attribute [simp] Try.underlying118
attribute [simp] Try.underlying119
attribute [simp] Try.underlying120
attribute [simp] Try.underlying121
attribute [simp] Try.underlying122
attribute [simp] Try.underlying123
attribute [simp] Try.underlying124
attribute [simp] Try.underlying125
attribute [simp] Try.underlying126
attribute [simp] Try.underlying127
attribute [simp] Try.underlying128
attribute [simp] Try.underlying129
attribute [simp] Try.underlying130
attribute [simp] Try.underlying131
attribute [simp] Try.underlying132
attribute [simp] Try.underlying133
attribute [simp] Try.underlying134
attribute [simp] Try.underlying135
attribute [simp] Try.underlying136
attribute [simp] Try.underlying137
attribute [simp] Try.underlying138
attribute [simp] Try.underlying139
attribute [simp] Try.underlying140
attribute [simp] Try.underlying141
attribute [simp] Try.underlying142
attribute [simp] Try.underlying143
attribute [simp] Try.underlying144
attribute [simp] Try.underlying145
attribute [simp] Try.underlying146
attribute [simp] Try.underlying147
attribute [simp] Try.underlying148
attribute [simp] Try.underlying149
attribute [simp] Try.underlying150
attribute [simp] Try.underlying151
attribute [simp] Try.underlying152
attribute [simp] Try.underlying153
attribute [simp] Try.underlying154
attribute [simp] Try.underlying155
attribute [simp] Try.underlying156
attribute [simp] Try.underlying157
attribute [simp] Try.underlying158
attribute [simp] Try.underlying159
attribute [simp] Try.underlying160
attribute [simp] Try.underlying161
attribute [simp] Try.underlying162
attribute [simp] Try.underlying163
attribute [simp] Try.underlying164
attribute [simp] Try.underlying165
attribute [simp] Try.underlying166
attribute [simp] Try.underlying167
attribute [simp] Try.underlying168
attribute [simp] Try.underlying169
attribute [simp] Try.underlying170
attribute [simp] Try.underlying171
attribute [simp] Try.underlying172
attribute [simp] Try.underlying173
attribute [simp] Try.underlying174
attribute [simp] Try.underlying175
attribute [simp] Try.underlying176
attribute [simp] Try.underlying177
attribute [simp] Try.underlying178
attribute [simp] Try.underlying179
attribute [simp] Try.underlying180
attribute [simp] Try.underlying181
attribute [simp] Try.underlying182
attribute [simp] Try.underlying183
attribute [simp] Try.underlying184
attribute [simp] Try.underlying185
end Go.Proofs.Ytpcnacknlgmmlaa.Tab

set_option exponentiation.threshold 1000
set_option linter.unusedVariables false
set_option linter.unusedSimpArgs false
set_option maxRecDepth 100000
set_option maxHeartbeats 4000000
namespace Go.Av
open Go Go.Proofs Go.Proofs.Ytpcnacknlgmmlaa Go.RowKit
attribute [local simp] List.getElem?_cons_zero List.getElem?_cons_succ
def b8 (b : UInt8) : C := .v (.int .u8 (b.toNat : Int))
def bytesC (l : List UInt8) : List C := l.map b8
def bsS (l : List UInt8) : ByteArray := ⟨l.toArray⟩
def u64C (n : Nat) : C := .v (.int .u64 (n : Int))
def putN : Nat → Nat → List UInt8
  | _, 0 => []
  | x, n + 1 => putN (x / 256) n ++ [UInt8.ofNat x]
theorem putN_len (x n : Nat) : (putN x n).length = n := by
  induction n generalizing x with
  | zero => rfl
  | succ n ih => rw [putN, List.length_append, ih]; rfl
theorem putN_succ (x n : Nat) : putN x (n + 1) = UInt8.ofNat (x / 256 ^ n) :: putN x n := by
  induction n generalizing x with
  | zero => simp [putN]
  | succ n ih =>
    rw [putN, ih, putN, List.cons_append, Nat.div_div_eq_div_mul, Nat.pow_succ, Nat.mul_comm]
theorem bytesM_bytes (l : List UInt8) : bytesM (up (bytesC l)) = some l := by
  induction l with
  | nil => rfl
  | cons x xs ih =>
    simp only [bytesC, up, List.map_cons] at *
    simp only [bytesM, b8] at *
    rw [ih]
    simp
theorem ofNat_mod (x : Nat) : ((UInt8.ofNat x).toNat : Int) = ((x % 256 : Nat) : Int) := by simp
theorem put_den (x n : Nat) (hx : x < 18446744073709551616) (hn : n ≤ 1000000) : DenV Try.prog 73 [.c (u64C x), .c (iC n)] (.c (.v (.string (bsS (putN x n))))) := by
  refine Den.frame rfl rfl ?_
  refine den_of Try.func73 rfl rfl (by simp [Try.ntmps73]) (fun X hX hO => ?_)
  rw [Try.ntmps73] at hX
  simp only [Try.results73]
  repeat' (first 
   | (with_reducible first | refine awp_scope ?_ | refine awp_seq ?_ | refine awp_block ?_)
   | ((with_reducible first | refine awp_label ?_ | refine awp_skip ?_ | refine awp_exit ?_ | refine hother _ _ rfl ?_); try simp only [thenA, inBlockA, noGotoA, if_true, Nat.reduceEqDiff, if_false, ↓reduceIte])
   | ((with_reducible first | refine awp_reg 26 hX [0, 1, 4, 5, 6, 9, 10, 11] ?_ | change postOf _ _ _ _ _); simp [-List.reduceReplicate, Nat.add_one_le_iff, -getElem?_pos, -getElem?_neg, u64C, iC])
   | ((first | (with_reducible refine awp_ret ?_; try simp only [thenA, inBlockA, noGotoA])); try simp [-List.reduceReplicate, Nat.add_one_le_iff, -getElem?_pos, -getElem?_neg, u64C, iC])
   | (with_reducible refine awp_if_b rfl (fun hc => ?_) (fun hc => ?_) <;> (try simp [-getElem?_pos, -getElem?_neg] at hc) <;> (try (exfalso; omega)))
   | (with_reducible refine And.intro (by omega) ?_)
   | fail)
  refine awp_forU [0, 1, 5, 9, 10] (fun i (_u : Unit) => [(0, .c (u64C (x / 256 ^ i))), (10, .c (iC i))]) (fun i (_u : Unit) => [⟨5, 1, false, 0, up (List.replicate (n - i) (b8 0) ++ bytesC (putN x i)), none⟩]) (fun i (_u : Unit) => True) (n) (()) (by first | trivial | (simp; done) | omega | (intros; simp at *; done)) (by simp [-List.reduceReplicate, keep, u64C, iC, b8, putN, bytesC]) (by simp [-List.reduceReplicate, u64C, iC, b8, putN, bytesC]) ?_
  rintro i _u Q1 hi hH next hother
  conv => arg 5; arg 1; simp only [List.cons_append, List.nil_append, keep, get, Nat.reduceEqDiff, if_true, if_false, ↓reduceIte]
  have hwi := wrap_in ((i : Int) + 1) (by omega)
  have hw1 := wrap_in ((n : Int) - 1) (by omega)
  have hw2 := wrap_in ((n : Int) - 1 - (i : Int)) (by omega)
  have hlx : x / 256 ^ i ≤ x := Nat.div_le_self _ _
  have hw3 := modU8 ((x / 256 ^ i : Nat) : Int)
  by_cases hlt : i < n
  · have hb : .v (.int .u8 (((x / 256 ^ i : Nat) : Int) % 256)) = b8 (UInt8.ofNat (x / 256 ^ i)) := by unfold b8; rw [ofNat_mod]; rfl
    have hset : (List.replicate (n - i) (b8 0) ++ bytesC (putN x i)).set (n - 1 - i) (b8 (UInt8.ofNat (x / 256 ^ i))) = List.replicate (n - (i + 1)) (b8 0) ++ bytesC (putN x (i + 1)) := by
      rw [show n - i = (n - (i + 1)) + 1 by omega, List.replicate_succ', List.append_assoc, List.set_append_right _ _ (by simp; omega), List.length_replicate, show n - 1 - i - (n - (i + 1)) = 0 by omega, putN_succ]
      rfl
    have hln : (List.replicate (n - i) (b8 0) ++ bytesC (putN x i)).length = n := by simp [bytesC, putN_len]; omega
    have hdiv : ((x / 256 ^ i : Nat) : Int).fdiv 256 = ((x / 256 ^ (i + 1) : Nat) : Int) := by rw [Nat.pow_succ, ← Nat.div_div_eq_div_mul]; exact fdiv_nat _ 256
    generalize hxj : x / 256 ^ (i + 1) = xj at *
    have ht : ((n : Int) - 1 - (i : Int)).toNat = n - 1 - i := by omega
    have c1 : (i : Int) ≤ (n : Int) - 1 := by omega
    have c2 : (n : Int) - 1 - (i : Int) < n := by omega
    have c3 : n - 1 - i < n := by omega
    generalize List.replicate (n - i) (b8 0) ++ bytesC (putN x i) = r0 at *
    generalize hxi : x / 256 ^ i = xi at *
    repeat' (first 
     | (with_reducible first | refine awp_scope ?_ | refine awp_seq ?_ | refine awp_block ?_)
     | ((with_reducible first | refine awp_label ?_ | refine awp_skip ?_ | refine awp_exit ?_ | refine hother _ _ rfl ?_); try simp only [thenA, inBlockA, noGotoA, if_true, Nat.reduceEqDiff, if_false, ↓reduceIte])
     | ((with_reducible first | refine awp_reg 26 hX [0, 1, 4, 5, 6, 9, 10, 11] ?_ | change postOf _ _ _ _ _); simp [-List.reduceReplicate, Nat.add_one_le_iff, -getElem?_pos, -getElem?_neg, u64C, iC, hlt, hwi, hw1, hw2, hw3, ht, c1, c2, c3, hln, hdiv, IntKind.bits])
     | ((first | (with_reducible refine awp_ret ?_; try simp only [thenA, inBlockA, noGotoA])); try simp [-List.reduceReplicate, Nat.add_one_le_iff, -getElem?_pos, -getElem?_neg, u64C, iC, hlt, hwi, hw1, hw2, hw3, ht, c1, c2, c3, hln, hdiv, IntKind.bits])
     | (with_reducible refine awp_if_b rfl (fun hc => ?_) (fun hc => ?_) <;> (try simp [-getElem?_pos, -getElem?_neg] at hc) <;> (try (exfalso; omega)))
     | (with_reducible refine And.intro (by omega) ?_)
     | fail)
    refine next _ _ () hlt trivial (by simp [keep, u64C, iC, hxj]) ?_
    rw [hb, hset]
  · have hin : i = n := by omega
    subst hin
    have hbm := bytesM_bytes (putN x i)
    have htk : (bytesC (putN x i)).take i = bytesC (putN x i) := List.take_of_length_le (by simp [bytesC, putN_len])
    have hl : (bytesC (putN x i)).length = i := by simp [bytesC, putN_len]
    generalize hr : bytesC (putN x i) = r at *
    repeat' (first 
     | (with_reducible first | refine awp_scope ?_ | refine awp_seq ?_ | refine awp_block ?_)
     | ((with_reducible first | refine awp_label ?_ | refine awp_skip ?_ | refine awp_exit ?_ | refine hother _ _ rfl ?_); try simp only [thenA, inBlockA, noGotoA, if_true, Nat.reduceEqDiff, if_false, ↓reduceIte])
     | ((with_reducible first | refine awp_reg 26 hX [0, 1, 4, 5, 6, 9, 10, 11] ?_ | change postOf _ _ _ _ _); simp [-List.reduceReplicate, Nat.add_one_le_iff, -getElem?_pos, -getElem?_neg, u64C, iC, hlt, hbm, hl, htk, hr, bsS])
     | ((first | (with_reducible refine awp_ret ?_; try simp only [thenA, inBlockA, noGotoA])); try simp [-List.reduceReplicate, Nat.add_one_le_iff, -getElem?_pos, -getElem?_neg, u64C, iC, hlt, hbm, hl, htk, hr, bsS])
     | (with_reducible refine awp_if_b rfl (fun hc => ?_) (fun hc => ?_) <;> (try simp [-getElem?_pos, -getElem?_neg] at hc) <;> (try (exfalso; omega)))
     | (with_reducible refine And.intro (by omega) ?_)
     | fail)
theorem put64_den (x : Nat) (hx : x < 18446744073709551616) : DenV Try.prog 44 [.c (u64C x)] (.c (.v (.string (bsS (putN x 8))))) := by
  refine Den.frame rfl rfl ?_
  refine den_of Try.func44 rfl rfl (by simp [Try.ntmps44]) (fun X hX hO => ?_)
  rw [Try.ntmps44] at hX
  simp only [Try.results44]
  repeat' (first 
   | (with_reducible first | refine awp_scope ?_ | refine awp_seq ?_ | refine awp_block ?_)
   | ((with_reducible first | refine awp_label ?_ | refine awp_skip ?_ | refine awp_exit ?_); try simp only [thenA, inBlockA, noGotoA, if_true, Nat.reduceEqDiff, if_false, ↓reduceIte])
   | ((with_reducible first | refine awp_reg 5 hX [0, 2] ?_ | change postOf _ _ _ _ _); simp [-List.reduceReplicate, Nat.add_one_le_iff, -getElem?_pos, -getElem?_neg, u64C])
   | ((first | (with_reducible refine awp_ret ?_; try simp only [thenA, inBlockA, noGotoA]) | ((with_reducible refine Den.at_ (f := 73) ?_); refine (put_den x 8 hx (by omega) _).det ?_)); try simp [-List.reduceReplicate, Nat.add_one_le_iff, -getElem?_pos, -getElem?_neg, u64C])
   | (with_reducible refine awp_if_b rfl (fun hc => ?_) (fun hc => ?_) <;> (try simp [-getElem?_pos, -getElem?_neg] at hc) <;> (try (exfalso; omega)))
   | (with_reducible refine And.intro (by omega) ?_)
   | fail)
theorem bs_append (a b : List UInt8) : bsS a ++ bsS b = bsS (a ++ b) := by
  apply ByteArray.ext
  simp [bsS]
theorem bs_size (l : List UInt8) : (bsS l).size = l.length := by simp [bsS, ByteArray.size]
end Go.Av

set_option exponentiation.threshold 1000
set_option linter.unusedVariables false
set_option linter.unusedSimpArgs false
set_option maxRecDepth 100000
set_option maxHeartbeats 4000000
namespace Go.Av
open Go Go.Proofs Go.Proofs.Ytpcnacknlgmmlaa Go.RowKit
attribute [local simp] List.getElem?_cons_zero List.getElem?_cons_succ
def strC (l : List ByteArray) : C := .sl (l.map fun s => .v (.string s)) l.length false
theorem opens_u64 {P : Program} {t : TypeId} (ht : P.underlying t = some (.int .u64)) : Opens P t (fun n : Nat => [u64C n]) (fun n => n < 18446744073709551616) :=
  (opens_int ht).conv fun n hn => by
    have h : 0 ≤ n ∧ n ≤ 18446744073709551615 := by simpa [Lit.wf, IntKind.min, IntKind.max, IntKind.signed, IntKind.bits] using hn
    exact ⟨n.toNat, by omega, by simp only [u64C]; rw [show ((n.toNat : Nat) : Int) = n by omega]⟩
end Go.Av

set_option exponentiation.threshold 1000
set_option linter.unusedVariables false
set_option linter.unusedSimpArgs false
set_option maxRecDepth 100000
set_option maxHeartbeats 4000000
namespace Go.Av
open Go Go.Proofs Go.Proofs.Ytpcnacknlgmmlaa Go.RowKit
attribute [local simp] List.getElem?_cons_zero List.getElem?_cons_succ
def putV (x : Nat) : List UInt8 := if x < 128 then [UInt8.ofNat x] else UInt8.ofNat (x % 128 + 128) :: putV (x / 128)
theorem putV_lo {x : Nat} (h : x < 128) : putV x = [UInt8.ofNat x] := by rw [putV, if_pos h]
theorem putV_hi {x : Nat} (h : ¬ x < 128) : putV x = UInt8.ofNat (x % 128 + 128) :: putV (x / 128) := by rw [putV, if_neg h]
theorem putV_len : ∀ (n x : Nat), x < 128 ^ (n + 1) → (putV x).length ≤ n + 1 := by
  intro n
  induction n with
  | zero => intro x h; rw [putV_lo (by simpa using h)]; simp
  | succ n ih =>
    intro x h
    by_cases hx : x < 128
    · rw [putV_lo hx]; simp
    · rw [putV_hi hx, List.length_cons]
      have := ih (x / 128) (by rw [Nat.pow_succ] at h; exact Nat.div_lt_of_lt_mul (by omega))
      omega
theorem putV_len10 (x : Nat) (h : x < 18446744073709551616) : (putV x).length ≤ 10 := putV_len 9 x (Nat.lt_of_lt_of_le h (by decide))
theorem putV_pos (x : Nat) : 0 < (putV x).length := by rw [putV]; split <;> simp
theorem b8_u8 (y : Nat) : C.v (Value.int .u8 (IntKind.u8.wrap (y : Int))) = b8 (UInt8.ofNat y) := by
  rw [modU8, b8, ofNat_mod]
  norm_cast
theorem b8_or (y : Nat) : C.v (Value.int .u8 (orI .u8 (IntKind.u8.wrap (y : Int)) 128)) = b8 (UInt8.ofNat (y % 128 + 128)) := by
  rw [modU8, b8, ofNat_mod]
  have h1 : ((y : Int) % 256) = ((y % 256 : Nat) : Int) := by norm_cast
  have h2 : (128 : Int) = ((128 : Nat) : Int) := rfl
  rw [h1, h2, orU .u8 _ _ (by simp [IntKind.bits]; omega) (by simp [IntKind.bits]) rfl]
  congr 3
  have h3 := Nat.two_pow_add_eq_or_of_lt (i := 7) (b := y % 128) (by omega) 1
  have h4 : (y % 256) ||| 128 = (128 ||| (y % 128)) := by
    have : ∀ z, z < 256 → z ||| 128 = 128 ||| (z % 128) := by decide +kernel
    rw [this _ (by omega)]
    congr 1
    omega
  rw [h4]
  simp at h3
  omega
theorem num_put_den (x : Nat) (hx : x < 18446744073709551616) : DenV Try.prog 45 [.c (u64C x)] (.c (.v (.string (bsS (putV x))))) := by
  refine Den.frame rfl rfl ?_
  have hpl := putV_len10 x hx
  obtain ⟨r, hr⟩ : ∃ r, putV x = r := ⟨_, rfl⟩
  rw [hr] at hpl ⊢
  refine den_of Try.func45 rfl rfl (by simp [Try.ntmps45]) (fun X hX hO => ?_)
  rw [Try.ntmps45] at hX
  simp only [Try.results45]
  repeat' (first 
   | (with_reducible first | refine awp_scope ?_ | refine awp_seq ?_ | refine awp_block ?_)
   | ((with_reducible first | refine awp_label ?_ | refine awp_skip ?_ | refine awp_exit ?_ | refine hother _ _ rfl ?_); try simp only [thenA, inBlockA, noGotoA, if_true, Nat.reduceEqDiff, if_false, ↓reduceIte])
   | ((with_reducible first | refine awp_reg 20 hX [0, 2, 3, 5] ?_ | change postOf _ _ _ _ _); simp [-List.reduceReplicate, Nat.add_one_le_iff, -getElem?_pos, -getElem?_neg, u64C])
   | ((first | (with_reducible refine awp_ret ?_; try simp only [thenA, inBlockA, noGotoA])); try simp [-List.reduceReplicate, Nat.add_one_le_iff, -getElem?_pos, -getElem?_neg, u64C])
   | (with_reducible refine awp_if_b rfl (fun hc => ?_) (fun hc => ?_) <;> (try simp [-getElem?_pos, -getElem?_neg] at hc) <;> (try (exfalso; omega)))
   | (with_reducible refine And.intro (by omega) ?_)
   | fail)
  refine awp_nil 3 5 1 (by simp) ?_
  simp
  have h80 : ∀ (l : List UInt8) (a : UInt8), bytesC l ++ [b8 a] = bytesC (l ++ [a]) := fun l a => by simp [bytesC]
  refine awp_whileU [0, 3] (fun (g : Nat × List UInt8 × Bool) => [(0, .c (u64C g.1)), (3, .ms 0 g.2.1.length 0 g.2.1.length)]) (fun (g : Nat × List UInt8 × Bool) => [⟨5, 1, g.2.2, g.2.1.length, up (bytesC g.2.1), none⟩]) (fun (g : Nat × List UInt8 × Bool) => g.1 < 18446744073709551616 ∧ g.2.1 ++ putV g.1 = r) (fun (g : Nat × List UInt8 × Bool) => g.1) (x, [], true) (⟨hx, hr⟩) (by simp [-List.reduceReplicate, keep, u64C, bytesC]) (by simp [-List.reduceReplicate, u64C, bytesC]) ?_
  rintro g Q1 hH next hother
  conv => arg 5; arg 1; simp only [List.cons_append, List.nil_append, keep, get, Nat.reduceEqDiff, if_true, if_false, ↓reduceIte]
  obtain ⟨y, l, nl⟩ := g
  obtain ⟨h1, h2⟩ := hH
  simp only at h1 h2
  have hbl : (bytesC l).length = l.length := by simp [bytesC]
  have hll : l.length ≤ 9 := by
    have := congrArg List.length h2
    have h9 := putV_pos y
    rw [List.length_append] at this
    omega
  have hrm : l.length < 140737488355328 := by omega
  have hlt : l.length < l.length + 1 := by omega
  by_cases hy : y < 128
  · have hy2 : ¬ (127 : Int) < (y : Int) := by omega
    have hb := b8_u8 y
    rw [putV_lo hy] at h2
    have hbm := bytesM_bytes (l ++ [UInt8.ofNat y])
    have hbl2 : (bytesC (l ++ [UInt8.ofNat y])).length = l.length + 1 := by simp [bytesC]
    have htk : (bytesC (l ++ [UInt8.ofNat y])).take (l.length + 1) = bytesC (l ++ [UInt8.ofNat y]) := List.take_of_length_le (by omega)
    have h8 := h80 l (UInt8.ofNat y)
    rw [← hb] at h8
    rw [h2] at hbm hbl2 htk h8
    generalize bytesC r = cs2 at *
    repeat' (first 
     | (with_reducible first | refine awp_scope ?_ | refine awp_seq ?_ | refine awp_block ?_)
     | ((with_reducible first | refine awp_label ?_ | refine awp_skip ?_ | refine awp_exit ?_ | refine hother _ _ rfl ?_); try simp only [thenA, inBlockA, noGotoA, if_true, Nat.reduceEqDiff, if_false, ↓reduceIte])
     | ((with_reducible first | refine awp_reg 20 hX [0, 2, 3, 5] ?_ | change postOf _ _ _ _ _); simp [-List.reduceReplicate, Nat.add_one_le_iff, -getElem?_pos, -getElem?_neg, u64C, hy2, hbl, roomB, hrm, hlt, h8, htk, hbm, hbl2, bsS])
     | ((first | (with_reducible refine awp_ret ?_; try simp only [thenA, inBlockA, noGotoA])); try simp [-List.reduceReplicate, Nat.add_one_le_iff, -getElem?_pos, -getElem?_neg, u64C, hy2, hbl, roomB, hrm, hlt, h8, htk, hbm, hbl2, bsS])
     | (with_reducible refine awp_if_b rfl (fun hc => ?_) (fun hc => ?_) <;> (try simp [-getElem?_pos, -getElem?_neg] at hc) <;> (try (exfalso; omega)))
     | (with_reducible refine And.intro (by omega) ?_)
     | fail)
  · have hy2 : (127 : Int) < (y : Int) := by omega
    have hb := b8_or y
    rw [putV_hi hy] at h2
    have h8 := h80 l (UInt8.ofNat (y % 128 + 128))
    rw [← hb] at h8
    have hsh : ((y : Int)).fdiv 128 = ((y / 128 : Nat) : Int) := (Int.ofNat_fdiv y 128).symm
    have nx : y / 128 < 18446744073709551616 ∧ (l ++ [UInt8.ofNat (y % 128 + 128)]) ++ putV (y / 128) = r := ⟨by omega, by rw [← h2]; simp⟩
    have nl2 : y / 128 < y := by omega
    repeat' (first 
     | (with_reducible first | refine awp_scope ?_ | refine awp_seq ?_ | refine awp_block ?_)
     | ((with_reducible first | refine awp_label ?_ | refine awp_skip ?_ | refine awp_exit ?_ | refine hother _ _ rfl ?_); try simp only [thenA, inBlockA, noGotoA, if_true, Nat.reduceEqDiff, if_false, ↓reduceIte])
     | ((with_reducible first | refine awp_reg 20 hX [0, 2, 3, 5] ?_ | change postOf _ _ _ _ _); simp [-List.reduceReplicate, Nat.add_one_le_iff, -getElem?_pos, -getElem?_neg, u64C, hy2, hbl, roomB, hrm, h8, hsh, IntKind.bits])
     | ((first | (with_reducible refine awp_ret ?_; try simp only [thenA, inBlockA, noGotoA])); try simp [-List.reduceReplicate, Nat.add_one_le_iff, -getElem?_pos, -getElem?_neg, u64C, hy2, hbl, roomB, hrm, h8, hsh, IntKind.bits])
     | (with_reducible refine awp_if_b rfl (fun hc => ?_) (fun hc => ?_) <;> (try simp [-getElem?_pos, -getElem?_neg] at hc) <;> (try (exfalso; omega)))
     | (with_reducible refine And.intro (by omega) ?_)
     | fail)
    refine next _ _ ((y / 128, l ++ [UInt8.ofNat (y % 128 + 128)], false)) (by first | assumption | omega) (by first | trivial | omega | assumption) (by simp [-List.reduceReplicate, keep, u64C]) (by simp [-List.reduceReplicate, u64C])
    trace_state
end Go.Av

set_option exponentiation.threshold 1000
set_option linter.unusedVariables false
set_option linter.unusedSimpArgs false
set_option maxRecDepth 100000
set_option maxHeartbeats 4000000
namespace Go.Av
open Go Go.Proofs Go.Proofs.Ytpcnacknlgmmlaa Go.RowKit
attribute [local simp] List.getElem?_cons_zero List.getElem?_cons_succ
def leadV : Nat → List UInt8 → Nat
  | 0, _ => 0
  | _ + 1, [] => 0
  | k + 1, b :: r => if 128 ≤ b.toNat then leadV k r + 1 else 0
theorem leadV_eq : ∀ (k : Nat) (l : List UInt8) (i : Nat), i ≤ k → i ≤ l.length → (∀ j, j < i → 128 ≤ (l.getD j 0).toNat) → (i = k ∨ i = l.length ∨ (l.getD i 0).toNat < 128) → leadV k l = i := by
  intro k
  induction k with
  | zero => intro l i h _ _ _; simp [leadV]; omega
  | succ k ih =>
    intro l i h1 h2 h3 h4
    cases l with
    | nil => simp at h2; simp [leadV, h2]
    | cons b r =>
      rw [leadV]
      cases i with
      | zero =>
        have : ¬ 128 ≤ b.toNat := by simpa using h4
        rw [if_neg this]
      | succ i =>
        have hb : 128 ≤ b.toNat := by simpa using h3 0 (by omega)
        rw [if_pos hb, ih r i (by omega) (by simpa using h2) (fun j hj => by simpa using h3 (j + 1) (by omega)) (by simpa using h4)]
def valV (l : List UInt8) : Nat → Nat
  | 0 => 0
  | n + 1 => valV l n + (l.getD n 0).toNat % 128 * 128 ^ n
theorem valV_lt (l : List UInt8) (n : Nat) : valV l n < 128 ^ n := by
  induction n with
  | zero => simp [valV]
  | succ n ih =>
    rw [valV, Nat.pow_succ]
    have : (l.getD n 0).toNat % 128 < 128 := Nat.mod_lt _ (by omega)
    have h2 : (l.getD n 0).toNat % 128 * 128 ^ n ≤ 127 * 128 ^ n := Nat.mul_le_mul_right _ (by omega)
    omega
def takeV (b : ByteArray) : Nat × Nat × Nat :=
  let l := b.data.toList
  let n := leadV 10 l
  if n = 10 then (0, 0, 2) else if n = l.length then (0, 0, 1) else if 0 < n ∧ (l.getD n 0).toNat = 0 then (0, 0, 2) else if n = 9 ∧ 1 < (l.getD n 0).toNat then (0, 0, 3) else (valV l (n + 1), n + 1, 0)
def takeM (p : Nat × Nat × Nat) : M := .tup [.c (u64C p.1), .c (iC p.2.1), .c (iC p.2.2)]
theorem byteAt_nat (b : ByteArray) (i : Nat) : byteAt b i = (((b.data.toList.getD i 0).toNat : Nat) : Int) := by
  unfold byteAt
  rw [toList_data]
theorem shl_or128 (x c i : Nat) (hx : x < 128 ^ i) (hc : c < 128) (hf : c * 128 ^ i < 18446744073709551616) (hi : i ≤ 9) : orI .u64 (x : Int) (IntKind.u64.wrap ((c : Int) * 2 ^ min (7 * (i : Int)).toNat 64)) = ((x + c * 128 ^ i : Nat) : Int) := by
  have h1 : min (7 * (i : Int)).toNat 64 = 7 * i := by omega
  have hp : (128 : Nat) ^ i = 2 ^ (7 * i) := by rw [Nat.pow_mul]
  have h2 : ((c : Int) * 2 ^ min (7 * (i : Int)).toNat 64) = ((c * 128 ^ i : Nat) : Int) := by
    rw [h1, hp]; push_cast; rfl
  rw [h2, wrapU64 _ (by omega)]
  have hx2 : (128 : Nat) ^ i ≤ 128 ^ 9 := Nat.pow_le_pow_right (by omega) hi
  have hx3 : x < 18446744073709551616 := by
    have : (128 : Nat) ^ 9 = 9223372036854775808 := by decide
    omega
  rw [orU .u64 _ _ (by simpa [IntKind.bits] using hx3) (by simpa [IntKind.bits] using hf) rfl]
  congr 1
  rw [hp] at hx ⊢
  have h3 := Nat.two_pow_add_eq_or_of_lt (i := 7 * i) (b := x) hx c
  rw [Nat.mul_comm c, Nat.or_comm, ← h3]
  omega
theorem num_take_den (b : ByteArray) (hb : b.size ≤ 9223372036854775807) : DenV Try.prog 50 [.c (.v (.string b))] (takeM (takeV b)) := by
  refine Den.frame rfl rfl ?_
  refine den_of Try.func50 rfl rfl (by simp [Try.ntmps50]) (fun X hX hO => ?_)
  rw [Try.ntmps50] at hX
  simp only [Try.results50]
  repeat' (first 
   | (with_reducible first | refine awp_seq ?_ | refine awp_block ?_)
   | ((with_reducible first | refine awp_label ?_ | refine awp_skip ?_ | refine awp_exit ?_ | refine hother _ _ rfl ?_); try simp only [thenA, inBlockA, noGotoA, if_true, Nat.reduceEqDiff, if_false, ↓reduceIte])
   | ((with_reducible first | refine awp_reg 52 hX [0, 2, 3, 4, 5, 6, 7, 9, 13, 22, 35, 36, 43] ?_ | change postOf _ _ _ _ _); simp [-List.reduceReplicate, Nat.add_one_le_iff, -getElem?_pos, -getElem?_neg, u64C, iC])
   | ((first | (with_reducible refine awp_ret ?_; try simp only [thenA, inBlockA, noGotoA])); try simp [-List.reduceReplicate, Nat.add_one_le_iff, -getElem?_pos, -getElem?_neg, u64C, iC])
   | (with_reducible refine awp_if_b rfl (fun hc => ?_) (fun hc => ?_) <;> (try simp [-getElem?_pos, -getElem?_neg] at hc) <;> (try (exfalso; omega)))
   | ((with_reducible first | refine GuardK_b (fun hc => ?_) (fun hc => ?_)) <;> (try simp only [Bool.not_eq_true', Bool.not_eq_false', decide_eq_true_eq, decide_eq_false_iff_not] at hc) <;> (first | (exfalso; omega) | skip) <;> simp [-List.reduceReplicate, Nat.add_one_le_iff, -getElem?_pos, -getElem?_neg, u64C, iC, hc])
   | (with_reducible refine And.intro (by omega) ?_)
   | fail)
  have htv : takeV b = if leadV 10 b.data.toList = 10 then (0, 0, 2) else if leadV 10 b.data.toList = b.data.toList.length then (0, 0, 1) else if 0 < leadV 10 b.data.toList ∧ (b.data.toList.getD (leadV 10 b.data.toList) 0).toNat = 0 then (0, 0, 2) else if leadV 10 b.data.toList = 9 ∧ 1 < (b.data.toList.getD (leadV 10 b.data.toList) 0).toNat then (0, 0, 3) else (valV b.data.toList (leadV 10 b.data.toList + 1), leadV 10 b.data.toList + 1, 0) := rfl
  have hle := leadV_eq 10 b.data.toList
  have hvl := valV_lt b.data.toList
  have hlen : b.data.toList.length = b.size := by rw [Array.length_toList]; rfl
  generalize takeV b = r at *
  refine awp_scopeL 0 [0, 5, 6] (fun n s => ∃ (i x : Nat), i ≤ 10 ∧ n = 10 - i ∧ i ≤ b.size ∧ (∀ j, j < i → 128 ≤ (b.data.toList.getD j 0).toNat) ∧ x < 18446744073709551616 ∧ (i ≤ 9 → x = valV b.data.toList i) ∧ s = ⟨[(0, .c (.v (.string b))), (5, .c (u64C x)), (6, .c (iC i))], []⟩) rfl (.inr rfl) ?_ ?_
  · repeat' (first 
     | (with_reducible first | refine awp_scope ?_ | refine awp_seq ?_ | refine awp_block ?_)
     | ((with_reducible first | refine awp_label ?_ | refine awp_skip ?_ | refine awp_exit ?_ | refine hother _ _ rfl ?_); try simp only [thenA, inBlockA, noGotoA, if_true, Nat.reduceEqDiff, if_false, ↓reduceIte])
     | ((with_reducible first | refine awp_reg 52 hX [0, 2, 3, 4, 5, 6, 7, 9, 13, 22, 35, 36, 43] ?_ | change postOf _ _ _ _ _); simp [-List.reduceReplicate, Nat.add_one_le_iff, -getElem?_pos, -getElem?_neg, u64C, iC])
     | ((first | (with_reducible refine awp_ret ?_; try simp only [thenA, inBlockA, noGotoA])); try simp [-List.reduceReplicate, Nat.add_one_le_iff, -getElem?_pos, -getElem?_neg, u64C, iC])
     | (with_reducible refine awp_if_b rfl (fun hc => ?_) (fun hc => ?_) <;> (try simp [-getElem?_pos, -getElem?_neg] at hc) <;> (try (exfalso; omega)))
     | ((with_reducible first | refine GuardK_b (fun hc => ?_) (fun hc => ?_)) <;> (try simp only [Bool.not_eq_true', Bool.not_eq_false', decide_eq_true_eq, decide_eq_false_iff_not] at hc) <;> (first | (exfalso; omega) | skip) <;> simp [-List.reduceReplicate, Nat.add_one_le_iff, -getElem?_pos, -getElem?_neg, u64C, iC, hc])
     | (with_reducible refine And.intro (by omega) ?_)
     | fail)
    exact ⟨10, 0, by omega, by omega, by omega, by intros; omega, 0, by omega, fun _ => rfl, rfl, rfl⟩
  · rintro n s Q1 ⟨i, x, h1, rfl, h2, h3, hx, h4, rfl⟩ next hother
    have hi10 : i ≠ 10 → i ≤ 9 := by omega
    by_cases hi : i = 10
    · subst hi
      have hl := hle 10 (by omega) (by omega) h3 (.inl rfl)
      rw [hl] at htv
      simp only [if_true] at htv
      subst htv
      repeat' (first 
       | (with_reducible first | refine awp_scope ?_ | refine awp_seq ?_ | refine awp_block ?_)
       | ((with_reducible first | refine awp_label ?_ | refine awp_skip ?_ | refine awp_exit ?_ | refine hother _ _ rfl ?_); try simp only [thenA, inBlockA, noGotoA, if_true, Nat.reduceEqDiff, if_false, ↓reduceIte])
       | ((with_reducible first | refine awp_reg 52 hX [0, 2, 3, 4, 5, 6, 7, 9, 13, 22, 35, 36, 43] ?_ | change postOf _ _ _ _ _); simp [-List.reduceReplicate, Nat.add_one_le_iff, -getElem?_pos, -getElem?_neg, u64C, iC, takeM])
       | ((first | (with_reducible refine awp_ret ?_; try simp only [thenA, inBlockA, noGotoA])); try simp [-List.reduceReplicate, Nat.add_one_le_iff, -getElem?_pos, -getElem?_neg, u64C, iC, takeM])
       | (with_reducible refine awp_if_b rfl (fun hc => ?_) (fun hc => ?_) <;> (try simp [-getElem?_pos, -getElem?_neg] at hc) <;> (try (exfalso; omega)))
       | ((with_reducible first | refine GuardK_b (fun hc => ?_) (fun hc => ?_)) <;> (try simp only [Bool.not_eq_true', Bool.not_eq_false', decide_eq_true_eq, decide_eq_false_iff_not] at hc) <;> (first | (exfalso; omega) | skip) <;> simp [-List.reduceReplicate, Nat.add_one_le_iff, -getElem?_pos, -getElem?_neg, u64C, iC, takeM, hc])
       | (with_reducible refine And.intro (by omega) ?_)
       | fail)
    · have h9 : i ≤ 9 := hi10 hi
      obtain rfl := h4 h9
      have hi2 : ¬ (i : Int) = 10 := by omega
      by_cases hn : i = b.size
      · have hl := hle i (by omega) (by omega) h3 (.inr (.inl (by omega)))
        have hn2 : (i : Int) = b.size := by omega
        rw [hl, if_neg hi, if_pos (by omega)] at htv
        subst htv
        repeat' (first 
         | (with_reducible first | refine awp_scope ?_ | refine awp_seq ?_ | refine awp_block ?_)
         | ((with_reducible first | refine awp_label ?_ | refine awp_skip ?_ | refine awp_exit ?_ | refine hother _ _ rfl ?_); try simp only [thenA, inBlockA, noGotoA, if_true, Nat.reduceEqDiff, if_false, ↓reduceIte])
         | ((with_reducible first | refine awp_reg 52 hX [0, 2, 3, 4, 5, 6, 7, 9, 13, 22, 35, 36, 43] ?_ | change postOf _ _ _ _ _); simp [-List.reduceReplicate, Nat.add_one_le_iff, -getElem?_pos, -getElem?_neg, u64C, iC, takeM, hi2, hn2])
         | ((first | (with_reducible refine awp_ret ?_; try simp only [thenA, inBlockA, noGotoA])); try simp [-List.reduceReplicate, Nat.add_one_le_iff, -getElem?_pos, -getElem?_neg, u64C, iC, takeM, hi2, hn2])
         | (with_reducible refine awp_if_b rfl (fun hc => ?_) (fun hc => ?_) <;> (try simp [-getElem?_pos, -getElem?_neg] at hc) <;> (try (exfalso; omega)))
         | ((with_reducible first | refine GuardK_b (fun hc => ?_) (fun hc => ?_)) <;> (try simp only [Bool.not_eq_true', Bool.not_eq_false', decide_eq_true_eq, decide_eq_false_iff_not] at hc) <;> (first | (exfalso; omega) | skip) <;> simp [-List.reduceReplicate, Nat.add_one_le_iff, -getElem?_pos, -getElem?_neg, u64C, iC, takeM, hi2, hn2, hc])
         | (with_reducible refine And.intro (by omega) ?_)
         | fail)
      · have hn2 : ¬ (i : Int) = b.size := by omega
        obtain ⟨c, hc8⟩ : ∃ c, (b.data.toList.getD i 0).toNat = c := ⟨_, rfl⟩
        have hcl : c < 256 := by rw [← hc8]; exact UInt8.toNat_lt _
        have hba : byteAt b i = (c : Int) := by rw [← hc8]; exact byteAt_nat b i
        have hwi := wrap_in ((i : Int) + 1) (by omega)
        have hw7 := wrap_in (7 * (i : Int)) (by omega)
        have hw8 := wrapU64 (7 * (i : Int)) (by omega)
        have han : andI .u8 (c : Int) 127 = ((c % 128 : Nat) : Int) := by
          have h7 : (127 : Int) = ((127 : Nat) : Int) := rfl
          rw [h7, andN .u8 c 127 (by simpa [IntKind.bits] using hcl) (by simp [IntKind.bits]) (by simp [IntKind.signed])]
          have : ∀ z, z < 256 → z &&& 127 = z % 128 := by decide +kernel
          rw [this c hcl]
        have hwm := wrapU64 ((c : Int) % 128) (by omega)
        have hwn := wrapU64 ((c % 128 : Nat) : Int) (by omega)
        have hmin : min (7 * i) 64 = 7 * i := by omega
        push_cast at han
        have hng : ¬ 7 * (i : Int) < 0 := by omega
        have hw : valV b.data.toList (i + 1) = valV b.data.toList i + c % 128 * 128 ^ i := by rw [valV, hc8]
        have hsh : (i < 9 ∨ c < 2) → orI .u64 (valV b.data.toList i : Int) (IntKind.u64.wrap ((c : Int) % 128 * 2 ^ min (7 * (i : Int)).toNat 64)) = ((valV b.data.toList (i + 1) : Nat) : Int) := by
          intro h
          have h5 : (128 : Nat) ^ i ≤ 128 ^ 9 := Nat.pow_le_pow_right (by omega) h9
          have h6 : (128 : Nat) ^ 9 = 9223372036854775808 := by decide
          have h7 := shl_or128 (valV b.data.toList i) (c % 128) i (hvl i) (by omega) (by
            rcases h with h | h
            · have h8 : c % 128 * 128 ^ i ≤ 127 * 128 ^ i := Nat.mul_le_mul_right _ (by omega)
              have h10 : (128 : Nat) ^ i ≤ 128 ^ 8 := Nat.pow_le_pow_right (by omega) (by omega)
              have h11 : (128 : Nat) ^ 8 = 72057594037927936 := by decide
              omega
            · have h8 : c % 128 * 128 ^ i ≤ 1 * 128 ^ i := Nat.mul_le_mul_right _ (by omega)
              omega) h9
          rw [hw, ← h7]
          push_cast
          rfl
        have h3' : 128 ≤ c → ∀ j, j < i + 1 → 128 ≤ (b.data.toList.getD j 0).toNat := fun h j hj => by
          by_cases hji : j < i
          · exact h3 j hji
          · obtain rfl : j = i := by omega
            rw [hc8]; exact h
        have hvi := hvl (i + 1)
        by_cases hc1 : 128 ≤ c
        · have hc2 : (128 : Int) ≤ (c : Int) := by omega
          have hc3 : ¬ (c : Int) < 128 := by omega
          by_cases hi9 : i < 9
          · have hi3 : (i : Int) < 9 := by omega
            have hs := hsh (.inl hi9)
            have hv9 : valV b.data.toList (i + 1) < 18446744073709551616 := by
              have h10 : (128 : Nat) ^ (i + 1) ≤ 128 ^ 9 := Nat.pow_le_pow_right (by omega) (by omega)
              have h11 : (128 : Nat) ^ 9 = 9223372036854775808 := by decide
              omega
            clear hsh
            repeat' (first 
             | (with_reducible first | refine awp_scope ?_ | refine awp_seq ?_ | refine awp_block ?_)
             | ((with_reducible first | refine awp_label ?_ | refine awp_skip ?_ | refine awp_exit ?_ | refine hother _ _ rfl ?_); try simp only [thenA, inBlockA, noGotoA, if_true, Nat.reduceEqDiff, if_false, ↓reduceIte])
             | ((with_reducible first | refine awp_reg 52 hX [0, 2, 3, 4, 5, 6, 7, 9, 13, 22, 35, 36, 43] ?_ | change postOf _ _ _ _ _); simp [-List.reduceReplicate, Nat.add_one_le_iff, -getElem?_pos, -getElem?_neg, u64C, iC, takeM, hi2, hn2, hba, hwi, hw7, hw8, han, hwm, hs, hng, hi3, hc2, hc3, IntKind.bits])
             | ((first | (with_reducible refine awp_ret ?_; try simp only [thenA, inBlockA, noGotoA])); try simp [-List.reduceReplicate, Nat.add_one_le_iff, -getElem?_pos, -getElem?_neg, u64C, iC, takeM, hi2, hn2, hba, hwi, hw7, hw8, han, hwm, hs, hng, hi3, hc2, hc3, IntKind.bits])
             | (with_reducible refine awp_if_b rfl (fun hc => ?_) (fun hc => ?_) <;> (try simp [-getElem?_pos, -getElem?_neg] at hc) <;> (try (exfalso; omega)))
             | ((with_reducible first | refine GuardK_b (fun hc => ?_) (fun hc => ?_)) <;> (try simp only [Bool.not_eq_true', Bool.not_eq_false', decide_eq_true_eq, decide_eq_false_iff_not] at hc) <;> (first | (exfalso; omega) | skip) <;> simp [-List.reduceReplicate, Nat.add_one_le_iff, -getElem?_pos, -getElem?_neg, u64C, iC, takeM, hi2, hn2, hba, hwi, hw7, hw8, han, hwm, hs, hng, hi3, hc2, hc3, IntKind.bits, hc])
             | (with_reducible refine And.intro (by omega) ?_)
             | fail)
            refine awp_goto ?_
            simp only [thenA]
            refine next _ (10 - (i + 1)) (by omega) ⟨i + 1, valV b.data.toList (i + 1), by omega, rfl, by omega, h3' hc1, hv9, fun _ => rfl, by simp [keep, u64C, iC]⟩
          · obtain rfl : i = 9 := by omega
            have hw10 : IntKind.i64.wrap 10 = 10 := rfl
            repeat' (first 
             | (with_reducible first | refine awp_scope ?_ | refine awp_seq ?_ | refine awp_block ?_)
             | ((with_reducible first | refine awp_label ?_ | refine awp_skip ?_ | refine awp_exit ?_ | refine hother _ _ rfl ?_); try simp only [thenA, inBlockA, noGotoA, if_true, Nat.reduceEqDiff, if_false, ↓reduceIte])
             | ((with_reducible first | refine awp_reg 52 hX [0, 2, 3, 4, 5, 6, 7, 9, 13, 22, 35, 36, 43] ?_ | change postOf _ _ _ _ _); simp [-List.reduceReplicate, Nat.add_one_le_iff, -getElem?_pos, -getElem?_neg, u64C, iC, takeM, hn2, hba, hc2, hc3, hw10])
             | ((first | (with_reducible refine awp_ret ?_; try simp only [thenA, inBlockA, noGotoA])); try simp [-List.reduceReplicate, Nat.add_one_le_iff, -getElem?_pos, -getElem?_neg, u64C, iC, takeM, hn2, hba, hc2, hc3, hw10])
             | (with_reducible refine awp_if_b rfl (fun hc => ?_) (fun hc => ?_) <;> (try simp [-getElem?_pos, -getElem?_neg] at hc) <;> (try (exfalso; omega)))
             | ((with_reducible first | refine GuardK_b (fun hc => ?_) (fun hc => ?_)) <;> (try simp only [Bool.not_eq_true', Bool.not_eq_false', decide_eq_true_eq, decide_eq_false_iff_not] at hc) <;> (first | (exfalso; omega) | skip) <;> simp [-List.reduceReplicate, Nat.add_one_le_iff, -getElem?_pos, -getElem?_neg, u64C, iC, takeM, hn2, hba, hc2, hc3, hw10, hc])
             | (with_reducible refine And.intro (by omega) ?_)
             | fail)
            refine awp_goto ?_
            simp only [thenA]
            refine next _ 0 (by omega) ⟨10, valV b.data.toList 9, by omega, rfl, by omega, h3' hc1, hx, fun h => by omega, by simp [keep, u64C, iC, hw10]⟩
        · have hc2 : ¬ (128 : Int) ≤ (c : Int) := by omega
          have hc3 : (c : Int) < 128 := by omega
          have hl := hle i (by omega) (by omega) h3 (.inr (.inr (by omega)))
          rw [hl, if_neg hi, if_neg (by omega), hc8] at htv
          by_cases ha : 0 < i ∧ c = 0
          · rw [if_pos ha] at htv
            subst htv
            obtain ⟨ha1, rfl⟩ := ha
            have hs := hsh (.inr (by omega))
            have hi1 : (1 : Int) < (i : Int) + 1 := by omega
            clear hsh
            repeat' (first 
             | (with_reducible first | refine awp_scope ?_ | refine awp_seq ?_ | refine awp_block ?_)
             | ((with_reducible first | refine awp_label ?_ | refine awp_skip ?_ | refine awp_exit ?_ | refine hother _ _ rfl ?_); try simp only [thenA, inBlockA, noGotoA, if_true, Nat.reduceEqDiff, if_false, ↓reduceIte])
             | ((with_reducible first | refine awp_reg 52 hX [0, 2, 3, 4, 5, 6, 7, 9, 13, 22, 35, 36, 43] ?_ | change postOf _ _ _ _ _); simp [-List.reduceReplicate, Nat.add_one_le_iff, -getElem?_pos, -getElem?_neg, u64C, iC, takeM, hi2, hn2, hba, hwi, hw7, hw8, han, hwm, hs, hng, hc2, hc3, IntKind.bits, hi1, ha1])
             | ((first | (with_reducible refine awp_ret ?_; try simp only [thenA, inBlockA, noGotoA])); try simp [-List.reduceReplicate, Nat.add_one_le_iff, -getElem?_pos, -getElem?_neg, u64C, iC, takeM, hi2, hn2, hba, hwi, hw7, hw8, han, hwm, hs, hng, hc2, hc3, IntKind.bits, hi1, ha1])
             | (with_reducible refine awp_if_b rfl (fun hc => ?_) (fun hc => ?_) <;> (try simp [-getElem?_pos, -getElem?_neg] at hc) <;> (try (exfalso; omega)))
             | ((with_reducible first | refine GuardK_b (fun hc => ?_) (fun hc => ?_)) <;> (try simp only [Bool.not_eq_true', Bool.not_eq_false', decide_eq_true_eq, decide_eq_false_iff_not] at hc) <;> (first | (exfalso; omega) | skip) <;> simp [-List.reduceReplicate, Nat.add_one_le_iff, -getElem?_pos, -getElem?_neg, u64C, iC, takeM, hi2, hn2, hba, hwi, hw7, hw8, han, hwm, hs, hng, hc2, hc3, IntKind.bits, hi1, ha1, hc])
             | (with_reducible refine And.intro (by omega) ?_)
             | fail)
          · rw [if_neg ha] at htv
            by_cases hb9 : i = 9 ∧ 1 < c
            · rw [if_pos hb9] at htv
              subst htv
              obtain ⟨rfl, hb1⟩ := hb9
              have hb2 : (1 : Int) < (c : Int) := by omega
              have hb3 : ¬ (c : Int) = 0 := by omega
              have hb4 : ¬ c = 0 := by omega
              have hw10 : IntKind.i64.wrap 10 = 10 := rfl
              have hw63 : IntKind.i64.wrap 63 = 63 := rfl
              have hu63 : IntKind.u64.wrap 63 = 63 := rfl
              clear hsh
              repeat' (first 
               | (with_reducible first | refine awp_scope ?_ | refine awp_seq ?_ | refine awp_block ?_)
               | ((with_reducible first | refine awp_label ?_ | refine awp_skip ?_ | refine awp_exit ?_ | refine hother _ _ rfl ?_); try simp only [thenA, inBlockA, noGotoA, if_true, Nat.reduceEqDiff, if_false, ↓reduceIte])
               | ((with_reducible first | refine awp_reg 52 hX [0, 2, 3, 4, 5, 6, 7, 9, 13, 22, 35, 36, 43] ?_ | change postOf _ _ _ _ _); simp [-List.reduceReplicate, Nat.add_one_le_iff, -getElem?_pos, -getElem?_neg, u64C, iC, takeM, hn2, hba, han, hwm, hc2, hc3, IntKind.bits, hb1, hb2, hb3, hb4, hw10, hw63, hu63])
               | ((first | (with_reducible refine awp_ret ?_; try simp only [thenA, inBlockA, noGotoA])); try simp [-List.reduceReplicate, Nat.add_one_le_iff, -getElem?_pos, -getElem?_neg, u64C, iC, takeM, hn2, hba, han, hwm, hc2, hc3, IntKind.bits, hb1, hb2, hb3, hb4, hw10, hw63, hu63])
               | (with_reducible refine awp_if_b rfl (fun hc => ?_) (fun hc => ?_) <;> (try simp [-getElem?_pos, -getElem?_neg] at hc) <;> (try (exfalso; omega)))
               | ((with_reducible first | refine GuardK_b (fun hc => ?_) (fun hc => ?_)) <;> (try simp only [Bool.not_eq_true', Bool.not_eq_false', decide_eq_true_eq, decide_eq_false_iff_not] at hc) <;> (first | (exfalso; omega) | skip) <;> simp [-List.reduceReplicate, Nat.add_one_le_iff, -getElem?_pos, -getElem?_neg, u64C, iC, takeM, hn2, hba, han, hwm, hc2, hc3, IntKind.bits, hb1, hb2, hb3, hb4, hw10, hw63, hu63, hc])
               | (with_reducible refine And.intro (by omega) ?_)
               | fail)
            · rw [if_neg hb9] at htv
              subst htv
              have hs := hsh (by omega)
              clear hsh
              by_cases hi0 : 0 < i
              · have hi1 : (1 : Int) < (i : Int) + 1 := by omega
                have hb3 : ¬ (c : Int) = 0 := by omega
                have hb4 : ¬ c = 0 := by omega
                by_cases hi9 : i = 9
                · subst hi9
                  have hb2 : ¬ (1 : Int) < (c : Int) := by omega
                  have hb1 : ¬ 1 < c := by omega
                  have hw10 : IntKind.i64.wrap 10 = 10 := rfl
                  have hw63 : IntKind.i64.wrap 63 = 63 := rfl
                  have hu63 : IntKind.u64.wrap 63 = 63 := rfl
                  simp at hs
                  repeat' (first 
                   | (with_reducible first | refine awp_scope ?_ | refine awp_seq ?_ | refine awp_block ?_)
                   | ((with_reducible first | refine awp_label ?_ | refine awp_skip ?_ | refine awp_exit ?_ | refine hother _ _ rfl ?_); try simp only [thenA, inBlockA, noGotoA, if_true, Nat.reduceEqDiff, if_false, ↓reduceIte])
                   | ((with_reducible first | refine awp_reg 52 hX [0, 2, 3, 4, 5, 6, 7, 9, 13, 22, 35, 36, 43] ?_ | change postOf _ _ _ _ _); simp [-List.reduceReplicate, Nat.add_one_le_iff, -getElem?_pos, -getElem?_neg, u64C, iC, takeM, hn2, hba, han, hwm, hs, hc2, hc3, IntKind.bits, hb1, hb2, hb3, hb4, hw10, hw63, hu63])
                   | ((first | (with_reducible refine awp_ret ?_; try simp only [thenA, inBlockA, noGotoA])); try simp [-List.reduceReplicate, Nat.add_one_le_iff, -getElem?_pos, -getElem?_neg, u64C, iC, takeM, hn2, hba, han, hwm, hs, hc2, hc3, IntKind.bits, hb1, hb2, hb3, hb4, hw10, hw63, hu63])
                   | (with_reducible refine awp_if_b rfl (fun hc => ?_) (fun hc => ?_) <;> (try simp [-getElem?_pos, -getElem?_neg] at hc) <;> (try (exfalso; omega)))
                   | ((with_reducible first | refine GuardK_b (fun hc => ?_) (fun hc => ?_)) <;> (try simp only [Bool.not_eq_true', Bool.not_eq_false', decide_eq_true_eq, decide_eq_false_iff_not] at hc) <;> (first | (exfalso; omega) | skip) <;> simp [-List.reduceReplicate, Nat.add_one_le_iff, -getElem?_pos, -getElem?_neg, u64C, iC, takeM, hn2, hba, han, hwm, hs, hc2, hc3, IntKind.bits, hb1, hb2, hb3, hb4, hw10, hw63, hu63, hc])
                   | (with_reducible refine And.intro (by omega) ?_)
                   | fail)
                · have hi10 : ¬ (i : Int) + 1 = 10 := by omega
                  repeat' (first 
                   | (with_reducible first | refine awp_scope ?_ | refine awp_seq ?_ | refine awp_block ?_)
                   | ((with_reducible first | refine awp_label ?_ | refine awp_skip ?_ | refine awp_exit ?_ | refine hother _ _ rfl ?_); try simp only [thenA, inBlockA, noGotoA, if_true, Nat.reduceEqDiff, if_false, ↓reduceIte])
                   | ((with_reducible first | refine awp_reg 52 hX [0, 2, 3, 4, 5, 6, 7, 9, 13, 22, 35, 36, 43] ?_ | change postOf _ _ _ _ _); simp [-List.reduceReplicate, Nat.add_one_le_iff, -getElem?_pos, -getElem?_neg, u64C, iC, takeM, hi2, hn2, hba, hwi, hw7, hw8, han, hwm, hs, hng, hc2, hc3, IntKind.bits, hi1, hi0, hb3, hb4, hi10, hi9])
                   | ((first | (with_reducible refine awp_ret ?_; try simp only [thenA, inBlockA, noGotoA])); try simp [-List.reduceReplicate, Nat.add_one_le_iff, -getElem?_pos, -getElem?_neg, u64C, iC, takeM, hi2, hn2, hba, hwi, hw7, hw8, han, hwm, hs, hng, hc2, hc3, IntKind.bits, hi1, hi0, hb3, hb4, hi10, hi9])
                   | (with_reducible refine awp_if_b rfl (fun hc => ?_) (fun hc => ?_) <;> (try simp [-getElem?_pos, -getElem?_neg] at hc) <;> (try (exfalso; omega)))
                   | ((with_reducible first | refine GuardK_b (fun hc => ?_) (fun hc => ?_)) <;> (try simp only [Bool.not_eq_true', Bool.not_eq_false', decide_eq_true_eq, decide_eq_false_iff_not] at hc) <;> (first | (exfalso; omega) | skip) <;> simp [-List.reduceReplicate, Nat.add_one_le_iff, -getElem?_pos, -getElem?_neg, u64C, iC, takeM, hi2, hn2, hba, hwi, hw7, hw8, han, hwm, hs, hng, hc2, hc3, IntKind.bits, hi1, hi0, hb3, hb4, hi10, hi9, hc])
                   | (with_reducible refine And.intro (by omega) ?_)
                   | fail)
              · obtain rfl : i = 0 := by omega
                have hw1 : IntKind.i64.wrap 1 = 1 := rfl
                have hw0 : IntKind.i64.wrap 0 = 0 := rfl
                have hu0 : IntKind.u64.wrap 0 = 0 := rfl
                simp [hwm] at hs
                repeat' (first 
                 | (with_reducible first | refine awp_scope ?_ | refine awp_seq ?_ | refine awp_block ?_)
                 | ((with_reducible first | refine awp_label ?_ | refine awp_skip ?_ | refine awp_exit ?_ | refine hother _ _ rfl ?_); try simp only [thenA, inBlockA, noGotoA, if_true, Nat.reduceEqDiff, if_false, ↓reduceIte])
                 | ((with_reducible first | refine awp_reg 52 hX [0, 2, 3, 4, 5, 6, 7, 9, 13, 22, 35, 36, 43] ?_ | change postOf _ _ _ _ _); simp [-List.reduceReplicate, Nat.add_one_le_iff, -getElem?_pos, -getElem?_neg, u64C, iC, takeM, hi2, hn2, hba, han, hwm, hs, hc2, hc3, IntKind.bits, hw1, hw0, hu0])
                 | ((first | (with_reducible refine awp_ret ?_; try simp only [thenA, inBlockA, noGotoA])); try simp [-List.reduceReplicate, Nat.add_one_le_iff, -getElem?_pos, -getElem?_neg, u64C, iC, takeM, hi2, hn2, hba, han, hwm, hs, hc2, hc3, IntKind.bits, hw1, hw0, hu0])
                 | (with_reducible refine awp_if_b rfl (fun hc => ?_) (fun hc => ?_) <;> (try simp [-getElem?_pos, -getElem?_neg] at hc) <;> (try (exfalso; omega)))
                 | ((with_reducible first | refine GuardK_b (fun hc => ?_) (fun hc => ?_)) <;> (try simp only [Bool.not_eq_true', Bool.not_eq_false', decide_eq_true_eq, decide_eq_false_iff_not] at hc) <;> (first | (exfalso; omega) | skip) <;> simp [-List.reduceReplicate, Nat.add_one_le_iff, -getElem?_pos, -getElem?_neg, u64C, iC, takeM, hi2, hn2, hba, han, hwm, hs, hc2, hc3, IntKind.bits, hw1, hw0, hu0, hc])
                 | (with_reducible refine And.intro (by omega) ?_)
                 | fail)
end Go.Av

set_option exponentiation.threshold 1000
set_option linter.unusedVariables false
set_option linter.unusedSimpArgs false
set_option maxRecDepth 100000
set_option maxHeartbeats 4000000
namespace Go.Av
open Go Go.Proofs Go.Proofs.Ytpcnacknlgmmlaa Go.RowKit
attribute [local simp] List.getElem?_cons_zero List.getElem?_cons_succ
theorem leadV_spec : ∀ (k : Nat) (l : List UInt8), leadV k l ≤ k ∧ leadV k l ≤ l.length ∧ (∀ j, j < leadV k l → 128 ≤ (l.getD j 0).toNat) ∧ (leadV k l = k ∨ leadV k l = l.length ∨ (l.getD (leadV k l) 0).toNat < 128) := by
  intro k
  induction k with
  | zero => intro l; simp [leadV]
  | succ k ih =>
    intro l
    cases l with
    | nil => simp [leadV]
    | cons b r =>
      obtain ⟨h1, h2, h3, h4⟩ := ih r
      rw [leadV]
      by_cases hb : 128 ≤ b.toNat
      · rw [if_pos hb]
        refine ⟨by omega, by simpa using h2, fun j hj => ?_, by simpa using h4⟩
        cases j with
        | zero => simpa using hb
        | succ j => simpa using h3 j (by omega)
      · rw [if_neg hb]
        refine ⟨by omega, by omega, fun j hj => by omega, .inr (.inr (by simpa using hb))⟩
def hornV (l : List UInt8) (n : Nat) : Nat → Nat
  | 0 => 0
  | k + 1 => hornV l n k * 128 + (l.getD (n - k) 0).toNat % 128
theorem valV_u64 (l : List UInt8) (n : Nat) (h : n ≤ 9) (h9 : n = 9 → (l.getD n 0).toNat ≤ 1) : valV l (n + 1) < 18446744073709551616 := by
  have h11 : (128 : Nat) ^ 9 = 9223372036854775808 := by decide
  by_cases hn : n = 9
  · subst hn
    have h1 := valV_lt l 9
    rw [valV]
    have := h9 rfl
    have h2 : (l.getD 9 0).toNat % 128 * 128 ^ 9 ≤ 1 * 128 ^ 9 := Nat.mul_le_mul_right _ (by omega)
    omega
  · have h1 := valV_lt l (n + 1)
    have h10 : (128 : Nat) ^ (n + 1) ≤ 128 ^ 9 := Nat.pow_le_pow_right (by omega) (by omega)
    omega
end Go.Av

set_option exponentiation.threshold 1000
set_option linter.unusedVariables false
set_option linter.unusedSimpArgs false
set_option maxRecDepth 100000
set_option maxHeartbeats 4000000
namespace Go.Av
open Go Go.Proofs Go.Proofs.Ytpcnacknlgmmlaa Go.RowKit
attribute [local simp] List.getElem?_cons_zero List.getElem?_cons_succ
def bC8 (b : UInt8) : C := .v (.int .u8 (b.toNat : Int))
def hashM (l : List UInt8) : M := .agg (up (l.map bC8))
theorem eq_hash (l l' : List UInt8) (h : l.length = 32) (h' : l'.length = 32) : eqM (List.replicate 32 0) (up (l.map bC8)) (up (l'.map bC8)) = some (decide (l = l')) := by
  have e := eqM_ints (k := .u8) 32 (l.map fun b => (b.toNat : Int)) (l'.map fun b => (b.toNat : Int)) (by simp [h]) (by simp [h'])
  have inj : (l.map (fun b => (b.toNat : Int)) = l'.map fun b => (b.toNat : Int)) ↔ l = l' := by
    constructor
    · intro h
      exact List.map_inj_right (fun a b hab => UInt8.toNat_inj.1 (by omega)) |>.1 h
    · intro h; rw [h]
  rw [List.map_map, List.map_map] at e
  simp only [inj] at e
  exact e
theorem lt_hash (n : Nat) (l : List UInt8) : ltB n (hashM l) = true := by
  simp only [hashM, ltB]
  exact ltBs_up n _
theorem bytesM_b8 (l : List UInt8) : bytesM (up (l.map bC8)) = some l := by
  induction l with
  | nil => rfl
  | cons x xs ih =>
    simp only [up, List.map_cons] at *
    simp only [bytesM, bC8] at *
    rw [ih]
    simp
end Go.Av
