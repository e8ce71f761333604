/- 7 texts of the program logic over abstract values, joined: each is proved without any condition beyond its own words. -/
import Derived.Test.YtpcnacknlgmmlaaGreatProg
import Derived.Test.YtpcnacknlgmmlaaGreatAvEngine3
import Derived.Test.YtpcnacknlgmmlaaGreatAvEngine4
/- The type table of the program, as facts. Printed by mktab.py. -/
set_option linter.unusedVariables false
namespace Go.Proofs.YtpcnacknlgmmlaaGreat.Tab
open Go Go.Proofs Go.Av
@[simp] theorem zero1 : zeroT Tryz.prog 1 = some [M.c (C.v Value.nilFunc)] := by kernel_rfl
@[simp] theorem zero2 : zeroT Tryz.prog 2 = some [M.c (C.v (Value.int IntKind.i64 0))] := by kernel_rfl
@[simp] theorem zero3 : zeroT Tryz.prog 3 = some [M.c (C.v (Value.int IntKind.i64 0))] := by kernel_rfl
@[simp] theorem zero4 : zeroT Tryz.prog 4 = some [M.c (C.v (Value.bool false))] := by kernel_rfl
@[simp] theorem zero5 : zeroT Tryz.prog 5 = some [M.c (C.v (Value.int IntKind.u8 0))] := by kernel_rfl
@[simp] theorem zero6 : zeroT Tryz.prog 6 = some [M.c (C.v (Value.int IntKind.u8 0))] := by kernel_rfl
@[simp] theorem zero7 : zeroT Tryz.prog 7 = some [M.c (C.v (Value.int IntKind.i64 0)), M.c (C.v (Value.int IntKind.i64 0)), M.c (C.v (Value.bool false)), M.c (C.v (Value.int IntKind.u8 0))] := by kernel_rfl
@[simp] theorem zero8 : zeroT Tryz.prog 8 = some [M.c (C.v (Value.int IntKind.i64 0)), M.c (C.v (Value.int IntKind.i64 0)), M.c (C.v (Value.bool false)), M.c (C.v (Value.int IntKind.u8 0))] := by kernel_rfl
@[simp] theorem zero9 : zeroT Tryz.prog 9 = some [M.c (C.v (Value.string { data := { toList := [] } }))] := by kernel_rfl
@[simp] theorem zero10 : zeroT Tryz.prog 10 = some [M.c (C.v (Value.string { data := { toList := [] } }))] := by kernel_rfl
@[simp] theorem zero11 : zeroT Tryz.prog 11 = some [M.c (C.v (Value.string { data := { toList := [] } }))] := by kernel_rfl
@[simp] theorem zero12 : zeroT Tryz.prog 12 = some [M.c (C.v (Value.int IntKind.u64 0))] := by kernel_rfl
@[simp] theorem zero13 : zeroT Tryz.prog 13 = some [M.c (C.v (Value.string { data := { toList := [] } })), M.c (C.v (Value.int IntKind.u64 0))] := by kernel_rfl
@[simp] theorem zero14 : zeroT Tryz.prog 14 = some [M.c (C.v (Value.string { data := { toList := [] } })), M.c (C.v (Value.int IntKind.u64 0))] := by kernel_rfl
@[simp] theorem zero15 : zeroT Tryz.prog 15 = some [M.c (C.v (Value.pointer none))] := by kernel_rfl
@[simp] theorem zero16 : zeroT Tryz.prog 16 = some [M.c (C.v (Value.pointer none))] := by kernel_rfl
@[simp] theorem zero17 : zeroT Tryz.prog 17 = some [M.c (C.v (Value.pointer none))] := by kernel_rfl
@[simp] theorem zero18 : zeroT Tryz.prog 18 = some [M.c (C.v (Value.pointer none))] := by kernel_rfl
@[simp] theorem zero19 : zeroT Tryz.prog 19 = some [M.c (C.v (Value.pointer none))] := by kernel_rfl
@[simp] theorem zero20 : zeroT Tryz.prog 20 = some [M.c (C.v Value.nilIface)] := by kernel_rfl
@[simp] theorem zero21 : zeroT Tryz.prog 21 = some [M.c (C.v (Value.int IntKind.i32 0))] := by kernel_rfl
@[simp] theorem zero22 : zeroT Tryz.prog 22 = some [M.c (C.v (Value.int IntKind.u32 0))] := by kernel_rfl
@[simp] theorem zero23 : zeroT Tryz.prog 23 = some (List.replicate 32 (M.c (C.v (Value.int IntKind.u8 0)))) := by kernel_rfl
@[simp] theorem zero24 : zeroT Tryz.prog 24 = some (List.replicate 32 (M.c (C.v (Value.int IntKind.u8 0)))) := by kernel_rfl
@[simp] theorem zero25 : zeroT Tryz.prog 25 = some [M.c (C.v (Value.int IntKind.u64 0))] := by kernel_rfl
@[simp] theorem zero26 : zeroT Tryz.prog 26 = some [M.c (C.v (Value.int IntKind.u32 0)), M.c (C.v (Value.int IntKind.u8 0)), M.c (C.v (Value.int IntKind.u8 0)), M.c (C.v (Value.int IntKind.u8 0)), M.c (C.v (Value.int IntKind.u8 0)), M.c (C.v (Value.int IntKind.u8 0)), M.c (C.v (Value.int IntKind.u8 0)), M.c (C.v (Value.int IntKind.u8 0)), M.c (C.v (Value.int IntKind.u8 0)), M.c (C.v (Value.int IntKind.u8 0)), M.c (C.v (Value.int IntKind.u8 0)), M.c (C.v (Value.int IntKind.u8 0)), M.c (C.v (Value.int IntKind.u8 0)), M.c (C.v (Value.int IntKind.u8 0)), M.c (C.v (Value.int IntKind.u8 0)), M.c (C.v (Value.int IntKind.u8 0)), M.c (C.v (Value.int IntKind.u8 0)), M.c (C.v (Value.int IntKind.u8 0)), M.c (C.v (Value.int IntKind.u8 0)), M.c (C.v (Value.int IntKind.u8 0)), M.c (C.v (Value.int IntKind.u8 0)), M.c (C.v (Value.int IntKind.u8 0)), M.c (C.v (Value.int IntKind.u8 0)), M.c (C.v (Value.int IntKind.u8 0)), M.c (C.v (Value.int IntKind.u8 0)), M.c (C.v (Value.int IntKind.u8 0)), M.c (C.v (Value.int IntKind.u8 0)), M.c (C.v (Value.int IntKind.u8 0)), M.c (C.v (Value.int IntKind.u8 0)), M.c (C.v (Value.int IntKind.u8 0)), M.c (C.v (Value.int IntKind.u8 0)), M.c (C.v (Value.int IntKind.u8 0)), M.c (C.v (Value.int IntKind.u8 0)), M.c (C.v (Value.int IntKind.u8 0)), M.c (C.v (Value.int IntKind.u8 0)), M.c (C.v (Value.int IntKind.u8 0)), M.c (C.v (Value.int IntKind.u8 0)), M.c (C.v (Value.int IntKind.u8 0)), M.c (C.v (Value.int IntKind.u8 0)), M.c (C.v (Value.int IntKind.u8 0)), M.c (C.v (Value.int IntKind.u8 0)), M.c (C.v (Value.int IntKind.u8 0)), M.c (C.v (Value.int IntKind.u8 0)), M.c (C.v (Value.int IntKind.u8 0)), M.c (C.v (Value.int IntKind.u8 0)), M.c (C.v (Value.int IntKind.u8 0)), M.c (C.v (Value.int IntKind.u8 0)), M.c (C.v (Value.int IntKind.u8 0)), M.c (C.v (Value.int IntKind.u8 0)), M.c (C.v (Value.int IntKind.u8 0)), M.c (C.v (Value.int IntKind.u8 0)), M.c (C.v (Value.int IntKind.u8 0)), M.c (C.v (Value.int IntKind.u8 0)), M.c (C.v (Value.int IntKind.u8 0)), M.c (C.v (Value.int IntKind.u8 0)), M.c (C.v (Value.int IntKind.u8 0)), M.c (C.v (Value.int IntKind.u8 0)), M.c (C.v (Value.int IntKind.u8 0)), M.c (C.v (Value.int IntKind.u8 0)), M.c (C.v (Value.int IntKind.u8 0)), M.c (C.v (Value.int IntKind.u8 0)), M.c (C.v (Value.int IntKind.u8 0)), M.c (C.v (Value.int IntKind.u8 0)), M.c (C.v (Value.int IntKind.u8 0)), M.c (C.v (Value.int IntKind.u8 0)), M.c (C.v (Value.int IntKind.u64 0))] := by kernel_rfl
@[simp] theorem zero27 : zeroT Tryz.prog 27 = some [M.c (C.v (Value.int IntKind.u32 0)), M.c (C.v (Value.int IntKind.u8 0)), M.c (C.v (Value.int IntKind.u8 0)), M.c (C.v (Value.int IntKind.u8 0)), M.c (C.v (Value.int IntKind.u8 0)), M.c (C.v (Value.int IntKind.u8 0)), M.c (C.v (Value.int IntKind.u8 0)), M.c (C.v (Value.int IntKind.u8 0)), M.c (C.v (Value.int IntKind.u8 0)), M.c (C.v (Value.int IntKind.u8 0)), M.c (C.v (Value.int IntKind.u8 0)), M.c (C.v (Value.int IntKind.u8 0)), M.c (C.v (Value.int IntKind.u8 0)), M.c (C.v (Value.int IntKind.u8 0)), M.c (C.v (Value.int IntKind.u8 0)), M.c (C.v (Value.int IntKind.u8 0)), M.c (C.v (Value.int IntKind.u8 0)), M.c (C.v (Value.int IntKind.u8 0)), M.c (C.v (Value.int IntKind.u8 0)), M.c (C.v (Value.int IntKind.u8 0)), M.c (C.v (Value.int IntKind.u8 0)), M.c (C.v (Value.int IntKind.u8 0)), M.c (C.v (Value.int IntKind.u8 0)), M.c (C.v (Value.int IntKind.u8 0)), M.c (C.v (Value.int IntKind.u8 0)), M.c (C.v (Value.int IntKind.u8 0)), M.c (C.v (Value.int IntKind.u8 0)), M.c (C.v (Value.int IntKind.u8 0)), M.c (C.v (Value.int IntKind.u8 0)), M.c (C.v (Value.int IntKind.u8 0)), M.c (C.v (Value.int IntKind.u8 0)), M.c (C.v (Value.int IntKind.u8 0)), M.c (C.v (Value.int IntKind.u8 0)), M.c (C.v (Value.int IntKind.u8 0)), M.c (C.v (Value.int IntKind.u8 0)), M.c (C.v (Value.int IntKind.u8 0)), M.c (C.v (Value.int IntKind.u8 0)), M.c (C.v (Value.int IntKind.u8 0)), M.c (C.v (Value.int IntKind.u8 0)), M.c (C.v (Value.int IntKind.u8 0)), M.c (C.v (Value.int IntKind.u8 0)), M.c (C.v (Value.int IntKind.u8 0)), M.c (C.v (Value.int IntKind.u8 0)), M.c (C.v (Value.int IntKind.u8 0)), M.c (C.v (Value.int IntKind.u8 0)), M.c (C.v (Value.int IntKind.u8 0)), M.c (C.v (Value.int IntKind.u8 0)), M.c (C.v (Value.int IntKind.u8 0)), M.c (C.v (Value.int IntKind.u8 0)), M.c (C.v (Value.int IntKind.u8 0)), M.c (C.v (Value.int IntKind.u8 0)), M.c (C.v (Value.int IntKind.u8 0)), M.c (C.v (Value.int IntKind.u8 0)), M.c (C.v (Value.int IntKind.u8 0)), M.c (C.v (Value.int IntKind.u8 0)), M.c (C.v (Value.int IntKind.u8 0)), M.c (C.v (Value.int IntKind.u8 0)), M.c (C.v (Value.int IntKind.u8 0)), M.c (C.v (Value.int IntKind.u8 0)), M.c (C.v (Value.int IntKind.u8 0)), M.c (C.v (Value.int IntKind.u8 0)), M.c (C.v (Value.int IntKind.u8 0)), M.c (C.v (Value.int IntKind.u8 0)), M.c (C.v (Value.int IntKind.u8 0)), M.c (C.v (Value.int IntKind.u8 0)), M.c (C.v (Value.int IntKind.u64 0))] := by kernel_rfl
@[simp] theorem zero28 : zeroT Tryz.prog 28 = some [M.c (C.v (Value.int IntKind.u32 0)), M.c (C.v (Value.int IntKind.u8 0)), M.c (C.v (Value.int IntKind.u8 0)), M.c (C.v (Value.int IntKind.u8 0)), M.c (C.v (Value.int IntKind.u8 0)), M.c (C.v (Value.int IntKind.u8 0)), M.c (C.v (Value.int IntKind.u8 0)), M.c (C.v (Value.int IntKind.u8 0)), M.c (C.v (Value.int IntKind.u8 0)), M.c (C.v (Value.int IntKind.u8 0)), M.c (C.v (Value.int IntKind.u8 0)), M.c (C.v (Value.int IntKind.u8 0)), M.c (C.v (Value.int IntKind.u8 0)), M.c (C.v (Value.int IntKind.u8 0)), M.c (C.v (Value.int IntKind.u8 0)), M.c (C.v (Value.int IntKind.u8 0)), M.c (C.v (Value.int IntKind.u8 0)), M.c (C.v (Value.int IntKind.u8 0)), M.c (C.v (Value.int IntKind.u8 0)), M.c (C.v (Value.int IntKind.u8 0)), M.c (C.v (Value.int IntKind.u8 0)), M.c (C.v (Value.int IntKind.u8 0)), M.c (C.v (Value.int IntKind.u8 0)), M.c (C.v (Value.int IntKind.u8 0)), M.c (C.v (Value.int IntKind.u8 0)), M.c (C.v (Value.int IntKind.u8 0)), M.c (C.v (Value.int IntKind.u8 0)), M.c (C.v (Value.int IntKind.u8 0)), M.c (C.v (Value.int IntKind.u8 0)), M.c (C.v (Value.int IntKind.u8 0)), M.c (C.v (Value.int IntKind.u8 0)), M.c (C.v (Value.int IntKind.u8 0)), M.c (C.v (Value.int IntKind.u8 0)), M.c (C.v (Value.int IntKind.u8 0)), M.c (C.v (Value.int IntKind.u8 0)), M.c (C.v (Value.int IntKind.u8 0)), M.c (C.v (Value.int IntKind.u8 0)), M.c (C.v (Value.int IntKind.u8 0)), M.c (C.v (Value.int IntKind.u8 0)), M.c (C.v (Value.int IntKind.u8 0)), M.c (C.v (Value.int IntKind.u8 0)), M.c (C.v (Value.int IntKind.u8 0)), M.c (C.v (Value.int IntKind.u8 0)), M.c (C.v (Value.int IntKind.u8 0)), M.c (C.v (Value.int IntKind.u8 0)), M.c (C.v (Value.int IntKind.u8 0)), M.c (C.v (Value.int IntKind.u8 0)), M.c (C.v (Value.int IntKind.u8 0)), M.c (C.v (Value.int IntKind.u8 0)), M.c (C.v (Value.int IntKind.u8 0)), M.c (C.v (Value.int IntKind.u8 0)), M.c (C.v (Value.int IntKind.u8 0)), M.c (C.v (Value.int IntKind.u8 0)), M.c (C.v (Value.int IntKind.u8 0)), M.c (C.v (Value.int IntKind.u8 0)), M.c (C.v (Value.int IntKind.u8 0)), M.c (C.v (Value.int IntKind.u8 0)), M.c (C.v (Value.int IntKind.u8 0)), M.c (C.v (Value.int IntKind.u8 0)), M.c (C.v (Value.int IntKind.u8 0)), M.c (C.v (Value.int IntKind.u8 0)), M.c (C.v (Value.int IntKind.u8 0)), M.c (C.v (Value.int IntKind.u8 0)), M.c (C.v (Value.int IntKind.u8 0)), M.c (C.v (Value.int IntKind.u8 0)), M.c (C.v (Value.int IntKind.u64 0)), M.c (C.v (Value.int IntKind.u8 0)), M.c (C.v (Value.int IntKind.u8 0)), M.c (C.v (Value.int IntKind.u8 0)), M.c (C.v (Value.int IntKind.u8 0)), M.c (C.v (Value.int IntKind.u8 0)), M.c (C.v (Value.int IntKind.u8 0)), M.c (C.v (Value.int IntKind.u8 0)), M.c (C.v (Value.int IntKind.u8 0)), M.c (C.v (Value.int IntKind.u8 0)), M.c (C.v (Value.int IntKind.u8 0)), M.c (C.v (Value.int IntKind.u8 0)), M.c (C.v (Value.int IntKind.u8 0)), M.c (C.v (Value.int IntKind.u8 0)), M.c (C.v (Value.int IntKind.u8 0)), M.c (C.v (Value.int IntKind.u8 0)), M.c (C.v (Value.int IntKind.u8 0)), M.c (C.v (Value.int IntKind.u8 0)), M.c (C.v (Value.int IntKind.u8 0)), M.c (C.v (Value.int IntKind.u8 0)), M.c (C.v (Value.int IntKind.u8 0)), M.c (C.v (Value.int IntKind.u8 0)), M.c (C.v (Value.int IntKind.u8 0)), M.c (C.v (Value.int IntKind.u8 0)), M.c (C.v (Value.int IntKind.u8 0)), M.c (C.v (Value.int IntKind.u8 0)), M.c (C.v (Value.int IntKind.u8 0)), M.c (C.v (Value.int IntKind.u8 0)), M.c (C.v (Value.int IntKind.u8 0)), M.c (C.v (Value.int IntKind.u8 0)), M.c (C.v (Value.int IntKind.u8 0)), M.c (C.v (Value.int IntKind.u8 0)), M.c (C.v (Value.int IntKind.u8 0)), M.c (C.v (Value.int IntKind.i64 0)), M.c (C.v (Value.int IntKind.i64 0)), M.c (C.v (Value.int IntKind.i64 0)), M.c (C.v (Value.int IntKind.i64 0)), M.c (C.v (Value.int IntKind.i64 0)), M.c (C.v (Value.int IntKind.i64 0))] := by kernel_rfl
@[simp] theorem zero29 : zeroT Tryz.prog 29 = some [M.c (C.v (Value.int IntKind.u32 0)), M.c (C.v (Value.int IntKind.u8 0)), M.c (C.v (Value.int IntKind.u8 0)), M.c (C.v (Value.int IntKind.u8 0)), M.c (C.v (Value.int IntKind.u8 0)), M.c (C.v (Value.int IntKind.u8 0)), M.c (C.v (Value.int IntKind.u8 0)), M.c (C.v (Value.int IntKind.u8 0)), M.c (C.v (Value.int IntKind.u8 0)), M.c (C.v (Value.int IntKind.u8 0)), M.c (C.v (Value.int IntKind.u8 0)), M.c (C.v (Value.int IntKind.u8 0)), M.c (C.v (Value.int IntKind.u8 0)), M.c (C.v (Value.int IntKind.u8 0)), M.c (C.v (Value.int IntKind.u8 0)), M.c (C.v (Value.int IntKind.u8 0)), M.c (C.v (Value.int IntKind.u8 0)), M.c (C.v (Value.int IntKind.u8 0)), M.c (C.v (Value.int IntKind.u8 0)), M.c (C.v (Value.int IntKind.u8 0)), M.c (C.v (Value.int IntKind.u8 0)), M.c (C.v (Value.int IntKind.u8 0)), M.c (C.v (Value.int IntKind.u8 0)), M.c (C.v (Value.int IntKind.u8 0)), M.c (C.v (Value.int IntKind.u8 0)), M.c (C.v (Value.int IntKind.u8 0)), M.c (C.v (Value.int IntKind.u8 0)), M.c (C.v (Value.int IntKind.u8 0)), M.c (C.v (Value.int IntKind.u8 0)), M.c (C.v (Value.int IntKind.u8 0)), M.c (C.v (Value.int IntKind.u8 0)), M.c (C.v (Value.int IntKind.u8 0)), M.c (C.v (Value.int IntKind.u8 0)), M.c (C.v (Value.int IntKind.u8 0)), M.c (C.v (Value.int IntKind.u8 0)), M.c (C.v (Value.int IntKind.u8 0)), M.c (C.v (Value.int IntKind.u8 0)), M.c (C.v (Value.int IntKind.u8 0)), M.c (C.v (Value.int IntKind.u8 0)), M.c (C.v (Value.int IntKind.u8 0)), M.c (C.v (Value.int IntKind.u8 0)), M.c (C.v (Value.int IntKind.u8 0)), M.c (C.v (Value.int IntKind.u8 0)), M.c (C.v (Value.int IntKind.u8 0)), M.c (C.v (Value.int IntKind.u8 0)), M.c (C.v (Value.int IntKind.u8 0)), M.c (C.v (Value.int IntKind.u8 0)), M.c (C.v (Value.int IntKind.u8 0)), M.c (C.v (Value.int IntKind.u8 0)), M.c (C.v (Value.int IntKind.u8 0)), M.c (C.v (Value.int IntKind.u8 0)), M.c (C.v (Value.int IntKind.u8 0)), M.c (C.v (Value.int IntKind.u8 0)), M.c (C.v (Value.int IntKind.u8 0)), M.c (C.v (Value.int IntKind.u8 0)), M.c (C.v (Value.int IntKind.u8 0)), M.c (C.v (Value.int IntKind.u8 0)), M.c (C.v (Value.int IntKind.u8 0)), M.c (C.v (Value.int IntKind.u8 0)), M.c (C.v (Value.int IntKind.u8 0)), M.c (C.v (Value.int IntKind.u8 0)), M.c (C.v (Value.int IntKind.u8 0)), M.c (C.v (Value.int IntKind.u8 0)), M.c (C.v (Value.int IntKind.u8 0)), M.c (C.v (Value.int IntKind.u8 0)), M.c (C.v (Value.int IntKind.u64 0)), M.c (C.v (Value.int IntKind.u8 0)), M.c (C.v (Value.int IntKind.u8 0)), M.c (C.v (Value.int IntKind.u8 0)), M.c (C.v (Value.int IntKind.u8 0)), M.c (C.v (Value.int IntKind.u8 0)), M.c (C.v (Value.int IntKind.u8 0)), M.c (C.v (Value.int IntKind.u8 0)), M.c (C.v (Value.int IntKind.u8 0)), M.c (C.v (Value.int IntKind.u8 0)), M.c (C.v (Value.int IntKind.u8 0)), M.c (C.v (Value.int IntKind.u8 0)), M.c (C.v (Value.int IntKind.u8 0)), M.c (C.v (Value.int IntKind.u8 0)), M.c (C.v (Value.int IntKind.u8 0)), M.c (C.v (Value.int IntKind.u8 0)), M.c (C.v (Value.int IntKind.u8 0)), M.c (C.v (Value.int IntKind.u8 0)), M.c (C.v (Value.int IntKind.u8 0)), M.c (C.v (Value.int IntKind.u8 0)), M.c (C.v (Value.int IntKind.u8 0)), M.c (C.v (Value.int IntKind.u8 0)), M.c (C.v (Value.int IntKind.u8 0)), M.c (C.v (Value.int IntKind.u8 0)), M.c (C.v (Value.int IntKind.u8 0)), M.c (C.v (Value.int IntKind.u8 0)), M.c (C.v (Value.int IntKind.u8 0)), M.c (C.v (Value.int IntKind.u8 0)), M.c (C.v (Value.int IntKind.u8 0)), M.c (C.v (Value.int IntKind.u8 0)), M.c (C.v (Value.int IntKind.u8 0)), M.c (C.v (Value.int IntKind.u8 0)), M.c (C.v (Value.int IntKind.u8 0)), M.c (C.v (Value.int IntKind.i64 0)), M.c (C.v (Value.int IntKind.i64 0)), M.c (C.v (Value.int IntKind.i64 0)), M.c (C.v (Value.int IntKind.i64 0)), M.c (C.v (Value.int IntKind.i64 0)), M.c (C.v (Value.int IntKind.i64 0))] := by kernel_rfl
@[simp] theorem zero30 : zeroT Tryz.prog 30 = some [M.c (C.v (Value.int IntKind.i64 0))] := by kernel_rfl
@[simp] theorem zero32 : zeroT Tryz.prog 32 = some [M.c (C.v Value.nilFunc)] := by kernel_rfl
@[simp] theorem zero33 : zeroT Tryz.prog 33 = some [M.c (C.v Value.nilFunc)] := by kernel_rfl
@[simp] theorem zero34 : zeroT Tryz.prog 34 = some [M.c (C.v Value.nilFunc)] := by kernel_rfl
@[simp] theorem zero36 : zeroT Tryz.prog 36 = some [M.c (C.v Value.nilFunc)] := by kernel_rfl
@[simp] theorem zero37 : zeroT Tryz.prog 37 = some [M.c (C.v Value.nilFunc)] := by kernel_rfl
@[simp] theorem zero38 : zeroT Tryz.prog 38 = some [M.c (C.v Value.nilFunc)] := by kernel_rfl
@[simp] theorem zero39 : zeroT Tryz.prog 39 = some [M.c (C.v (Value.slice none 0 0))] := by kernel_rfl
@[simp] theorem zero40 : zeroT Tryz.prog 40 = some [M.c (C.v (Value.int IntKind.u32 0)), M.c (C.v (Value.int IntKind.u8 0)), M.c (C.v (Value.int IntKind.u8 0)), M.c (C.v (Value.int IntKind.u8 0)), M.c (C.v (Value.int IntKind.u8 0)), M.c (C.v (Value.int IntKind.u8 0)), M.c (C.v (Value.int IntKind.u8 0)), M.c (C.v (Value.int IntKind.u8 0)), M.c (C.v (Value.int IntKind.u8 0)), M.c (C.v (Value.int IntKind.u8 0)), M.c (C.v (Value.int IntKind.u8 0)), M.c (C.v (Value.int IntKind.u8 0)), M.c (C.v (Value.int IntKind.u8 0)), M.c (C.v (Value.int IntKind.u8 0)), M.c (C.v (Value.int IntKind.u8 0)), M.c (C.v (Value.int IntKind.u8 0)), M.c (C.v (Value.int IntKind.u8 0)), M.c (C.v (Value.int IntKind.u8 0)), M.c (C.v (Value.int IntKind.u8 0)), M.c (C.v (Value.int IntKind.u8 0)), M.c (C.v (Value.int IntKind.u8 0)), M.c (C.v (Value.int IntKind.u8 0)), M.c (C.v (Value.int IntKind.u8 0)), M.c (C.v (Value.int IntKind.u8 0)), M.c (C.v (Value.int IntKind.u8 0)), M.c (C.v (Value.int IntKind.u8 0)), M.c (C.v (Value.int IntKind.u8 0)), M.c (C.v (Value.int IntKind.u8 0)), M.c (C.v (Value.int IntKind.u8 0)), M.c (C.v (Value.int IntKind.u8 0)), M.c (C.v (Value.int IntKind.u8 0)), M.c (C.v (Value.int IntKind.u8 0)), M.c (C.v (Value.int IntKind.u8 0)), M.c (C.v (Value.int IntKind.u8 0)), M.c (C.v (Value.int IntKind.u8 0)), M.c (C.v (Value.int IntKind.u8 0)), M.c (C.v (Value.int IntKind.u8 0)), M.c (C.v (Value.int IntKind.u8 0)), M.c (C.v (Value.int IntKind.u8 0)), M.c (C.v (Value.int IntKind.u8 0)), M.c (C.v (Value.int IntKind.u8 0)), M.c (C.v (Value.int IntKind.u8 0)), M.c (C.v (Value.int IntKind.u8 0)), M.c (C.v (Value.int IntKind.u8 0)), M.c (C.v (Value.int IntKind.u8 0)), M.c (C.v (Value.int IntKind.u8 0)), M.c (C.v (Value.int IntKind.u8 0)), M.c (C.v (Value.int IntKind.u8 0)), M.c (C.v (Value.int IntKind.u8 0)), M.c (C.v (Value.int IntKind.u8 0)), M.c (C.v (Value.int IntKind.u8 0)), M.c (C.v (Value.int IntKind.u8 0)), M.c (C.v (Value.int IntKind.u8 0)), M.c (C.v (Value.int IntKind.u8 0)), M.c (C.v (Value.int IntKind.u8 0)), M.c (C.v (Value.int IntKind.u8 0)), M.c (C.v (Value.int IntKind.u8 0)), M.c (C.v (Value.int IntKind.u8 0)), M.c (C.v (Value.int IntKind.u8 0)), M.c (C.v (Value.int IntKind.u8 0)), M.c (C.v (Value.int IntKind.u8 0)), M.c (C.v (Value.int IntKind.u8 0)), M.c (C.v (Value.int IntKind.u8 0)), M.c (C.v (Value.int IntKind.u8 0)), M.c (C.v (Value.int IntKind.u8 0)), M.c (C.v (Value.int IntKind.u64 0)), M.c (C.v (Value.slice none 0 0))] := by kernel_rfl
@[simp] theorem zero41 : zeroT Tryz.prog 41 = some [M.c (C.v (Value.int IntKind.u32 0)), M.c (C.v (Value.int IntKind.u8 0)), M.c (C.v (Value.int IntKind.u8 0)), M.c (C.v (Value.int IntKind.u8 0)), M.c (C.v (Value.int IntKind.u8 0)), M.c (C.v (Value.int IntKind.u8 0)), M.c (C.v (Value.int IntKind.u8 0)), M.c (C.v (Value.int IntKind.u8 0)), M.c (C.v (Value.int IntKind.u8 0)), M.c (C.v (Value.int IntKind.u8 0)), M.c (C.v (Value.int IntKind.u8 0)), M.c (C.v (Value.int IntKind.u8 0)), M.c (C.v (Value.int IntKind.u8 0)), M.c (C.v (Value.int IntKind.u8 0)), M.c (C.v (Value.int IntKind.u8 0)), M.c (C.v (Value.int IntKind.u8 0)), M.c (C.v (Value.int IntKind.u8 0)), M.c (C.v (Value.int IntKind.u8 0)), M.c (C.v (Value.int IntKind.u8 0)), M.c (C.v (Value.int IntKind.u8 0)), M.c (C.v (Value.int IntKind.u8 0)), M.c (C.v (Value.int IntKind.u8 0)), M.c (C.v (Value.int IntKind.u8 0)), M.c (C.v (Value.int IntKind.u8 0)), M.c (C.v (Value.int IntKind.u8 0)), M.c (C.v (Value.int IntKind.u8 0)), M.c (C.v (Value.int IntKind.u8 0)), M.c (C.v (Value.int IntKind.u8 0)), M.c (C.v (Value.int IntKind.u8 0)), M.c (C.v (Value.int IntKind.u8 0)), M.c (C.v (Value.int IntKind.u8 0)), M.c (C.v (Value.int IntKind.u8 0)), M.c (C.v (Value.int IntKind.u8 0)), M.c (C.v (Value.int IntKind.u8 0)), M.c (C.v (Value.int IntKind.u8 0)), M.c (C.v (Value.int IntKind.u8 0)), M.c (C.v (Value.int IntKind.u8 0)), M.c (C.v (Value.int IntKind.u8 0)), M.c (C.v (Value.int IntKind.u8 0)), M.c (C.v (Value.int IntKind.u8 0)), M.c (C.v (Value.int IntKind.u8 0)), M.c (C.v (Value.int IntKind.u8 0)), M.c (C.v (Value.int IntKind.u8 0)), M.c (C.v (Value.int IntKind.u8 0)), M.c (C.v (Value.int IntKind.u8 0)), M.c (C.v (Value.int IntKind.u8 0)), M.c (C.v (Value.int IntKind.u8 0)), M.c (C.v (Value.int IntKind.u8 0)), M.c (C.v (Value.int IntKind.u8 0)), M.c (C.v (Value.int IntKind.u8 0)), M.c (C.v (Value.int IntKind.u8 0)), M.c (C.v (Value.int IntKind.u8 0)), M.c (C.v (Value.int IntKind.u8 0)), M.c (C.v (Value.int IntKind.u8 0)), M.c (C.v (Value.int IntKind.u8 0)), M.c (C.v (Value.int IntKind.u8 0)), M.c (C.v (Value.int IntKind.u8 0)), M.c (C.v (Value.int IntKind.u8 0)), M.c (C.v (Value.int IntKind.u8 0)), M.c (C.v (Value.int IntKind.u8 0)), M.c (C.v (Value.int IntKind.u8 0)), M.c (C.v (Value.int IntKind.u8 0)), M.c (C.v (Value.int IntKind.u8 0)), M.c (C.v (Value.int IntKind.u8 0)), M.c (C.v (Value.int IntKind.u8 0)), M.c (C.v (Value.int IntKind.u64 0)), M.c (C.v (Value.slice none 0 0))] := by kernel_rfl
@[simp] theorem zero42 : zeroT Tryz.prog 42 = some [M.c (C.v Value.nilFunc)] := by kernel_rfl
@[simp] theorem zero43 : zeroT Tryz.prog 43 = some [M.c (C.v (Value.slice none 0 0))] := by kernel_rfl
@[simp] theorem zero44 : zeroT Tryz.prog 44 = some [M.c (C.v (Value.pointer none))] := by kernel_rfl
@[simp] theorem zero46 : zeroT Tryz.prog 46 = some [M.c (C.v Value.nilFunc)] := by kernel_rfl
@[simp] theorem zero48 : zeroT Tryz.prog 48 = some [M.c (C.v Value.nilFunc)] := by kernel_rfl
@[simp] theorem zero49 : zeroT Tryz.prog 49 = some [M.c (C.v Value.nilFunc)] := by kernel_rfl
@[simp] theorem zero50 : zeroT Tryz.prog 50 = some [M.c (C.v Value.nilFunc)] := by kernel_rfl
@[simp] theorem zero51 : zeroT Tryz.prog 51 = some [M.c (C.v Value.nilFunc)] := by kernel_rfl
@[simp] theorem zero52 : zeroT Tryz.prog 52 = some [M.c (C.v (Value.slice none 0 0))] := by kernel_rfl
@[simp] theorem zero53 : zeroT Tryz.prog 53 = some [M.c (C.v Value.nilFunc)] := by kernel_rfl
@[simp] theorem zero54 : zeroT Tryz.prog 54 = some [M.c (C.v Value.nilFunc)] := by kernel_rfl
@[simp] theorem zero55 : zeroT Tryz.prog 55 = some [M.c (C.v Value.nilFunc)] := by kernel_rfl
@[simp] theorem zero56 : zeroT Tryz.prog 56 = some [M.c (C.v Value.nilFunc)] := by kernel_rfl
@[simp] theorem zero57 : zeroT Tryz.prog 57 = some [M.c (C.v Value.nilFunc)] := by kernel_rfl
@[simp] theorem zero58 : zeroT Tryz.prog 58 = some [M.c (C.v (Value.pointer none))] := by kernel_rfl
@[simp] theorem zero59 : zeroT Tryz.prog 59 = some [M.c (C.v Value.nilFunc)] := by kernel_rfl
@[simp] theorem zero60 : zeroT Tryz.prog 60 = some [M.c (C.v Value.nilFunc)] := by kernel_rfl
@[simp] theorem zero61 : zeroT Tryz.prog 61 = some [M.c (C.v (Value.slice none 0 0))] := by kernel_rfl
@[simp] theorem zero62 : zeroT Tryz.prog 62 = some [M.c (C.v Value.nilFunc)] := by kernel_rfl
@[simp] theorem zero63 : zeroT Tryz.prog 63 = some [M.c (C.v (Value.pointer none))] := by kernel_rfl
@[simp] theorem zero64 : zeroT Tryz.prog 64 = some [M.c (C.v (Value.pointer none))] := by kernel_rfl
@[simp] theorem zero65 : zeroT Tryz.prog 65 = some [M.c (C.v Value.nilFunc)] := by kernel_rfl
@[simp] theorem zero66 : zeroT Tryz.prog 66 = some [M.c (C.v Value.nilFunc)] := by kernel_rfl
@[simp] theorem zero67 : zeroT Tryz.prog 67 = some [M.c (C.v (Value.string { data := { toList := [] } })), M.c (C.v (Value.int IntKind.i64 0))] := by kernel_rfl
@[simp] theorem zero68 : zeroT Tryz.prog 68 = some [M.c (C.v (Value.string { data := { toList := [] } })), M.c (C.v (Value.int IntKind.i64 0))] := by kernel_rfl
@[simp] theorem zero70 : zeroT Tryz.prog 70 = some [M.c (C.v Value.nilFunc)] := by kernel_rfl
@[simp] theorem zero72 : zeroT Tryz.prog 72 = some [M.c (C.v Value.nilFunc)] := by kernel_rfl
@[simp] theorem zero73 : zeroT Tryz.prog 73 = some [M.c (C.v (Value.slice none 0 0))] := by kernel_rfl
@[simp] theorem zero75 : zeroT Tryz.prog 75 = some [M.c (C.v Value.nilFunc)] := by kernel_rfl
@[simp] theorem zero76 : zeroT Tryz.prog 76 = some [M.c (C.v Value.nilFunc)] := by kernel_rfl
@[simp] theorem zero77 : zeroT Tryz.prog 77 = some [M.c (C.v (Value.pointer none))] := by kernel_rfl
@[simp] theorem zero78 : zeroT Tryz.prog 78 = some [M.c (C.v Value.nilFunc)] := by kernel_rfl
@[simp] theorem zero79 : zeroT Tryz.prog 79 = some [M.c (C.v Value.nilFunc)] := by kernel_rfl
@[simp] theorem zero80 : zeroT Tryz.prog 80 = some [M.c (C.v Value.nilFunc)] := by kernel_rfl
@[simp] theorem zero81 : zeroT Tryz.prog 81 = some [M.c (C.v Value.nilFunc)] := by kernel_rfl
@[simp] theorem zero82 : zeroT Tryz.prog 82 = some [M.c (C.v Value.nilFunc)] := by kernel_rfl
@[simp] theorem zero83 : zeroT Tryz.prog 83 = some [M.c (C.v Value.nilFunc)] := by kernel_rfl
@[simp] theorem zero84 : zeroT Tryz.prog 84 = some [M.c (C.v Value.nilFunc)] := by kernel_rfl
@[simp] theorem zero85 : zeroT Tryz.prog 85 = some [M.c (C.v Value.nilFunc)] := by kernel_rfl
@[simp] theorem zero86 : zeroT Tryz.prog 86 = some [M.c (C.v Value.nilFunc)] := by kernel_rfl
@[simp] theorem zero87 : zeroT Tryz.prog 87 = some [M.c (C.v Value.nilFunc)] := by kernel_rfl
@[simp] theorem zero88 : zeroT Tryz.prog 88 = some [M.c (C.v Value.nilFunc)] := by kernel_rfl
@[simp] theorem zero89 : zeroT Tryz.prog 89 = some [M.c (C.v Value.nilFunc)] := by kernel_rfl
@[simp] theorem zero90 : zeroT Tryz.prog 90 = some [M.c (C.v Value.nilFunc)] := by kernel_rfl
@[simp] theorem zero91 : zeroT Tryz.prog 91 = some [M.c (C.v (Value.int IntKind.i64 0)), M.c (C.v (Value.int IntKind.i64 0))] := by kernel_rfl
@[simp] theorem zero92 : zeroT Tryz.prog 92 = some [M.c (C.v (Value.int IntKind.i64 0)), M.c (C.v (Value.int IntKind.i64 0))] := by kernel_rfl
@[simp] theorem zero93 : zeroT Tryz.prog 93 = some [M.c (C.v Value.nilFunc)] := by kernel_rfl
@[simp] theorem zero94 : zeroT Tryz.prog 94 = some [M.c (C.v Value.nilFunc)] := by kernel_rfl
@[simp] theorem zero95 : zeroT Tryz.prog 95 = some [M.c (C.v (Value.map none))] := by kernel_rfl
@[simp] theorem zero96 : zeroT Tryz.prog 96 = some [M.c (C.v (Value.int IntKind.u32 0)), M.c (C.v (Value.int IntKind.u8 0)), M.c (C.v (Value.int IntKind.u8 0)), M.c (C.v (Value.int IntKind.u8 0)), M.c (C.v (Value.int IntKind.u8 0)), M.c (C.v (Value.int IntKind.u8 0)), M.c (C.v (Value.int IntKind.u8 0)), M.c (C.v (Value.int IntKind.u8 0)), M.c (C.v (Value.int IntKind.u8 0)), M.c (C.v (Value.int IntKind.u8 0)), M.c (C.v (Value.int IntKind.u8 0)), M.c (C.v (Value.int IntKind.u8 0)), M.c (C.v (Value.int IntKind.u8 0)), M.c (C.v (Value.int IntKind.u8 0)), M.c (C.v (Value.int IntKind.u8 0)), M.c (C.v (Value.int IntKind.u8 0)), M.c (C.v (Value.int IntKind.u8 0)), M.c (C.v (Value.int IntKind.u8 0)), M.c (C.v (Value.int IntKind.u8 0)), M.c (C.v (Value.int IntKind.u8 0)), M.c (C.v (Value.int IntKind.u8 0)), M.c (C.v (Value.int IntKind.u8 0)), M.c (C.v (Value.int IntKind.u8 0)), M.c (C.v (Value.int IntKind.u8 0)), M.c (C.v (Value.int IntKind.u8 0)), M.c (C.v (Value.int IntKind.u8 0)), M.c (C.v (Value.int IntKind.u8 0)), M.c (C.v (Value.int IntKind.u8 0)), M.c (C.v (Value.int IntKind.u8 0)), M.c (C.v (Value.int IntKind.u8 0)), M.c (C.v (Value.int IntKind.u8 0)), M.c (C.v (Value.int IntKind.u8 0)), M.c (C.v (Value.int IntKind.u8 0)), M.c (C.v (Value.int IntKind.u8 0)), M.c (C.v (Value.int IntKind.u8 0)), M.c (C.v (Value.int IntKind.u8 0)), M.c (C.v (Value.int IntKind.u8 0)), M.c (C.v (Value.int IntKind.u8 0)), M.c (C.v (Value.int IntKind.u8 0)), M.c (C.v (Value.int IntKind.u8 0)), M.c (C.v (Value.int IntKind.u8 0)), M.c (C.v (Value.int IntKind.u8 0)), M.c (C.v (Value.int IntKind.u8 0)), M.c (C.v (Value.int IntKind.u8 0)), M.c (C.v (Value.int IntKind.u8 0)), M.c (C.v (Value.int IntKind.u8 0)), M.c (C.v (Value.int IntKind.u8 0)), M.c (C.v (Value.int IntKind.u8 0)), M.c (C.v (Value.int IntKind.u8 0)), M.c (C.v (Value.int IntKind.u8 0)), M.c (C.v (Value.int IntKind.u8 0)), M.c (C.v (Value.int IntKind.u8 0)), M.c (C.v (Value.int IntKind.u8 0)), M.c (C.v (Value.int IntKind.u8 0)), M.c (C.v (Value.int IntKind.u8 0)), M.c (C.v (Value.int IntKind.u8 0)), M.c (C.v (Value.int IntKind.u8 0)), M.c (C.v (Value.int IntKind.u8 0)), M.c (C.v (Value.int IntKind.u8 0)), M.c (C.v (Value.int IntKind.u8 0)), M.c (C.v (Value.int IntKind.u8 0)), M.c (C.v (Value.int IntKind.u8 0)), M.c (C.v (Value.int IntKind.u8 0)), M.c (C.v (Value.int IntKind.u8 0)), M.c (C.v (Value.int IntKind.u8 0)), M.c (C.v (Value.int IntKind.u64 0)), M.c (C.v (Value.int IntKind.u8 0)), M.c (C.v (Value.int IntKind.u8 0)), M.c (C.v (Value.int IntKind.u8 0)), M.c (C.v (Value.int IntKind.u8 0)), M.c (C.v (Value.int IntKind.u8 0)), M.c (C.v (Value.int IntKind.u8 0)), M.c (C.v (Value.int IntKind.u8 0)), M.c (C.v (Value.int IntKind.u8 0)), M.c (C.v (Value.int IntKind.u8 0)), M.c (C.v (Value.int IntKind.u8 0)), M.c (C.v (Value.int IntKind.u8 0)), M.c (C.v (Value.int IntKind.u8 0)), M.c (C.v (Value.int IntKind.u8 0)), M.c (C.v (Value.int IntKind.u8 0)), M.c (C.v (Value.int IntKind.u8 0)), M.c (C.v (Value.int IntKind.u8 0)), M.c (C.v (Value.int IntKind.u8 0)), M.c (C.v (Value.int IntKind.u8 0)), M.c (C.v (Value.int IntKind.u8 0)), M.c (C.v (Value.int IntKind.u8 0)), M.c (C.v (Value.int IntKind.u8 0)), M.c (C.v (Value.int IntKind.u8 0)), M.c (C.v (Value.int IntKind.u8 0)), M.c (C.v (Value.int IntKind.u8 0)), M.c (C.v (Value.int IntKind.u8 0)), M.c (C.v (Value.int IntKind.u8 0)), M.c (C.v (Value.int IntKind.u8 0)), M.c (C.v (Value.int IntKind.u8 0)), M.c (C.v (Value.int IntKind.u8 0)), M.c (C.v (Value.int IntKind.u8 0)), M.c (C.v (Value.int IntKind.u8 0)), M.c (C.v (Value.int IntKind.u8 0)), M.c (C.v (Value.int IntKind.i64 0)), M.c (C.v (Value.int IntKind.i64 0)), M.c (C.v (Value.int IntKind.i64 0)), M.c (C.v (Value.int IntKind.i64 0)), M.c (C.v (Value.int IntKind.i64 0)), M.c (C.v (Value.int IntKind.i64 0)), M.c (C.v (Value.int IntKind.u8 0)), M.c (C.v (Value.int IntKind.u8 0)), M.c (C.v (Value.int IntKind.u8 0)), M.c (C.v (Value.int IntKind.u8 0)), M.c (C.v (Value.int IntKind.u8 0)), M.c (C.v (Value.int IntKind.u8 0)), M.c (C.v (Value.int IntKind.u8 0)), M.c (C.v (Value.int IntKind.u8 0)), M.c (C.v (Value.int IntKind.u8 0)), M.c (C.v (Value.int IntKind.u8 0)), M.c (C.v (Value.int IntKind.u8 0)), M.c (C.v (Value.int IntKind.u8 0)), M.c (C.v (Value.int IntKind.u8 0)), M.c (C.v (Value.int IntKind.u8 0)), M.c (C.v (Value.int IntKind.u8 0)), M.c (C.v (Value.int IntKind.u8 0)), M.c (C.v (Value.int IntKind.u8 0)), M.c (C.v (Value.int IntKind.u8 0)), M.c (C.v (Value.int IntKind.u8 0)), M.c (C.v (Value.int IntKind.u8 0)), M.c (C.v (Value.int IntKind.u8 0)), M.c (C.v (Value.int IntKind.u8 0)), M.c (C.v (Value.int IntKind.u8 0)), M.c (C.v (Value.int IntKind.u8 0)), M.c (C.v (Value.int IntKind.u8 0)), M.c (C.v (Value.int IntKind.u8 0)), M.c (C.v (Value.int IntKind.u8 0)), M.c (C.v (Value.int IntKind.u8 0)), M.c (C.v (Value.int IntKind.u8 0)), M.c (C.v (Value.int IntKind.u8 0)), M.c (C.v (Value.int IntKind.u8 0)), M.c (C.v (Value.int IntKind.u8 0)), M.c (C.v (Value.map none))] := by kernel_rfl
@[simp] theorem zero97 : zeroT Tryz.prog 97 = some [M.c (C.v (Value.int IntKind.u32 0)), M.c (C.v (Value.int IntKind.u8 0)), M.c (C.v (Value.int IntKind.u8 0)), M.c (C.v (Value.int IntKind.u8 0)), M.c (C.v (Value.int IntKind.u8 0)), M.c (C.v (Value.int IntKind.u8 0)), M.c (C.v (Value.int IntKind.u8 0)), M.c (C.v (Value.int IntKind.u8 0)), M.c (C.v (Value.int IntKind.u8 0)), M.c (C.v (Value.int IntKind.u8 0)), M.c (C.v (Value.int IntKind.u8 0)), M.c (C.v (Value.int IntKind.u8 0)), M.c (C.v (Value.int IntKind.u8 0)), M.c (C.v (Value.int IntKind.u8 0)), M.c (C.v (Value.int IntKind.u8 0)), M.c (C.v (Value.int IntKind.u8 0)), M.c (C.v (Value.int IntKind.u8 0)), M.c (C.v (Value.int IntKind.u8 0)), M.c (C.v (Value.int IntKind.u8 0)), M.c (C.v (Value.int IntKind.u8 0)), M.c (C.v (Value.int IntKind.u8 0)), M.c (C.v (Value.int IntKind.u8 0)), M.c (C.v (Value.int IntKind.u8 0)), M.c (C.v (Value.int IntKind.u8 0)), M.c (C.v (Value.int IntKind.u8 0)), M.c (C.v (Value.int IntKind.u8 0)), M.c (C.v (Value.int IntKind.u8 0)), M.c (C.v (Value.int IntKind.u8 0)), M.c (C.v (Value.int IntKind.u8 0)), M.c (C.v (Value.int IntKind.u8 0)), M.c (C.v (Value.int IntKind.u8 0)), M.c (C.v (Value.int IntKind.u8 0)), M.c (C.v (Value.int IntKind.u8 0)), M.c (C.v (Value.int IntKind.u8 0)), M.c (C.v (Value.int IntKind.u8 0)), M.c (C.v (Value.int IntKind.u8 0)), M.c (C.v (Value.int IntKind.u8 0)), M.c (C.v (Value.int IntKind.u8 0)), M.c (C.v (Value.int IntKind.u8 0)), M.c (C.v (Value.int IntKind.u8 0)), M.c (C.v (Value.int IntKind.u8 0)), M.c (C.v (Value.int IntKind.u8 0)), M.c (C.v (Value.int IntKind.u8 0)), M.c (C.v (Value.int IntKind.u8 0)), M.c (C.v (Value.int IntKind.u8 0)), M.c (C.v (Value.int IntKind.u8 0)), M.c (C.v (Value.int IntKind.u8 0)), M.c (C.v (Value.int IntKind.u8 0)), M.c (C.v (Value.int IntKind.u8 0)), M.c (C.v (Value.int IntKind.u8 0)), M.c (C.v (Value.int IntKind.u8 0)), M.c (C.v (Value.int IntKind.u8 0)), M.c (C.v (Value.int IntKind.u8 0)), M.c (C.v (Value.int IntKind.u8 0)), M.c (C.v (Value.int IntKind.u8 0)), M.c (C.v (Value.int IntKind.u8 0)), M.c (C.v (Value.int IntKind.u8 0)), M.c (C.v (Value.int IntKind.u8 0)), M.c (C.v (Value.int IntKind.u8 0)), M.c (C.v (Value.int IntKind.u8 0)), M.c (C.v (Value.int IntKind.u8 0)), M.c (C.v (Value.int IntKind.u8 0)), M.c (C.v (Value.int IntKind.u8 0)), M.c (C.v (Value.int IntKind.u8 0)), M.c (C.v (Value.int IntKind.u8 0)), M.c (C.v (Value.int IntKind.u64 0)), M.c (C.v (Value.int IntKind.u8 0)), M.c (C.v (Value.int IntKind.u8 0)), M.c (C.v (Value.int IntKind.u8 0)), M.c (C.v (Value.int IntKind.u8 0)), M.c (C.v (Value.int IntKind.u8 0)), M.c (C.v (Value.int IntKind.u8 0)), M.c (C.v (Value.int IntKind.u8 0)), M.c (C.v (Value.int IntKind.u8 0)), M.c (C.v (Value.int IntKind.u8 0)), M.c (C.v (Value.int IntKind.u8 0)), M.c (C.v (Value.int IntKind.u8 0)), M.c (C.v (Value.int IntKind.u8 0)), M.c (C.v (Value.int IntKind.u8 0)), M.c (C.v (Value.int IntKind.u8 0)), M.c (C.v (Value.int IntKind.u8 0)), M.c (C.v (Value.int IntKind.u8 0)), M.c (C.v (Value.int IntKind.u8 0)), M.c (C.v (Value.int IntKind.u8 0)), M.c (C.v (Value.int IntKind.u8 0)), M.c (C.v (Value.int IntKind.u8 0)), M.c (C.v (Value.int IntKind.u8 0)), M.c (C.v (Value.int IntKind.u8 0)), M.c (C.v (Value.int IntKind.u8 0)), M.c (C.v (Value.int IntKind.u8 0)), M.c (C.v (Value.int IntKind.u8 0)), M.c (C.v (Value.int IntKind.u8 0)), M.c (C.v (Value.int IntKind.u8 0)), M.c (C.v (Value.int IntKind.u8 0)), M.c (C.v (Value.int IntKind.u8 0)), M.c (C.v (Value.int IntKind.u8 0)), M.c (C.v (Value.int IntKind.u8 0)), M.c (C.v (Value.int IntKind.u8 0)), M.c (C.v (Value.int IntKind.i64 0)), M.c (C.v (Value.int IntKind.i64 0)), M.c (C.v (Value.int IntKind.i64 0)), M.c (C.v (Value.int IntKind.i64 0)), M.c (C.v (Value.int IntKind.i64 0)), M.c (C.v (Value.int IntKind.i64 0)), M.c (C.v (Value.int IntKind.u8 0)), M.c (C.v (Value.int IntKind.u8 0)), M.c (C.v (Value.int IntKind.u8 0)), M.c (C.v (Value.int IntKind.u8 0)), M.c (C.v (Value.int IntKind.u8 0)), M.c (C.v (Value.int IntKind.u8 0)), M.c (C.v (Value.int IntKind.u8 0)), M.c (C.v (Value.int IntKind.u8 0)), M.c (C.v (Value.int IntKind.u8 0)), M.c (C.v (Value.int IntKind.u8 0)), M.c (C.v (Value.int IntKind.u8 0)), M.c (C.v (Value.int IntKind.u8 0)), M.c (C.v (Value.int IntKind.u8 0)), M.c (C.v (Value.int IntKind.u8 0)), M.c (C.v (Value.int IntKind.u8 0)), M.c (C.v (Value.int IntKind.u8 0)), M.c (C.v (Value.int IntKind.u8 0)), M.c (C.v (Value.int IntKind.u8 0)), M.c (C.v (Value.int IntKind.u8 0)), M.c (C.v (Value.int IntKind.u8 0)), M.c (C.v (Value.int IntKind.u8 0)), M.c (C.v (Value.int IntKind.u8 0)), M.c (C.v (Value.int IntKind.u8 0)), M.c (C.v (Value.int IntKind.u8 0)), M.c (C.v (Value.int IntKind.u8 0)), M.c (C.v (Value.int IntKind.u8 0)), M.c (C.v (Value.int IntKind.u8 0)), M.c (C.v (Value.int IntKind.u8 0)), M.c (C.v (Value.int IntKind.u8 0)), M.c (C.v (Value.int IntKind.u8 0)), M.c (C.v (Value.int IntKind.u8 0)), M.c (C.v (Value.int IntKind.u8 0)), M.c (C.v (Value.map none))] := by kernel_rfl
@[simp] theorem zero98 : zeroT Tryz.prog 98 = some [M.c (C.v (Value.int IntKind.u32 0)), M.c (C.v (Value.int IntKind.u8 0)), M.c (C.v (Value.int IntKind.u8 0)), M.c (C.v (Value.int IntKind.u8 0)), M.c (C.v (Value.int IntKind.u8 0)), M.c (C.v (Value.int IntKind.u8 0)), M.c (C.v (Value.int IntKind.u8 0)), M.c (C.v (Value.int IntKind.u8 0)), M.c (C.v (Value.int IntKind.u8 0)), M.c (C.v (Value.int IntKind.u8 0)), M.c (C.v (Value.int IntKind.u8 0)), M.c (C.v (Value.int IntKind.u8 0)), M.c (C.v (Value.int IntKind.u8 0)), M.c (C.v (Value.int IntKind.u8 0)), M.c (C.v (Value.int IntKind.u8 0)), M.c (C.v (Value.int IntKind.u8 0)), M.c (C.v (Value.int IntKind.u8 0)), M.c (C.v (Value.int IntKind.u8 0)), M.c (C.v (Value.int IntKind.u8 0)), M.c (C.v (Value.int IntKind.u8 0)), M.c (C.v (Value.int IntKind.u8 0)), M.c (C.v (Value.int IntKind.u8 0)), M.c (C.v (Value.int IntKind.u8 0)), M.c (C.v (Value.int IntKind.u8 0)), M.c (C.v (Value.int IntKind.u8 0)), M.c (C.v (Value.int IntKind.u8 0)), M.c (C.v (Value.int IntKind.u8 0)), M.c (C.v (Value.int IntKind.u8 0)), M.c (C.v (Value.int IntKind.u8 0)), M.c (C.v (Value.int IntKind.u8 0)), M.c (C.v (Value.int IntKind.u8 0)), M.c (C.v (Value.int IntKind.u8 0)), M.c (C.v (Value.int IntKind.u8 0)), M.c (C.v (Value.int IntKind.u8 0)), M.c (C.v (Value.int IntKind.u8 0)), M.c (C.v (Value.int IntKind.u8 0)), M.c (C.v (Value.int IntKind.u8 0)), M.c (C.v (Value.int IntKind.u8 0)), M.c (C.v (Value.int IntKind.u8 0)), M.c (C.v (Value.int IntKind.u8 0)), M.c (C.v (Value.int IntKind.u8 0)), M.c (C.v (Value.int IntKind.u8 0)), M.c (C.v (Value.int IntKind.u8 0)), M.c (C.v (Value.int IntKind.u8 0)), M.c (C.v (Value.int IntKind.u8 0)), M.c (C.v (Value.int IntKind.u8 0)), M.c (C.v (Value.int IntKind.u8 0)), M.c (C.v (Value.int IntKind.u8 0)), M.c (C.v (Value.int IntKind.u8 0)), M.c (C.v (Value.int IntKind.u8 0)), M.c (C.v (Value.int IntKind.u8 0)), M.c (C.v (Value.int IntKind.u8 0)), M.c (C.v (Value.int IntKind.u8 0)), M.c (C.v (Value.int IntKind.u8 0)), M.c (C.v (Value.int IntKind.u8 0)), M.c (C.v (Value.int IntKind.u8 0)), M.c (C.v (Value.int IntKind.u8 0)), M.c (C.v (Value.int IntKind.u8 0)), M.c (C.v (Value.int IntKind.u8 0)), M.c (C.v (Value.int IntKind.u8 0)), M.c (C.v (Value.int IntKind.u8 0)), M.c (C.v (Value.int IntKind.u8 0)), M.c (C.v (Value.int IntKind.u8 0)), M.c (C.v (Value.int IntKind.u8 0)), M.c (C.v (Value.int IntKind.u8 0)), M.c (C.v (Value.int IntKind.u64 0)), M.c (C.v (Value.slice none 0 0)), M.c (C.v (Value.int IntKind.u8 0)), M.c (C.v (Value.int IntKind.u8 0)), M.c (C.v (Value.int IntKind.u8 0)), M.c (C.v (Value.int IntKind.u8 0)), M.c (C.v (Value.int IntKind.u8 0)), M.c (C.v (Value.int IntKind.u8 0)), M.c (C.v (Value.int IntKind.u8 0)), M.c (C.v (Value.int IntKind.u8 0)), M.c (C.v (Value.int IntKind.u8 0)), M.c (C.v (Value.int IntKind.u8 0)), M.c (C.v (Value.int IntKind.u8 0)), M.c (C.v (Value.int IntKind.u8 0)), M.c (C.v (Value.int IntKind.u8 0)), M.c (C.v (Value.int IntKind.u8 0)), M.c (C.v (Value.int IntKind.u8 0)), M.c (C.v (Value.int IntKind.u8 0)), M.c (C.v (Value.int IntKind.u8 0)), M.c (C.v (Value.int IntKind.u8 0)), M.c (C.v (Value.int IntKind.u8 0)), M.c (C.v (Value.int IntKind.u8 0)), M.c (C.v (Value.int IntKind.u8 0)), M.c (C.v (Value.int IntKind.u8 0)), M.c (C.v (Value.int IntKind.u8 0)), M.c (C.v (Value.int IntKind.u8 0)), M.c (C.v (Value.int IntKind.u8 0)), M.c (C.v (Value.int IntKind.u8 0)), M.c (C.v (Value.int IntKind.u8 0)), M.c (C.v (Value.int IntKind.u8 0)), M.c (C.v (Value.int IntKind.u8 0)), M.c (C.v (Value.int IntKind.u8 0)), M.c (C.v (Value.int IntKind.u8 0)), M.c (C.v (Value.int IntKind.u8 0)), M.c (C.v (Value.slice none 0 0)), M.c (C.v (Value.int IntKind.i64 0))] := by kernel_rfl
@[simp] theorem zero99 : zeroT Tryz.prog 99 = some [M.c (C.v (Value.int IntKind.u32 0)), M.c (C.v (Value.int IntKind.u8 0)), M.c (C.v (Value.int IntKind.u8 0)), M.c (C.v (Value.int IntKind.u8 0)), M.c (C.v (Value.int IntKind.u8 0)), M.c (C.v (Value.int IntKind.u8 0)), M.c (C.v (Value.int IntKind.u8 0)), M.c (C.v (Value.int IntKind.u8 0)), M.c (C.v (Value.int IntKind.u8 0)), M.c (C.v (Value.int IntKind.u8 0)), M.c (C.v (Value.int IntKind.u8 0)), M.c (C.v (Value.int IntKind.u8 0)), M.c (C.v (Value.int IntKind.u8 0)), M.c (C.v (Value.int IntKind.u8 0)), M.c (C.v (Value.int IntKind.u8 0)), M.c (C.v (Value.int IntKind.u8 0)), M.c (C.v (Value.int IntKind.u8 0)), M.c (C.v (Value.int IntKind.u8 0)), M.c (C.v (Value.int IntKind.u8 0)), M.c (C.v (Value.int IntKind.u8 0)), M.c (C.v (Value.int IntKind.u8 0)), M.c (C.v (Value.int IntKind.u8 0)), M.c (C.v (Value.int IntKind.u8 0)), M.c (C.v (Value.int IntKind.u8 0)), M.c (C.v (Value.int IntKind.u8 0)), M.c (C.v (Value.int IntKind.u8 0)), M.c (C.v (Value.int IntKind.u8 0)), M.c (C.v (Value.int IntKind.u8 0)), M.c (C.v (Value.int IntKind.u8 0)), M.c (C.v (Value.int IntKind.u8 0)), M.c (C.v (Value.int IntKind.u8 0)), M.c (C.v (Value.int IntKind.u8 0)), M.c (C.v (Value.int IntKind.u8 0)), M.c (C.v (Value.int IntKind.u8 0)), M.c (C.v (Value.int IntKind.u8 0)), M.c (C.v (Value.int IntKind.u8 0)), M.c (C.v (Value.int IntKind.u8 0)), M.c (C.v (Value.int IntKind.u8 0)), M.c (C.v (Value.int IntKind.u8 0)), M.c (C.v (Value.int IntKind.u8 0)), M.c (C.v (Value.int IntKind.u8 0)), M.c (C.v (Value.int IntKind.u8 0)), M.c (C.v (Value.int IntKind.u8 0)), M.c (C.v (Value.int IntKind.u8 0)), M.c (C.v (Value.int IntKind.u8 0)), M.c (C.v (Value.int IntKind.u8 0)), M.c (C.v (Value.int IntKind.u8 0)), M.c (C.v (Value.int IntKind.u8 0)), M.c (C.v (Value.int IntKind.u8 0)), M.c (C.v (Value.int IntKind.u8 0)), M.c (C.v (Value.int IntKind.u8 0)), M.c (C.v (Value.int IntKind.u8 0)), M.c (C.v (Value.int IntKind.u8 0)), M.c (C.v (Value.int IntKind.u8 0)), M.c (C.v (Value.int IntKind.u8 0)), M.c (C.v (Value.int IntKind.u8 0)), M.c (C.v (Value.int IntKind.u8 0)), M.c (C.v (Value.int IntKind.u8 0)), M.c (C.v (Value.int IntKind.u8 0)), M.c (C.v (Value.int IntKind.u8 0)), M.c (C.v (Value.int IntKind.u8 0)), M.c (C.v (Value.int IntKind.u8 0)), M.c (C.v (Value.int IntKind.u8 0)), M.c (C.v (Value.int IntKind.u8 0)), M.c (C.v (Value.int IntKind.u8 0)), M.c (C.v (Value.int IntKind.u64 0)), M.c (C.v (Value.slice none 0 0)), M.c (C.v (Value.int IntKind.u8 0)), M.c (C.v (Value.int IntKind.u8 0)), M.c (C.v (Value.int IntKind.u8 0)), M.c (C.v (Value.int IntKind.u8 0)), M.c (C.v (Value.int IntKind.u8 0)), M.c (C.v (Value.int IntKind.u8 0)), M.c (C.v (Value.int IntKind.u8 0)), M.c (C.v (Value.int IntKind.u8 0)), M.c (C.v (Value.int IntKind.u8 0)), M.c (C.v (Value.int IntKind.u8 0)), M.c (C.v (Value.int IntKind.u8 0)), M.c (C.v (Value.int IntKind.u8 0)), M.c (C.v (Value.int IntKind.u8 0)), M.c (C.v (Value.int IntKind.u8 0)), M.c (C.v (Value.int IntKind.u8 0)), M.c (C.v (Value.int IntKind.u8 0)), M.c (C.v (Value.int IntKind.u8 0)), M.c (C.v (Value.int IntKind.u8 0)), M.c (C.v (Value.int IntKind.u8 0)), M.c (C.v (Value.int IntKind.u8 0)), M.c (C.v (Value.int IntKind.u8 0)), M.c (C.v (Value.int IntKind.u8 0)), M.c (C.v (Value.int IntKind.u8 0)), M.c (C.v (Value.int IntKind.u8 0)), M.c (C.v (Value.int IntKind.u8 0)), M.c (C.v (Value.int IntKind.u8 0)), M.c (C.v (Value.int IntKind.u8 0)), M.c (C.v (Value.int IntKind.u8 0)), M.c (C.v (Value.int IntKind.u8 0)), M.c (C.v (Value.int IntKind.u8 0)), M.c (C.v (Value.int IntKind.u8 0)), M.c (C.v (Value.int IntKind.u8 0)), M.c (C.v (Value.slice none 0 0)), M.c (C.v (Value.int IntKind.i64 0))] := by kernel_rfl
@[simp] theorem zero100 : zeroT Tryz.prog 100 = some [M.c (C.v Value.nilFunc)] := by kernel_rfl
@[simp] theorem zero101 : zeroT Tryz.prog 101 = some [M.c (C.v Value.nilFunc)] := by kernel_rfl
@[simp] theorem zero102 : zeroT Tryz.prog 102 = some [M.c (C.v Value.nilFunc)] := by kernel_rfl
@[simp] theorem zero103 : zeroT Tryz.prog 103 = some [M.c (C.v (Value.map none))] := by kernel_rfl
@[simp] theorem zero104 : zeroT Tryz.prog 104 = some [M.c (C.v Value.nilFunc)] := by kernel_rfl
@[simp] theorem zero105 : zeroT Tryz.prog 105 = some [M.c (C.v Value.nilFunc)] := by kernel_rfl
@[simp] theorem zero107 : zeroT Tryz.prog 107 = some [M.c (C.v Value.nilFunc)] := by kernel_rfl
@[simp] theorem zero108 : zeroT Tryz.prog 108 = some [M.c (C.v Value.nilFunc)] := by kernel_rfl
@[simp] theorem zero109 : zeroT Tryz.prog 109 = some [M.c (C.v Value.nilFunc)] := by kernel_rfl
@[simp] theorem zero110 : zeroT Tryz.prog 110 = some [M.c (C.v (Value.string { data := { toList := [] } })), M.c (C.v (Value.int IntKind.i64 0))] := by kernel_rfl
@[simp] theorem zero111 : zeroT Tryz.prog 111 = some [M.c (C.v (Value.string { data := { toList := [] } })), M.c (C.v (Value.int IntKind.i64 0))] := by kernel_rfl
@[simp] theorem zero112 : zeroT Tryz.prog 112 = some [M.c (C.v (Value.string { data := { toList := [] } })), M.c (C.v (Value.int IntKind.i64 0))] := by kernel_rfl
@[simp] theorem zero113 : zeroT Tryz.prog 113 = some [M.c (C.v (Value.string { data := { toList := [] } })), M.c (C.v (Value.int IntKind.i64 0))] := by kernel_rfl
@[simp] theorem zero114 : zeroT Tryz.prog 114 = some [M.c (C.v Value.nilFunc)] := by kernel_rfl
@[simp] theorem zero115 : zeroT Tryz.prog 115 = some [M.c (C.v Value.nilFunc)] := by kernel_rfl
@[simp] theorem zero116 : zeroT Tryz.prog 116 = some [M.c (C.v Value.nilFunc)] := by kernel_rfl
@[simp] theorem zero117 : zeroT Tryz.prog 117 = some [M.c (C.v (Value.slice none 0 0))] := by kernel_rfl
@[simp] theorem zero119 : zeroT Tryz.prog 119 = some [M.c (C.v Value.nilFunc)] := by kernel_rfl
@[simp] theorem zero120 : zeroT Tryz.prog 120 = some [M.c (C.v Value.nilFunc)] := by kernel_rfl
@[simp] theorem zero122 : zeroT Tryz.prog 122 = some [M.c (C.v Value.nilFunc)] := by kernel_rfl
@[simp] theorem zero123 : zeroT Tryz.prog 123 = some [M.c (C.v Value.nilFunc)] := by kernel_rfl
@[simp] theorem zero124 : zeroT Tryz.prog 124 = some [M.c (C.v Value.nilFunc)] := by kernel_rfl
@[simp] theorem zero125 : zeroT Tryz.prog 125 = some [M.c (C.v (Value.pointer none))] := by kernel_rfl
@[simp] theorem zero126 : zeroT Tryz.prog 126 = some [M.c (C.v (Value.pointer none)), M.c (C.v (Value.slice none 0 0))] := by kernel_rfl
@[simp] theorem zero127 : zeroT Tryz.prog 127 = some [M.c (C.v (Value.pointer none)), M.c (C.v (Value.slice none 0 0))] := by kernel_rfl
@[simp] theorem zero128 : zeroT Tryz.prog 128 = some [M.c (C.v (Value.pointer none)), M.c (C.v (Value.slice none 0 0))] := by kernel_rfl
@[simp] theorem zero129 : zeroT Tryz.prog 129 = some [M.c (C.v (Value.pointer none)), M.c (C.v (Value.slice none 0 0))] := by kernel_rfl
@[simp] theorem zero130 : zeroT Tryz.prog 130 = some [M.c (C.v Value.nilIface)] := by kernel_rfl
@[simp] theorem zero131 : zeroT Tryz.prog 131 = some [M.c (C.v Value.nilIface)] := by kernel_rfl
@[simp] theorem zero133 : zeroT Tryz.prog 133 = some [M.c (C.v Value.nilFunc)] := by kernel_rfl
@[simp] theorem zero134 : zeroT Tryz.prog 134 = some [M.c (C.v Value.nilFunc)] := by kernel_rfl
@[simp] theorem zero135 : zeroT Tryz.prog 135 = some [M.c (C.v Value.nilFunc)] := by kernel_rfl
@[simp] theorem zero136 : zeroT Tryz.prog 136 = some [M.c (C.v Value.nilFunc)] := by kernel_rfl
@[simp] theorem zero137 : zeroT Tryz.prog 137 = some [M.c (C.v Value.nilFunc)] := by kernel_rfl
@[simp] theorem zero138 : zeroT Tryz.prog 138 = some [M.c (C.v Value.nilFunc)] := by kernel_rfl
@[simp] theorem zero139 : zeroT Tryz.prog 139 = some [M.c (C.v (Value.int IntKind.u64 0)), M.c (C.v (Value.int IntKind.u64 0)), M.c (C.v (Value.int IntKind.u64 0)), M.c (C.v (Value.int IntKind.u64 0))] := by kernel_rfl
@[simp] theorem zero140 : zeroT Tryz.prog 140 = some [M.c (C.v (Value.int IntKind.u64 0)), M.c (C.v (Value.int IntKind.u64 0)), M.c (C.v (Value.int IntKind.u64 0)), M.c (C.v (Value.int IntKind.u64 0))] := by kernel_rfl
@[simp] theorem zero141 : zeroT Tryz.prog 141 = some [M.c (C.v Value.nilFunc)] := by kernel_rfl
@[simp] theorem zero142 : zeroT Tryz.prog 142 = some [M.c (C.v Value.nilFunc)] := by kernel_rfl
@[simp] theorem zero143 : zeroT Tryz.prog 143 = some [M.c (C.v Value.nilFunc)] := by kernel_rfl
@[simp] theorem zero144 : zeroT Tryz.prog 144 = some [M.c (C.v Value.nilFunc)] := by kernel_rfl
@[simp] theorem zero145 : zeroT Tryz.prog 145 = some [M.c (C.v (Value.slice none 0 0))] := by kernel_rfl
@[simp] theorem zero146 : zeroT Tryz.prog 146 = some [M.c (C.v (Value.slice none 0 0))] := by kernel_rfl
@[simp] theorem zero147 : zeroT Tryz.prog 147 = some [M.c (C.v Value.nilFunc)] := by kernel_rfl
@[simp] theorem zero148 : zeroT Tryz.prog 148 = some [M.c (C.v Value.nilFunc)] := by kernel_rfl
@[simp] theorem zero149 : zeroT Tryz.prog 149 = some [M.c (C.v (Value.int IntKind.u32 0)), M.c (C.v (Value.int IntKind.u8 0)), M.c (C.v (Value.int IntKind.u8 0)), M.c (C.v (Value.int IntKind.u8 0)), M.c (C.v (Value.int IntKind.u8 0)), M.c (C.v (Value.int IntKind.u8 0)), M.c (C.v (Value.int IntKind.u8 0)), M.c (C.v (Value.int IntKind.u8 0)), M.c (C.v (Value.int IntKind.u8 0)), M.c (C.v (Value.int IntKind.u8 0)), M.c (C.v (Value.int IntKind.u8 0)), M.c (C.v (Value.int IntKind.u8 0)), M.c (C.v (Value.int IntKind.u8 0)), M.c (C.v (Value.int IntKind.u8 0)), M.c (C.v (Value.int IntKind.u8 0)), M.c (C.v (Value.int IntKind.u8 0)), M.c (C.v (Value.int IntKind.u8 0)), M.c (C.v (Value.int IntKind.u8 0)), M.c (C.v (Value.int IntKind.u8 0)), M.c (C.v (Value.int IntKind.u8 0)), M.c (C.v (Value.int IntKind.u8 0)), M.c (C.v (Value.int IntKind.u8 0)), M.c (C.v (Value.int IntKind.u8 0)), M.c (C.v (Value.int IntKind.u8 0)), M.c (C.v (Value.int IntKind.u8 0)), M.c (C.v (Value.int IntKind.u8 0)), M.c (C.v (Value.int IntKind.u8 0)), M.c (C.v (Value.int IntKind.u8 0)), M.c (C.v (Value.int IntKind.u8 0)), M.c (C.v (Value.int IntKind.u8 0)), M.c (C.v (Value.int IntKind.u8 0)), M.c (C.v (Value.int IntKind.u8 0)), M.c (C.v (Value.int IntKind.u8 0)), M.c (C.v (Value.int IntKind.u8 0)), M.c (C.v (Value.int IntKind.u8 0)), M.c (C.v (Value.int IntKind.u8 0)), M.c (C.v (Value.int IntKind.u8 0)), M.c (C.v (Value.int IntKind.u8 0)), M.c (C.v (Value.int IntKind.u8 0)), M.c (C.v (Value.int IntKind.u8 0)), M.c (C.v (Value.int IntKind.u8 0)), M.c (C.v (Value.int IntKind.u8 0)), M.c (C.v (Value.int IntKind.u8 0)), M.c (C.v (Value.int IntKind.u8 0)), M.c (C.v (Value.int IntKind.u8 0)), M.c (C.v (Value.int IntKind.u8 0)), M.c (C.v (Value.int IntKind.u8 0)), M.c (C.v (Value.int IntKind.u8 0)), M.c (C.v (Value.int IntKind.u8 0)), M.c (C.v (Value.int IntKind.u8 0)), M.c (C.v (Value.int IntKind.u8 0)), M.c (C.v (Value.int IntKind.u8 0)), M.c (C.v (Value.int IntKind.u8 0)), M.c (C.v (Value.int IntKind.u8 0)), M.c (C.v (Value.int IntKind.u8 0)), M.c (C.v (Value.int IntKind.u8 0)), M.c (C.v (Value.int IntKind.u8 0)), M.c (C.v (Value.int IntKind.u8 0)), M.c (C.v (Value.int IntKind.u8 0)), M.c (C.v (Value.int IntKind.u8 0)), M.c (C.v (Value.int IntKind.u8 0)), M.c (C.v (Value.int IntKind.u8 0)), M.c (C.v (Value.int IntKind.u8 0)), M.c (C.v (Value.int IntKind.u8 0)), M.c (C.v (Value.int IntKind.u8 0)), M.c (C.v (Value.int IntKind.u64 0)), M.c (C.v (Value.int IntKind.u8 0)), M.c (C.v (Value.int IntKind.u8 0)), M.c (C.v (Value.int IntKind.u8 0)), M.c (C.v (Value.int IntKind.u8 0)), M.c (C.v (Value.int IntKind.u8 0)), M.c (C.v (Value.int IntKind.u8 0)), M.c (C.v (Value.int IntKind.u8 0)), M.c (C.v (Value.int IntKind.u8 0)), M.c (C.v (Value.int IntKind.u8 0)), M.c (C.v (Value.int IntKind.u8 0)), M.c (C.v (Value.int IntKind.u8 0)), M.c (C.v (Value.int IntKind.u8 0)), M.c (C.v (Value.int IntKind.u8 0)), M.c (C.v (Value.int IntKind.u8 0)), M.c (C.v (Value.int IntKind.u8 0)), M.c (C.v (Value.int IntKind.u8 0)), M.c (C.v (Value.int IntKind.u8 0)), M.c (C.v (Value.int IntKind.u8 0)), M.c (C.v (Value.int IntKind.u8 0)), M.c (C.v (Value.int IntKind.u8 0)), M.c (C.v (Value.int IntKind.u8 0)), M.c (C.v (Value.int IntKind.u8 0)), M.c (C.v (Value.int IntKind.u8 0)), M.c (C.v (Value.int IntKind.u8 0)), M.c (C.v (Value.int IntKind.u8 0)), M.c (C.v (Value.int IntKind.u8 0)), M.c (C.v (Value.int IntKind.u8 0)), M.c (C.v (Value.int IntKind.u8 0)), M.c (C.v (Value.int IntKind.u8 0)), M.c (C.v (Value.int IntKind.u8 0)), M.c (C.v (Value.int IntKind.u8 0)), M.c (C.v (Value.int IntKind.u8 0)), M.c (C.v (Value.int IntKind.i64 0)), M.c (C.v (Value.int IntKind.i64 0)), M.c (C.v (Value.int IntKind.i64 0)), M.c (C.v (Value.int IntKind.i64 0)), M.c (C.v (Value.int IntKind.i64 0)), M.c (C.v (Value.int IntKind.i64 0)), M.c (C.v (Value.int IntKind.i64 0)), M.c (C.v (Value.int IntKind.u32 0)), M.c (C.v (Value.int IntKind.u8 0)), M.c (C.v (Value.int IntKind.u8 0)), M.c (C.v (Value.int IntKind.u8 0)), M.c (C.v (Value.int IntKind.u8 0)), M.c (C.v (Value.int IntKind.u8 0)), M.c (C.v (Value.int IntKind.u8 0)), M.c (C.v (Value.int IntKind.u8 0)), M.c (C.v (Value.int IntKind.u8 0)), M.c (C.v (Value.int IntKind.u8 0)), M.c (C.v (Value.int IntKind.u8 0)), M.c (C.v (Value.int IntKind.u8 0)), M.c (C.v (Value.int IntKind.u8 0)), M.c (C.v (Value.int IntKind.u8 0)), M.c (C.v (Value.int IntKind.u8 0)), M.c (C.v (Value.int IntKind.u8 0)), M.c (C.v (Value.int IntKind.u8 0)), M.c (C.v (Value.int IntKind.u8 0)), M.c (C.v (Value.int IntKind.u8 0)), M.c (C.v (Value.int IntKind.u8 0)), M.c (C.v (Value.int IntKind.u8 0)), M.c (C.v (Value.int IntKind.u8 0)), M.c (C.v (Value.int IntKind.u8 0)), M.c (C.v (Value.int IntKind.u8 0)), M.c (C.v (Value.int IntKind.u8 0)), M.c (C.v (Value.int IntKind.u8 0)), M.c (C.v (Value.int IntKind.u8 0)), M.c (C.v (Value.int IntKind.u8 0)), M.c (C.v (Value.int IntKind.u8 0)), M.c (C.v (Value.int IntKind.u8 0)), M.c (C.v (Value.int IntKind.u8 0)), M.c (C.v (Value.int IntKind.u8 0)), M.c (C.v (Value.int IntKind.u8 0)), M.c (C.v (Value.int IntKind.u8 0)), M.c (C.v (Value.int IntKind.u8 0)), M.c (C.v (Value.int IntKind.u8 0)), M.c (C.v (Value.int IntKind.u8 0)), M.c (C.v (Value.int IntKind.u8 0)), M.c (C.v (Value.int IntKind.u8 0)), M.c (C.v (Value.int IntKind.u8 0)), M.c (C.v (Value.int IntKind.u8 0)), M.c (C.v (Value.int IntKind.u8 0)), M.c (C.v (Value.int IntKind.u8 0)), M.c (C.v (Value.int IntKind.u8 0)), M.c (C.v (Value.int IntKind.u8 0)), M.c (C.v (Value.int IntKind.u8 0)), M.c (C.v (Value.int IntKind.u8 0)), M.c (C.v (Value.int IntKind.u8 0)), M.c (C.v (Value.int IntKind.u8 0)), M.c (C.v (Value.int IntKind.u8 0)), M.c (C.v (Value.int IntKind.u8 0)), M.c (C.v (Value.int IntKind.u8 0)), M.c (C.v (Value.int IntKind.u8 0)), M.c (C.v (Value.int IntKind.u8 0)), M.c (C.v (Value.int IntKind.u8 0)), M.c (C.v (Value.int IntKind.u8 0)), M.c (C.v (Value.int IntKind.u8 0)), M.c (C.v (Value.int IntKind.u8 0)), M.c (C.v (Value.int IntKind.u8 0)), M.c (C.v (Value.int IntKind.u8 0)), M.c (C.v (Value.int IntKind.u8 0)), M.c (C.v (Value.int IntKind.u8 0)), M.c (C.v (Value.int IntKind.u8 0)), M.c (C.v (Value.int IntKind.u8 0)), M.c (C.v (Value.int IntKind.u8 0)), M.c (C.v (Value.int IntKind.u64 0)), M.c (C.v (Value.slice none 0 0)), M.c (C.v (Value.slice none 0 0))] := by kernel_rfl
@[simp] theorem zero150 : zeroT Tryz.prog 150 = some [M.c (C.v (Value.int IntKind.u32 0)), M.c (C.v (Value.int IntKind.u8 0)), M.c (C.v (Value.int IntKind.u8 0)), M.c (C.v (Value.int IntKind.u8 0)), M.c (C.v (Value.int IntKind.u8 0)), M.c (C.v (Value.int IntKind.u8 0)), M.c (C.v (Value.int IntKind.u8 0)), M.c (C.v (Value.int IntKind.u8 0)), M.c (C.v (Value.int IntKind.u8 0)), M.c (C.v (Value.int IntKind.u8 0)), M.c (C.v (Value.int IntKind.u8 0)), M.c (C.v (Value.int IntKind.u8 0)), M.c (C.v (Value.int IntKind.u8 0)), M.c (C.v (Value.int IntKind.u8 0)), M.c (C.v (Value.int IntKind.u8 0)), M.c (C.v (Value.int IntKind.u8 0)), M.c (C.v (Value.int IntKind.u8 0)), M.c (C.v (Value.int IntKind.u8 0)), M.c (C.v (Value.int IntKind.u8 0)), M.c (C.v (Value.int IntKind.u8 0)), M.c (C.v (Value.int IntKind.u8 0)), M.c (C.v (Value.int IntKind.u8 0)), M.c (C.v (Value.int IntKind.u8 0)), M.c (C.v (Value.int IntKind.u8 0)), M.c (C.v (Value.int IntKind.u8 0)), M.c (C.v (Value.int IntKind.u8 0)), M.c (C.v (Value.int IntKind.u8 0)), M.c (C.v (Value.int IntKind.u8 0)), M.c (C.v (Value.int IntKind.u8 0)), M.c (C.v (Value.int IntKind.u8 0)), M.c (C.v (Value.int IntKind.u8 0)), M.c (C.v (Value.int IntKind.u8 0)), M.c (C.v (Value.int IntKind.u8 0)), M.c (C.v (Value.int IntKind.u8 0)), M.c (C.v (Value.int IntKind.u8 0)), M.c (C.v (Value.int IntKind.u8 0)), M.c (C.v (Value.int IntKind.u8 0)), M.c (C.v (Value.int IntKind.u8 0)), M.c (C.v (Value.int IntKind.u8 0)), M.c (C.v (Value.int IntKind.u8 0)), M.c (C.v (Value.int IntKind.u8 0)), M.c (C.v (Value.int IntKind.u8 0)), M.c (C.v (Value.int IntKind.u8 0)), M.c (C.v (Value.int IntKind.u8 0)), M.c (C.v (Value.int IntKind.u8 0)), M.c (C.v (Value.int IntKind.u8 0)), M.c (C.v (Value.int IntKind.u8 0)), M.c (C.v (Value.int IntKind.u8 0)), M.c (C.v (Value.int IntKind.u8 0)), M.c (C.v (Value.int IntKind.u8 0)), M.c (C.v (Value.int IntKind.u8 0)), M.c (C.v (Value.int IntKind.u8 0)), M.c (C.v (Value.int IntKind.u8 0)), M.c (C.v (Value.int IntKind.u8 0)), M.c (C.v (Value.int IntKind.u8 0)), M.c (C.v (Value.int IntKind.u8 0)), M.c (C.v (Value.int IntKind.u8 0)), M.c (C.v (Value.int IntKind.u8 0)), M.c (C.v (Value.int IntKind.u8 0)), M.c (C.v (Value.int IntKind.u8 0)), M.c (C.v (Value.int IntKind.u8 0)), M.c (C.v (Value.int IntKind.u8 0)), M.c (C.v (Value.int IntKind.u8 0)), M.c (C.v (Value.int IntKind.u8 0)), M.c (C.v (Value.int IntKind.u8 0)), M.c (C.v (Value.int IntKind.u64 0)), M.c (C.v (Value.int IntKind.u8 0)), M.c (C.v (Value.int IntKind.u8 0)), M.c (C.v (Value.int IntKind.u8 0)), M.c (C.v (Value.int IntKind.u8 0)), M.c (C.v (Value.int IntKind.u8 0)), M.c (C.v (Value.int IntKind.u8 0)), M.c (C.v (Value.int IntKind.u8 0)), M.c (C.v (Value.int IntKind.u8 0)), M.c (C.v (Value.int IntKind.u8 0)), M.c (C.v (Value.int IntKind.u8 0)), M.c (C.v (Value.int IntKind.u8 0)), M.c (C.v (Value.int IntKind.u8 0)), M.c (C.v (Value.int IntKind.u8 0)), M.c (C.v (Value.int IntKind.u8 0)), M.c (C.v (Value.int IntKind.u8 0)), M.c (C.v (Value.int IntKind.u8 0)), M.c (C.v (Value.int IntKind.u8 0)), M.c (C.v (Value.int IntKind.u8 0)), M.c (C.v (Value.int IntKind.u8 0)), M.c (C.v (Value.int IntKind.u8 0)), M.c (C.v (Value.int IntKind.u8 0)), M.c (C.v (Value.int IntKind.u8 0)), M.c (C.v (Value.int IntKind.u8 0)), M.c (C.v (Value.int IntKind.u8 0)), M.c (C.v (Value.int IntKind.u8 0)), M.c (C.v (Value.int IntKind.u8 0)), M.c (C.v (Value.int IntKind.u8 0)), M.c (C.v (Value.int IntKind.u8 0)), M.c (C.v (Value.int IntKind.u8 0)), M.c (C.v (Value.int IntKind.u8 0)), M.c (C.v (Value.int IntKind.u8 0)), M.c (C.v (Value.int IntKind.u8 0)), M.c (C.v (Value.int IntKind.i64 0)), M.c (C.v (Value.int IntKind.i64 0)), M.c (C.v (Value.int IntKind.i64 0)), M.c (C.v (Value.int IntKind.i64 0)), M.c (C.v (Value.int IntKind.i64 0)), M.c (C.v (Value.int IntKind.i64 0)), M.c (C.v (Value.int IntKind.i64 0)), M.c (C.v (Value.int IntKind.u32 0)), M.c (C.v (Value.int IntKind.u8 0)), M.c (C.v (Value.int IntKind.u8 0)), M.c (C.v (Value.int IntKind.u8 0)), M.c (C.v (Value.int IntKind.u8 0)), M.c (C.v (Value.int IntKind.u8 0)), M.c (C.v (Value.int IntKind.u8 0)), M.c (C.v (Value.int IntKind.u8 0)), M.c (C.v (Value.int IntKind.u8 0)), M.c (C.v (Value.int IntKind.u8 0)), M.c (C.v (Value.int IntKind.u8 0)), M.c (C.v (Value.int IntKind.u8 0)), M.c (C.v (Value.int IntKind.u8 0)), M.c (C.v (Value.int IntKind.u8 0)), M.c (C.v (Value.int IntKind.u8 0)), M.c (C.v (Value.int IntKind.u8 0)), M.c (C.v (Value.int IntKind.u8 0)), M.c (C.v (Value.int IntKind.u8 0)), M.c (C.v (Value.int IntKind.u8 0)), M.c (C.v (Value.int IntKind.u8 0)), M.c (C.v (Value.int IntKind.u8 0)), M.c (C.v (Value.int IntKind.u8 0)), M.c (C.v (Value.int IntKind.u8 0)), M.c (C.v (Value.int IntKind.u8 0)), M.c (C.v (Value.int IntKind.u8 0)), M.c (C.v (Value.int IntKind.u8 0)), M.c (C.v (Value.int IntKind.u8 0)), M.c (C.v (Value.int IntKind.u8 0)), M.c (C.v (Value.int IntKind.u8 0)), M.c (C.v (Value.int IntKind.u8 0)), M.c (C.v (Value.int IntKind.u8 0)), M.c (C.v (Value.int IntKind.u8 0)), M.c (C.v (Value.int IntKind.u8 0)), M.c (C.v (Value.int IntKind.u8 0)), M.c (C.v (Value.int IntKind.u8 0)), M.c (C.v (Value.int IntKind.u8 0)), M.c (C.v (Value.int IntKind.u8 0)), M.c (C.v (Value.int IntKind.u8 0)), M.c (C.v (Value.int IntKind.u8 0)), M.c (C.v (Value.int IntKind.u8 0)), M.c (C.v (Value.int IntKind.u8 0)), M.c (C.v (Value.int IntKind.u8 0)), M.c (C.v (Value.int IntKind.u8 0)), M.c (C.v (Value.int IntKind.u8 0)), M.c (C.v (Value.int IntKind.u8 0)), M.c (C.v (Value.int IntKind.u8 0)), M.c (C.v (Value.int IntKind.u8 0)), M.c (C.v (Value.int IntKind.u8 0)), M.c (C.v (Value.int IntKind.u8 0)), M.c (C.v (Value.int IntKind.u8 0)), M.c (C.v (Value.int IntKind.u8 0)), M.c (C.v (Value.int IntKind.u8 0)), M.c (C.v (Value.int IntKind.u8 0)), M.c (C.v (Value.int IntKind.u8 0)), M.c (C.v (Value.int IntKind.u8 0)), M.c (C.v (Value.int IntKind.u8 0)), M.c (C.v (Value.int IntKind.u8 0)), M.c (C.v (Value.int IntKind.u8 0)), M.c (C.v (Value.int IntKind.u8 0)), M.c (C.v (Value.int IntKind.u8 0)), M.c (C.v (Value.int IntKind.u8 0)), M.c (C.v (Value.int IntKind.u8 0)), M.c (C.v (Value.int IntKind.u8 0)), M.c (C.v (Value.int IntKind.u8 0)), M.c (C.v (Value.int IntKind.u8 0)), M.c (C.v (Value.int IntKind.u64 0)), M.c (C.v (Value.slice none 0 0)), M.c (C.v (Value.slice none 0 0))] := by kernel_rfl
@[simp] theorem zero151 : zeroT Tryz.prog 151 = some [M.c (C.v (Value.slice none 0 0))] := by kernel_rfl
@[simp] theorem zero152 : zeroT Tryz.prog 152 = some [M.c (C.v Value.nilFunc)] := by kernel_rfl
@[simp] theorem zero153 : zeroT Tryz.prog 153 = some [M.c (C.v Value.nilFunc)] := by kernel_rfl
@[simp] theorem zero154 : zeroT Tryz.prog 154 = some [M.c (C.v Value.nilFunc)] := by kernel_rfl
@[simp] theorem zero155 : zeroT Tryz.prog 155 = some [M.c (C.v Value.nilFunc)] := by kernel_rfl
@[simp] theorem zero156 : zeroT Tryz.prog 156 = some [M.c (C.v Value.nilFunc)] := by kernel_rfl
@[simp] theorem zero157 : zeroT Tryz.prog 157 = some [M.c (C.v Value.nilFunc)] := by kernel_rfl
@[simp] theorem zero158 : zeroT Tryz.prog 158 = some [M.c (C.v Value.nilFunc)] := by kernel_rfl
@[simp] theorem zero159 : zeroT Tryz.prog 159 = some [M.c (C.v (Value.int IntKind.u64 0))] := by kernel_rfl
@[simp] theorem zero160 : zeroT Tryz.prog 160 = some [M.c (C.v Value.nilFunc)] := by kernel_rfl
@[simp] theorem zero161 : zeroT Tryz.prog 161 = some [M.c (C.v (Value.pointer none))] := by kernel_rfl
@[simp] theorem zero162 : zeroT Tryz.prog 162 = some [M.c (C.v (Value.pointer none))] := by kernel_rfl
@[simp] theorem zero163 : zeroT Tryz.prog 163 = some [M.c (C.v Value.nilFunc)] := by kernel_rfl
@[simp] theorem zero164 : zeroT Tryz.prog 164 = some [M.c (C.v Value.nilFunc)] := by kernel_rfl
@[simp] theorem zero165 : zeroT Tryz.prog 165 = some (List.replicate 8 (M.c (C.v (Value.int IntKind.u32 0)))) := by kernel_rfl
@[simp] theorem zero166 : zeroT Tryz.prog 166 = some [M.c (C.v Value.nilFunc)] := by kernel_rfl
@[simp] theorem zero167 : zeroT Tryz.prog 167 = some [M.c (C.v Value.nilFunc)] := by kernel_rfl
@[simp] theorem zero168 : zeroT Tryz.prog 168 = some [M.c (C.v Value.nilFunc)] := by kernel_rfl
@[simp] theorem zero169 : zeroT Tryz.prog 169 = some [M.c (C.v Value.nilFunc)] := by kernel_rfl
@[simp] theorem zero170 : zeroT Tryz.prog 170 = some [M.c (C.v Value.nilFunc)] := by kernel_rfl
@[simp] theorem zero171 : zeroT Tryz.prog 171 = some [M.c (C.v Value.nilFunc)] := by kernel_rfl
@[simp] theorem zero172 : zeroT Tryz.prog 172 = some [M.c (C.v (Value.int IntKind.i64 0))] := by kernel_rfl
@[simp] theorem zero174 : zeroT Tryz.prog 174 = some [M.c (C.v Value.nilFunc)] := by kernel_rfl
@[simp] theorem zero175 : zeroT Tryz.prog 175 = some [M.c (C.v Value.nilFunc)] := by kernel_rfl
@[simp] theorem zero176 : zeroT Tryz.prog 176 = some [M.c (C.v Value.nilFunc)] := by kernel_rfl
@[simp] theorem zero178 : zeroT Tryz.prog 178 = some [M.c (C.v Value.nilFunc)] := by kernel_rfl
@[simp] theorem zero179 : zeroT Tryz.prog 179 = some [M.c (C.v Value.nilFunc)] := by kernel_rfl
@[simp] theorem zero180 : zeroT Tryz.prog 180 = some [M.c (C.v Value.nilFunc)] := by kernel_rfl
@[simp] theorem zero181 : zeroT Tryz.prog 181 = some [M.c (C.v Value.nilFunc)] := by kernel_rfl
@[simp] theorem zero182 : zeroT Tryz.prog 182 = some [M.c (C.v (Value.pointer none))] := by kernel_rfl
@[simp] theorem zero183 : zeroT Tryz.prog 183 = some [M.c (C.v Value.nilFunc)] := by kernel_rfl
@[simp] theorem zero184 : zeroT Tryz.prog 184 = some [M.c (C.v Value.nilFunc)] := by kernel_rfl
@[simp] theorem zero186 : zeroT Tryz.prog 186 = some [M.c (C.v Value.nilFunc)] := by kernel_rfl
@[simp] theorem zero187 : zeroT Tryz.prog 187 = some [M.c (C.v Value.nilFunc)] := by kernel_rfl
@[simp] theorem zero188 : zeroT Tryz.prog 188 = some [M.c (C.v Value.nilFunc)] := by kernel_rfl
@[simp] theorem zero189 : zeroT Tryz.prog 189 = some [M.c (C.v (Value.pointer none))] := by kernel_rfl
@[simp] theorem zero190 : zeroT Tryz.prog 190 = some [M.c (C.v Value.nilFunc)] := by kernel_rfl
@[simp] theorem zero191 : zeroT Tryz.prog 191 = some [M.c (C.v Value.nilFunc)] := by kernel_rfl
@[simp] theorem zero192 : zeroT Tryz.prog 192 = some [M.c (C.v Value.nilFunc)] := by kernel_rfl
@[simp] theorem zero193 : zeroT Tryz.prog 193 = some [M.c (C.v Value.nilFunc)] := by kernel_rfl
@[simp] theorem zero194 : zeroT Tryz.prog 194 = some (List.replicate 64 (M.c (C.v (Value.int IntKind.u32 0)))) := by kernel_rfl
@[simp] theorem zero195 : zeroT Tryz.prog 195 = some [M.c (C.v Value.nilFunc)] := by kernel_rfl
@[simp] theorem zero196 : zeroT Tryz.prog 196 = some [M.c (C.v Value.nilFunc)] := by kernel_rfl
@[simp] theorem zero197 : zeroT Tryz.prog 197 = some [M.c (C.v Value.nilFunc)] := by kernel_rfl
@[simp] theorem zero198 : zeroT Tryz.prog 198 = some [M.c (C.v (Value.int IntKind.u64 0))] := by kernel_rfl
@[simp] theorem zero199 : zeroT Tryz.prog 199 = some [M.c (C.v Value.nilFunc)] := by kernel_rfl
@[simp] theorem zero200 : zeroT Tryz.prog 200 = some [M.c (C.v Value.nilFunc)] := by kernel_rfl
@[simp] theorem zero201 : zeroT Tryz.prog 201 = some [M.c (C.v Value.nilFunc)] := by kernel_rfl
@[simp] theorem zero202 : zeroT Tryz.prog 202 = some [M.c (C.v Value.nilFunc)] := by kernel_rfl
@[simp] theorem zero203 : zeroT Tryz.prog 203 = some [M.c (C.v Value.nilFunc)] := by kernel_rfl
@[simp] theorem zero204 : zeroT Tryz.prog 204 = some [M.c (C.v Value.nilFunc)] := by kernel_rfl
@[simp] theorem zero205 : zeroT Tryz.prog 205 = some (List.replicate 8 (M.c (C.v (Value.int IntKind.u32 0)))) := by kernel_rfl
@[simp] theorem zero206 : zeroT Tryz.prog 206 = some [M.c (C.v (Value.int IntKind.u32 0)), M.c (C.v (Value.int IntKind.u32 0)), M.c (C.v (Value.int IntKind.u32 0)), M.c (C.v (Value.int IntKind.u32 0)), M.c (C.v (Value.int IntKind.u32 0)), M.c (C.v (Value.int IntKind.u32 0)), M.c (C.v (Value.int IntKind.u32 0)), M.c (C.v (Value.int IntKind.u32 0)), M.c (C.v (Value.string { data := { toList := [] } })), M.c (C.v (Value.int IntKind.u64 0)), M.c (C.v (Value.bool false))] := by kernel_rfl
@[simp] theorem zero207 : zeroT Tryz.prog 207 = some [M.c (C.v (Value.int IntKind.u32 0)), M.c (C.v (Value.int IntKind.u32 0)), M.c (C.v (Value.int IntKind.u32 0)), M.c (C.v (Value.int IntKind.u32 0)), M.c (C.v (Value.int IntKind.u32 0)), M.c (C.v (Value.int IntKind.u32 0)), M.c (C.v (Value.int IntKind.u32 0)), M.c (C.v (Value.int IntKind.u32 0)), M.c (C.v (Value.string { data := { toList := [] } })), M.c (C.v (Value.int IntKind.u64 0)), M.c (C.v (Value.bool false))] := by kernel_rfl
@[simp] theorem zero208 : zeroT Tryz.prog 208 = some [M.c (C.v Value.nilFunc)] := by kernel_rfl
@[simp] theorem zero209 : zeroT Tryz.prog 209 = some [M.c (C.v Value.nilFunc)] := by kernel_rfl
@[simp] theorem zero210 : zeroT Tryz.prog 210 = some [M.c (C.v Value.nilFunc)] := by kernel_rfl
@[simp] theorem zero211 : zeroT Tryz.prog 211 = some [M.c (C.v (Value.slice none 0 0))] := by kernel_rfl
@[simp] theorem zero212 : zeroT Tryz.prog 212 = some [M.c (C.v (Value.pointer none))] := by kernel_rfl
@[simp] theorem zero214 : zeroT Tryz.prog 214 = some [M.c (C.v Value.nilFunc)] := by kernel_rfl
@[simp] theorem zero215 : zeroT Tryz.prog 215 = some [M.c (C.v Value.nilFunc)] := by kernel_rfl
@[simp] theorem zero216 : zeroT Tryz.prog 216 = some [M.c (C.v Value.nilFunc)] := by kernel_rfl
@[simp] theorem zero217 : zeroT Tryz.prog 217 = some [M.c (C.v Value.nilFunc)] := by kernel_rfl
@[simp] theorem zero218 : zeroT Tryz.prog 218 = some [M.c (C.v Value.nilFunc)] := by kernel_rfl
@[simp] theorem zero220 : zeroT Tryz.prog 220 = some [M.c (C.v Value.nilFunc)] := by kernel_rfl
@[simp] theorem zero221 : zeroT Tryz.prog 221 = some [M.c (C.v Value.nilFunc)] := by kernel_rfl
@[simp] theorem zero223 : zeroT Tryz.prog 223 = some [M.c (C.v Value.nilFunc)] := by kernel_rfl
@[simp] theorem zero225 : zeroT Tryz.prog 225 = some [M.c (C.v Value.nilFunc)] := by kernel_rfl
@[simp] theorem zero226 : zeroT Tryz.prog 226 = some [M.c (C.v Value.nilFunc)] := by kernel_rfl
@[simp] theorem zero227 : zeroT Tryz.prog 227 = some [M.c (C.v (Value.pointer none)), M.c (C.v (Value.pointer none)), M.c (C.v (Value.pointer none)), M.c (C.v (Value.string { data := { toList := [] } }))] := by kernel_rfl
@[simp] theorem zero228 : zeroT Tryz.prog 228 = some [M.c (C.v (Value.pointer none)), M.c (C.v (Value.pointer none)), M.c (C.v (Value.pointer none)), M.c (C.v (Value.string { data := { toList := [] } }))] := by kernel_rfl
@[simp] theorem zero229 : zeroT Tryz.prog 229 = some [] := by kernel_rfl
@[simp] theorem zero230 : zeroT Tryz.prog 230 = some [] := by kernel_rfl
@[simp] theorem zero231 : zeroT Tryz.prog 231 = some [] := by kernel_rfl
@[simp] theorem zero232 : zeroT Tryz.prog 232 = some [M.c (C.v (Value.int IntKind.u8 0))] := by kernel_rfl
@[simp] theorem zero233 : zeroT Tryz.prog 233 = some [M.c (C.v (Value.int IntKind.u8 0))] := by kernel_rfl
@[simp] theorem zero234 : zeroT Tryz.prog 234 = some [M.c (C.v Value.nilFunc)] := by kernel_rfl
@[simp] theorem zero235 : zeroT Tryz.prog 235 = some [M.c (C.v (Value.int IntKind.i32 0))] := by kernel_rfl
@[simp] theorem zero236 : zeroT Tryz.prog 236 = some [M.c (C.v (Value.int IntKind.i32 0))] := by kernel_rfl
@[simp] theorem zero237 : zeroT Tryz.prog 237 = some [M.c (C.v (Value.int IntKind.u64 0)), M.c (C.v (Value.int IntKind.u64 0)), M.c (C.v (Value.int IntKind.u32 0)), M.c (C.v (Value.int IntKind.u8 0)), M.c (C.v (Value.int IntKind.u8 0)), M.c (C.v (Value.int IntKind.u8 0)), M.c (C.v (Value.int IntKind.u8 0)), M.c (C.v Value.nilFunc), M.c (C.v (Value.pointer none)), M.c (C.v (Value.int IntKind.i32 0)), M.c (C.v (Value.int IntKind.i32 0))] := by kernel_rfl
@[simp] theorem zero238 : zeroT Tryz.prog 238 = some [M.c (C.v (Value.int IntKind.u64 0)), M.c (C.v (Value.int IntKind.u64 0)), M.c (C.v (Value.int IntKind.u32 0)), M.c (C.v (Value.int IntKind.u8 0)), M.c (C.v (Value.int IntKind.u8 0)), M.c (C.v (Value.int IntKind.u8 0)), M.c (C.v (Value.int IntKind.u8 0)), M.c (C.v Value.nilFunc), M.c (C.v (Value.pointer none)), M.c (C.v (Value.int IntKind.i32 0)), M.c (C.v (Value.int IntKind.i32 0))] := by kernel_rfl
@[simp] theorem zero239 : zeroT Tryz.prog 239 = some [M.c (C.v Value.nilFunc)] := by kernel_rfl
@[simp] theorem zero240 : zeroT Tryz.prog 240 = some [M.c (C.v Value.nilFunc)] := by kernel_rfl
@[simp] theorem ty0 : szT Tryz.prog 0 = 1 ∧ szOb Tryz.prog 0 = 1 ∧ szBx Tryz.prog 0 = 1 ∧ isAggT Tryz.prog 0 = false ∧ okT Tryz.prog 0 = true ∧ okE Tryz.prog 0 = true ∧ okZ Tryz.prog 0 = true ∧ Program.bytesOf Tryz.prog 0 = 0 := by refine ⟨?_, ?_, ?_, ?_, ?_, ?_, ?_, ?_⟩ <;> kernel_rfl
@[simp] theorem ty1 : szT Tryz.prog 1 = 1 ∧ szOb Tryz.prog 1 = 1 ∧ szBx Tryz.prog 1 = 1 ∧ isAggT Tryz.prog 1 = false ∧ okT Tryz.prog 1 = true ∧ okE Tryz.prog 1 = true ∧ okZ Tryz.prog 1 = true ∧ Program.bytesOf Tryz.prog 1 = 8 := by refine ⟨?_, ?_, ?_, ?_, ?_, ?_, ?_, ?_⟩ <;> kernel_rfl
@[simp] theorem ty2 : szT Tryz.prog 2 = 1 ∧ szOb Tryz.prog 2 = 1 ∧ szBx Tryz.prog 2 = 1 ∧ isAggT Tryz.prog 2 = false ∧ okT Tryz.prog 2 = true ∧ okE Tryz.prog 2 = true ∧ okZ Tryz.prog 2 = true ∧ Program.bytesOf Tryz.prog 2 = 8 := by refine ⟨?_, ?_, ?_, ?_, ?_, ?_, ?_, ?_⟩ <;> kernel_rfl
@[simp] theorem ty3 : szT Tryz.prog 3 = 1 ∧ szOb Tryz.prog 3 = 1 ∧ szBx Tryz.prog 3 = 1 ∧ isAggT Tryz.prog 3 = false ∧ okT Tryz.prog 3 = true ∧ okE Tryz.prog 3 = true ∧ okZ Tryz.prog 3 = true ∧ Program.bytesOf Tryz.prog 3 = 8 := by refine ⟨?_, ?_, ?_, ?_, ?_, ?_, ?_, ?_⟩ <;> kernel_rfl
@[simp] theorem ty4 : szT Tryz.prog 4 = 1 ∧ szOb Tryz.prog 4 = 1 ∧ szBx Tryz.prog 4 = 1 ∧ isAggT Tryz.prog 4 = false ∧ okT Tryz.prog 4 = true ∧ okE Tryz.prog 4 = true ∧ okZ Tryz.prog 4 = true ∧ Program.bytesOf Tryz.prog 4 = 1 := by refine ⟨?_, ?_, ?_, ?_, ?_, ?_, ?_, ?_⟩ <;> kernel_rfl
@[simp] theorem ty5 : szT Tryz.prog 5 = 1 ∧ szOb Tryz.prog 5 = 1 ∧ szBx Tryz.prog 5 = 1 ∧ isAggT Tryz.prog 5 = false ∧ okT Tryz.prog 5 = true ∧ okE Tryz.prog 5 = true ∧ okZ Tryz.prog 5 = true ∧ Program.bytesOf Tryz.prog 5 = 1 := by refine ⟨?_, ?_, ?_, ?_, ?_, ?_, ?_, ?_⟩ <;> kernel_rfl
@[simp] theorem ty6 : szT Tryz.prog 6 = 1 ∧ szOb Tryz.prog 6 = 1 ∧ szBx Tryz.prog 6 = 1 ∧ isAggT Tryz.prog 6 = false ∧ okT Tryz.prog 6 = true ∧ okE Tryz.prog 6 = true ∧ okZ Tryz.prog 6 = true ∧ Program.bytesOf Tryz.prog 6 = 1 := by refine ⟨?_, ?_, ?_, ?_, ?_, ?_, ?_, ?_⟩ <;> kernel_rfl
@[simp] theorem ty7 : szT Tryz.prog 7 = 4 ∧ leavesX Tryz.prog 7 = some [0, 0, 1, 0] ∧ szOb Tryz.prog 7 = 4 ∧ szBx Tryz.prog 7 = 4 ∧ isAggT Tryz.prog 7 = true ∧ okT Tryz.prog 7 = true ∧ okE Tryz.prog 7 = true ∧ okZ Tryz.prog 7 = true ∧ Program.bytesOf Tryz.prog 7 = 24 := by refine ⟨?_, ?_, ?_, ?_, ?_, ?_, ?_, ?_, ?_⟩ <;> kernel_rfl
@[simp] theorem ty8 : szT Tryz.prog 8 = 4 ∧ leavesX Tryz.prog 8 = some [0, 0, 1, 0] ∧ szOb Tryz.prog 8 = 4 ∧ szBx Tryz.prog 8 = 4 ∧ isAggT Tryz.prog 8 = true ∧ okT Tryz.prog 8 = true ∧ okE Tryz.prog 8 = true ∧ okZ Tryz.prog 8 = true ∧ Program.bytesOf Tryz.prog 8 = 24 := by refine ⟨?_, ?_, ?_, ?_, ?_, ?_, ?_, ?_, ?_⟩ <;> kernel_rfl
@[simp] theorem ty9 : szT Tryz.prog 9 = 1 ∧ szOb Tryz.prog 9 = 1 ∧ szBx Tryz.prog 9 = 1 ∧ isAggT Tryz.prog 9 = false ∧ okT Tryz.prog 9 = true ∧ okE Tryz.prog 9 = true ∧ okZ Tryz.prog 9 = true ∧ Program.bytesOf Tryz.prog 9 = 16 := by refine ⟨?_, ?_, ?_, ?_, ?_, ?_, ?_, ?_⟩ <;> kernel_rfl
@[simp] theorem ty10 : szT Tryz.prog 10 = 1 ∧ szOb Tryz.prog 10 = 1 ∧ szBx Tryz.prog 10 = 1 ∧ isAggT Tryz.prog 10 = false ∧ okT Tryz.prog 10 = true ∧ okE Tryz.prog 10 = true ∧ okZ Tryz.prog 10 = true ∧ Program.bytesOf Tryz.prog 10 = 16 := by refine ⟨?_, ?_, ?_, ?_, ?_, ?_, ?_, ?_⟩ <;> kernel_rfl
@[simp] theorem ty11 : szT Tryz.prog 11 = 1 ∧ szOb Tryz.prog 11 = 1 ∧ szBx Tryz.prog 11 = 1 ∧ isAggT Tryz.prog 11 = false ∧ okT Tryz.prog 11 = true ∧ okE Tryz.prog 11 = true ∧ okZ Tryz.prog 11 = true ∧ Program.bytesOf Tryz.prog 11 = 16 := by refine ⟨?_, ?_, ?_, ?_, ?_, ?_, ?_, ?_⟩ <;> kernel_rfl
@[simp] theorem ty12 : szT Tryz.prog 12 = 1 ∧ szOb Tryz.prog 12 = 1 ∧ szBx Tryz.prog 12 = 1 ∧ isAggT Tryz.prog 12 = false ∧ okT Tryz.prog 12 = true ∧ okE Tryz.prog 12 = true ∧ okZ Tryz.prog 12 = true ∧ Program.bytesOf Tryz.prog 12 = 8 := by refine ⟨?_, ?_, ?_, ?_, ?_, ?_, ?_, ?_⟩ <;> kernel_rfl
@[simp] theorem ty13 : szT Tryz.prog 13 = 2 ∧ szOb Tryz.prog 13 = 2 ∧ szBx Tryz.prog 13 = 2 ∧ isAggT Tryz.prog 13 = true ∧ okT Tryz.prog 13 = true ∧ okE Tryz.prog 13 = true ∧ okZ Tryz.prog 13 = true ∧ Program.bytesOf Tryz.prog 13 = 24 := by refine ⟨?_, ?_, ?_, ?_, ?_, ?_, ?_, ?_⟩ <;> kernel_rfl
@[simp] theorem ty14 : szT Tryz.prog 14 = 2 ∧ szOb Tryz.prog 14 = 2 ∧ szBx Tryz.prog 14 = 2 ∧ isAggT Tryz.prog 14 = true ∧ okT Tryz.prog 14 = true ∧ okE Tryz.prog 14 = true ∧ okZ Tryz.prog 14 = true ∧ Program.bytesOf Tryz.prog 14 = 24 := by refine ⟨?_, ?_, ?_, ?_, ?_, ?_, ?_, ?_⟩ <;> kernel_rfl
@[simp] theorem ty15 : szT Tryz.prog 15 = 1 ∧ szOb Tryz.prog 15 = 1 ∧ szBx Tryz.prog 15 = 1 ∧ isAggT Tryz.prog 15 = false ∧ okT Tryz.prog 15 = true ∧ okE Tryz.prog 15 = true ∧ okZ Tryz.prog 15 = true ∧ Program.bytesOf Tryz.prog 15 = 8 := by refine ⟨?_, ?_, ?_, ?_, ?_, ?_, ?_, ?_⟩ <;> kernel_rfl
@[simp] theorem ty16 : szT Tryz.prog 16 = 1 ∧ szOb Tryz.prog 16 = 1 ∧ szBx Tryz.prog 16 = 1 ∧ isAggT Tryz.prog 16 = false ∧ okT Tryz.prog 16 = true ∧ okE Tryz.prog 16 = true ∧ okZ Tryz.prog 16 = true ∧ Program.bytesOf Tryz.prog 16 = 8 := by refine ⟨?_, ?_, ?_, ?_, ?_, ?_, ?_, ?_⟩ <;> kernel_rfl
@[simp] theorem ty17 : szT Tryz.prog 17 = 1 ∧ szOb Tryz.prog 17 = 1 ∧ szBx Tryz.prog 17 = 1 ∧ isAggT Tryz.prog 17 = false ∧ okT Tryz.prog 17 = true ∧ okE Tryz.prog 17 = true ∧ okZ Tryz.prog 17 = true ∧ Program.bytesOf Tryz.prog 17 = 8 := by refine ⟨?_, ?_, ?_, ?_, ?_, ?_, ?_, ?_⟩ <;> kernel_rfl
@[simp] theorem ty18 : szT Tryz.prog 18 = 1 ∧ szOb Tryz.prog 18 = 1 ∧ szBx Tryz.prog 18 = 1 ∧ isAggT Tryz.prog 18 = true ∧ okT Tryz.prog 18 = true ∧ okE Tryz.prog 18 = true ∧ okZ Tryz.prog 18 = true ∧ Program.bytesOf Tryz.prog 18 = 8 := by refine ⟨?_, ?_, ?_, ?_, ?_, ?_, ?_, ?_⟩ <;> kernel_rfl
@[simp] theorem ty19 : szT Tryz.prog 19 = 1 ∧ szOb Tryz.prog 19 = 1 ∧ szBx Tryz.prog 19 = 1 ∧ isAggT Tryz.prog 19 = true ∧ okT Tryz.prog 19 = true ∧ okE Tryz.prog 19 = true ∧ okZ Tryz.prog 19 = true ∧ Program.bytesOf Tryz.prog 19 = 8 := by refine ⟨?_, ?_, ?_, ?_, ?_, ?_, ?_, ?_⟩ <;> kernel_rfl
@[simp] theorem ty20 : szT Tryz.prog 20 = 1 ∧ szOb Tryz.prog 20 = 1 ∧ szBx Tryz.prog 20 = 1 ∧ isAggT Tryz.prog 20 = false ∧ okT Tryz.prog 20 = true ∧ okE Tryz.prog 20 = true ∧ okZ Tryz.prog 20 = true ∧ Program.bytesOf Tryz.prog 20 = 16 := by refine ⟨?_, ?_, ?_, ?_, ?_, ?_, ?_, ?_⟩ <;> kernel_rfl
@[simp] theorem ty21 : szT Tryz.prog 21 = 1 ∧ szOb Tryz.prog 21 = 1 ∧ szBx Tryz.prog 21 = 1 ∧ isAggT Tryz.prog 21 = false ∧ okT Tryz.prog 21 = true ∧ okE Tryz.prog 21 = true ∧ okZ Tryz.prog 21 = true ∧ Program.bytesOf Tryz.prog 21 = 4 := by refine ⟨?_, ?_, ?_, ?_, ?_, ?_, ?_, ?_⟩ <;> kernel_rfl
@[simp] theorem ty22 : szT Tryz.prog 22 = 1 ∧ szOb Tryz.prog 22 = 1 ∧ szBx Tryz.prog 22 = 1 ∧ isAggT Tryz.prog 22 = false ∧ okT Tryz.prog 22 = true ∧ okE Tryz.prog 22 = true ∧ okZ Tryz.prog 22 = true ∧ Program.bytesOf Tryz.prog 22 = 4 := by refine ⟨?_, ?_, ?_, ?_, ?_, ?_, ?_, ?_⟩ <;> kernel_rfl
@[simp] theorem ty23 : szT Tryz.prog 23 = 32 ∧ leavesX Tryz.prog 23 = some (List.replicate 32 0) ∧ szOb Tryz.prog 23 = 1 ∧ szBx Tryz.prog 23 = 1 ∧ isAggT Tryz.prog 23 = true ∧ okT Tryz.prog 23 = true ∧ okE Tryz.prog 23 = true ∧ okZ Tryz.prog 23 = true ∧ Program.bytesOf Tryz.prog 23 = 32 := by refine ⟨?_, ?_, ?_, ?_, ?_, ?_, ?_, ?_, ?_⟩ <;> kernel_rfl
@[simp] theorem ty24 : szT Tryz.prog 24 = 32 ∧ leavesX Tryz.prog 24 = some (List.replicate 32 0) ∧ szOb Tryz.prog 24 = 1 ∧ szBx Tryz.prog 24 = 1 ∧ isAggT Tryz.prog 24 = true ∧ okT Tryz.prog 24 = true ∧ okE Tryz.prog 24 = true ∧ okZ Tryz.prog 24 = true ∧ Program.bytesOf Tryz.prog 24 = 32 := by refine ⟨?_, ?_, ?_, ?_, ?_, ?_, ?_, ?_, ?_⟩ <;> kernel_rfl
@[simp] theorem ty25 : szT Tryz.prog 25 = 1 ∧ szOb Tryz.prog 25 = 1 ∧ szBx Tryz.prog 25 = 1 ∧ isAggT Tryz.prog 25 = false ∧ okT Tryz.prog 25 = true ∧ okE Tryz.prog 25 = true ∧ okZ Tryz.prog 25 = true ∧ Program.bytesOf Tryz.prog 25 = 8 := by refine ⟨?_, ?_, ?_, ?_, ?_, ?_, ?_, ?_⟩ <;> kernel_rfl
@[simp] theorem ty26 : szT Tryz.prog 26 = 66 ∧ leavesX Tryz.prog 26 = some (List.replicate 66 0) ∧ szOb Tryz.prog 26 = 1 ∧ szBx Tryz.prog 26 = 1 ∧ isAggT Tryz.prog 26 = true ∧ okT Tryz.prog 26 = true ∧ okE Tryz.prog 26 = true ∧ okZ Tryz.prog 26 = true ∧ Program.bytesOf Tryz.prog 26 = 80 := by refine ⟨?_, ?_, ?_, ?_, ?_, ?_, ?_, ?_, ?_⟩ <;> kernel_rfl
@[simp] theorem ty27 : szT Tryz.prog 27 = 66 ∧ leavesX Tryz.prog 27 = some (List.replicate 66 0) ∧ szOb Tryz.prog 27 = 1 ∧ szBx Tryz.prog 27 = 1 ∧ isAggT Tryz.prog 27 = true ∧ okT Tryz.prog 27 = true ∧ okE Tryz.prog 27 = true ∧ okZ Tryz.prog 27 = true ∧ Program.bytesOf Tryz.prog 27 = 80 := by refine ⟨?_, ?_, ?_, ?_, ?_, ?_, ?_, ?_, ?_⟩ <;> kernel_rfl
@[simp] theorem ty28 : szT Tryz.prog 28 = 104 ∧ leavesX Tryz.prog 28 = some (List.replicate 104 0) ∧ szOb Tryz.prog 28 = 1 ∧ szBx Tryz.prog 28 = 1 ∧ isAggT Tryz.prog 28 = true ∧ okT Tryz.prog 28 = true ∧ okE Tryz.prog 28 = true ∧ okZ Tryz.prog 28 = true ∧ Program.bytesOf Tryz.prog 28 = 160 := by refine ⟨?_, ?_, ?_, ?_, ?_, ?_, ?_, ?_, ?_⟩ <;> kernel_rfl
@[simp] theorem ty29 : szT Tryz.prog 29 = 104 ∧ leavesX Tryz.prog 29 = some (List.replicate 104 0) ∧ szOb Tryz.prog 29 = 1 ∧ szBx Tryz.prog 29 = 1 ∧ isAggT Tryz.prog 29 = true ∧ okT Tryz.prog 29 = true ∧ okE Tryz.prog 29 = true ∧ okZ Tryz.prog 29 = true ∧ Program.bytesOf Tryz.prog 29 = 160 := by refine ⟨?_, ?_, ?_, ?_, ?_, ?_, ?_, ?_, ?_⟩ <;> kernel_rfl
@[simp] theorem ty30 : szT Tryz.prog 30 = 1 ∧ szOb Tryz.prog 30 = 1 ∧ szBx Tryz.prog 30 = 1 ∧ isAggT Tryz.prog 30 = false ∧ okT Tryz.prog 30 = true ∧ okE Tryz.prog 30 = true ∧ okZ Tryz.prog 30 = true ∧ Program.bytesOf Tryz.prog 30 = 8 := by refine ⟨?_, ?_, ?_, ?_, ?_, ?_, ?_, ?_⟩ <;> kernel_rfl
@[simp] theorem ty31 : szT Tryz.prog 31 = 1 ∧ szOb Tryz.prog 31 = 1 ∧ szBx Tryz.prog 31 = 1 ∧ isAggT Tryz.prog 31 = false ∧ okT Tryz.prog 31 = true ∧ okE Tryz.prog 31 = true ∧ okZ Tryz.prog 31 = true ∧ Program.bytesOf Tryz.prog 31 = 0 := by refine ⟨?_, ?_, ?_, ?_, ?_, ?_, ?_, ?_⟩ <;> kernel_rfl
@[simp] theorem ty32 : szT Tryz.prog 32 = 1 ∧ szOb Tryz.prog 32 = 1 ∧ szBx Tryz.prog 32 = 1 ∧ isAggT Tryz.prog 32 = false ∧ okT Tryz.prog 32 = true ∧ okE Tryz.prog 32 = true ∧ okZ Tryz.prog 32 = true ∧ Program.bytesOf Tryz.prog 32 = 8 := by refine ⟨?_, ?_, ?_, ?_, ?_, ?_, ?_, ?_⟩ <;> kernel_rfl
@[simp] theorem ty33 : szT Tryz.prog 33 = 1 ∧ szOb Tryz.prog 33 = 1 ∧ szBx Tryz.prog 33 = 1 ∧ isAggT Tryz.prog 33 = false ∧ okT Tryz.prog 33 = true ∧ okE Tryz.prog 33 = true ∧ okZ Tryz.prog 33 = true ∧ Program.bytesOf Tryz.prog 33 = 8 := by refine ⟨?_, ?_, ?_, ?_, ?_, ?_, ?_, ?_⟩ <;> kernel_rfl
@[simp] theorem ty34 : szT Tryz.prog 34 = 1 ∧ szOb Tryz.prog 34 = 1 ∧ szBx Tryz.prog 34 = 1 ∧ isAggT Tryz.prog 34 = false ∧ okT Tryz.prog 34 = true ∧ okE Tryz.prog 34 = true ∧ okZ Tryz.prog 34 = true ∧ Program.bytesOf Tryz.prog 34 = 8 := by refine ⟨?_, ?_, ?_, ?_, ?_, ?_, ?_, ?_⟩ <;> kernel_rfl
@[simp] theorem ty35 : szT Tryz.prog 35 = 1 ∧ szOb Tryz.prog 35 = 1 ∧ szBx Tryz.prog 35 = 1 ∧ isAggT Tryz.prog 35 = false ∧ okT Tryz.prog 35 = true ∧ okE Tryz.prog 35 = true ∧ okZ Tryz.prog 35 = true ∧ Program.bytesOf Tryz.prog 35 = 0 := by refine ⟨?_, ?_, ?_, ?_, ?_, ?_, ?_, ?_⟩ <;> kernel_rfl
@[simp] theorem ty36 : szT Tryz.prog 36 = 1 ∧ szOb Tryz.prog 36 = 1 ∧ szBx Tryz.prog 36 = 1 ∧ isAggT Tryz.prog 36 = false ∧ okT Tryz.prog 36 = true ∧ okE Tryz.prog 36 = true ∧ okZ Tryz.prog 36 = true ∧ Program.bytesOf Tryz.prog 36 = 8 := by refine ⟨?_, ?_, ?_, ?_, ?_, ?_, ?_, ?_⟩ <;> kernel_rfl
@[simp] theorem ty37 : szT Tryz.prog 37 = 1 ∧ szOb Tryz.prog 37 = 1 ∧ szBx Tryz.prog 37 = 1 ∧ isAggT Tryz.prog 37 = false ∧ okT Tryz.prog 37 = true ∧ okE Tryz.prog 37 = true ∧ okZ Tryz.prog 37 = true ∧ Program.bytesOf Tryz.prog 37 = 8 := by refine ⟨?_, ?_, ?_, ?_, ?_, ?_, ?_, ?_⟩ <;> kernel_rfl
@[simp] theorem ty38 : szT Tryz.prog 38 = 1 ∧ szOb Tryz.prog 38 = 1 ∧ szBx Tryz.prog 38 = 1 ∧ isAggT Tryz.prog 38 = false ∧ okT Tryz.prog 38 = true ∧ okE Tryz.prog 38 = true ∧ okZ Tryz.prog 38 = true ∧ Program.bytesOf Tryz.prog 38 = 8 := by refine ⟨?_, ?_, ?_, ?_, ?_, ?_, ?_, ?_⟩ <;> kernel_rfl
@[simp] theorem ty39 : szT Tryz.prog 39 = 1 ∧ szOb Tryz.prog 39 = 1 ∧ szBx Tryz.prog 39 = 1 ∧ isAggT Tryz.prog 39 = false ∧ okT Tryz.prog 39 = true ∧ okE Tryz.prog 39 = true ∧ okZ Tryz.prog 39 = true ∧ Program.bytesOf Tryz.prog 39 = 24 := by refine ⟨?_, ?_, ?_, ?_, ?_, ?_, ?_, ?_⟩ <;> kernel_rfl
@[simp] theorem ty40 : szT Tryz.prog 40 = 67 ∧ szOb Tryz.prog 40 = 67 ∧ szBx Tryz.prog 40 = 67 ∧ isAggT Tryz.prog 40 = true ∧ okT Tryz.prog 40 = true ∧ okE Tryz.prog 40 = true ∧ okZ Tryz.prog 40 = true ∧ Program.bytesOf Tryz.prog 40 = 104 := by refine ⟨?_, ?_, ?_, ?_, ?_, ?_, ?_, ?_⟩ <;> kernel_rfl
@[simp] theorem ty41 : szT Tryz.prog 41 = 67 ∧ szOb Tryz.prog 41 = 67 ∧ szBx Tryz.prog 41 = 67 ∧ isAggT Tryz.prog 41 = true ∧ okT Tryz.prog 41 = true ∧ okE Tryz.prog 41 = true ∧ okZ Tryz.prog 41 = true ∧ Program.bytesOf Tryz.prog 41 = 104 := by refine ⟨?_, ?_, ?_, ?_, ?_, ?_, ?_, ?_⟩ <;> kernel_rfl
@[simp] theorem ty42 : szT Tryz.prog 42 = 1 ∧ szOb Tryz.prog 42 = 1 ∧ szBx Tryz.prog 42 = 1 ∧ isAggT Tryz.prog 42 = false ∧ okT Tryz.prog 42 = true ∧ okE Tryz.prog 42 = true ∧ okZ Tryz.prog 42 = true ∧ Program.bytesOf Tryz.prog 42 = 8 := by refine ⟨?_, ?_, ?_, ?_, ?_, ?_, ?_, ?_⟩ <;> kernel_rfl
@[simp] theorem ty43 : szT Tryz.prog 43 = 1 ∧ szOb Tryz.prog 43 = 1 ∧ szBx Tryz.prog 43 = 1 ∧ isAggT Tryz.prog 43 = false ∧ okT Tryz.prog 43 = true ∧ okE Tryz.prog 43 = true ∧ okZ Tryz.prog 43 = true ∧ Program.bytesOf Tryz.prog 43 = 24 := by refine ⟨?_, ?_, ?_, ?_, ?_, ?_, ?_, ?_⟩ <;> kernel_rfl
@[simp] theorem ty44 : szT Tryz.prog 44 = 1 ∧ szOb Tryz.prog 44 = 1 ∧ szBx Tryz.prog 44 = 1 ∧ isAggT Tryz.prog 44 = false ∧ okT Tryz.prog 44 = true ∧ okE Tryz.prog 44 = true ∧ okZ Tryz.prog 44 = true ∧ Program.bytesOf Tryz.prog 44 = 8 := by refine ⟨?_, ?_, ?_, ?_, ?_, ?_, ?_, ?_⟩ <;> kernel_rfl
@[simp] theorem ty45 : szT Tryz.prog 45 = 1 ∧ szOb Tryz.prog 45 = 1 ∧ szBx Tryz.prog 45 = 1 ∧ isAggT Tryz.prog 45 = false ∧ okT Tryz.prog 45 = true ∧ okE Tryz.prog 45 = true ∧ okZ Tryz.prog 45 = true ∧ Program.bytesOf Tryz.prog 45 = 0 := by refine ⟨?_, ?_, ?_, ?_, ?_, ?_, ?_, ?_⟩ <;> kernel_rfl
@[simp] theorem ty46 : szT Tryz.prog 46 = 1 ∧ szOb Tryz.prog 46 = 1 ∧ szBx Tryz.prog 46 = 1 ∧ isAggT Tryz.prog 46 = false ∧ okT Tryz.prog 46 = true ∧ okE Tryz.prog 46 = true ∧ okZ Tryz.prog 46 = true ∧ Program.bytesOf Tryz.prog 46 = 8 := by refine ⟨?_, ?_, ?_, ?_, ?_, ?_, ?_, ?_⟩ <;> kernel_rfl
@[simp] theorem ty47 : szT Tryz.prog 47 = 1 ∧ szOb Tryz.prog 47 = 1 ∧ szBx Tryz.prog 47 = 1 ∧ isAggT Tryz.prog 47 = false ∧ okT Tryz.prog 47 = true ∧ okE Tryz.prog 47 = true ∧ okZ Tryz.prog 47 = true ∧ Program.bytesOf Tryz.prog 47 = 0 := by refine ⟨?_, ?_, ?_, ?_, ?_, ?_, ?_, ?_⟩ <;> kernel_rfl
@[simp] theorem ty48 : szT Tryz.prog 48 = 1 ∧ szOb Tryz.prog 48 = 1 ∧ szBx Tryz.prog 48 = 1 ∧ isAggT Tryz.prog 48 = false ∧ okT Tryz.prog 48 = true ∧ okE Tryz.prog 48 = true ∧ okZ Tryz.prog 48 = true ∧ Program.bytesOf Tryz.prog 48 = 8 := by refine ⟨?_, ?_, ?_, ?_, ?_, ?_, ?_, ?_⟩ <;> kernel_rfl
@[simp] theorem ty49 : szT Tryz.prog 49 = 1 ∧ szOb Tryz.prog 49 = 1 ∧ szBx Tryz.prog 49 = 1 ∧ isAggT Tryz.prog 49 = false ∧ okT Tryz.prog 49 = true ∧ okE Tryz.prog 49 = true ∧ okZ Tryz.prog 49 = true ∧ Program.bytesOf Tryz.prog 49 = 8 := by refine ⟨?_, ?_, ?_, ?_, ?_, ?_, ?_, ?_⟩ <;> kernel_rfl
@[simp] theorem ty50 : szT Tryz.prog 50 = 1 ∧ szOb Tryz.prog 50 = 1 ∧ szBx Tryz.prog 50 = 1 ∧ isAggT Tryz.prog 50 = false ∧ okT Tryz.prog 50 = true ∧ okE Tryz.prog 50 = true ∧ okZ Tryz.prog 50 = true ∧ Program.bytesOf Tryz.prog 50 = 8 := by refine ⟨?_, ?_, ?_, ?_, ?_, ?_, ?_, ?_⟩ <;> kernel_rfl
@[simp] theorem ty51 : szT Tryz.prog 51 = 1 ∧ szOb Tryz.prog 51 = 1 ∧ szBx Tryz.prog 51 = 1 ∧ isAggT Tryz.prog 51 = false ∧ okT Tryz.prog 51 = true ∧ okE Tryz.prog 51 = true ∧ okZ Tryz.prog 51 = true ∧ Program.bytesOf Tryz.prog 51 = 8 := by refine ⟨?_, ?_, ?_, ?_, ?_, ?_, ?_, ?_⟩ <;> kernel_rfl
@[simp] theorem ty52 : szT Tryz.prog 52 = 1 ∧ szOb Tryz.prog 52 = 1 ∧ szBx Tryz.prog 52 = 1 ∧ isAggT Tryz.prog 52 = false ∧ okT Tryz.prog 52 = true ∧ okE Tryz.prog 52 = true ∧ okZ Tryz.prog 52 = true ∧ Program.bytesOf Tryz.prog 52 = 24 := by refine ⟨?_, ?_, ?_, ?_, ?_, ?_, ?_, ?_⟩ <;> kernel_rfl
@[simp] theorem ty53 : szT Tryz.prog 53 = 1 ∧ szOb Tryz.prog 53 = 1 ∧ szBx Tryz.prog 53 = 1 ∧ isAggT Tryz.prog 53 = false ∧ okT Tryz.prog 53 = true ∧ okE Tryz.prog 53 = true ∧ okZ Tryz.prog 53 = true ∧ Program.bytesOf Tryz.prog 53 = 8 := by refine ⟨?_, ?_, ?_, ?_, ?_, ?_, ?_, ?_⟩ <;> kernel_rfl
@[simp] theorem ty54 : szT Tryz.prog 54 = 1 ∧ szOb Tryz.prog 54 = 1 ∧ szBx Tryz.prog 54 = 1 ∧ isAggT Tryz.prog 54 = false ∧ okT Tryz.prog 54 = true ∧ okE Tryz.prog 54 = true ∧ okZ Tryz.prog 54 = true ∧ Program.bytesOf Tryz.prog 54 = 8 := by refine ⟨?_, ?_, ?_, ?_, ?_, ?_, ?_, ?_⟩ <;> kernel_rfl
@[simp] theorem ty55 : szT Tryz.prog 55 = 1 ∧ szOb Tryz.prog 55 = 1 ∧ szBx Tryz.prog 55 = 1 ∧ isAggT Tryz.prog 55 = false ∧ okT Tryz.prog 55 = true ∧ okE Tryz.prog 55 = true ∧ okZ Tryz.prog 55 = true ∧ Program.bytesOf Tryz.prog 55 = 8 := by refine ⟨?_, ?_, ?_, ?_, ?_, ?_, ?_, ?_⟩ <;> kernel_rfl
@[simp] theorem ty56 : szT Tryz.prog 56 = 1 ∧ szOb Tryz.prog 56 = 1 ∧ szBx Tryz.prog 56 = 1 ∧ isAggT Tryz.prog 56 = false ∧ okT Tryz.prog 56 = true ∧ okE Tryz.prog 56 = true ∧ okZ Tryz.prog 56 = true ∧ Program.bytesOf Tryz.prog 56 = 8 := by refine ⟨?_, ?_, ?_, ?_, ?_, ?_, ?_, ?_⟩ <;> kernel_rfl
@[simp] theorem ty57 : szT Tryz.prog 57 = 1 ∧ szOb Tryz.prog 57 = 1 ∧ szBx Tryz.prog 57 = 1 ∧ isAggT Tryz.prog 57 = false ∧ okT Tryz.prog 57 = true ∧ okE Tryz.prog 57 = true ∧ okZ Tryz.prog 57 = true ∧ Program.bytesOf Tryz.prog 57 = 8 := by refine ⟨?_, ?_, ?_, ?_, ?_, ?_, ?_, ?_⟩ <;> kernel_rfl
@[simp] theorem ty58 : szT Tryz.prog 58 = 1 ∧ szOb Tryz.prog 58 = 1 ∧ szBx Tryz.prog 58 = 1 ∧ isAggT Tryz.prog 58 = false ∧ okT Tryz.prog 58 = true ∧ okE Tryz.prog 58 = true ∧ okZ Tryz.prog 58 = true ∧ Program.bytesOf Tryz.prog 58 = 8 := by refine ⟨?_, ?_, ?_, ?_, ?_, ?_, ?_, ?_⟩ <;> kernel_rfl
@[simp] theorem ty59 : szT Tryz.prog 59 = 1 ∧ szOb Tryz.prog 59 = 1 ∧ szBx Tryz.prog 59 = 1 ∧ isAggT Tryz.prog 59 = false ∧ okT Tryz.prog 59 = true ∧ okE Tryz.prog 59 = true ∧ okZ Tryz.prog 59 = true ∧ Program.bytesOf Tryz.prog 59 = 8 := by refine ⟨?_, ?_, ?_, ?_, ?_, ?_, ?_, ?_⟩ <;> kernel_rfl
@[simp] theorem ty60 : szT Tryz.prog 60 = 1 ∧ szOb Tryz.prog 60 = 1 ∧ szBx Tryz.prog 60 = 1 ∧ isAggT Tryz.prog 60 = false ∧ okT Tryz.prog 60 = true ∧ okE Tryz.prog 60 = true ∧ okZ Tryz.prog 60 = true ∧ Program.bytesOf Tryz.prog 60 = 8 := by refine ⟨?_, ?_, ?_, ?_, ?_, ?_, ?_, ?_⟩ <;> kernel_rfl
@[simp] theorem ty61 : szT Tryz.prog 61 = 1 ∧ szOb Tryz.prog 61 = 1 ∧ szBx Tryz.prog 61 = 1 ∧ isAggT Tryz.prog 61 = false ∧ okT Tryz.prog 61 = true ∧ okE Tryz.prog 61 = true ∧ okZ Tryz.prog 61 = true ∧ Program.bytesOf Tryz.prog 61 = 24 := by refine ⟨?_, ?_, ?_, ?_, ?_, ?_, ?_, ?_⟩ <;> kernel_rfl
@[simp] theorem ty62 : szT Tryz.prog 62 = 1 ∧ szOb Tryz.prog 62 = 1 ∧ szBx Tryz.prog 62 = 1 ∧ isAggT Tryz.prog 62 = false ∧ okT Tryz.prog 62 = true ∧ okE Tryz.prog 62 = true ∧ okZ Tryz.prog 62 = true ∧ Program.bytesOf Tryz.prog 62 = 8 := by refine ⟨?_, ?_, ?_, ?_, ?_, ?_, ?_, ?_⟩ <;> kernel_rfl
@[simp] theorem ty63 : szT Tryz.prog 63 = 1 ∧ szOb Tryz.prog 63 = 1 ∧ szBx Tryz.prog 63 = 1 ∧ isAggT Tryz.prog 63 = false ∧ okT Tryz.prog 63 = true ∧ okE Tryz.prog 63 = true ∧ okZ Tryz.prog 63 = true ∧ Program.bytesOf Tryz.prog 63 = 8 := by refine ⟨?_, ?_, ?_, ?_, ?_, ?_, ?_, ?_⟩ <;> kernel_rfl
@[simp] theorem ty64 : szT Tryz.prog 64 = 1 ∧ szOb Tryz.prog 64 = 1 ∧ szBx Tryz.prog 64 = 1 ∧ isAggT Tryz.prog 64 = false ∧ okT Tryz.prog 64 = true ∧ okE Tryz.prog 64 = true ∧ okZ Tryz.prog 64 = true ∧ Program.bytesOf Tryz.prog 64 = 8 := by refine ⟨?_, ?_, ?_, ?_, ?_, ?_, ?_, ?_⟩ <;> kernel_rfl
@[simp] theorem ty65 : szT Tryz.prog 65 = 1 ∧ szOb Tryz.prog 65 = 1 ∧ szBx Tryz.prog 65 = 1 ∧ isAggT Tryz.prog 65 = false ∧ okT Tryz.prog 65 = true ∧ okE Tryz.prog 65 = true ∧ okZ Tryz.prog 65 = true ∧ Program.bytesOf Tryz.prog 65 = 8 := by refine ⟨?_, ?_, ?_, ?_, ?_, ?_, ?_, ?_⟩ <;> kernel_rfl
@[simp] theorem ty66 : szT Tryz.prog 66 = 1 ∧ szOb Tryz.prog 66 = 1 ∧ szBx Tryz.prog 66 = 1 ∧ isAggT Tryz.prog 66 = false ∧ okT Tryz.prog 66 = true ∧ okE Tryz.prog 66 = true ∧ okZ Tryz.prog 66 = true ∧ Program.bytesOf Tryz.prog 66 = 8 := by refine ⟨?_, ?_, ?_, ?_, ?_, ?_, ?_, ?_⟩ <;> kernel_rfl
@[simp] theorem ty67 : szT Tryz.prog 67 = 2 ∧ leavesX Tryz.prog 67 = some [2, 0] ∧ szOb Tryz.prog 67 = 2 ∧ szBx Tryz.prog 67 = 2 ∧ isAggT Tryz.prog 67 = true ∧ okT Tryz.prog 67 = true ∧ okE Tryz.prog 67 = true ∧ okZ Tryz.prog 67 = true ∧ Program.bytesOf Tryz.prog 67 = 24 := by refine ⟨?_, ?_, ?_, ?_, ?_, ?_, ?_, ?_, ?_⟩ <;> kernel_rfl
@[simp] theorem ty68 : szT Tryz.prog 68 = 2 ∧ leavesX Tryz.prog 68 = some [2, 0] ∧ szOb Tryz.prog 68 = 2 ∧ szBx Tryz.prog 68 = 2 ∧ isAggT Tryz.prog 68 = true ∧ okT Tryz.prog 68 = true ∧ okE Tryz.prog 68 = true ∧ okZ Tryz.prog 68 = true ∧ Program.bytesOf Tryz.prog 68 = 24 := by refine ⟨?_, ?_, ?_, ?_, ?_, ?_, ?_, ?_, ?_⟩ <;> kernel_rfl
@[simp] theorem ty69 : szT Tryz.prog 69 = 1 ∧ szOb Tryz.prog 69 = 1 ∧ szBx Tryz.prog 69 = 1 ∧ isAggT Tryz.prog 69 = false ∧ okT Tryz.prog 69 = true ∧ okE Tryz.prog 69 = true ∧ okZ Tryz.prog 69 = true ∧ Program.bytesOf Tryz.prog 69 = 0 := by refine ⟨?_, ?_, ?_, ?_, ?_, ?_, ?_, ?_⟩ <;> kernel_rfl
@[simp] theorem ty70 : szT Tryz.prog 70 = 1 ∧ szOb Tryz.prog 70 = 1 ∧ szBx Tryz.prog 70 = 1 ∧ isAggT Tryz.prog 70 = false ∧ okT Tryz.prog 70 = true ∧ okE Tryz.prog 70 = true ∧ okZ Tryz.prog 70 = true ∧ Program.bytesOf Tryz.prog 70 = 8 := by refine ⟨?_, ?_, ?_, ?_, ?_, ?_, ?_, ?_⟩ <;> kernel_rfl
@[simp] theorem ty71 : szT Tryz.prog 71 = 1 ∧ szOb Tryz.prog 71 = 1 ∧ szBx Tryz.prog 71 = 1 ∧ isAggT Tryz.prog 71 = false ∧ okT Tryz.prog 71 = true ∧ okE Tryz.prog 71 = true ∧ okZ Tryz.prog 71 = true ∧ Program.bytesOf Tryz.prog 71 = 0 := by refine ⟨?_, ?_, ?_, ?_, ?_, ?_, ?_, ?_⟩ <;> kernel_rfl
@[simp] theorem ty72 : szT Tryz.prog 72 = 1 ∧ szOb Tryz.prog 72 = 1 ∧ szBx Tryz.prog 72 = 1 ∧ isAggT Tryz.prog 72 = false ∧ okT Tryz.prog 72 = true ∧ okE Tryz.prog 72 = true ∧ okZ Tryz.prog 72 = true ∧ Program.bytesOf Tryz.prog 72 = 8 := by refine ⟨?_, ?_, ?_, ?_, ?_, ?_, ?_, ?_⟩ <;> kernel_rfl
@[simp] theorem ty73 : szT Tryz.prog 73 = 1 ∧ szOb Tryz.prog 73 = 1 ∧ szBx Tryz.prog 73 = 1 ∧ isAggT Tryz.prog 73 = false ∧ okT Tryz.prog 73 = true ∧ okE Tryz.prog 73 = true ∧ okZ Tryz.prog 73 = true ∧ Program.bytesOf Tryz.prog 73 = 24 := by refine ⟨?_, ?_, ?_, ?_, ?_, ?_, ?_, ?_⟩ <;> kernel_rfl
@[simp] theorem ty74 : szT Tryz.prog 74 = 1 ∧ szOb Tryz.prog 74 = 1 ∧ szBx Tryz.prog 74 = 1 ∧ isAggT Tryz.prog 74 = false ∧ okT Tryz.prog 74 = true ∧ okE Tryz.prog 74 = true ∧ okZ Tryz.prog 74 = true ∧ Program.bytesOf Tryz.prog 74 = 0 := by refine ⟨?_, ?_, ?_, ?_, ?_, ?_, ?_, ?_⟩ <;> kernel_rfl
@[simp] theorem ty75 : szT Tryz.prog 75 = 1 ∧ szOb Tryz.prog 75 = 1 ∧ szBx Tryz.prog 75 = 1 ∧ isAggT Tryz.prog 75 = false ∧ okT Tryz.prog 75 = true ∧ okE Tryz.prog 75 = true ∧ okZ Tryz.prog 75 = true ∧ Program.bytesOf Tryz.prog 75 = 8 := by refine ⟨?_, ?_, ?_, ?_, ?_, ?_, ?_, ?_⟩ <;> kernel_rfl
@[simp] theorem ty76 : szT Tryz.prog 76 = 1 ∧ szOb Tryz.prog 76 = 1 ∧ szBx Tryz.prog 76 = 1 ∧ isAggT Tryz.prog 76 = false ∧ okT Tryz.prog 76 = true ∧ okE Tryz.prog 76 = true ∧ okZ Tryz.prog 76 = true ∧ Program.bytesOf Tryz.prog 76 = 8 := by refine ⟨?_, ?_, ?_, ?_, ?_, ?_, ?_, ?_⟩ <;> kernel_rfl
@[simp] theorem ty77 : szT Tryz.prog 77 = 1 ∧ szOb Tryz.prog 77 = 1 ∧ szBx Tryz.prog 77 = 1 ∧ isAggT Tryz.prog 77 = false ∧ okT Tryz.prog 77 = true ∧ okE Tryz.prog 77 = true ∧ okZ Tryz.prog 77 = true ∧ Program.bytesOf Tryz.prog 77 = 8 := by refine ⟨?_, ?_, ?_, ?_, ?_, ?_, ?_, ?_⟩ <;> kernel_rfl
@[simp] theorem ty78 : szT Tryz.prog 78 = 1 ∧ szOb Tryz.prog 78 = 1 ∧ szBx Tryz.prog 78 = 1 ∧ isAggT Tryz.prog 78 = false ∧ okT Tryz.prog 78 = true ∧ okE Tryz.prog 78 = true ∧ okZ Tryz.prog 78 = true ∧ Program.bytesOf Tryz.prog 78 = 8 := by refine ⟨?_, ?_, ?_, ?_, ?_, ?_, ?_, ?_⟩ <;> kernel_rfl
@[simp] theorem ty79 : szT Tryz.prog 79 = 1 ∧ szOb Tryz.prog 79 = 1 ∧ szBx Tryz.prog 79 = 1 ∧ isAggT Tryz.prog 79 = false ∧ okT Tryz.prog 79 = true ∧ okE Tryz.prog 79 = true ∧ okZ Tryz.prog 79 = true ∧ Program.bytesOf Tryz.prog 79 = 8 := by refine ⟨?_, ?_, ?_, ?_, ?_, ?_, ?_, ?_⟩ <;> kernel_rfl
@[simp] theorem ty80 : szT Tryz.prog 80 = 1 ∧ szOb Tryz.prog 80 = 1 ∧ szBx Tryz.prog 80 = 1 ∧ isAggT Tryz.prog 80 = false ∧ okT Tryz.prog 80 = true ∧ okE Tryz.prog 80 = true ∧ okZ Tryz.prog 80 = true ∧ Program.bytesOf Tryz.prog 80 = 8 := by refine ⟨?_, ?_, ?_, ?_, ?_, ?_, ?_, ?_⟩ <;> kernel_rfl
@[simp] theorem ty81 : szT Tryz.prog 81 = 1 ∧ szOb Tryz.prog 81 = 1 ∧ szBx Tryz.prog 81 = 1 ∧ isAggT Tryz.prog 81 = false ∧ okT Tryz.prog 81 = true ∧ okE Tryz.prog 81 = true ∧ okZ Tryz.prog 81 = true ∧ Program.bytesOf Tryz.prog 81 = 8 := by refine ⟨?_, ?_, ?_, ?_, ?_, ?_, ?_, ?_⟩ <;> kernel_rfl
@[simp] theorem ty82 : szT Tryz.prog 82 = 1 ∧ szOb Tryz.prog 82 = 1 ∧ szBx Tryz.prog 82 = 1 ∧ isAggT Tryz.prog 82 = false ∧ okT Tryz.prog 82 = true ∧ okE Tryz.prog 82 = true ∧ okZ Tryz.prog 82 = true ∧ Program.bytesOf Tryz.prog 82 = 8 := by refine ⟨?_, ?_, ?_, ?_, ?_, ?_, ?_, ?_⟩ <;> kernel_rfl
@[simp] theorem ty83 : szT Tryz.prog 83 = 1 ∧ szOb Tryz.prog 83 = 1 ∧ szBx Tryz.prog 83 = 1 ∧ isAggT Tryz.prog 83 = false ∧ okT Tryz.prog 83 = true ∧ okE Tryz.prog 83 = true ∧ okZ Tryz.prog 83 = true ∧ Program.bytesOf Tryz.prog 83 = 8 := by refine ⟨?_, ?_, ?_, ?_, ?_, ?_, ?_, ?_⟩ <;> kernel_rfl
@[simp] theorem ty84 : szT Tryz.prog 84 = 1 ∧ szOb Tryz.prog 84 = 1 ∧ szBx Tryz.prog 84 = 1 ∧ isAggT Tryz.prog 84 = false ∧ okT Tryz.prog 84 = true ∧ okE Tryz.prog 84 = true ∧ okZ Tryz.prog 84 = true ∧ Program.bytesOf Tryz.prog 84 = 8 := by refine ⟨?_, ?_, ?_, ?_, ?_, ?_, ?_, ?_⟩ <;> kernel_rfl
@[simp] theorem ty85 : szT Tryz.prog 85 = 1 ∧ szOb Tryz.prog 85 = 1 ∧ szBx Tryz.prog 85 = 1 ∧ isAggT Tryz.prog 85 = false ∧ okT Tryz.prog 85 = true ∧ okE Tryz.prog 85 = true ∧ okZ Tryz.prog 85 = true ∧ Program.bytesOf Tryz.prog 85 = 8 := by refine ⟨?_, ?_, ?_, ?_, ?_, ?_, ?_, ?_⟩ <;> kernel_rfl
@[simp] theorem ty86 : szT Tryz.prog 86 = 1 ∧ szOb Tryz.prog 86 = 1 ∧ szBx Tryz.prog 86 = 1 ∧ isAggT Tryz.prog 86 = false ∧ okT Tryz.prog 86 = true ∧ okE Tryz.prog 86 = true ∧ okZ Tryz.prog 86 = true ∧ Program.bytesOf Tryz.prog 86 = 8 := by refine ⟨?_, ?_, ?_, ?_, ?_, ?_, ?_, ?_⟩ <;> kernel_rfl
@[simp] theorem ty87 : szT Tryz.prog 87 = 1 ∧ szOb Tryz.prog 87 = 1 ∧ szBx Tryz.prog 87 = 1 ∧ isAggT Tryz.prog 87 = false ∧ okT Tryz.prog 87 = true ∧ okE Tryz.prog 87 = true ∧ okZ Tryz.prog 87 = true ∧ Program.bytesOf Tryz.prog 87 = 8 := by refine ⟨?_, ?_, ?_, ?_, ?_, ?_, ?_, ?_⟩ <;> kernel_rfl
@[simp] theorem ty88 : szT Tryz.prog 88 = 1 ∧ szOb Tryz.prog 88 = 1 ∧ szBx Tryz.prog 88 = 1 ∧ isAggT Tryz.prog 88 = false ∧ okT Tryz.prog 88 = true ∧ okE Tryz.prog 88 = true ∧ okZ Tryz.prog 88 = true ∧ Program.bytesOf Tryz.prog 88 = 8 := by refine ⟨?_, ?_, ?_, ?_, ?_, ?_, ?_, ?_⟩ <;> kernel_rfl
@[simp] theorem ty89 : szT Tryz.prog 89 = 1 ∧ szOb Tryz.prog 89 = 1 ∧ szBx Tryz.prog 89 = 1 ∧ isAggT Tryz.prog 89 = false ∧ okT Tryz.prog 89 = true ∧ okE Tryz.prog 89 = true ∧ okZ Tryz.prog 89 = true ∧ Program.bytesOf Tryz.prog 89 = 8 := by refine ⟨?_, ?_, ?_, ?_, ?_, ?_, ?_, ?_⟩ <;> kernel_rfl
@[simp] theorem ty90 : szT Tryz.prog 90 = 1 ∧ szOb Tryz.prog 90 = 1 ∧ szBx Tryz.prog 90 = 1 ∧ isAggT Tryz.prog 90 = false ∧ okT Tryz.prog 90 = true ∧ okE Tryz.prog 90 = true ∧ okZ Tryz.prog 90 = true ∧ Program.bytesOf Tryz.prog 90 = 8 := by refine ⟨?_, ?_, ?_, ?_, ?_, ?_, ?_, ?_⟩ <;> kernel_rfl
@[simp] theorem ty91 : szT Tryz.prog 91 = 2 ∧ leavesX Tryz.prog 91 = some [0, 0] ∧ szOb Tryz.prog 91 = 2 ∧ szBx Tryz.prog 91 = 2 ∧ isAggT Tryz.prog 91 = true ∧ okT Tryz.prog 91 = true ∧ okE Tryz.prog 91 = true ∧ okZ Tryz.prog 91 = true ∧ Program.bytesOf Tryz.prog 91 = 16 := by refine ⟨?_, ?_, ?_, ?_, ?_, ?_, ?_, ?_, ?_⟩ <;> kernel_rfl
@[simp] theorem ty92 : szT Tryz.prog 92 = 2 ∧ leavesX Tryz.prog 92 = some [0, 0] ∧ szOb Tryz.prog 92 = 2 ∧ szBx Tryz.prog 92 = 2 ∧ isAggT Tryz.prog 92 = true ∧ okT Tryz.prog 92 = true ∧ okE Tryz.prog 92 = true ∧ okZ Tryz.prog 92 = true ∧ Program.bytesOf Tryz.prog 92 = 16 := by refine ⟨?_, ?_, ?_, ?_, ?_, ?_, ?_, ?_, ?_⟩ <;> kernel_rfl
@[simp] theorem ty93 : szT Tryz.prog 93 = 1 ∧ szOb Tryz.prog 93 = 1 ∧ szBx Tryz.prog 93 = 1 ∧ isAggT Tryz.prog 93 = false ∧ okT Tryz.prog 93 = true ∧ okE Tryz.prog 93 = true ∧ okZ Tryz.prog 93 = true ∧ Program.bytesOf Tryz.prog 93 = 8 := by refine ⟨?_, ?_, ?_, ?_, ?_, ?_, ?_, ?_⟩ <;> kernel_rfl
@[simp] theorem ty94 : szT Tryz.prog 94 = 1 ∧ szOb Tryz.prog 94 = 1 ∧ szBx Tryz.prog 94 = 1 ∧ isAggT Tryz.prog 94 = false ∧ okT Tryz.prog 94 = true ∧ okE Tryz.prog 94 = true ∧ okZ Tryz.prog 94 = true ∧ Program.bytesOf Tryz.prog 94 = 8 := by refine ⟨?_, ?_, ?_, ?_, ?_, ?_, ?_, ?_⟩ <;> kernel_rfl
@[simp] theorem ty95 : szT Tryz.prog 95 = 1 ∧ szOb Tryz.prog 95 = 1 ∧ szBx Tryz.prog 95 = 1 ∧ isAggT Tryz.prog 95 = false ∧ okT Tryz.prog 95 = true ∧ okE Tryz.prog 95 = true ∧ okZ Tryz.prog 95 = true ∧ Program.bytesOf Tryz.prog 95 = 8 := by refine ⟨?_, ?_, ?_, ?_, ?_, ?_, ?_, ?_⟩ <;> kernel_rfl
@[simp] theorem ty96 : szT Tryz.prog 96 = 137 ∧ szOb Tryz.prog 96 = 1 ∧ szBx Tryz.prog 96 = 1 ∧ isAggT Tryz.prog 96 = true ∧ okT Tryz.prog 96 = true ∧ okE Tryz.prog 96 = true ∧ okZ Tryz.prog 96 = true ∧ Program.bytesOf Tryz.prog 96 = 200 := by refine ⟨?_, ?_, ?_, ?_, ?_, ?_, ?_, ?_⟩ <;> kernel_rfl
@[simp] theorem ty97 : szT Tryz.prog 97 = 137 ∧ szOb Tryz.prog 97 = 1 ∧ szBx Tryz.prog 97 = 1 ∧ isAggT Tryz.prog 97 = true ∧ okT Tryz.prog 97 = true ∧ okE Tryz.prog 97 = true ∧ okZ Tryz.prog 97 = true ∧ Program.bytesOf Tryz.prog 97 = 200 := by refine ⟨?_, ?_, ?_, ?_, ?_, ?_, ?_, ?_⟩ <;> kernel_rfl
@[simp] theorem ty98 : szT Tryz.prog 98 = 101 ∧ szOb Tryz.prog 98 = 1 ∧ szBx Tryz.prog 98 = 1 ∧ isAggT Tryz.prog 98 = true ∧ okT Tryz.prog 98 = true ∧ okE Tryz.prog 98 = true ∧ okZ Tryz.prog 98 = true ∧ Program.bytesOf Tryz.prog 98 = 168 := by refine ⟨?_, ?_, ?_, ?_, ?_, ?_, ?_, ?_⟩ <;> kernel_rfl
@[simp] theorem ty99 : szT Tryz.prog 99 = 101 ∧ szOb Tryz.prog 99 = 1 ∧ szBx Tryz.prog 99 = 1 ∧ isAggT Tryz.prog 99 = true ∧ okT Tryz.prog 99 = true ∧ okE Tryz.prog 99 = true ∧ okZ Tryz.prog 99 = true ∧ Program.bytesOf Tryz.prog 99 = 168 := by refine ⟨?_, ?_, ?_, ?_, ?_, ?_, ?_, ?_⟩ <;> kernel_rfl
@[simp] theorem ty100 : szT Tryz.prog 100 = 1 ∧ szOb Tryz.prog 100 = 1 ∧ szBx Tryz.prog 100 = 1 ∧ isAggT Tryz.prog 100 = false ∧ okT Tryz.prog 100 = true ∧ okE Tryz.prog 100 = true ∧ okZ Tryz.prog 100 = true ∧ Program.bytesOf Tryz.prog 100 = 8 := by refine ⟨?_, ?_, ?_, ?_, ?_, ?_, ?_, ?_⟩ <;> kernel_rfl
@[simp] theorem ty101 : szT Tryz.prog 101 = 1 ∧ szOb Tryz.prog 101 = 1 ∧ szBx Tryz.prog 101 = 1 ∧ isAggT Tryz.prog 101 = false ∧ okT Tryz.prog 101 = true ∧ okE Tryz.prog 101 = true ∧ okZ Tryz.prog 101 = true ∧ Program.bytesOf Tryz.prog 101 = 8 := by refine ⟨?_, ?_, ?_, ?_, ?_, ?_, ?_, ?_⟩ <;> kernel_rfl
@[simp] theorem ty102 : szT Tryz.prog 102 = 1 ∧ szOb Tryz.prog 102 = 1 ∧ szBx Tryz.prog 102 = 1 ∧ isAggT Tryz.prog 102 = false ∧ okT Tryz.prog 102 = true ∧ okE Tryz.prog 102 = true ∧ okZ Tryz.prog 102 = true ∧ Program.bytesOf Tryz.prog 102 = 8 := by refine ⟨?_, ?_, ?_, ?_, ?_, ?_, ?_, ?_⟩ <;> kernel_rfl
@[simp] theorem ty103 : szT Tryz.prog 103 = 1 ∧ szOb Tryz.prog 103 = 1 ∧ szBx Tryz.prog 103 = 1 ∧ isAggT Tryz.prog 103 = false ∧ okT Tryz.prog 103 = true ∧ okE Tryz.prog 103 = true ∧ okZ Tryz.prog 103 = true ∧ Program.bytesOf Tryz.prog 103 = 8 := by refine ⟨?_, ?_, ?_, ?_, ?_, ?_, ?_, ?_⟩ <;> kernel_rfl
@[simp] theorem ty104 : szT Tryz.prog 104 = 1 ∧ szOb Tryz.prog 104 = 1 ∧ szBx Tryz.prog 104 = 1 ∧ isAggT Tryz.prog 104 = false ∧ okT Tryz.prog 104 = true ∧ okE Tryz.prog 104 = true ∧ okZ Tryz.prog 104 = true ∧ Program.bytesOf Tryz.prog 104 = 8 := by refine ⟨?_, ?_, ?_, ?_, ?_, ?_, ?_, ?_⟩ <;> kernel_rfl
@[simp] theorem ty105 : szT Tryz.prog 105 = 1 ∧ szOb Tryz.prog 105 = 1 ∧ szBx Tryz.prog 105 = 1 ∧ isAggT Tryz.prog 105 = false ∧ okT Tryz.prog 105 = true ∧ okE Tryz.prog 105 = true ∧ okZ Tryz.prog 105 = true ∧ Program.bytesOf Tryz.prog 105 = 8 := by refine ⟨?_, ?_, ?_, ?_, ?_, ?_, ?_, ?_⟩ <;> kernel_rfl
@[simp] theorem ty106 : szT Tryz.prog 106 = 1 ∧ szOb Tryz.prog 106 = 1 ∧ szBx Tryz.prog 106 = 1 ∧ isAggT Tryz.prog 106 = false ∧ okT Tryz.prog 106 = true ∧ okE Tryz.prog 106 = true ∧ okZ Tryz.prog 106 = true ∧ Program.bytesOf Tryz.prog 106 = 0 := by refine ⟨?_, ?_, ?_, ?_, ?_, ?_, ?_, ?_⟩ <;> kernel_rfl
@[simp] theorem ty107 : szT Tryz.prog 107 = 1 ∧ szOb Tryz.prog 107 = 1 ∧ szBx Tryz.prog 107 = 1 ∧ isAggT Tryz.prog 107 = false ∧ okT Tryz.prog 107 = true ∧ okE Tryz.prog 107 = true ∧ okZ Tryz.prog 107 = true ∧ Program.bytesOf Tryz.prog 107 = 8 := by refine ⟨?_, ?_, ?_, ?_, ?_, ?_, ?_, ?_⟩ <;> kernel_rfl
@[simp] theorem ty108 : szT Tryz.prog 108 = 1 ∧ szOb Tryz.prog 108 = 1 ∧ szBx Tryz.prog 108 = 1 ∧ isAggT Tryz.prog 108 = false ∧ okT Tryz.prog 108 = true ∧ okE Tryz.prog 108 = true ∧ okZ Tryz.prog 108 = true ∧ Program.bytesOf Tryz.prog 108 = 8 := by refine ⟨?_, ?_, ?_, ?_, ?_, ?_, ?_, ?_⟩ <;> kernel_rfl
@[simp] theorem ty109 : szT Tryz.prog 109 = 1 ∧ szOb Tryz.prog 109 = 1 ∧ szBx Tryz.prog 109 = 1 ∧ isAggT Tryz.prog 109 = false ∧ okT Tryz.prog 109 = true ∧ okE Tryz.prog 109 = true ∧ okZ Tryz.prog 109 = true ∧ Program.bytesOf Tryz.prog 109 = 8 := by refine ⟨?_, ?_, ?_, ?_, ?_, ?_, ?_, ?_⟩ <;> kernel_rfl
@[simp] theorem ty110 : szT Tryz.prog 110 = 2 ∧ leavesX Tryz.prog 110 = some [2, 0] ∧ szOb Tryz.prog 110 = 2 ∧ szBx Tryz.prog 110 = 2 ∧ isAggT Tryz.prog 110 = true ∧ okT Tryz.prog 110 = true ∧ okE Tryz.prog 110 = true ∧ okZ Tryz.prog 110 = true ∧ Program.bytesOf Tryz.prog 110 = 24 := by refine ⟨?_, ?_, ?_, ?_, ?_, ?_, ?_, ?_, ?_⟩ <;> kernel_rfl
@[simp] theorem ty111 : szT Tryz.prog 111 = 2 ∧ leavesX Tryz.prog 111 = some [2, 0] ∧ szOb Tryz.prog 111 = 2 ∧ szBx Tryz.prog 111 = 2 ∧ isAggT Tryz.prog 111 = true ∧ okT Tryz.prog 111 = true ∧ okE Tryz.prog 111 = true ∧ okZ Tryz.prog 111 = true ∧ Program.bytesOf Tryz.prog 111 = 24 := by refine ⟨?_, ?_, ?_, ?_, ?_, ?_, ?_, ?_, ?_⟩ <;> kernel_rfl
@[simp] theorem ty112 : szT Tryz.prog 112 = 2 ∧ leavesX Tryz.prog 112 = some [2, 0] ∧ szOb Tryz.prog 112 = 2 ∧ szBx Tryz.prog 112 = 2 ∧ isAggT Tryz.prog 112 = true ∧ okT Tryz.prog 112 = true ∧ okE Tryz.prog 112 = true ∧ okZ Tryz.prog 112 = true ∧ Program.bytesOf Tryz.prog 112 = 24 := by refine ⟨?_, ?_, ?_, ?_, ?_, ?_, ?_, ?_, ?_⟩ <;> kernel_rfl
@[simp] theorem ty113 : szT Tryz.prog 113 = 2 ∧ leavesX Tryz.prog 113 = some [2, 0] ∧ szOb Tryz.prog 113 = 2 ∧ szBx Tryz.prog 113 = 2 ∧ isAggT Tryz.prog 113 = true ∧ okT Tryz.prog 113 = true ∧ okE Tryz.prog 113 = true ∧ okZ Tryz.prog 113 = true ∧ Program.bytesOf Tryz.prog 113 = 24 := by refine ⟨?_, ?_, ?_, ?_, ?_, ?_, ?_, ?_, ?_⟩ <;> kernel_rfl
@[simp] theorem ty114 : szT Tryz.prog 114 = 1 ∧ szOb Tryz.prog 114 = 1 ∧ szBx Tryz.prog 114 = 1 ∧ isAggT Tryz.prog 114 = false ∧ okT Tryz.prog 114 = true ∧ okE Tryz.prog 114 = true ∧ okZ Tryz.prog 114 = true ∧ Program.bytesOf Tryz.prog 114 = 8 := by refine ⟨?_, ?_, ?_, ?_, ?_, ?_, ?_, ?_⟩ <;> kernel_rfl
@[simp] theorem ty115 : szT Tryz.prog 115 = 1 ∧ szOb Tryz.prog 115 = 1 ∧ szBx Tryz.prog 115 = 1 ∧ isAggT Tryz.prog 115 = false ∧ okT Tryz.prog 115 = true ∧ okE Tryz.prog 115 = true ∧ okZ Tryz.prog 115 = true ∧ Program.bytesOf Tryz.prog 115 = 8 := by refine ⟨?_, ?_, ?_, ?_, ?_, ?_, ?_, ?_⟩ <;> kernel_rfl
@[simp] theorem ty116 : szT Tryz.prog 116 = 1 ∧ szOb Tryz.prog 116 = 1 ∧ szBx Tryz.prog 116 = 1 ∧ isAggT Tryz.prog 116 = false ∧ okT Tryz.prog 116 = true ∧ okE Tryz.prog 116 = true ∧ okZ Tryz.prog 116 = true ∧ Program.bytesOf Tryz.prog 116 = 8 := by refine ⟨?_, ?_, ?_, ?_, ?_, ?_, ?_, ?_⟩ <;> kernel_rfl
@[simp] theorem ty117 : szT Tryz.prog 117 = 1 ∧ szOb Tryz.prog 117 = 1 ∧ szBx Tryz.prog 117 = 1 ∧ isAggT Tryz.prog 117 = false ∧ okT Tryz.prog 117 = true ∧ okE Tryz.prog 117 = true ∧ okZ Tryz.prog 117 = true ∧ Program.bytesOf Tryz.prog 117 = 24 := by refine ⟨?_, ?_, ?_, ?_, ?_, ?_, ?_, ?_⟩ <;> kernel_rfl
@[simp] theorem ty118 : szT Tryz.prog 118 = 1 ∧ szOb Tryz.prog 118 = 1 ∧ szBx Tryz.prog 118 = 1 ∧ isAggT Tryz.prog 118 = false ∧ okT Tryz.prog 118 = true ∧ okE Tryz.prog 118 = true ∧ okZ Tryz.prog 118 = true ∧ Program.bytesOf Tryz.prog 118 = 0 := by refine ⟨?_, ?_, ?_, ?_, ?_, ?_, ?_, ?_⟩ <;> kernel_rfl
@[simp] theorem ty119 : szT Tryz.prog 119 = 1 ∧ szOb Tryz.prog 119 = 1 ∧ szBx Tryz.prog 119 = 1 ∧ isAggT Tryz.prog 119 = false ∧ okT Tryz.prog 119 = true ∧ okE Tryz.prog 119 = true ∧ okZ Tryz.prog 119 = true ∧ Program.bytesOf Tryz.prog 119 = 8 := by refine ⟨?_, ?_, ?_, ?_, ?_, ?_, ?_, ?_⟩ <;> kernel_rfl
@[simp] theorem ty120 : szT Tryz.prog 120 = 1 ∧ szOb Tryz.prog 120 = 1 ∧ szBx Tryz.prog 120 = 1 ∧ isAggT Tryz.prog 120 = false ∧ okT Tryz.prog 120 = true ∧ okE Tryz.prog 120 = true ∧ okZ Tryz.prog 120 = true ∧ Program.bytesOf Tryz.prog 120 = 8 := by refine ⟨?_, ?_, ?_, ?_, ?_, ?_, ?_, ?_⟩ <;> kernel_rfl
@[simp] theorem ty121 : szT Tryz.prog 121 = 1 ∧ szOb Tryz.prog 121 = 1 ∧ szBx Tryz.prog 121 = 1 ∧ isAggT Tryz.prog 121 = false ∧ okT Tryz.prog 121 = true ∧ okE Tryz.prog 121 = true ∧ okZ Tryz.prog 121 = true ∧ Program.bytesOf Tryz.prog 121 = 0 := by refine ⟨?_, ?_, ?_, ?_, ?_, ?_, ?_, ?_⟩ <;> kernel_rfl
@[simp] theorem ty122 : szT Tryz.prog 122 = 1 ∧ szOb Tryz.prog 122 = 1 ∧ szBx Tryz.prog 122 = 1 ∧ isAggT Tryz.prog 122 = false ∧ okT Tryz.prog 122 = true ∧ okE Tryz.prog 122 = true ∧ okZ Tryz.prog 122 = true ∧ Program.bytesOf Tryz.prog 122 = 8 := by refine ⟨?_, ?_, ?_, ?_, ?_, ?_, ?_, ?_⟩ <;> kernel_rfl
@[simp] theorem ty123 : szT Tryz.prog 123 = 1 ∧ szOb Tryz.prog 123 = 1 ∧ szBx Tryz.prog 123 = 1 ∧ isAggT Tryz.prog 123 = false ∧ okT Tryz.prog 123 = true ∧ okE Tryz.prog 123 = true ∧ okZ Tryz.prog 123 = true ∧ Program.bytesOf Tryz.prog 123 = 8 := by refine ⟨?_, ?_, ?_, ?_, ?_, ?_, ?_, ?_⟩ <;> kernel_rfl
@[simp] theorem ty124 : szT Tryz.prog 124 = 1 ∧ szOb Tryz.prog 124 = 1 ∧ szBx Tryz.prog 124 = 1 ∧ isAggT Tryz.prog 124 = false ∧ okT Tryz.prog 124 = true ∧ okE Tryz.prog 124 = true ∧ okZ Tryz.prog 124 = true ∧ Program.bytesOf Tryz.prog 124 = 8 := by refine ⟨?_, ?_, ?_, ?_, ?_, ?_, ?_, ?_⟩ <;> kernel_rfl
@[simp] theorem ty125 : szT Tryz.prog 125 = 1 ∧ szOb Tryz.prog 125 = 1 ∧ szBx Tryz.prog 125 = 1 ∧ isAggT Tryz.prog 125 = false ∧ okT Tryz.prog 125 = true ∧ okE Tryz.prog 125 = true ∧ okZ Tryz.prog 125 = true ∧ Program.bytesOf Tryz.prog 125 = 8 := by refine ⟨?_, ?_, ?_, ?_, ?_, ?_, ?_, ?_⟩ <;> kernel_rfl
@[simp] theorem ty126 : szT Tryz.prog 126 = 2 ∧ szOb Tryz.prog 126 = 2 ∧ szBx Tryz.prog 126 = 2 ∧ isAggT Tryz.prog 126 = true ∧ okT Tryz.prog 126 = true ∧ okE Tryz.prog 126 = true ∧ okZ Tryz.prog 126 = true ∧ Program.bytesOf Tryz.prog 126 = 32 := by refine ⟨?_, ?_, ?_, ?_, ?_, ?_, ?_, ?_⟩ <;> kernel_rfl
@[simp] theorem ty127 : szT Tryz.prog 127 = 2 ∧ szOb Tryz.prog 127 = 2 ∧ szBx Tryz.prog 127 = 2 ∧ isAggT Tryz.prog 127 = true ∧ okT Tryz.prog 127 = true ∧ okE Tryz.prog 127 = true ∧ okZ Tryz.prog 127 = true ∧ Program.bytesOf Tryz.prog 127 = 32 := by refine ⟨?_, ?_, ?_, ?_, ?_, ?_, ?_, ?_⟩ <;> kernel_rfl
@[simp] theorem ty128 : szT Tryz.prog 128 = 2 ∧ szOb Tryz.prog 128 = 2 ∧ szBx Tryz.prog 128 = 2 ∧ isAggT Tryz.prog 128 = true ∧ okT Tryz.prog 128 = true ∧ okE Tryz.prog 128 = true ∧ okZ Tryz.prog 128 = true ∧ Program.bytesOf Tryz.prog 128 = 32 := by refine ⟨?_, ?_, ?_, ?_, ?_, ?_, ?_, ?_⟩ <;> kernel_rfl
@[simp] theorem ty129 : szT Tryz.prog 129 = 2 ∧ szOb Tryz.prog 129 = 2 ∧ szBx Tryz.prog 129 = 2 ∧ isAggT Tryz.prog 129 = true ∧ okT Tryz.prog 129 = true ∧ okE Tryz.prog 129 = true ∧ okZ Tryz.prog 129 = true ∧ Program.bytesOf Tryz.prog 129 = 32 := by refine ⟨?_, ?_, ?_, ?_, ?_, ?_, ?_, ?_⟩ <;> kernel_rfl
@[simp] theorem ty130 : szT Tryz.prog 130 = 1 ∧ szOb Tryz.prog 130 = 1 ∧ szBx Tryz.prog 130 = 1 ∧ isAggT Tryz.prog 130 = false ∧ okT Tryz.prog 130 = true ∧ okE Tryz.prog 130 = true ∧ okZ Tryz.prog 130 = true ∧ Program.bytesOf Tryz.prog 130 = 16 := by refine ⟨?_, ?_, ?_, ?_, ?_, ?_, ?_, ?_⟩ <;> kernel_rfl
@[simp] theorem ty131 : szT Tryz.prog 131 = 1 ∧ szOb Tryz.prog 131 = 1 ∧ szBx Tryz.prog 131 = 1 ∧ isAggT Tryz.prog 131 = false ∧ okT Tryz.prog 131 = true ∧ okE Tryz.prog 131 = true ∧ okZ Tryz.prog 131 = true ∧ Program.bytesOf Tryz.prog 131 = 16 := by refine ⟨?_, ?_, ?_, ?_, ?_, ?_, ?_, ?_⟩ <;> kernel_rfl
@[simp] theorem ty132 : szT Tryz.prog 132 = 1 ∧ szOb Tryz.prog 132 = 1 ∧ szBx Tryz.prog 132 = 1 ∧ isAggT Tryz.prog 132 = false ∧ okT Tryz.prog 132 = true ∧ okE Tryz.prog 132 = true ∧ okZ Tryz.prog 132 = true ∧ Program.bytesOf Tryz.prog 132 = 0 := by refine ⟨?_, ?_, ?_, ?_, ?_, ?_, ?_, ?_⟩ <;> kernel_rfl
@[simp] theorem ty133 : szT Tryz.prog 133 = 1 ∧ szOb Tryz.prog 133 = 1 ∧ szBx Tryz.prog 133 = 1 ∧ isAggT Tryz.prog 133 = false ∧ okT Tryz.prog 133 = true ∧ okE Tryz.prog 133 = true ∧ okZ Tryz.prog 133 = true ∧ Program.bytesOf Tryz.prog 133 = 8 := by refine ⟨?_, ?_, ?_, ?_, ?_, ?_, ?_, ?_⟩ <;> kernel_rfl
@[simp] theorem ty134 : szT Tryz.prog 134 = 1 ∧ szOb Tryz.prog 134 = 1 ∧ szBx Tryz.prog 134 = 1 ∧ isAggT Tryz.prog 134 = false ∧ okT Tryz.prog 134 = true ∧ okE Tryz.prog 134 = true ∧ okZ Tryz.prog 134 = true ∧ Program.bytesOf Tryz.prog 134 = 8 := by refine ⟨?_, ?_, ?_, ?_, ?_, ?_, ?_, ?_⟩ <;> kernel_rfl
@[simp] theorem ty135 : szT Tryz.prog 135 = 1 ∧ szOb Tryz.prog 135 = 1 ∧ szBx Tryz.prog 135 = 1 ∧ isAggT Tryz.prog 135 = false ∧ okT Tryz.prog 135 = true ∧ okE Tryz.prog 135 = true ∧ okZ Tryz.prog 135 = true ∧ Program.bytesOf Tryz.prog 135 = 8 := by refine ⟨?_, ?_, ?_, ?_, ?_, ?_, ?_, ?_⟩ <;> kernel_rfl
@[simp] theorem ty136 : szT Tryz.prog 136 = 1 ∧ szOb Tryz.prog 136 = 1 ∧ szBx Tryz.prog 136 = 1 ∧ isAggT Tryz.prog 136 = false ∧ okT Tryz.prog 136 = true ∧ okE Tryz.prog 136 = true ∧ okZ Tryz.prog 136 = true ∧ Program.bytesOf Tryz.prog 136 = 8 := by refine ⟨?_, ?_, ?_, ?_, ?_, ?_, ?_, ?_⟩ <;> kernel_rfl
@[simp] theorem ty137 : szT Tryz.prog 137 = 1 ∧ szOb Tryz.prog 137 = 1 ∧ szBx Tryz.prog 137 = 1 ∧ isAggT Tryz.prog 137 = false ∧ okT Tryz.prog 137 = true ∧ okE Tryz.prog 137 = true ∧ okZ Tryz.prog 137 = true ∧ Program.bytesOf Tryz.prog 137 = 8 := by refine ⟨?_, ?_, ?_, ?_, ?_, ?_, ?_, ?_⟩ <;> kernel_rfl
@[simp] theorem ty138 : szT Tryz.prog 138 = 1 ∧ szOb Tryz.prog 138 = 1 ∧ szBx Tryz.prog 138 = 1 ∧ isAggT Tryz.prog 138 = false ∧ okT Tryz.prog 138 = true ∧ okE Tryz.prog 138 = true ∧ okZ Tryz.prog 138 = true ∧ Program.bytesOf Tryz.prog 138 = 8 := by refine ⟨?_, ?_, ?_, ?_, ?_, ?_, ?_, ?_⟩ <;> kernel_rfl
@[simp] theorem ty139 : szT Tryz.prog 139 = 4 ∧ leavesX Tryz.prog 139 = some (List.replicate 4 0) ∧ szOb Tryz.prog 139 = 1 ∧ szBx Tryz.prog 139 = 1 ∧ isAggT Tryz.prog 139 = true ∧ okT Tryz.prog 139 = true ∧ okE Tryz.prog 139 = true ∧ okZ Tryz.prog 139 = true ∧ Program.bytesOf Tryz.prog 139 = 32 := by refine ⟨?_, ?_, ?_, ?_, ?_, ?_, ?_, ?_, ?_⟩ <;> kernel_rfl
@[simp] theorem ty140 : szT Tryz.prog 140 = 4 ∧ leavesX Tryz.prog 140 = some (List.replicate 4 0) ∧ szOb Tryz.prog 140 = 1 ∧ szBx Tryz.prog 140 = 1 ∧ isAggT Tryz.prog 140 = true ∧ okT Tryz.prog 140 = true ∧ okE Tryz.prog 140 = true ∧ okZ Tryz.prog 140 = true ∧ Program.bytesOf Tryz.prog 140 = 32 := by refine ⟨?_, ?_, ?_, ?_, ?_, ?_, ?_, ?_, ?_⟩ <;> kernel_rfl
@[simp] theorem ty141 : szT Tryz.prog 141 = 1 ∧ szOb Tryz.prog 141 = 1 ∧ szBx Tryz.prog 141 = 1 ∧ isAggT Tryz.prog 141 = false ∧ okT Tryz.prog 141 = true ∧ okE Tryz.prog 141 = true ∧ okZ Tryz.prog 141 = true ∧ Program.bytesOf Tryz.prog 141 = 8 := by refine ⟨?_, ?_, ?_, ?_, ?_, ?_, ?_, ?_⟩ <;> kernel_rfl
@[simp] theorem ty142 : szT Tryz.prog 142 = 1 ∧ szOb Tryz.prog 142 = 1 ∧ szBx Tryz.prog 142 = 1 ∧ isAggT Tryz.prog 142 = false ∧ okT Tryz.prog 142 = true ∧ okE Tryz.prog 142 = true ∧ okZ Tryz.prog 142 = true ∧ Program.bytesOf Tryz.prog 142 = 8 := by refine ⟨?_, ?_, ?_, ?_, ?_, ?_, ?_, ?_⟩ <;> kernel_rfl
@[simp] theorem ty143 : szT Tryz.prog 143 = 1 ∧ szOb Tryz.prog 143 = 1 ∧ szBx Tryz.prog 143 = 1 ∧ isAggT Tryz.prog 143 = false ∧ okT Tryz.prog 143 = true ∧ okE Tryz.prog 143 = true ∧ okZ Tryz.prog 143 = true ∧ Program.bytesOf Tryz.prog 143 = 8 := by refine ⟨?_, ?_, ?_, ?_, ?_, ?_, ?_, ?_⟩ <;> kernel_rfl
@[simp] theorem ty144 : szT Tryz.prog 144 = 1 ∧ szOb Tryz.prog 144 = 1 ∧ szBx Tryz.prog 144 = 1 ∧ isAggT Tryz.prog 144 = false ∧ okT Tryz.prog 144 = true ∧ okE Tryz.prog 144 = true ∧ okZ Tryz.prog 144 = true ∧ Program.bytesOf Tryz.prog 144 = 8 := by refine ⟨?_, ?_, ?_, ?_, ?_, ?_, ?_, ?_⟩ <;> kernel_rfl
@[simp] theorem ty145 : szT Tryz.prog 145 = 1 ∧ szOb Tryz.prog 145 = 1 ∧ szBx Tryz.prog 145 = 1 ∧ isAggT Tryz.prog 145 = false ∧ okT Tryz.prog 145 = true ∧ okE Tryz.prog 145 = true ∧ okZ Tryz.prog 145 = true ∧ Program.bytesOf Tryz.prog 145 = 24 := by refine ⟨?_, ?_, ?_, ?_, ?_, ?_, ?_, ?_⟩ <;> kernel_rfl
@[simp] theorem ty146 : szT Tryz.prog 146 = 1 ∧ szOb Tryz.prog 146 = 1 ∧ szBx Tryz.prog 146 = 1 ∧ isAggT Tryz.prog 146 = false ∧ okT Tryz.prog 146 = true ∧ okE Tryz.prog 146 = true ∧ okZ Tryz.prog 146 = true ∧ Program.bytesOf Tryz.prog 146 = 24 := by refine ⟨?_, ?_, ?_, ?_, ?_, ?_, ?_, ?_⟩ <;> kernel_rfl
@[simp] theorem ty147 : szT Tryz.prog 147 = 1 ∧ szOb Tryz.prog 147 = 1 ∧ szBx Tryz.prog 147 = 1 ∧ isAggT Tryz.prog 147 = false ∧ okT Tryz.prog 147 = true ∧ okE Tryz.prog 147 = true ∧ okZ Tryz.prog 147 = true ∧ Program.bytesOf Tryz.prog 147 = 8 := by refine ⟨?_, ?_, ?_, ?_, ?_, ?_, ?_, ?_⟩ <;> kernel_rfl
@[simp] theorem ty148 : szT Tryz.prog 148 = 1 ∧ szOb Tryz.prog 148 = 1 ∧ szBx Tryz.prog 148 = 1 ∧ isAggT Tryz.prog 148 = false ∧ okT Tryz.prog 148 = true ∧ okE Tryz.prog 148 = true ∧ okZ Tryz.prog 148 = true ∧ Program.bytesOf Tryz.prog 148 = 8 := by refine ⟨?_, ?_, ?_, ?_, ?_, ?_, ?_, ?_⟩ <;> kernel_rfl
@[simp] theorem ty149 : szT Tryz.prog 149 = 173 ∧ szOb Tryz.prog 149 = 173 ∧ szBx Tryz.prog 149 = 173 ∧ isAggT Tryz.prog 149 = true ∧ okT Tryz.prog 149 = true ∧ okE Tryz.prog 149 = true ∧ okZ Tryz.prog 149 = true ∧ Program.bytesOf Tryz.prog 149 = 296 := by refine ⟨?_, ?_, ?_, ?_, ?_, ?_, ?_, ?_⟩ <;> kernel_rfl
@[simp] theorem ty150 : szT Tryz.prog 150 = 173 ∧ szOb Tryz.prog 150 = 173 ∧ szBx Tryz.prog 150 = 173 ∧ isAggT Tryz.prog 150 = true ∧ okT Tryz.prog 150 = true ∧ okE Tryz.prog 150 = true ∧ okZ Tryz.prog 150 = true ∧ Program.bytesOf Tryz.prog 150 = 296 := by refine ⟨?_, ?_, ?_, ?_, ?_, ?_, ?_, ?_⟩ <;> kernel_rfl
@[simp] theorem ty151 : szT Tryz.prog 151 = 1 ∧ szOb Tryz.prog 151 = 1 ∧ szBx Tryz.prog 151 = 1 ∧ isAggT Tryz.prog 151 = false ∧ okT Tryz.prog 151 = true ∧ okE Tryz.prog 151 = true ∧ okZ Tryz.prog 151 = true ∧ Program.bytesOf Tryz.prog 151 = 24 := by refine ⟨?_, ?_, ?_, ?_, ?_, ?_, ?_, ?_⟩ <;> kernel_rfl
@[simp] theorem ty152 : szT Tryz.prog 152 = 1 ∧ szOb Tryz.prog 152 = 1 ∧ szBx Tryz.prog 152 = 1 ∧ isAggT Tryz.prog 152 = false ∧ okT Tryz.prog 152 = true ∧ okE Tryz.prog 152 = true ∧ okZ Tryz.prog 152 = true ∧ Program.bytesOf Tryz.prog 152 = 8 := by refine ⟨?_, ?_, ?_, ?_, ?_, ?_, ?_, ?_⟩ <;> kernel_rfl
@[simp] theorem ty153 : szT Tryz.prog 153 = 1 ∧ szOb Tryz.prog 153 = 1 ∧ szBx Tryz.prog 153 = 1 ∧ isAggT Tryz.prog 153 = false ∧ okT Tryz.prog 153 = true ∧ okE Tryz.prog 153 = true ∧ okZ Tryz.prog 153 = true ∧ Program.bytesOf Tryz.prog 153 = 8 := by refine ⟨?_, ?_, ?_, ?_, ?_, ?_, ?_, ?_⟩ <;> kernel_rfl
@[simp] theorem ty154 : szT Tryz.prog 154 = 1 ∧ szOb Tryz.prog 154 = 1 ∧ szBx Tryz.prog 154 = 1 ∧ isAggT Tryz.prog 154 = false ∧ okT Tryz.prog 154 = true ∧ okE Tryz.prog 154 = true ∧ okZ Tryz.prog 154 = true ∧ Program.bytesOf Tryz.prog 154 = 8 := by refine ⟨?_, ?_, ?_, ?_, ?_, ?_, ?_, ?_⟩ <;> kernel_rfl
@[simp] theorem ty155 : szT Tryz.prog 155 = 1 ∧ szOb Tryz.prog 155 = 1 ∧ szBx Tryz.prog 155 = 1 ∧ isAggT Tryz.prog 155 = false ∧ okT Tryz.prog 155 = true ∧ okE Tryz.prog 155 = true ∧ okZ Tryz.prog 155 = true ∧ Program.bytesOf Tryz.prog 155 = 8 := by refine ⟨?_, ?_, ?_, ?_, ?_, ?_, ?_, ?_⟩ <;> kernel_rfl
@[simp] theorem ty156 : szT Tryz.prog 156 = 1 ∧ szOb Tryz.prog 156 = 1 ∧ szBx Tryz.prog 156 = 1 ∧ isAggT Tryz.prog 156 = false ∧ okT Tryz.prog 156 = true ∧ okE Tryz.prog 156 = true ∧ okZ Tryz.prog 156 = true ∧ Program.bytesOf Tryz.prog 156 = 8 := by refine ⟨?_, ?_, ?_, ?_, ?_, ?_, ?_, ?_⟩ <;> kernel_rfl
@[simp] theorem ty157 : szT Tryz.prog 157 = 1 ∧ szOb Tryz.prog 157 = 1 ∧ szBx Tryz.prog 157 = 1 ∧ isAggT Tryz.prog 157 = false ∧ okT Tryz.prog 157 = true ∧ okE Tryz.prog 157 = true ∧ okZ Tryz.prog 157 = true ∧ Program.bytesOf Tryz.prog 157 = 8 := by refine ⟨?_, ?_, ?_, ?_, ?_, ?_, ?_, ?_⟩ <;> kernel_rfl
@[simp] theorem ty158 : szT Tryz.prog 158 = 1 ∧ szOb Tryz.prog 158 = 1 ∧ szBx Tryz.prog 158 = 1 ∧ isAggT Tryz.prog 158 = false ∧ okT Tryz.prog 158 = true ∧ okE Tryz.prog 158 = true ∧ okZ Tryz.prog 158 = true ∧ Program.bytesOf Tryz.prog 158 = 8 := by refine ⟨?_, ?_, ?_, ?_, ?_, ?_, ?_, ?_⟩ <;> kernel_rfl
@[simp] theorem ty159 : szT Tryz.prog 159 = 1 ∧ szOb Tryz.prog 159 = 1 ∧ szBx Tryz.prog 159 = 1 ∧ isAggT Tryz.prog 159 = false ∧ okT Tryz.prog 159 = true ∧ okE Tryz.prog 159 = true ∧ okZ Tryz.prog 159 = true ∧ Program.bytesOf Tryz.prog 159 = 8 := by refine ⟨?_, ?_, ?_, ?_, ?_, ?_, ?_, ?_⟩ <;> kernel_rfl
@[simp] theorem ty160 : szT Tryz.prog 160 = 1 ∧ szOb Tryz.prog 160 = 1 ∧ szBx Tryz.prog 160 = 1 ∧ isAggT Tryz.prog 160 = false ∧ okT Tryz.prog 160 = true ∧ okE Tryz.prog 160 = true ∧ okZ Tryz.prog 160 = true ∧ Program.bytesOf Tryz.prog 160 = 8 := by refine ⟨?_, ?_, ?_, ?_, ?_, ?_, ?_, ?_⟩ <;> kernel_rfl
@[simp] theorem ty161 : szT Tryz.prog 161 = 1 ∧ szOb Tryz.prog 161 = 1 ∧ szBx Tryz.prog 161 = 1 ∧ isAggT Tryz.prog 161 = false ∧ okT Tryz.prog 161 = true ∧ okE Tryz.prog 161 = true ∧ okZ Tryz.prog 161 = true ∧ Program.bytesOf Tryz.prog 161 = 8 := by refine ⟨?_, ?_, ?_, ?_, ?_, ?_, ?_, ?_⟩ <;> kernel_rfl
@[simp] theorem ty162 : szT Tryz.prog 162 = 1 ∧ szOb Tryz.prog 162 = 1 ∧ szBx Tryz.prog 162 = 1 ∧ isAggT Tryz.prog 162 = false ∧ okT Tryz.prog 162 = true ∧ okE Tryz.prog 162 = true ∧ okZ Tryz.prog 162 = true ∧ Program.bytesOf Tryz.prog 162 = 8 := by refine ⟨?_, ?_, ?_, ?_, ?_, ?_, ?_, ?_⟩ <;> kernel_rfl
@[simp] theorem ty163 : szT Tryz.prog 163 = 1 ∧ szOb Tryz.prog 163 = 1 ∧ szBx Tryz.prog 163 = 1 ∧ isAggT Tryz.prog 163 = false ∧ okT Tryz.prog 163 = true ∧ okE Tryz.prog 163 = true ∧ okZ Tryz.prog 163 = true ∧ Program.bytesOf Tryz.prog 163 = 8 := by refine ⟨?_, ?_, ?_, ?_, ?_, ?_, ?_, ?_⟩ <;> kernel_rfl
@[simp] theorem ty164 : szT Tryz.prog 164 = 1 ∧ szOb Tryz.prog 164 = 1 ∧ szBx Tryz.prog 164 = 1 ∧ isAggT Tryz.prog 164 = false ∧ okT Tryz.prog 164 = true ∧ okE Tryz.prog 164 = true ∧ okZ Tryz.prog 164 = true ∧ Program.bytesOf Tryz.prog 164 = 8 := by refine ⟨?_, ?_, ?_, ?_, ?_, ?_, ?_, ?_⟩ <;> kernel_rfl
@[simp] theorem ty165 : szT Tryz.prog 165 = 8 ∧ leavesX Tryz.prog 165 = some (List.replicate 8 0) ∧ szOb Tryz.prog 165 = 1 ∧ szBx Tryz.prog 165 = 1 ∧ isAggT Tryz.prog 165 = true ∧ okT Tryz.prog 165 = true ∧ okE Tryz.prog 165 = true ∧ okZ Tryz.prog 165 = true ∧ Program.bytesOf Tryz.prog 165 = 32 := by refine ⟨?_, ?_, ?_, ?_, ?_, ?_, ?_, ?_, ?_⟩ <;> kernel_rfl
@[simp] theorem ty166 : szT Tryz.prog 166 = 1 ∧ szOb Tryz.prog 166 = 1 ∧ szBx Tryz.prog 166 = 1 ∧ isAggT Tryz.prog 166 = false ∧ okT Tryz.prog 166 = true ∧ okE Tryz.prog 166 = true ∧ okZ Tryz.prog 166 = true ∧ Program.bytesOf Tryz.prog 166 = 8 := by refine ⟨?_, ?_, ?_, ?_, ?_, ?_, ?_, ?_⟩ <;> kernel_rfl
@[simp] theorem ty167 : szT Tryz.prog 167 = 1 ∧ szOb Tryz.prog 167 = 1 ∧ szBx Tryz.prog 167 = 1 ∧ isAggT Tryz.prog 167 = false ∧ okT Tryz.prog 167 = true ∧ okE Tryz.prog 167 = true ∧ okZ Tryz.prog 167 = true ∧ Program.bytesOf Tryz.prog 167 = 8 := by refine ⟨?_, ?_, ?_, ?_, ?_, ?_, ?_, ?_⟩ <;> kernel_rfl
@[simp] theorem ty168 : szT Tryz.prog 168 = 1 ∧ szOb Tryz.prog 168 = 1 ∧ szBx Tryz.prog 168 = 1 ∧ isAggT Tryz.prog 168 = false ∧ okT Tryz.prog 168 = true ∧ okE Tryz.prog 168 = true ∧ okZ Tryz.prog 168 = true ∧ Program.bytesOf Tryz.prog 168 = 8 := by refine ⟨?_, ?_, ?_, ?_, ?_, ?_, ?_, ?_⟩ <;> kernel_rfl
@[simp] theorem ty169 : szT Tryz.prog 169 = 1 ∧ szOb Tryz.prog 169 = 1 ∧ szBx Tryz.prog 169 = 1 ∧ isAggT Tryz.prog 169 = false ∧ okT Tryz.prog 169 = true ∧ okE Tryz.prog 169 = true ∧ okZ Tryz.prog 169 = true ∧ Program.bytesOf Tryz.prog 169 = 8 := by refine ⟨?_, ?_, ?_, ?_, ?_, ?_, ?_, ?_⟩ <;> kernel_rfl
@[simp] theorem ty170 : szT Tryz.prog 170 = 1 ∧ szOb Tryz.prog 170 = 1 ∧ szBx Tryz.prog 170 = 1 ∧ isAggT Tryz.prog 170 = false ∧ okT Tryz.prog 170 = true ∧ okE Tryz.prog 170 = true ∧ okZ Tryz.prog 170 = true ∧ Program.bytesOf Tryz.prog 170 = 8 := by refine ⟨?_, ?_, ?_, ?_, ?_, ?_, ?_, ?_⟩ <;> kernel_rfl
@[simp] theorem ty171 : szT Tryz.prog 171 = 1 ∧ szOb Tryz.prog 171 = 1 ∧ szBx Tryz.prog 171 = 1 ∧ isAggT Tryz.prog 171 = false ∧ okT Tryz.prog 171 = true ∧ okE Tryz.prog 171 = true ∧ okZ Tryz.prog 171 = true ∧ Program.bytesOf Tryz.prog 171 = 8 := by refine ⟨?_, ?_, ?_, ?_, ?_, ?_, ?_, ?_⟩ <;> kernel_rfl
@[simp] theorem ty172 : szT Tryz.prog 172 = 1 ∧ szOb Tryz.prog 172 = 1 ∧ szBx Tryz.prog 172 = 1 ∧ isAggT Tryz.prog 172 = false ∧ okT Tryz.prog 172 = true ∧ okE Tryz.prog 172 = true ∧ okZ Tryz.prog 172 = true ∧ Program.bytesOf Tryz.prog 172 = 8 := by refine ⟨?_, ?_, ?_, ?_, ?_, ?_, ?_, ?_⟩ <;> kernel_rfl
@[simp] theorem ty173 : szT Tryz.prog 173 = 1 ∧ szOb Tryz.prog 173 = 1 ∧ szBx Tryz.prog 173 = 1 ∧ isAggT Tryz.prog 173 = false ∧ okT Tryz.prog 173 = true ∧ okE Tryz.prog 173 = true ∧ okZ Tryz.prog 173 = true ∧ Program.bytesOf Tryz.prog 173 = 0 := by refine ⟨?_, ?_, ?_, ?_, ?_, ?_, ?_, ?_⟩ <;> kernel_rfl
@[simp] theorem ty174 : szT Tryz.prog 174 = 1 ∧ szOb Tryz.prog 174 = 1 ∧ szBx Tryz.prog 174 = 1 ∧ isAggT Tryz.prog 174 = false ∧ okT Tryz.prog 174 = true ∧ okE Tryz.prog 174 = true ∧ okZ Tryz.prog 174 = true ∧ Program.bytesOf Tryz.prog 174 = 8 := by refine ⟨?_, ?_, ?_, ?_, ?_, ?_, ?_, ?_⟩ <;> kernel_rfl
@[simp] theorem ty175 : szT Tryz.prog 175 = 1 ∧ szOb Tryz.prog 175 = 1 ∧ szBx Tryz.prog 175 = 1 ∧ isAggT Tryz.prog 175 = false ∧ okT Tryz.prog 175 = true ∧ okE Tryz.prog 175 = true ∧ okZ Tryz.prog 175 = true ∧ Program.bytesOf Tryz.prog 175 = 8 := by refine ⟨?_, ?_, ?_, ?_, ?_, ?_, ?_, ?_⟩ <;> kernel_rfl
@[simp] theorem ty176 : szT Tryz.prog 176 = 1 ∧ szOb Tryz.prog 176 = 1 ∧ szBx Tryz.prog 176 = 1 ∧ isAggT Tryz.prog 176 = false ∧ okT Tryz.prog 176 = true ∧ okE Tryz.prog 176 = true ∧ okZ Tryz.prog 176 = true ∧ Program.bytesOf Tryz.prog 176 = 8 := by refine ⟨?_, ?_, ?_, ?_, ?_, ?_, ?_, ?_⟩ <;> kernel_rfl
@[simp] theorem ty177 : szT Tryz.prog 177 = 1 ∧ szOb Tryz.prog 177 = 1 ∧ szBx Tryz.prog 177 = 1 ∧ isAggT Tryz.prog 177 = false ∧ okT Tryz.prog 177 = true ∧ okE Tryz.prog 177 = true ∧ okZ Tryz.prog 177 = true ∧ Program.bytesOf Tryz.prog 177 = 0 := by refine ⟨?_, ?_, ?_, ?_, ?_, ?_, ?_, ?_⟩ <;> kernel_rfl
@[simp] theorem ty178 : szT Tryz.prog 178 = 1 ∧ szOb Tryz.prog 178 = 1 ∧ szBx Tryz.prog 178 = 1 ∧ isAggT Tryz.prog 178 = false ∧ okT Tryz.prog 178 = true ∧ okE Tryz.prog 178 = true ∧ okZ Tryz.prog 178 = true ∧ Program.bytesOf Tryz.prog 178 = 8 := by refine ⟨?_, ?_, ?_, ?_, ?_, ?_, ?_, ?_⟩ <;> kernel_rfl
@[simp] theorem ty179 : szT Tryz.prog 179 = 1 ∧ szOb Tryz.prog 179 = 1 ∧ szBx Tryz.prog 179 = 1 ∧ isAggT Tryz.prog 179 = false ∧ okT Tryz.prog 179 = true ∧ okE Tryz.prog 179 = true ∧ okZ Tryz.prog 179 = true ∧ Program.bytesOf Tryz.prog 179 = 8 := by refine ⟨?_, ?_, ?_, ?_, ?_, ?_, ?_, ?_⟩ <;> kernel_rfl
@[simp] theorem ty180 : szT Tryz.prog 180 = 1 ∧ szOb Tryz.prog 180 = 1 ∧ szBx Tryz.prog 180 = 1 ∧ isAggT Tryz.prog 180 = false ∧ okT Tryz.prog 180 = true ∧ okE Tryz.prog 180 = true ∧ okZ Tryz.prog 180 = true ∧ Program.bytesOf Tryz.prog 180 = 8 := by refine ⟨?_, ?_, ?_, ?_, ?_, ?_, ?_, ?_⟩ <;> kernel_rfl
@[simp] theorem ty181 : szT Tryz.prog 181 = 1 ∧ szOb Tryz.prog 181 = 1 ∧ szBx Tryz.prog 181 = 1 ∧ isAggT Tryz.prog 181 = false ∧ okT Tryz.prog 181 = true ∧ okE Tryz.prog 181 = true ∧ okZ Tryz.prog 181 = true ∧ Program.bytesOf Tryz.prog 181 = 8 := by refine ⟨?_, ?_, ?_, ?_, ?_, ?_, ?_, ?_⟩ <;> kernel_rfl
@[simp] theorem ty182 : szT Tryz.prog 182 = 1 ∧ szOb Tryz.prog 182 = 1 ∧ szBx Tryz.prog 182 = 1 ∧ isAggT Tryz.prog 182 = false ∧ okT Tryz.prog 182 = true ∧ okE Tryz.prog 182 = true ∧ okZ Tryz.prog 182 = true ∧ Program.bytesOf Tryz.prog 182 = 8 := by refine ⟨?_, ?_, ?_, ?_, ?_, ?_, ?_, ?_⟩ <;> kernel_rfl
@[simp] theorem ty183 : szT Tryz.prog 183 = 1 ∧ szOb Tryz.prog 183 = 1 ∧ szBx Tryz.prog 183 = 1 ∧ isAggT Tryz.prog 183 = false ∧ okT Tryz.prog 183 = true ∧ okE Tryz.prog 183 = true ∧ okZ Tryz.prog 183 = true ∧ Program.bytesOf Tryz.prog 183 = 8 := by refine ⟨?_, ?_, ?_, ?_, ?_, ?_, ?_, ?_⟩ <;> kernel_rfl
@[simp] theorem ty184 : szT Tryz.prog 184 = 1 ∧ szOb Tryz.prog 184 = 1 ∧ szBx Tryz.prog 184 = 1 ∧ isAggT Tryz.prog 184 = false ∧ okT Tryz.prog 184 = true ∧ okE Tryz.prog 184 = true ∧ okZ Tryz.prog 184 = true ∧ Program.bytesOf Tryz.prog 184 = 8 := by refine ⟨?_, ?_, ?_, ?_, ?_, ?_, ?_, ?_⟩ <;> kernel_rfl
@[simp] theorem ty185 : szT Tryz.prog 185 = 1 ∧ szOb Tryz.prog 185 = 1 ∧ szBx Tryz.prog 185 = 1 ∧ isAggT Tryz.prog 185 = false ∧ okT Tryz.prog 185 = true ∧ okE Tryz.prog 185 = true ∧ okZ Tryz.prog 185 = true ∧ Program.bytesOf Tryz.prog 185 = 0 := by refine ⟨?_, ?_, ?_, ?_, ?_, ?_, ?_, ?_⟩ <;> kernel_rfl
@[simp] theorem ty186 : szT Tryz.prog 186 = 1 ∧ szOb Tryz.prog 186 = 1 ∧ szBx Tryz.prog 186 = 1 ∧ isAggT Tryz.prog 186 = false ∧ okT Tryz.prog 186 = true ∧ okE Tryz.prog 186 = true ∧ okZ Tryz.prog 186 = true ∧ Program.bytesOf Tryz.prog 186 = 8 := by refine ⟨?_, ?_, ?_, ?_, ?_, ?_, ?_, ?_⟩ <;> kernel_rfl
@[simp] theorem ty187 : szT Tryz.prog 187 = 1 ∧ szOb Tryz.prog 187 = 1 ∧ szBx Tryz.prog 187 = 1 ∧ isAggT Tryz.prog 187 = false ∧ okT Tryz.prog 187 = true ∧ okE Tryz.prog 187 = true ∧ okZ Tryz.prog 187 = true ∧ Program.bytesOf Tryz.prog 187 = 8 := by refine ⟨?_, ?_, ?_, ?_, ?_, ?_, ?_, ?_⟩ <;> kernel_rfl
@[simp] theorem ty188 : szT Tryz.prog 188 = 1 ∧ szOb Tryz.prog 188 = 1 ∧ szBx Tryz.prog 188 = 1 ∧ isAggT Tryz.prog 188 = false ∧ okT Tryz.prog 188 = true ∧ okE Tryz.prog 188 = true ∧ okZ Tryz.prog 188 = true ∧ Program.bytesOf Tryz.prog 188 = 8 := by refine ⟨?_, ?_, ?_, ?_, ?_, ?_, ?_, ?_⟩ <;> kernel_rfl
@[simp] theorem ty189 : szT Tryz.prog 189 = 1 ∧ szOb Tryz.prog 189 = 1 ∧ szBx Tryz.prog 189 = 1 ∧ isAggT Tryz.prog 189 = false ∧ okT Tryz.prog 189 = true ∧ okE Tryz.prog 189 = true ∧ okZ Tryz.prog 189 = true ∧ Program.bytesOf Tryz.prog 189 = 8 := by refine ⟨?_, ?_, ?_, ?_, ?_, ?_, ?_, ?_⟩ <;> kernel_rfl
@[simp] theorem ty190 : szT Tryz.prog 190 = 1 ∧ szOb Tryz.prog 190 = 1 ∧ szBx Tryz.prog 190 = 1 ∧ isAggT Tryz.prog 190 = false ∧ okT Tryz.prog 190 = true ∧ okE Tryz.prog 190 = true ∧ okZ Tryz.prog 190 = true ∧ Program.bytesOf Tryz.prog 190 = 8 := by refine ⟨?_, ?_, ?_, ?_, ?_, ?_, ?_, ?_⟩ <;> kernel_rfl
@[simp] theorem ty191 : szT Tryz.prog 191 = 1 ∧ szOb Tryz.prog 191 = 1 ∧ szBx Tryz.prog 191 = 1 ∧ isAggT Tryz.prog 191 = false ∧ okT Tryz.prog 191 = true ∧ okE Tryz.prog 191 = true ∧ okZ Tryz.prog 191 = true ∧ Program.bytesOf Tryz.prog 191 = 8 := by refine ⟨?_, ?_, ?_, ?_, ?_, ?_, ?_, ?_⟩ <;> kernel_rfl
@[simp] theorem ty192 : szT Tryz.prog 192 = 1 ∧ szOb Tryz.prog 192 = 1 ∧ szBx Tryz.prog 192 = 1 ∧ isAggT Tryz.prog 192 = false ∧ okT Tryz.prog 192 = true ∧ okE Tryz.prog 192 = true ∧ okZ Tryz.prog 192 = true ∧ Program.bytesOf Tryz.prog 192 = 8 := by refine ⟨?_, ?_, ?_, ?_, ?_, ?_, ?_, ?_⟩ <;> kernel_rfl
@[simp] theorem ty193 : szT Tryz.prog 193 = 1 ∧ szOb Tryz.prog 193 = 1 ∧ szBx Tryz.prog 193 = 1 ∧ isAggT Tryz.prog 193 = false ∧ okT Tryz.prog 193 = true ∧ okE Tryz.prog 193 = true ∧ okZ Tryz.prog 193 = true ∧ Program.bytesOf Tryz.prog 193 = 8 := by refine ⟨?_, ?_, ?_, ?_, ?_, ?_, ?_, ?_⟩ <;> kernel_rfl
@[simp] theorem ty194 : szT Tryz.prog 194 = 64 ∧ leavesX Tryz.prog 194 = some (List.replicate 64 0) ∧ szOb Tryz.prog 194 = 1 ∧ szBx Tryz.prog 194 = 1 ∧ isAggT Tryz.prog 194 = true ∧ okT Tryz.prog 194 = true ∧ okE Tryz.prog 194 = true ∧ okZ Tryz.prog 194 = true ∧ Program.bytesOf Tryz.prog 194 = 256 := by refine ⟨?_, ?_, ?_, ?_, ?_, ?_, ?_, ?_, ?_⟩ <;> kernel_rfl
@[simp] theorem ty195 : szT Tryz.prog 195 = 1 ∧ szOb Tryz.prog 195 = 1 ∧ szBx Tryz.prog 195 = 1 ∧ isAggT Tryz.prog 195 = false ∧ okT Tryz.prog 195 = true ∧ okE Tryz.prog 195 = true ∧ okZ Tryz.prog 195 = true ∧ Program.bytesOf Tryz.prog 195 = 8 := by refine ⟨?_, ?_, ?_, ?_, ?_, ?_, ?_, ?_⟩ <;> kernel_rfl
@[simp] theorem ty196 : szT Tryz.prog 196 = 1 ∧ szOb Tryz.prog 196 = 1 ∧ szBx Tryz.prog 196 = 1 ∧ isAggT Tryz.prog 196 = false ∧ okT Tryz.prog 196 = true ∧ okE Tryz.prog 196 = true ∧ okZ Tryz.prog 196 = true ∧ Program.bytesOf Tryz.prog 196 = 8 := by refine ⟨?_, ?_, ?_, ?_, ?_, ?_, ?_, ?_⟩ <;> kernel_rfl
@[simp] theorem ty197 : szT Tryz.prog 197 = 1 ∧ szOb Tryz.prog 197 = 1 ∧ szBx Tryz.prog 197 = 1 ∧ isAggT Tryz.prog 197 = false ∧ okT Tryz.prog 197 = true ∧ okE Tryz.prog 197 = true ∧ okZ Tryz.prog 197 = true ∧ Program.bytesOf Tryz.prog 197 = 8 := by refine ⟨?_, ?_, ?_, ?_, ?_, ?_, ?_, ?_⟩ <;> kernel_rfl
@[simp] theorem ty198 : szT Tryz.prog 198 = 1 ∧ szOb Tryz.prog 198 = 1 ∧ szBx Tryz.prog 198 = 1 ∧ isAggT Tryz.prog 198 = false ∧ okT Tryz.prog 198 = true ∧ okE Tryz.prog 198 = true ∧ okZ Tryz.prog 198 = true ∧ Program.bytesOf Tryz.prog 198 = 8 := by refine ⟨?_, ?_, ?_, ?_, ?_, ?_, ?_, ?_⟩ <;> kernel_rfl
@[simp] theorem ty199 : szT Tryz.prog 199 = 1 ∧ szOb Tryz.prog 199 = 1 ∧ szBx Tryz.prog 199 = 1 ∧ isAggT Tryz.prog 199 = false ∧ okT Tryz.prog 199 = true ∧ okE Tryz.prog 199 = true ∧ okZ Tryz.prog 199 = true ∧ Program.bytesOf Tryz.prog 199 = 8 := by refine ⟨?_, ?_, ?_, ?_, ?_, ?_, ?_, ?_⟩ <;> kernel_rfl
@[simp] theorem ty200 : szT Tryz.prog 200 = 1 ∧ szOb Tryz.prog 200 = 1 ∧ szBx Tryz.prog 200 = 1 ∧ isAggT Tryz.prog 200 = false ∧ okT Tryz.prog 200 = true ∧ okE Tryz.prog 200 = true ∧ okZ Tryz.prog 200 = true ∧ Program.bytesOf Tryz.prog 200 = 8 := by refine ⟨?_, ?_, ?_, ?_, ?_, ?_, ?_, ?_⟩ <;> kernel_rfl
@[simp] theorem ty201 : szT Tryz.prog 201 = 1 ∧ szOb Tryz.prog 201 = 1 ∧ szBx Tryz.prog 201 = 1 ∧ isAggT Tryz.prog 201 = false ∧ okT Tryz.prog 201 = true ∧ okE Tryz.prog 201 = true ∧ okZ Tryz.prog 201 = true ∧ Program.bytesOf Tryz.prog 201 = 8 := by refine ⟨?_, ?_, ?_, ?_, ?_, ?_, ?_, ?_⟩ <;> kernel_rfl
@[simp] theorem ty202 : szT Tryz.prog 202 = 1 ∧ szOb Tryz.prog 202 = 1 ∧ szBx Tryz.prog 202 = 1 ∧ isAggT Tryz.prog 202 = false ∧ okT Tryz.prog 202 = true ∧ okE Tryz.prog 202 = true ∧ okZ Tryz.prog 202 = true ∧ Program.bytesOf Tryz.prog 202 = 8 := by refine ⟨?_, ?_, ?_, ?_, ?_, ?_, ?_, ?_⟩ <;> kernel_rfl
@[simp] theorem ty203 : szT Tryz.prog 203 = 1 ∧ szOb Tryz.prog 203 = 1 ∧ szBx Tryz.prog 203 = 1 ∧ isAggT Tryz.prog 203 = false ∧ okT Tryz.prog 203 = true ∧ okE Tryz.prog 203 = true ∧ okZ Tryz.prog 203 = true ∧ Program.bytesOf Tryz.prog 203 = 8 := by refine ⟨?_, ?_, ?_, ?_, ?_, ?_, ?_, ?_⟩ <;> kernel_rfl
@[simp] theorem ty204 : szT Tryz.prog 204 = 1 ∧ szOb Tryz.prog 204 = 1 ∧ szBx Tryz.prog 204 = 1 ∧ isAggT Tryz.prog 204 = false ∧ okT Tryz.prog 204 = true ∧ okE Tryz.prog 204 = true ∧ okZ Tryz.prog 204 = true ∧ Program.bytesOf Tryz.prog 204 = 8 := by refine ⟨?_, ?_, ?_, ?_, ?_, ?_, ?_, ?_⟩ <;> kernel_rfl
@[simp] theorem ty205 : szT Tryz.prog 205 = 8 ∧ leavesX Tryz.prog 205 = some (List.replicate 8 0) ∧ szOb Tryz.prog 205 = 1 ∧ szBx Tryz.prog 205 = 1 ∧ isAggT Tryz.prog 205 = true ∧ okT Tryz.prog 205 = true ∧ okE Tryz.prog 205 = true ∧ okZ Tryz.prog 205 = true ∧ Program.bytesOf Tryz.prog 205 = 32 := by refine ⟨?_, ?_, ?_, ?_, ?_, ?_, ?_, ?_, ?_⟩ <;> kernel_rfl
@[simp] theorem ty206 : szT Tryz.prog 206 = 11 ∧ leavesX Tryz.prog 206 = some [0, 0, 0, 0, 0, 0, 0, 0, 2, 0, 1] ∧ szOb Tryz.prog 206 = 11 ∧ szBx Tryz.prog 206 = 11 ∧ isAggT Tryz.prog 206 = true ∧ okT Tryz.prog 206 = true ∧ okE Tryz.prog 206 = true ∧ okZ Tryz.prog 206 = true ∧ Program.bytesOf Tryz.prog 206 = 64 := by refine ⟨?_, ?_, ?_, ?_, ?_, ?_, ?_, ?_, ?_⟩ <;> kernel_rfl
@[simp] theorem ty207 : szT Tryz.prog 207 = 11 ∧ leavesX Tryz.prog 207 = some [0, 0, 0, 0, 0, 0, 0, 0, 2, 0, 1] ∧ szOb Tryz.prog 207 = 11 ∧ szBx Tryz.prog 207 = 11 ∧ isAggT Tryz.prog 207 = true ∧ okT Tryz.prog 207 = true ∧ okE Tryz.prog 207 = true ∧ okZ Tryz.prog 207 = true ∧ Program.bytesOf Tryz.prog 207 = 64 := by refine ⟨?_, ?_, ?_, ?_, ?_, ?_, ?_, ?_, ?_⟩ <;> kernel_rfl
@[simp] theorem ty208 : szT Tryz.prog 208 = 1 ∧ szOb Tryz.prog 208 = 1 ∧ szBx Tryz.prog 208 = 1 ∧ isAggT Tryz.prog 208 = false ∧ okT Tryz.prog 208 = true ∧ okE Tryz.prog 208 = true ∧ okZ Tryz.prog 208 = true ∧ Program.bytesOf Tryz.prog 208 = 8 := by refine ⟨?_, ?_, ?_, ?_, ?_, ?_, ?_, ?_⟩ <;> kernel_rfl
@[simp] theorem ty209 : szT Tryz.prog 209 = 1 ∧ szOb Tryz.prog 209 = 1 ∧ szBx Tryz.prog 209 = 1 ∧ isAggT Tryz.prog 209 = false ∧ okT Tryz.prog 209 = true ∧ okE Tryz.prog 209 = true ∧ okZ Tryz.prog 209 = true ∧ Program.bytesOf Tryz.prog 209 = 8 := by refine ⟨?_, ?_, ?_, ?_, ?_, ?_, ?_, ?_⟩ <;> kernel_rfl
@[simp] theorem ty210 : szT Tryz.prog 210 = 1 ∧ szOb Tryz.prog 210 = 1 ∧ szBx Tryz.prog 210 = 1 ∧ isAggT Tryz.prog 210 = false ∧ okT Tryz.prog 210 = true ∧ okE Tryz.prog 210 = true ∧ okZ Tryz.prog 210 = true ∧ Program.bytesOf Tryz.prog 210 = 8 := by refine ⟨?_, ?_, ?_, ?_, ?_, ?_, ?_, ?_⟩ <;> kernel_rfl
@[simp] theorem ty211 : szT Tryz.prog 211 = 1 ∧ szOb Tryz.prog 211 = 1 ∧ szBx Tryz.prog 211 = 1 ∧ isAggT Tryz.prog 211 = false ∧ okT Tryz.prog 211 = true ∧ okE Tryz.prog 211 = true ∧ okZ Tryz.prog 211 = true ∧ Program.bytesOf Tryz.prog 211 = 24 := by refine ⟨?_, ?_, ?_, ?_, ?_, ?_, ?_, ?_⟩ <;> kernel_rfl
@[simp] theorem ty212 : szT Tryz.prog 212 = 1 ∧ szOb Tryz.prog 212 = 1 ∧ szBx Tryz.prog 212 = 1 ∧ isAggT Tryz.prog 212 = false ∧ okT Tryz.prog 212 = true ∧ okE Tryz.prog 212 = true ∧ okZ Tryz.prog 212 = true ∧ Program.bytesOf Tryz.prog 212 = 8 := by refine ⟨?_, ?_, ?_, ?_, ?_, ?_, ?_, ?_⟩ <;> kernel_rfl
@[simp] theorem ty213 : szT Tryz.prog 213 = 1 ∧ szOb Tryz.prog 213 = 1 ∧ szBx Tryz.prog 213 = 1 ∧ isAggT Tryz.prog 213 = false ∧ okT Tryz.prog 213 = true ∧ okE Tryz.prog 213 = true ∧ okZ Tryz.prog 213 = true ∧ Program.bytesOf Tryz.prog 213 = 0 := by refine ⟨?_, ?_, ?_, ?_, ?_, ?_, ?_, ?_⟩ <;> kernel_rfl
@[simp] theorem ty214 : szT Tryz.prog 214 = 1 ∧ szOb Tryz.prog 214 = 1 ∧ szBx Tryz.prog 214 = 1 ∧ isAggT Tryz.prog 214 = false ∧ okT Tryz.prog 214 = true ∧ okE Tryz.prog 214 = true ∧ okZ Tryz.prog 214 = true ∧ Program.bytesOf Tryz.prog 214 = 8 := by refine ⟨?_, ?_, ?_, ?_, ?_, ?_, ?_, ?_⟩ <;> kernel_rfl
@[simp] theorem ty215 : szT Tryz.prog 215 = 1 ∧ szOb Tryz.prog 215 = 1 ∧ szBx Tryz.prog 215 = 1 ∧ isAggT Tryz.prog 215 = false ∧ okT Tryz.prog 215 = true ∧ okE Tryz.prog 215 = true ∧ okZ Tryz.prog 215 = true ∧ Program.bytesOf Tryz.prog 215 = 8 := by refine ⟨?_, ?_, ?_, ?_, ?_, ?_, ?_, ?_⟩ <;> kernel_rfl
@[simp] theorem ty216 : szT Tryz.prog 216 = 1 ∧ szOb Tryz.prog 216 = 1 ∧ szBx Tryz.prog 216 = 1 ∧ isAggT Tryz.prog 216 = false ∧ okT Tryz.prog 216 = true ∧ okE Tryz.prog 216 = true ∧ okZ Tryz.prog 216 = true ∧ Program.bytesOf Tryz.prog 216 = 8 := by refine ⟨?_, ?_, ?_, ?_, ?_, ?_, ?_, ?_⟩ <;> kernel_rfl
@[simp] theorem ty217 : szT Tryz.prog 217 = 1 ∧ szOb Tryz.prog 217 = 1 ∧ szBx Tryz.prog 217 = 1 ∧ isAggT Tryz.prog 217 = false ∧ okT Tryz.prog 217 = true ∧ okE Tryz.prog 217 = true ∧ okZ Tryz.prog 217 = true ∧ Program.bytesOf Tryz.prog 217 = 8 := by refine ⟨?_, ?_, ?_, ?_, ?_, ?_, ?_, ?_⟩ <;> kernel_rfl
@[simp] theorem ty218 : szT Tryz.prog 218 = 1 ∧ szOb Tryz.prog 218 = 1 ∧ szBx Tryz.prog 218 = 1 ∧ isAggT Tryz.prog 218 = false ∧ okT Tryz.prog 218 = true ∧ okE Tryz.prog 218 = true ∧ okZ Tryz.prog 218 = true ∧ Program.bytesOf Tryz.prog 218 = 8 := by refine ⟨?_, ?_, ?_, ?_, ?_, ?_, ?_, ?_⟩ <;> kernel_rfl
@[simp] theorem ty219 : szT Tryz.prog 219 = 1 ∧ szOb Tryz.prog 219 = 1 ∧ szBx Tryz.prog 219 = 1 ∧ isAggT Tryz.prog 219 = false ∧ okT Tryz.prog 219 = true ∧ okE Tryz.prog 219 = true ∧ okZ Tryz.prog 219 = true ∧ Program.bytesOf Tryz.prog 219 = 0 := by refine ⟨?_, ?_, ?_, ?_, ?_, ?_, ?_, ?_⟩ <;> kernel_rfl
@[simp] theorem ty220 : szT Tryz.prog 220 = 1 ∧ szOb Tryz.prog 220 = 1 ∧ szBx Tryz.prog 220 = 1 ∧ isAggT Tryz.prog 220 = false ∧ okT Tryz.prog 220 = true ∧ okE Tryz.prog 220 = true ∧ okZ Tryz.prog 220 = true ∧ Program.bytesOf Tryz.prog 220 = 8 := by refine ⟨?_, ?_, ?_, ?_, ?_, ?_, ?_, ?_⟩ <;> kernel_rfl
@[simp] theorem ty221 : szT Tryz.prog 221 = 1 ∧ szOb Tryz.prog 221 = 1 ∧ szBx Tryz.prog 221 = 1 ∧ isAggT Tryz.prog 221 = false ∧ okT Tryz.prog 221 = true ∧ okE Tryz.prog 221 = true ∧ okZ Tryz.prog 221 = true ∧ Program.bytesOf Tryz.prog 221 = 8 := by refine ⟨?_, ?_, ?_, ?_, ?_, ?_, ?_, ?_⟩ <;> kernel_rfl
@[simp] theorem ty222 : szT Tryz.prog 222 = 1 ∧ szOb Tryz.prog 222 = 1 ∧ szBx Tryz.prog 222 = 1 ∧ isAggT Tryz.prog 222 = false ∧ okT Tryz.prog 222 = true ∧ okE Tryz.prog 222 = true ∧ okZ Tryz.prog 222 = true ∧ Program.bytesOf Tryz.prog 222 = 0 := by refine ⟨?_, ?_, ?_, ?_, ?_, ?_, ?_, ?_⟩ <;> kernel_rfl
@[simp] theorem ty223 : szT Tryz.prog 223 = 1 ∧ szOb Tryz.prog 223 = 1 ∧ szBx Tryz.prog 223 = 1 ∧ isAggT Tryz.prog 223 = false ∧ okT Tryz.prog 223 = true ∧ okE Tryz.prog 223 = true ∧ okZ Tryz.prog 223 = true ∧ Program.bytesOf Tryz.prog 223 = 8 := by refine ⟨?_, ?_, ?_, ?_, ?_, ?_, ?_, ?_⟩ <;> kernel_rfl
@[simp] theorem ty224 : szT Tryz.prog 224 = 1 ∧ szOb Tryz.prog 224 = 1 ∧ szBx Tryz.prog 224 = 1 ∧ isAggT Tryz.prog 224 = false ∧ okT Tryz.prog 224 = true ∧ okE Tryz.prog 224 = true ∧ okZ Tryz.prog 224 = true ∧ Program.bytesOf Tryz.prog 224 = 0 := by refine ⟨?_, ?_, ?_, ?_, ?_, ?_, ?_, ?_⟩ <;> kernel_rfl
@[simp] theorem ty225 : szT Tryz.prog 225 = 1 ∧ szOb Tryz.prog 225 = 1 ∧ szBx Tryz.prog 225 = 1 ∧ isAggT Tryz.prog 225 = false ∧ okT Tryz.prog 225 = true ∧ okE Tryz.prog 225 = true ∧ okZ Tryz.prog 225 = true ∧ Program.bytesOf Tryz.prog 225 = 8 := by refine ⟨?_, ?_, ?_, ?_, ?_, ?_, ?_, ?_⟩ <;> kernel_rfl
@[simp] theorem ty226 : szT Tryz.prog 226 = 1 ∧ szOb Tryz.prog 226 = 1 ∧ szBx Tryz.prog 226 = 1 ∧ isAggT Tryz.prog 226 = false ∧ okT Tryz.prog 226 = true ∧ okE Tryz.prog 226 = true ∧ okZ Tryz.prog 226 = true ∧ Program.bytesOf Tryz.prog 226 = 8 := by refine ⟨?_, ?_, ?_, ?_, ?_, ?_, ?_, ?_⟩ <;> kernel_rfl
@[simp] theorem ty227 : szT Tryz.prog 227 = 4 ∧ szOb Tryz.prog 227 = 4 ∧ szBx Tryz.prog 227 = 4 ∧ isAggT Tryz.prog 227 = true ∧ okT Tryz.prog 227 = true ∧ okE Tryz.prog 227 = true ∧ okZ Tryz.prog 227 = true ∧ Program.bytesOf Tryz.prog 227 = 40 := by refine ⟨?_, ?_, ?_, ?_, ?_, ?_, ?_, ?_⟩ <;> kernel_rfl
@[simp] theorem ty228 : szT Tryz.prog 228 = 4 ∧ szOb Tryz.prog 228 = 4 ∧ szBx Tryz.prog 228 = 4 ∧ isAggT Tryz.prog 228 = true ∧ okT Tryz.prog 228 = true ∧ okE Tryz.prog 228 = true ∧ okZ Tryz.prog 228 = true ∧ Program.bytesOf Tryz.prog 228 = 40 := by refine ⟨?_, ?_, ?_, ?_, ?_, ?_, ?_, ?_⟩ <;> kernel_rfl
@[simp] theorem ty229 : szT Tryz.prog 229 = 0 ∧ szOb Tryz.prog 229 = 1 ∧ szBx Tryz.prog 229 = 1 ∧ isAggT Tryz.prog 229 = true ∧ okT Tryz.prog 229 = true ∧ okE Tryz.prog 229 = true ∧ okZ Tryz.prog 229 = true ∧ Program.bytesOf Tryz.prog 229 = 0 := by refine ⟨?_, ?_, ?_, ?_, ?_, ?_, ?_, ?_⟩ <;> kernel_rfl
@[simp] theorem ty230 : szT Tryz.prog 230 = 0 ∧ szOb Tryz.prog 230 = 0 ∧ szBx Tryz.prog 230 = 0 ∧ isAggT Tryz.prog 230 = true ∧ okT Tryz.prog 230 = true ∧ okE Tryz.prog 230 = true ∧ okZ Tryz.prog 230 = true ∧ Program.bytesOf Tryz.prog 230 = 0 := by refine ⟨?_, ?_, ?_, ?_, ?_, ?_, ?_, ?_⟩ <;> kernel_rfl
@[simp] theorem ty231 : szT Tryz.prog 231 = 0 ∧ szOb Tryz.prog 231 = 0 ∧ szBx Tryz.prog 231 = 0 ∧ isAggT Tryz.prog 231 = true ∧ okT Tryz.prog 231 = true ∧ okE Tryz.prog 231 = true ∧ okZ Tryz.prog 231 = true ∧ Program.bytesOf Tryz.prog 231 = 0 := by refine ⟨?_, ?_, ?_, ?_, ?_, ?_, ?_, ?_⟩ <;> kernel_rfl
@[simp] theorem ty232 : szT Tryz.prog 232 = 1 ∧ szOb Tryz.prog 232 = 1 ∧ szBx Tryz.prog 232 = 1 ∧ isAggT Tryz.prog 232 = false ∧ okT Tryz.prog 232 = true ∧ okE Tryz.prog 232 = true ∧ okZ Tryz.prog 232 = true ∧ Program.bytesOf Tryz.prog 232 = 1 := by refine ⟨?_, ?_, ?_, ?_, ?_, ?_, ?_, ?_⟩ <;> kernel_rfl
@[simp] theorem ty233 : szT Tryz.prog 233 = 1 ∧ szOb Tryz.prog 233 = 1 ∧ szBx Tryz.prog 233 = 1 ∧ isAggT Tryz.prog 233 = false ∧ okT Tryz.prog 233 = true ∧ okE Tryz.prog 233 = true ∧ okZ Tryz.prog 233 = true ∧ Program.bytesOf Tryz.prog 233 = 1 := by refine ⟨?_, ?_, ?_, ?_, ?_, ?_, ?_, ?_⟩ <;> kernel_rfl
@[simp] theorem ty234 : szT Tryz.prog 234 = 1 ∧ szOb Tryz.prog 234 = 1 ∧ szBx Tryz.prog 234 = 1 ∧ isAggT Tryz.prog 234 = false ∧ okT Tryz.prog 234 = true ∧ okE Tryz.prog 234 = true ∧ okZ Tryz.prog 234 = true ∧ Program.bytesOf Tryz.prog 234 = 8 := by refine ⟨?_, ?_, ?_, ?_, ?_, ?_, ?_, ?_⟩ <;> kernel_rfl
@[simp] theorem ty235 : szT Tryz.prog 235 = 1 ∧ szOb Tryz.prog 235 = 1 ∧ szBx Tryz.prog 235 = 1 ∧ isAggT Tryz.prog 235 = false ∧ okT Tryz.prog 235 = true ∧ okE Tryz.prog 235 = true ∧ okZ Tryz.prog 235 = true ∧ Program.bytesOf Tryz.prog 235 = 4 := by refine ⟨?_, ?_, ?_, ?_, ?_, ?_, ?_, ?_⟩ <;> kernel_rfl
@[simp] theorem ty236 : szT Tryz.prog 236 = 1 ∧ szOb Tryz.prog 236 = 1 ∧ szBx Tryz.prog 236 = 1 ∧ isAggT Tryz.prog 236 = false ∧ okT Tryz.prog 236 = true ∧ okE Tryz.prog 236 = true ∧ okZ Tryz.prog 236 = true ∧ Program.bytesOf Tryz.prog 236 = 4 := by refine ⟨?_, ?_, ?_, ?_, ?_, ?_, ?_, ?_⟩ <;> kernel_rfl
@[simp] theorem ty237 : szT Tryz.prog 237 = 11 ∧ szOb Tryz.prog 237 = 11 ∧ szBx Tryz.prog 237 = 11 ∧ isAggT Tryz.prog 237 = true ∧ okT Tryz.prog 237 = true ∧ okE Tryz.prog 237 = true ∧ okZ Tryz.prog 237 = true ∧ Program.bytesOf Tryz.prog 237 = 48 := by refine ⟨?_, ?_, ?_, ?_, ?_, ?_, ?_, ?_⟩ <;> kernel_rfl
@[simp] theorem ty238 : szT Tryz.prog 238 = 11 ∧ szOb Tryz.prog 238 = 11 ∧ szBx Tryz.prog 238 = 11 ∧ isAggT Tryz.prog 238 = true ∧ okT Tryz.prog 238 = true ∧ okE Tryz.prog 238 = true ∧ okZ Tryz.prog 238 = true ∧ Program.bytesOf Tryz.prog 238 = 48 := by refine ⟨?_, ?_, ?_, ?_, ?_, ?_, ?_, ?_⟩ <;> kernel_rfl
@[simp] theorem ty239 : szT Tryz.prog 239 = 1 ∧ szOb Tryz.prog 239 = 1 ∧ szBx Tryz.prog 239 = 1 ∧ isAggT Tryz.prog 239 = false ∧ okT Tryz.prog 239 = true ∧ okE Tryz.prog 239 = true ∧ okZ Tryz.prog 239 = true ∧ Program.bytesOf Tryz.prog 239 = 8 := by refine ⟨?_, ?_, ?_, ?_, ?_, ?_, ?_, ?_⟩ <;> kernel_rfl
@[simp] theorem ty240 : szT Tryz.prog 240 = 1 ∧ szOb Tryz.prog 240 = 1 ∧ szBx Tryz.prog 240 = 1 ∧ isAggT Tryz.prog 240 = false ∧ okT Tryz.prog 240 = true ∧ okE Tryz.prog 240 = true ∧ okZ Tryz.prog 240 = true ∧ Program.bytesOf Tryz.prog 240 = 8 := by refine ⟨?_, ?_, ?_, ?_, ?_, ?_, ?_, ?_⟩ <;> kernel_rfl
theorem mixed : Tryz.prog.follows .mixedOrders = true := by kernel_rfl
attribute [simp] Tryz.underlying0
attribute [simp] Tryz.underlying1
attribute [simp] Tryz.underlying2
attribute [simp] Tryz.underlying3
attribute [simp] Tryz.underlying4
attribute [simp] Tryz.underlying5
attribute [simp] Tryz.underlying6
attribute [simp] Tryz.underlying7
attribute [simp] Tryz.underlying8
attribute [simp] Tryz.underlying9
attribute [simp] Tryz.underlying10
attribute [simp] Tryz.underlying11
attribute [simp] Tryz.underlying12
attribute [simp] Tryz.underlying13
attribute [simp] Tryz.underlying14
attribute [simp] Tryz.underlying15
attribute [simp] Tryz.underlying16
attribute [simp] Tryz.underlying17
attribute [simp] Tryz.underlying18
attribute [simp] Tryz.underlying19
attribute [simp] Tryz.underlying20
attribute [simp] Tryz.underlying21
attribute [simp] Tryz.underlying22
attribute [simp] Tryz.underlying23
attribute [simp] Tryz.underlying24
attribute [simp] Tryz.underlying25
attribute [simp] Tryz.underlying26
attribute [simp] Tryz.underlying27
attribute [simp] Tryz.underlying28
attribute [simp] Tryz.underlying29
attribute [simp] Tryz.underlying30
attribute [simp] Tryz.underlying31
attribute [simp] Tryz.underlying32
attribute [simp] Tryz.underlying33
attribute [simp] Tryz.underlying34
attribute [simp] Tryz.underlying35
attribute [simp] Tryz.underlying36
attribute [simp] Tryz.underlying37
attribute [simp] Tryz.underlying38
attribute [simp] Tryz.underlying39
attribute [simp] Tryz.underlying40
attribute [simp] Tryz.underlying41
attribute [simp] Tryz.underlying42
attribute [simp] Tryz.underlying43
attribute [simp] Tryz.underlying44
attribute [simp] Tryz.underlying45
attribute [simp] Tryz.underlying46
attribute [simp] Tryz.underlying47
attribute [simp] Tryz.underlying48
attribute [simp] Tryz.underlying49
attribute [simp] Tryz.underlying50
attribute [simp] Tryz.underlying51
attribute [simp] Tryz.underlying52
attribute [simp] Tryz.underlying53
attribute [simp] Tryz.underlying54
attribute [simp] Tryz.underlying55
attribute [simp] Tryz.underlying56
attribute [simp] Tryz.underlying57
attribute [simp] Tryz.underlying58
attribute [simp] Tryz.underlying59
attribute [simp] Tryz.underlying60
attribute [simp] Tryz.underlying61
attribute [simp] Tryz.underlying62
attribute [simp] Tryz.underlying63
attribute [simp] Tryz.underlying64
attribute [simp] Tryz.underlying65
attribute [simp] Tryz.underlying66
attribute [simp] Tryz.underlying67
attribute [simp] Tryz.underlying68
attribute [simp] Tryz.underlying69
attribute [simp] Tryz.underlying70
attribute [simp] Tryz.underlying71
attribute [simp] Tryz.underlying72
attribute [simp] Tryz.underlying73
attribute [simp] Tryz.underlying74
attribute [simp] Tryz.underlying75
attribute [simp] Tryz.underlying76
attribute [simp] Tryz.underlying77
attribute [simp] Tryz.underlying78
attribute [simp] Tryz.underlying79
attribute [simp] Tryz.underlying80
attribute [simp] Tryz.underlying81
attribute [simp] Tryz.underlying82
attribute [simp] Tryz.underlying83
attribute [simp] Tryz.underlying84
attribute [simp] Tryz.underlying85
attribute [simp] Tryz.underlying86
attribute [simp] Tryz.underlying87
attribute [simp] Tryz.underlying88
attribute [simp] Tryz.underlying89
attribute [simp] Tryz.underlying90
attribute [simp] Tryz.underlying91
attribute [simp] Tryz.underlying92
attribute [simp] Tryz.underlying93
attribute [simp] Tryz.underlying94
attribute [simp] Tryz.underlying95
attribute [simp] Tryz.underlying96
attribute [simp] Tryz.underlying97
attribute [simp] Tryz.underlying98
attribute [simp] Tryz.underlying99
attribute [simp] Tryz.underlying100
attribute [simp] Tryz.underlying101
attribute [simp] Tryz.underlying102
attribute [simp] Tryz.underlying103
attribute [simp] Tryz.underlying104
attribute [simp] Tryz.underlying105
attribute [simp] Tryz.underlying106
attribute [simp] Tryz.underlying107
attribute [simp] Tryz.underlying108
attribute [simp] Tryz.underlying109
attribute [simp] Tryz.underlying110
attribute [simp] Tryz.underlying111
attribute [simp] Tryz.underlying112
attribute [simp] Tryz.underlying113
attribute [simp] Tryz.underlying114
attribute [simp] Tryz.underlying115
attribute [simp] Tryz.underlying116
attribute [simp] Tryz.underlying117
attribute [simp] Tryz.underlying118
attribute [simp] Tryz.underlying119
attribute [simp] Tryz.underlying120
attribute [simp] Tryz.underlying121
attribute [simp] Tryz.underlying122
attribute [simp] Tryz.underlying123
attribute [simp] Tryz.underlying124
attribute [simp] Tryz.underlying125
attribute [simp] Tryz.underlying126
attribute [simp] Tryz.underlying127
attribute [simp] Tryz.underlying128
attribute [simp] Tryz.underlying129
attribute [simp] Tryz.underlying130
attribute [simp] Tryz.underlying131
attribute [simp] Tryz.underlying132
attribute [simp] Tryz.underlying133
attribute [simp] Tryz.underlying134
attribute [simp] Tryz.underlying135
attribute [simp] Tryz.underlying136
attribute [simp] Tryz.underlying137
attribute [simp] Tryz.underlying138
attribute [simp] Tryz.underlying139
attribute [simp] Tryz.underlying140
attribute [simp] Tryz.underlying141
attribute [simp] Tryz.underlying142
attribute [simp] Tryz.underlying143
attribute [simp] Tryz.underlying144
attribute [simp] Tryz.underlying145
attribute [simp] Tryz.underlying146
attribute [simp] Tryz.underlying147
attribute [simp] Tryz.underlying148
attribute [simp] Tryz.underlying149
attribute [simp] Tryz.underlying150
attribute [simp] Tryz.underlying151
attribute [simp] Tryz.underlying152
attribute [simp] Tryz.underlying153
attribute [simp] Tryz.underlying154
attribute [simp] Tryz.underlying155
attribute [simp] Tryz.underlying156
attribute [simp] Tryz.underlying157
attribute [simp] Tryz.underlying158
attribute [simp] Tryz.underlying159
attribute [simp] Tryz.underlying160
attribute [simp] Tryz.underlying161
attribute [simp] Tryz.underlying162
attribute [simp] Tryz.underlying163
attribute [simp] Tryz.underlying164
attribute [simp] Tryz.underlying165
attribute [simp] Tryz.underlying166
attribute [simp] Tryz.underlying167
attribute [simp] Tryz.underlying168
attribute [simp] Tryz.underlying169
attribute [simp] Tryz.underlying170
attribute [simp] Tryz.underlying171
attribute [simp] Tryz.underlying172
attribute [simp] Tryz.underlying173
attribute [simp] Tryz.underlying174
attribute [simp] Tryz.underlying175
attribute [simp] Tryz.underlying176
attribute [simp] Tryz.underlying177
attribute [simp] Tryz.underlying178
attribute [simp] Tryz.underlying179
attribute [simp] Tryz.underlying180
attribute [simp] Tryz.underlying181
attribute [simp] Tryz.underlying182
attribute [simp] Tryz.underlying183
attribute [simp] Tryz.underlying184
attribute [simp] Tryz.underlying185
attribute [simp] Tryz.underlying186
attribute [simp] Tryz.underlying187
attribute [simp] Tryz.underlying188
attribute [simp] Tryz.underlying189
attribute [simp] Tryz.underlying190
attribute [simp] Tryz.underlying191
attribute [simp] Tryz.underlying192
attribute [simp] Tryz.underlying193
attribute [simp] Tryz.underlying194
attribute [simp] Tryz.underlying195
attribute [simp] Tryz.underlying196
attribute [simp] Tryz.underlying197
attribute [simp] Tryz.underlying198
attribute [simp] Tryz.underlying199
attribute [simp] Tryz.underlying200
attribute [simp] Tryz.underlying201
attribute [simp] Tryz.underlying202
attribute [simp] Tryz.underlying203
attribute [simp] Tryz.underlying204
attribute [simp] Tryz.underlying205
attribute [simp] Tryz.underlying206
attribute [simp] Tryz.underlying207
attribute [simp] Tryz.underlying208
attribute [simp] Tryz.underlying209
attribute [simp] Tryz.underlying210
attribute [simp] Tryz.underlying211
attribute [simp] Tryz.underlying212
attribute [simp] Tryz.underlying213
attribute [simp] Tryz.underlying214
attribute [simp] Tryz.underlying215
attribute [simp] Tryz.underlying216
attribute [simp] Tryz.underlying217
attribute [simp] Tryz.underlying218
attribute [simp] Tryz.underlying219
attribute [simp] Tryz.underlying220
attribute [simp] Tryz.underlying221
attribute [simp] Tryz.underlying222
attribute [simp] Tryz.underlying223
attribute [simp] Tryz.underlying224
attribute [simp] Tryz.underlying225
attribute [simp] Tryz.underlying226
attribute [simp] Tryz.underlying227
attribute [simp] Tryz.underlying228
attribute [simp] Tryz.underlying229
attribute [simp] Tryz.underlying230
attribute [simp] Tryz.underlying231
attribute [simp] Tryz.underlying232
attribute [simp] Tryz.underlying233
attribute [simp] Tryz.underlying234
attribute [simp] Tryz.underlying235
attribute [simp] Tryz.underlying236
attribute [simp] Tryz.underlying237
attribute [simp] Tryz.underlying238
attribute [simp] Tryz.underlying239
attribute [simp] Tryz.underlying240
end Go.Proofs.YtpcnacknlgmmlaaGreat.Tab

set_option exponentiation.threshold 1000
set_option linter.unusedVariables false
set_option linter.unusedSimpArgs false
set_option maxRecDepth 100000
set_option maxHeartbeats 4000000
namespace Go.Av
open Go Go.Proofs Go.Proofs.YtpcnacknlgmmlaaGreat Go.RowKit
attribute [local simp] List.getElem?_cons_zero List.getElem?_cons_succ
/-! ### words as bytes -/
def b8 (b : UInt8) : C := .v (.int .u8 (b.toNat : Int))
def bytesC (l : List UInt8) : List C := l.map b8
def bsS (l : List UInt8) : ByteArray := ⟨l.toArray⟩
def u64C (n : Nat) : C := .v (.int .u64 (n : Int))
def putN : Nat → Nat → List UInt8
  | _, 0 => []
  | x, n + 1 => putN (x / 256) n ++ [UInt8.ofNat x]
theorem putN_len (x n : Nat) : (putN x n).length = n := by
  induction n generalizing x with
  | zero => rfl
  | succ n ih => rw [putN, List.length_append, ih]; rfl
theorem putN_succ (x n : Nat) : putN x (n + 1) = UInt8.ofNat (x / 256 ^ n) :: putN x n := by
  induction n generalizing x with
  | zero => simp [putN]
  | succ n ih =>
    rw [putN, ih, putN, List.cons_append, Nat.div_div_eq_div_mul, Nat.pow_succ, Nat.mul_comm]
theorem bytesM_bytes (l : List UInt8) : bytesM (up (bytesC l)) = some l := by
  induction l with
  | nil => rfl
  | cons x xs ih =>
    simp only [bytesC, up, List.map_cons] at *
    simp only [bytesM, b8] at *
    rw [ih]
    simp
theorem ofNat_mod (x : Nat) : ((UInt8.ofNat x).toNat : Int) = ((x % 256 : Nat) : Int) := by simp
theorem put_den (x n : Nat) (hx : x < 18446744073709551616) (hn : n ≤ 1000000) : DenV Tryz.prog 110 [.c (u64C x), .c (iC n)] (.c (.v (.string (bsS (putN x n))))) := by
  refine Den.frame rfl rfl ?_
  refine den_of Tryz.func110 rfl rfl (by simp [Tryz.ntmps110]) (fun X hX hO => ?_)
  rw [Tryz.ntmps110] at hX
  simp only [Tryz.results110]
  repeat' (first 
   | (with_reducible first | refine awp_scope ?_ | refine awp_seq ?_ | refine awp_block ?_)
   | ((with_reducible first | refine awp_label ?_ | refine awp_skip ?_ | refine awp_exit ?_ | refine hother _ _ rfl ?_); try simp only [thenA, inBlockA, noGotoA, if_true, Nat.reduceEqDiff, if_false, ↓reduceIte])
   | ((with_reducible first | refine awp_reg 26 hX [0, 1, 4, 5, 6, 9, 10, 11] ?_ | change postOf _ _ _ _ _); simp [-List.reduceReplicate, Nat.add_one_le_iff, -getElem?_pos, -getElem?_neg, u64C, iC])
   | ((first | (with_reducible refine awp_ret ?_; try simp only [thenA, inBlockA, noGotoA])); try simp [-List.reduceReplicate, Nat.add_one_le_iff, -getElem?_pos, -getElem?_neg, u64C, iC])
   | (with_reducible refine awp_if_b rfl (fun hc => ?_) (fun hc => ?_) <;> (try simp [-getElem?_pos, -getElem?_neg] at hc) <;> (try (exfalso; omega)))
   | (with_reducible refine And.intro (by omega) ?_)
   | fail)
  refine awp_forU [0, 1, 5, 9, 10] (fun i (_u : Unit) => [(0, .c (u64C (x / 256 ^ i))), (10, .c (iC i))]) (fun i (_u : Unit) => [⟨5, 1, false, 0, up (List.replicate (n - i) (b8 0) ++ bytesC (putN x i)), none⟩]) (fun i (_u : Unit) => True) (n) (()) (by first | trivial | (simp; done) | omega | (intros; simp at *; done)) (by simp [-List.reduceReplicate, keep, u64C, iC, b8, putN, bytesC]) (by simp [-List.reduceReplicate, u64C, iC, b8, putN, bytesC]) ?_
  rintro i _u Q1 hi hH next hother
  conv => arg 5; arg 1; simp only [List.cons_append, List.nil_append, keep, get, Nat.reduceEqDiff, if_true, if_false, ↓reduceIte]
  have hwi := wrap_in ((i : Int) + 1) (by omega)
  have hw1 := wrap_in ((n : Int) - 1) (by omega)
  have hw2 := wrap_in ((n : Int) - 1 - (i : Int)) (by omega)
  have hlx : x / 256 ^ i ≤ x := Nat.div_le_self _ _
  have hw3 := modU8 ((x / 256 ^ i : Nat) : Int)
  by_cases hlt : i < n
  · have hb : .v (.int .u8 (((x / 256 ^ i : Nat) : Int) % 256)) = b8 (UInt8.ofNat (x / 256 ^ i)) := by unfold b8; rw [ofNat_mod]; rfl
    have hset : (List.replicate (n - i) (b8 0) ++ bytesC (putN x i)).set (n - 1 - i) (b8 (UInt8.ofNat (x / 256 ^ i))) = List.replicate (n - (i + 1)) (b8 0) ++ bytesC (putN x (i + 1)) := by
      rw [show n - i = (n - (i + 1)) + 1 by omega, List.replicate_succ', List.append_assoc, List.set_append_right _ _ (by simp; omega), List.length_replicate, show n - 1 - i - (n - (i + 1)) = 0 by omega, putN_succ]
      rfl
    have hln : (List.replicate (n - i) (b8 0) ++ bytesC (putN x i)).length = n := by simp [bytesC, putN_len]; omega
    have hdiv : ((x / 256 ^ i : Nat) : Int).fdiv 256 = ((x / 256 ^ (i + 1) : Nat) : Int) := by rw [Nat.pow_succ, ← Nat.div_div_eq_div_mul]; exact fdiv_nat _ 256
    generalize hxj : x / 256 ^ (i + 1) = xj at *
    have ht : ((n : Int) - 1 - (i : Int)).toNat = n - 1 - i := by omega
    have c1 : (i : Int) ≤ (n : Int) - 1 := by omega
    have c2 : (n : Int) - 1 - (i : Int) < n := by omega
    have c3 : n - 1 - i < n := by omega
    generalize List.replicate (n - i) (b8 0) ++ bytesC (putN x i) = r0 at *
    generalize hxi : x / 256 ^ i = xi at *
    repeat' (first 
     | (with_reducible first | refine awp_scope ?_ | refine awp_seq ?_ | refine awp_block ?_)
     | ((with_reducible first | refine awp_label ?_ | refine awp_skip ?_ | refine awp_exit ?_ | refine hother _ _ rfl ?_); try simp only [thenA, inBlockA, noGotoA, if_true, Nat.reduceEqDiff, if_false, ↓reduceIte])
     | ((with_reducible first | refine awp_reg 26 hX [0, 1, 4, 5, 6, 9, 10, 11] ?_ | change postOf _ _ _ _ _); simp [-List.reduceReplicate, Nat.add_one_le_iff, -getElem?_pos, -getElem?_neg, u64C, iC, hlt, hwi, hw1, hw2, hw3, ht, c1, c2, c3, hln, hdiv, IntKind.bits])
     | ((first | (with_reducible refine awp_ret ?_; try simp only [thenA, inBlockA, noGotoA])); try simp [-List.reduceReplicate, Nat.add_one_le_iff, -getElem?_pos, -getElem?_neg, u64C, iC, hlt, hwi, hw1, hw2, hw3, ht, c1, c2, c3, hln, hdiv, IntKind.bits])
     | (with_reducible refine awp_if_b rfl (fun hc => ?_) (fun hc => ?_) <;> (try simp [-getElem?_pos, -getElem?_neg] at hc) <;> (try (exfalso; omega)))
     | (with_reducible refine And.intro (by omega) ?_)
     | fail)
    refine next _ _ () hlt trivial (by simp [keep, u64C, iC, hxj]) ?_
    rw [hb, hset]
  · have hin : i = n := by omega
    subst hin
    have hbm := bytesM_bytes (putN x i)
    have htk : (bytesC (putN x i)).take i = bytesC (putN x i) := List.take_of_length_le (by simp [bytesC, putN_len])
    have hl : (bytesC (putN x i)).length = i := by simp [bytesC, putN_len]
    generalize hr : bytesC (putN x i) = r at *
    repeat' (first 
     | (with_reducible first | refine awp_scope ?_ | refine awp_seq ?_ | refine awp_block ?_)
     | ((with_reducible first | refine awp_label ?_ | refine awp_skip ?_ | refine awp_exit ?_ | refine hother _ _ rfl ?_); try simp only [thenA, inBlockA, noGotoA, if_true, Nat.reduceEqDiff, if_false, ↓reduceIte])
     | ((with_reducible first | refine awp_reg 26 hX [0, 1, 4, 5, 6, 9, 10, 11] ?_ | change postOf _ _ _ _ _); simp [-List.reduceReplicate, Nat.add_one_le_iff, -getElem?_pos, -getElem?_neg, u64C, iC, hlt, hbm, hl, htk, hr, bsS])
     | ((first | (with_reducible refine awp_ret ?_; try simp only [thenA, inBlockA, noGotoA])); try simp [-List.reduceReplicate, Nat.add_one_le_iff, -getElem?_pos, -getElem?_neg, u64C, iC, hlt, hbm, hl, htk, hr, bsS])
     | (with_reducible refine awp_if_b rfl (fun hc => ?_) (fun hc => ?_) <;> (try simp [-getElem?_pos, -getElem?_neg] at hc) <;> (try (exfalso; omega)))
     | (with_reducible refine And.intro (by omega) ?_)
     | fail)
theorem put64_den (x : Nat) (hx : x < 18446744073709551616) : DenV Tryz.prog 78 [.c (u64C x)] (.c (.v (.string (bsS (putN x 8))))) := by
  refine Den.frame rfl rfl ?_
  refine den_of Tryz.func78 rfl rfl (by simp [Tryz.ntmps78]) (fun X hX hO => ?_)
  rw [Tryz.ntmps78] at hX
  simp only [Tryz.results78]
  repeat' (first 
   | (with_reducible first | refine awp_scope ?_ | refine awp_seq ?_ | refine awp_block ?_)
   | ((with_reducible first | refine awp_label ?_ | refine awp_skip ?_ | refine awp_exit ?_); try simp only [thenA, inBlockA, noGotoA, if_true, Nat.reduceEqDiff, if_false, ↓reduceIte])
   | ((with_reducible first | refine awp_reg 5 hX [0, 2] ?_ | change postOf _ _ _ _ _); simp [-List.reduceReplicate, Nat.add_one_le_iff, -getElem?_pos, -getElem?_neg, u64C])
   | ((first | (with_reducible refine awp_ret ?_; try simp only [thenA, inBlockA, noGotoA]) | ((with_reducible refine Den.at_ (f := 110) ?_); refine (put_den x 8 hx (by omega) _).det ?_)); try simp [-List.reduceReplicate, Nat.add_one_le_iff, -getElem?_pos, -getElem?_neg, u64C])
   | (with_reducible refine awp_if_b rfl (fun hc => ?_) (fun hc => ?_) <;> (try simp [-getElem?_pos, -getElem?_neg] at hc) <;> (try (exfalso; omega)))
   | (with_reducible refine And.intro (by omega) ?_)
   | fail)
theorem byte01_den (n : Int) : DenV Tryz.prog 82 [.c (iC n)] (.c (.v (.string (bsS [UInt8.ofNat (n % 256).toNat])))) := by
  refine Den.frame rfl rfl ?_
  refine den_of Tryz.func82 rfl rfl (by simp [Tryz.ntmps82]) (fun X hX hO => ?_)
  rw [Tryz.ntmps82] at hX
  simp only [Tryz.results82]
  have h := modU8 n
  repeat' (first 
   | (with_reducible first | refine awp_scope ?_ | refine awp_seq ?_ | refine awp_block ?_)
   | ((with_reducible first | refine awp_label ?_ | refine awp_skip ?_ | refine awp_exit ?_); try simp only [thenA, inBlockA, noGotoA, if_true, Nat.reduceEqDiff, if_false, ↓reduceIte])
   | ((with_reducible first | refine awp_reg 7 hX [0, 2] ?_ | change postOf _ _ _ _ _); simp [-List.reduceReplicate, Nat.add_one_le_iff, -getElem?_pos, -getElem?_neg, iC, h, bsS, bytesM])
   | ((first | (with_reducible refine awp_ret ?_; try simp only [thenA, inBlockA, noGotoA])); try simp [-List.reduceReplicate, Nat.add_one_le_iff, -getElem?_pos, -getElem?_neg, iC, h, bsS, bytesM])
   | (with_reducible refine awp_if_b rfl (fun hc => ?_) (fun hc => ?_) <;> (try simp [-getElem?_pos, -getElem?_neg] at hc) <;> (try (exfalso; omega)))
   | (with_reducible refine And.intro (by omega) ?_)
   | fail)
theorem bs_append (a b : List UInt8) : bsS a ++ bsS b = bsS (a ++ b) := by
  apply ByteArray.ext
  simp [bsS]
theorem bs_size (l : List UInt8) : (bsS l).size = l.length := by simp [bsS, ByteArray.size]
theorem put01_den (x n : Nat) (hx : x < 18446744073709551616) (hn : n ≤ 1000000) : DenV Tryz.prog 81 [.c (u64C x), .c (iC n)] (.c (.v (.string (bsS (putN x n))))) := by
  refine Den.frame rfl rfl ?_
  refine den_of Tryz.func81 rfl rfl (by simp [Tryz.ntmps81]) (fun X hX hO => ?_)
  rw [Tryz.ntmps81] at hX
  simp only [Tryz.results81]
  repeat' (first 
   | (with_reducible first | refine awp_scope ?_ | refine awp_seq ?_ | refine awp_block ?_)
   | ((with_reducible first | refine awp_label ?_ | refine awp_skip ?_ | refine awp_exit ?_ | refine hother _ _ rfl ?_); try simp only [thenA, inBlockA, noGotoA, if_true, Nat.reduceEqDiff, if_false, ↓reduceIte])
   | ((with_reducible first | refine awp_reg 21 hX [0, 1, 4, 5, 6, 9] ?_ | change postOf _ _ _ _ _); simp [-List.reduceReplicate, Nat.add_one_le_iff, -getElem?_pos, -getElem?_neg, u64C, iC])
   | ((first | (with_reducible refine awp_ret ?_; try simp only [thenA, inBlockA, noGotoA])); try simp [-List.reduceReplicate, Nat.add_one_le_iff, -getElem?_pos, -getElem?_neg, u64C, iC])
   | (with_reducible refine awp_if_b rfl (fun hc => ?_) (fun hc => ?_) <;> (try simp [-getElem?_pos, -getElem?_neg] at hc) <;> (try (exfalso; omega)))
   | (with_reducible refine And.intro (by omega) ?_)
   | fail)
  refine awp_forU [0, 1, 5, 6] (fun i (_u : Unit) => [(0, .c (u64C (x / 256 ^ i))), (5, .c (.v (.string (bsS (putN x i))))), (6, .c (iC i))]) (fun i (_u : Unit) => []) (fun i (_u : Unit) => True) (n) (()) (by first | trivial | (simp; done) | omega | (intros; simp at *; done)) (by simp [-List.reduceReplicate, keep, u64C, iC, putN, bsS]) (by simp [-List.reduceReplicate, u64C, iC, putN, bsS]) ?_
  rintro i _u Q1 hi hH next hother
  conv => arg 5; arg 1; simp only [List.cons_append, List.nil_append, keep, get, Nat.reduceEqDiff, if_true, if_false, ↓reduceIte]
  have hwi := wrap_in ((i : Int) + 1) (by omega)
  have hlx : x / 256 ^ i ≤ x := Nat.div_le_self _ _
  by_cases hlt : i < n
  · have hl := putN_len x i
    have h1 : (((x / 256 ^ i : Nat) : Int)).tmod 256 = ((x / 256 ^ i % 256 : Nat) : Int) := rfl
    have h2 : (((x / 256 ^ i : Nat) : Int)).tdiv 256 = ((x / 256 ^ (i + 1) : Nat) : Int) := by rw [Nat.pow_succ, ← Nat.div_div_eq_div_mul]; rfl
    have hle : x / 256 ^ (i + 1) ≤ x := Nat.div_le_self _ _
    have h5 : bsS [UInt8.ofNat (((x / 256 ^ i % 256 : Nat) : Int) % 256).toNat] ++ bsS (putN x i) = bsS (putN x (i + 1)) := by
      rw [bs_append, putN_succ, List.singleton_append]
      generalize x / 256 ^ i = xi
      congr 2
      apply UInt8.toNat_inj.1
      rw [show (((xi % 256 : Nat) : Int) % 256).toNat = xi % 256 by omega]
      simp
    have h6 := bs_size (putN x i)
    have h7 := bs_size [UInt8.ofNat (((x / 256 ^ i % 256 : Nat) : Int) % 256).toNat]
    generalize hxj : x / 256 ^ (i + 1) = xj at *
    generalize x / 256 ^ i = xi at *
    have hm' : xi % 256 < 256 := Nat.mod_lt _ (by omega)
    generalize hm : xi % 256 = xm at *
    have h3 := wrapU64 (xj : Int) (by omega)
    have h4 := wrap_in (xm : Int) (by omega)
    have h8 : 1 + i ≤ 9223372036854775807 := by omega
    repeat' (first 
     | (with_reducible first | refine awp_scope ?_ | refine awp_seq ?_ | refine awp_block ?_)
     | ((with_reducible first | refine awp_label ?_ | refine awp_skip ?_ | refine awp_exit ?_ | refine hother _ _ rfl ?_); try simp only [thenA, inBlockA, noGotoA, if_true, Nat.reduceEqDiff, if_false, ↓reduceIte])
     | ((with_reducible first | refine awp_reg 21 hX [0, 1, 4, 5, 6, 9] ?_ | change postOf _ _ _ _ _); simp [-List.reduceReplicate, Nat.add_one_le_iff, -getElem?_pos, -getElem?_neg, u64C, iC, hlt, hwi, h1, h2, h3, h4, h5, h6, h7, hl, h8])
     | ((first | (with_reducible refine awp_ret ?_; try simp only [thenA, inBlockA, noGotoA]) | ((with_reducible refine Den.at_ (f := 82) ?_); refine (byte01_den _ _).det ?_)); try simp [-List.reduceReplicate, Nat.add_one_le_iff, -getElem?_pos, -getElem?_neg, u64C, iC, hlt, hwi, h1, h2, h3, h4, h5, h6, h7, hl, h8])
     | (with_reducible refine awp_if_b rfl (fun hc => ?_) (fun hc => ?_) <;> (try simp [-getElem?_pos, -getElem?_neg] at hc) <;> (try (exfalso; omega)))
     | (with_reducible refine And.intro (by omega) ?_)
     | fail)
    refine next _ _ () hlt trivial (by simp [keep, u64C, iC, hxj]) rfl
  · have hin : i = n := by omega
    subst hin
    repeat' (first 
     | (with_reducible first | refine awp_scope ?_ | refine awp_seq ?_ | refine awp_block ?_)
     | ((with_reducible first | refine awp_label ?_ | refine awp_skip ?_ | refine awp_exit ?_ | refine hother _ _ rfl ?_); try simp only [thenA, inBlockA, noGotoA, if_true, Nat.reduceEqDiff, if_false, ↓reduceIte])
     | ((with_reducible first | refine awp_reg 21 hX [0, 1, 4, 5, 6, 9] ?_ | change postOf _ _ _ _ _); simp [-List.reduceReplicate, Nat.add_one_le_iff, -getElem?_pos, -getElem?_neg, u64C, iC, hlt])
     | ((first | (with_reducible refine awp_ret ?_; try simp only [thenA, inBlockA, noGotoA])); try simp [-List.reduceReplicate, Nat.add_one_le_iff, -getElem?_pos, -getElem?_neg, u64C, iC, hlt])
     | (with_reducible refine awp_if_b rfl (fun hc => ?_) (fun hc => ?_) <;> (try simp [-getElem?_pos, -getElem?_neg] at hc) <;> (try (exfalso; omega)))
     | (with_reducible refine And.intro (by omega) ?_)
     | fail)
end Go.Av

set_option exponentiation.threshold 1000
set_option linter.unusedVariables false
set_option linter.unusedSimpArgs false
set_option maxRecDepth 100000
set_option maxHeartbeats 4000000
namespace Go.Av
open Go Go.Proofs Go.Proofs.YtpcnacknlgmmlaaGreat Go.RowKit
attribute [local simp] List.getElem?_cons_zero List.getElem?_cons_succ
/-! ### arguments of the laws -/
def strC (l : List ByteArray) : C := .sl (l.map fun s => .v (.string s)) l.length false
theorem opens_u64 {P : Program} {t : TypeId} (ht : P.underlying t = some (.int .u64)) : Opens P t (fun n : Nat => [u64C n]) (fun n => n < 18446744073709551616) :=
  (opens_int ht).conv fun n hn => by
    have h : 0 ≤ n ∧ n ≤ 18446744073709551615 := by simpa [Lit.wf, IntKind.min, IntKind.max, IntKind.signed, IntKind.bits] using hn
    exact ⟨n.toNat, by omega, by simp only [u64C]; rw [show ((n.toNat : Nat) : Int) = n by omega]⟩
end Go.Av

set_option exponentiation.threshold 1000
set_option linter.unusedVariables false
set_option linter.unusedSimpArgs false
set_option maxRecDepth 100000
set_option maxHeartbeats 4000000
namespace Go.Av
open Go Go.Proofs Go.Proofs.YtpcnacknlgmmlaaGreat Go.RowKit
attribute [local simp] List.getElem?_cons_zero List.getElem?_cons_succ
/-! ### num: numbers as bytes, seven bits each -/
def putV (x : Nat) : List UInt8 := if x < 128 then [UInt8.ofNat x] else UInt8.ofNat (x % 128 + 128) :: putV (x / 128)
theorem putV_lo {x : Nat} (h : x < 128) : putV x = [UInt8.ofNat x] := by rw [putV, if_pos h]
theorem putV_hi {x : Nat} (h : ¬ x < 128) : putV x = UInt8.ofNat (x % 128 + 128) :: putV (x / 128) := by rw [putV, if_neg h]
theorem putV_len : ∀ (n x : Nat), x < 128 ^ (n + 1) → (putV x).length ≤ n + 1 := by
  intro n
  induction n with
  | zero => intro x h; rw [putV_lo (by simpa using h)]; simp
  | succ n ih =>
    intro x h
    by_cases hx : x < 128
    · rw [putV_lo hx]; simp
    · rw [putV_hi hx, List.length_cons]
      have := ih (x / 128) (by rw [Nat.pow_succ] at h; exact Nat.div_lt_of_lt_mul (by omega))
      omega
theorem putV_len10 (x : Nat) (h : x < 18446744073709551616) : (putV x).length ≤ 10 := putV_len 9 x (Nat.lt_of_lt_of_le h (by decide))
theorem putV_pos (x : Nat) : 0 < (putV x).length := by rw [putV]; split <;> simp
theorem b8_u8 (y : Nat) : C.v (Value.int .u8 (IntKind.u8.wrap (y : Int))) = b8 (UInt8.ofNat y) := by
  rw [modU8, b8, ofNat_mod]
  norm_cast
theorem b8_or (y : Nat) : C.v (Value.int .u8 (orI .u8 (IntKind.u8.wrap (y : Int)) 128)) = b8 (UInt8.ofNat (y % 128 + 128)) := by
  rw [modU8, b8, ofNat_mod]
  have h1 : ((y : Int) % 256) = ((y % 256 : Nat) : Int) := by norm_cast
  have h2 : (128 : Int) = ((128 : Nat) : Int) := rfl
  rw [h1, h2, orU .u8 _ _ (by simp [IntKind.bits]; omega) (by simp [IntKind.bits]) rfl]
  congr 3
  have h3 := Nat.two_pow_add_eq_or_of_lt (i := 7) (b := y % 128) (by omega) 1
  have h4 : (y % 256) ||| 128 = (128 ||| (y % 128)) := by
    have : ∀ z, z < 256 → z ||| 128 = 128 ||| (z % 128) := by decide +kernel
    rw [this _ (by omega)]
    congr 1
    omega
  rw [h4]
  simp at h3
  omega
theorem num_put_den (x : Nat) (hx : x < 18446744073709551616) : DenV Tryz.prog 79 [.c (u64C x)] (.c (.v (.string (bsS (putV x))))) := by
  refine Den.frame rfl rfl ?_
  have hpl := putV_len10 x hx
  obtain ⟨r, hr⟩ : ∃ r, putV x = r := ⟨_, rfl⟩
  rw [hr] at hpl ⊢
  refine den_of Tryz.func79 rfl rfl (by simp [Tryz.ntmps79]) (fun X hX hO => ?_)
  rw [Tryz.ntmps79] at hX
  simp only [Tryz.results79]
  repeat' (first 
   | (with_reducible first | refine awp_scope ?_ | refine awp_seq ?_ | refine awp_block ?_)
   | ((with_reducible first | refine awp_label ?_ | refine awp_skip ?_ | refine awp_exit ?_ | refine hother _ _ rfl ?_); try simp only [thenA, inBlockA, noGotoA, if_true, Nat.reduceEqDiff, if_false, ↓reduceIte])
   | ((with_reducible first | refine awp_reg 20 hX [0, 2, 3, 5] ?_ | change postOf _ _ _ _ _); simp [-List.reduceReplicate, Nat.add_one_le_iff, -getElem?_pos, -getElem?_neg, u64C])
   | ((first | (with_reducible refine awp_ret ?_; try simp only [thenA, inBlockA, noGotoA])); try simp [-List.reduceReplicate, Nat.add_one_le_iff, -getElem?_pos, -getElem?_neg, u64C])
   | (with_reducible refine awp_if_b rfl (fun hc => ?_) (fun hc => ?_) <;> (try simp [-getElem?_pos, -getElem?_neg] at hc) <;> (try (exfalso; omega)))
   | (with_reducible refine And.intro (by omega) ?_)
   | fail)
  refine awp_nil 3 5 1 (by simp) ?_
  simp
  have h80 : ∀ (l : List UInt8) (a : UInt8), bytesC l ++ [b8 a] = bytesC (l ++ [a]) := fun l a => by simp [bytesC]
  refine awp_whileU [0, 3] (fun (g : Nat × List UInt8 × Bool) => [(0, .c (u64C g.1)), (3, .ms 0 g.2.1.length 0 g.2.1.length)]) (fun (g : Nat × List UInt8 × Bool) => [⟨5, 1, g.2.2, g.2.1.length, up (bytesC g.2.1), none⟩]) (fun (g : Nat × List UInt8 × Bool) => g.1 < 18446744073709551616 ∧ g.2.1 ++ putV g.1 = r) (fun (g : Nat × List UInt8 × Bool) => g.1) (x, [], true) (⟨hx, hr⟩) (by simp [-List.reduceReplicate, keep, u64C, bytesC]) (by simp [-List.reduceReplicate, u64C, bytesC]) ?_
  rintro g Q1 hH next hother
  conv => arg 5; arg 1; simp only [List.cons_append, List.nil_append, keep, get, Nat.reduceEqDiff, if_true, if_false, ↓reduceIte]
  obtain ⟨y, l, nl⟩ := g
  obtain ⟨h1, h2⟩ := hH
  simp only at h1 h2
  have hbl : (bytesC l).length = l.length := by simp [bytesC]
  have hll : l.length ≤ 9 := by
    have := congrArg List.length h2
    have h9 := putV_pos y
    rw [List.length_append] at this
    omega
  have hrm : l.length < 140737488355328 := by omega
  have hlt : l.length < l.length + 1 := by omega
  by_cases hy : y < 128
  · have hy2 : ¬ (127 : Int) < (y : Int) := by omega
    have hb := b8_u8 y
    rw [putV_lo hy] at h2
    have hbm := bytesM_bytes (l ++ [UInt8.ofNat y])
    have hbl2 : (bytesC (l ++ [UInt8.ofNat y])).length = l.length + 1 := by simp [bytesC]
    have htk : (bytesC (l ++ [UInt8.ofNat y])).take (l.length + 1) = bytesC (l ++ [UInt8.ofNat y]) := List.take_of_length_le (by omega)
    have h8 := h80 l (UInt8.ofNat y)
    rw [← hb] at h8
    rw [h2] at hbm hbl2 htk h8
    generalize bytesC r = cs2 at *
    repeat' (first 
     | (with_reducible first | refine awp_scope ?_ | refine awp_seq ?_ | refine awp_block ?_)
     | ((with_reducible first | refine awp_label ?_ | refine awp_skip ?_ | refine awp_exit ?_ | refine hother _ _ rfl ?_); try simp only [thenA, inBlockA, noGotoA, if_true, Nat.reduceEqDiff, if_false, ↓reduceIte])
     | ((with_reducible first | refine awp_reg 20 hX [0, 2, 3, 5] ?_ | change postOf _ _ _ _ _); simp [-List.reduceReplicate, Nat.add_one_le_iff, -getElem?_pos, -getElem?_neg, u64C, hy2, hbl, roomB, hrm, hlt, h8, htk, hbm, hbl2, bsS])
     | ((first | (with_reducible refine awp_ret ?_; try simp only [thenA, inBlockA, noGotoA])); try simp [-List.reduceReplicate, Nat.add_one_le_iff, -getElem?_pos, -getElem?_neg, u64C, hy2, hbl, roomB, hrm, hlt, h8, htk, hbm, hbl2, bsS])
     | (with_reducible refine awp_if_b rfl (fun hc => ?_) (fun hc => ?_) <;> (try simp [-getElem?_pos, -getElem?_neg] at hc) <;> (try (exfalso; omega)))
     | (with_reducible refine And.intro (by omega) ?_)
     | fail)
  · have hy2 : (127 : Int) < (y : Int) := by omega
    have hb := b8_or y
    rw [putV_hi hy] at h2
    have h8 := h80 l (UInt8.ofNat (y % 128 + 128))
    rw [← hb] at h8
    have hsh : ((y : Int)).fdiv 128 = ((y / 128 : Nat) : Int) := (Int.ofNat_fdiv y 128).symm
    have nx : y / 128 < 18446744073709551616 ∧ (l ++ [UInt8.ofNat (y % 128 + 128)]) ++ putV (y / 128) = r := ⟨by omega, by rw [← h2]; simp⟩
    have nl2 : y / 128 < y := by omega
    repeat' (first 
     | (with_reducible first | refine awp_scope ?_ | refine awp_seq ?_ | refine awp_block ?_)
     | ((with_reducible first | refine awp_label ?_ | refine awp_skip ?_ | refine awp_exit ?_ | refine hother _ _ rfl ?_); try simp only [thenA, inBlockA, noGotoA, if_true, Nat.reduceEqDiff, if_false, ↓reduceIte])
     | ((with_reducible first | refine awp_reg 20 hX [0, 2, 3, 5] ?_ | change postOf _ _ _ _ _); simp [-List.reduceReplicate, Nat.add_one_le_iff, -getElem?_pos, -getElem?_neg, u64C, hy2, hbl, roomB, hrm, h8, hsh, IntKind.bits])
     | ((first | (with_reducible refine awp_ret ?_; try simp only [thenA, inBlockA, noGotoA])); try simp [-List.reduceReplicate, Nat.add_one_le_iff, -getElem?_pos, -getElem?_neg, u64C, hy2, hbl, roomB, hrm, h8, hsh, IntKind.bits])
     | (with_reducible refine awp_if_b rfl (fun hc => ?_) (fun hc => ?_) <;> (try simp [-getElem?_pos, -getElem?_neg] at hc) <;> (try (exfalso; omega)))
     | (with_reducible refine And.intro (by omega) ?_)
     | fail)
    refine next _ _ ((y / 128, l ++ [UInt8.ofNat (y % 128 + 128)], false)) (by first | assumption | omega) (by first | trivial | omega | assumption) (by simp [-List.reduceReplicate, keep, u64C]) (by simp [-List.reduceReplicate, u64C])
    trace_state
theorem ref07_put_den : ∀ (x : Nat), x < 18446744073709551616 → DenV Tryz.prog 43 [.c (u64C x)] (.c (.v (.string (bsS (putV x))))) := by
  intro x
  induction x using Nat.strongRecOn with
  | _ x ih =>
    intro hx
    refine Den.frame rfl rfl ?_
    by_cases hy : x < 128
    · have hy2 : (x : Int) < 128 := by omega
      have hp := putV_lo hy
      have hw := wrapI64 (x : Int) (by omega)
      have b1 := byte01_den (x : Int)
      have he : UInt8.ofNat (((x : Int) % 256).toNat) = UInt8.ofNat x := by congr 1; omega
      rw [he] at b1
      rw [hp]
      generalize bsS [UInt8.ofNat x] = bs at *
      refine den_of Tryz.func43 rfl rfl (by simp [Tryz.ntmps43]) (fun X hX hO => ?_)
      rw [Tryz.ntmps43] at hX
      simp only [Tryz.results43]
      repeat' (first 
       | (with_reducible first | refine awp_scope ?_ | refine awp_seq ?_ | refine awp_block ?_)
       | ((with_reducible first | refine awp_label ?_ | refine awp_skip ?_ | refine awp_exit ?_); try simp only [thenA, inBlockA, noGotoA, if_true, Nat.reduceEqDiff, if_false, ↓reduceIte])
       | ((with_reducible first | refine awp_reg 17 hX [0, 2, 4] ?_ | change postOf _ _ _ _ _); simp [-List.reduceReplicate, Nat.add_one_le_iff, -getElem?_pos, -getElem?_neg, u64C, iC, hy2, hw])
       | ((first | (with_reducible refine awp_ret ?_; try simp only [thenA, inBlockA, noGotoA]) | (refine (b1 _).det ?_)); try simp [-List.reduceReplicate, Nat.add_one_le_iff, -getElem?_pos, -getElem?_neg, u64C, iC, hy2, hw])
       | (with_reducible refine awp_if_b rfl (fun hc => ?_) (fun hc => ?_) <;> (try simp [-getElem?_pos, -getElem?_neg] at hc) <;> (try (exfalso; omega)))
       | (with_reducible refine And.intro (by omega) ?_)
       | fail)
    · have hy2 : ¬ (x : Int) < 128 := by omega
      have hp := putV_hi hy
      have ih1 := ih (x / 128) (by omega) (by omega)
      have hm : (x : Int).tmod 128 = ((x % 128 : Nat) : Int) := rfl
      have hd : (x : Int).tdiv 128 = ((x / 128 : Nat) : Int) := rfl
      have hw := wrapI64 ((x : Int) % 128) (by omega)
      have hw2 := wrapI64 ((x : Int) % 128 + 128) (by omega)
      have b1 := byte01_den (((x % 128 + 128 : Nat)) : Int)
      have he : UInt8.ofNat ((((x % 128 + 128 : Nat) : Int) % 256).toNat) = UInt8.ofNat (x % 128 + 128) := by congr 1; omega
      rw [he] at b1
      have ha := bs_append [UInt8.ofNat (x % 128 + 128)] (putV (x / 128))
      rw [List.singleton_append, ← hp] at ha
      have hsz : (bsS [UInt8.ofNat (x % 128 + 128)]).size + (bsS (putV (x / 128))).size ≤ 9223372036854775807 := by
        have := putV_len10 (x / 128) (by omega)
        rw [bs_size, bs_size]
        simp
        omega
      have hwd := wrapU64 ((x : Int) / 128) (by omega)
      unfold u64C at ih1
      push_cast at hm hd b1 ih1
      generalize bsS [UInt8.ofNat (x % 128 + 128)] = bs at *
      generalize bsS (putV (x / 128)) = bs2 at *
      generalize bsS (putV x) = bs3 at *
      refine den_of Tryz.func43 rfl rfl (by simp [Tryz.ntmps43]) (fun X hX hO => ?_)
      rw [Tryz.ntmps43] at hX
      simp only [Tryz.results43]
      repeat' (first 
       | (with_reducible first | refine awp_scope ?_ | refine awp_seq ?_ | refine awp_block ?_)
       | ((with_reducible first | refine awp_label ?_ | refine awp_skip ?_ | refine awp_exit ?_); try simp only [thenA, inBlockA, noGotoA, if_true, Nat.reduceEqDiff, if_false, ↓reduceIte])
       | ((with_reducible first | refine awp_reg 17 hX [0, 2, 4] ?_ | change postOf _ _ _ _ _); simp [-List.reduceReplicate, Nat.add_one_le_iff, -getElem?_pos, -getElem?_neg, u64C, iC, hy2, hw, hw2, hwd, hm, hd, ha, hsz])
       | ((first | (with_reducible refine awp_ret ?_; try simp only [thenA, inBlockA, noGotoA]) | (refine (b1 _).det ?_) | (refine (ih1 _).det ?_)); try simp [-List.reduceReplicate, Nat.add_one_le_iff, -getElem?_pos, -getElem?_neg, u64C, iC, hy2, hw, hw2, hwd, hm, hd, ha, hsz])
       | (with_reducible refine awp_if_b rfl (fun hc => ?_) (fun hc => ?_) <;> (try simp [-getElem?_pos, -getElem?_neg] at hc) <;> (try (exfalso; omega)))
       | (with_reducible refine And.intro (by omega) ?_)
       | fail)
end Go.Av

set_option exponentiation.threshold 1000
set_option linter.unusedVariables false
set_option linter.unusedSimpArgs false
set_option maxRecDepth 100000
set_option maxHeartbeats 4000000
namespace Go.Av
open Go Go.Proofs Go.Proofs.YtpcnacknlgmmlaaGreat Go.RowKit
attribute [local simp] List.getElem?_cons_zero List.getElem?_cons_succ
/-! ### num.Take -/
def leadV : Nat → List UInt8 → Nat
  | 0, _ => 0
  | _ + 1, [] => 0
  | k + 1, b :: r => if 128 ≤ b.toNat then leadV k r + 1 else 0
theorem leadV_eq : ∀ (k : Nat) (l : List UInt8) (i : Nat), i ≤ k → i ≤ l.length → (∀ j, j < i → 128 ≤ (l.getD j 0).toNat) → (i = k ∨ i = l.length ∨ (l.getD i 0).toNat < 128) → leadV k l = i := by
  intro k
  induction k with
  | zero => intro l i h _ _ _; simp [leadV]; omega
  | succ k ih =>
    intro l i h1 h2 h3 h4
    cases l with
    | nil => simp at h2; simp [leadV, h2]
    | cons b r =>
      rw [leadV]
      cases i with
      | zero =>
        have : ¬ 128 ≤ b.toNat := by simpa using h4
        rw [if_neg this]
      | succ i =>
        have hb : 128 ≤ b.toNat := by simpa using h3 0 (by omega)
        rw [if_pos hb, ih r i (by omega) (by simpa using h2) (fun j hj => by simpa using h3 (j + 1) (by omega)) (by simpa using h4)]
def valV (l : List UInt8) : Nat → Nat
  | 0 => 0
  | n + 1 => valV l n + (l.getD n 0).toNat % 128 * 128 ^ n
theorem valV_lt (l : List UInt8) (n : Nat) : valV l n < 128 ^ n := by
  induction n with
  | zero => simp [valV]
  | succ n ih =>
    rw [valV, Nat.pow_succ]
    have : (l.getD n 0).toNat % 128 < 128 := Nat.mod_lt _ (by omega)
    have h2 : (l.getD n 0).toNat % 128 * 128 ^ n ≤ 127 * 128 ^ n := Nat.mul_le_mul_right _ (by omega)
    omega
/-- The number with which bytes begin, how many they are, the error. -/
def takeV (b : ByteArray) : Nat × Nat × Nat :=
  let l := b.data.toList
  let n := leadV 10 l
  if n = 10 then (0, 0, 2) else if n = l.length then (0, 0, 1) else if 0 < n ∧ (l.getD n 0).toNat = 0 then (0, 0, 2) else if n = 9 ∧ 1 < (l.getD n 0).toNat then (0, 0, 3) else (valV l (n + 1), n + 1, 0)
def takeM (p : Nat × Nat × Nat) : M := .tup [.c (u64C p.1), .c (iC p.2.1), .c (iC p.2.2)]
theorem byteAt_nat (b : ByteArray) (i : Nat) : byteAt b i = (((b.data.toList.getD i 0).toNat : Nat) : Int) := by
  unfold byteAt
  rw [toList_data]
theorem shl_or128 (x c i : Nat) (hx : x < 128 ^ i) (hc : c < 128) (hf : c * 128 ^ i < 18446744073709551616) (hi : i ≤ 9) : orI .u64 (x : Int) (IntKind.u64.wrap ((c : Int) * 2 ^ min (7 * (i : Int)).toNat 64)) = ((x + c * 128 ^ i : Nat) : Int) := by
  have h1 : min (7 * (i : Int)).toNat 64 = 7 * i := by omega
  have hp : (128 : Nat) ^ i = 2 ^ (7 * i) := by rw [Nat.pow_mul]
  have h2 : ((c : Int) * 2 ^ min (7 * (i : Int)).toNat 64) = ((c * 128 ^ i : Nat) : Int) := by
    rw [h1, hp]; push_cast; rfl
  rw [h2, wrapU64 _ (by omega)]
  have hx2 : (128 : Nat) ^ i ≤ 128 ^ 9 := Nat.pow_le_pow_right (by omega) hi
  have hx3 : x < 18446744073709551616 := by
    have : (128 : Nat) ^ 9 = 9223372036854775808 := by decide
    omega
  rw [orU .u64 _ _ (by simpa [IntKind.bits] using hx3) (by simpa [IntKind.bits] using hf) rfl]
  congr 1
  rw [hp] at hx ⊢
  have h3 := Nat.two_pow_add_eq_or_of_lt (i := 7 * i) (b := x) hx c
  rw [Nat.mul_comm c, Nat.or_comm, ← h3]
  omega
theorem num_take_den (b : ByteArray) (hb : b.size ≤ 9223372036854775807) : DenV Tryz.prog 67 [.c (.v (.string b))] (takeM (takeV b)) := by
  refine Den.frame rfl rfl ?_
  refine den_of Tryz.func67 rfl rfl (by simp [Tryz.ntmps67]) (fun X hX hO => ?_)
  rw [Tryz.ntmps67] at hX
  simp only [Tryz.results67]
  repeat' (first 
   | (with_reducible first | refine awp_seq ?_ | refine awp_block ?_)
   | ((with_reducible first | refine awp_label ?_ | refine awp_skip ?_ | refine awp_exit ?_ | refine hother _ _ rfl ?_); try simp only [thenA, inBlockA, noGotoA, if_true, Nat.reduceEqDiff, if_false, ↓reduceIte])
   | ((with_reducible first | refine awp_reg 52 hX [0, 2, 3, 4, 5, 6, 7, 9, 13, 22, 35, 36, 43] ?_ | change postOf _ _ _ _ _); simp [-List.reduceReplicate, Nat.add_one_le_iff, -getElem?_pos, -getElem?_neg, u64C, iC])
   | ((first | (with_reducible refine awp_ret ?_; try simp only [thenA, inBlockA, noGotoA])); try simp [-List.reduceReplicate, Nat.add_one_le_iff, -getElem?_pos, -getElem?_neg, u64C, iC])
   | (with_reducible refine awp_if_b rfl (fun hc => ?_) (fun hc => ?_) <;> (try simp [-getElem?_pos, -getElem?_neg] at hc) <;> (try (exfalso; omega)))
   | ((with_reducible first | refine GuardK_b (fun hc => ?_) (fun hc => ?_)) <;> (try simp only [Bool.not_eq_true', Bool.not_eq_false', decide_eq_true_eq, decide_eq_false_iff_not] at hc) <;> (first | (exfalso; omega) | skip) <;> simp [-List.reduceReplicate, Nat.add_one_le_iff, -getElem?_pos, -getElem?_neg, u64C, iC, hc])
   | (with_reducible refine And.intro (by omega) ?_)
   | fail)
  have htv : takeV b = if leadV 10 b.data.toList = 10 then (0, 0, 2) else if leadV 10 b.data.toList = b.data.toList.length then (0, 0, 1) else if 0 < leadV 10 b.data.toList ∧ (b.data.toList.getD (leadV 10 b.data.toList) 0).toNat = 0 then (0, 0, 2) else if leadV 10 b.data.toList = 9 ∧ 1 < (b.data.toList.getD (leadV 10 b.data.toList) 0).toNat then (0, 0, 3) else (valV b.data.toList (leadV 10 b.data.toList + 1), leadV 10 b.data.toList + 1, 0) := rfl
  have hle := leadV_eq 10 b.data.toList
  have hvl := valV_lt b.data.toList
  have hlen : b.data.toList.length = b.size := by rw [Array.length_toList]; rfl
  generalize takeV b = r at *
  refine awp_scopeL 0 [0, 5, 6] (fun n s => ∃ (i x : Nat), i ≤ 10 ∧ n = 10 - i ∧ i ≤ b.size ∧ (∀ j, j < i → 128 ≤ (b.data.toList.getD j 0).toNat) ∧ x < 18446744073709551616 ∧ (i ≤ 9 → x = valV b.data.toList i) ∧ s = ⟨[(0, .c (.v (.string b))), (5, .c (u64C x)), (6, .c (iC i))], []⟩) rfl (.inr rfl) ?_ ?_
  · repeat' (first 
     | (with_reducible first | refine awp_scope ?_ | refine awp_seq ?_ | refine awp_block ?_)
     | ((with_reducible first | refine awp_label ?_ | refine awp_skip ?_ | refine awp_exit ?_ | refine hother _ _ rfl ?_); try simp only [thenA, inBlockA, noGotoA, if_true, Nat.reduceEqDiff, if_false, ↓reduceIte])
     | ((with_reducible first | refine awp_reg 52 hX [0, 2, 3, 4, 5, 6, 7, 9, 13, 22, 35, 36, 43] ?_ | change postOf _ _ _ _ _); simp [-List.reduceReplicate, Nat.add_one_le_iff, -getElem?_pos, -getElem?_neg, u64C, iC])
     | ((first | (with_reducible refine awp_ret ?_; try simp only [thenA, inBlockA, noGotoA])); try simp [-List.reduceReplicate, Nat.add_one_le_iff, -getElem?_pos, -getElem?_neg, u64C, iC])
     | (with_reducible refine awp_if_b rfl (fun hc => ?_) (fun hc => ?_) <;> (try simp [-getElem?_pos, -getElem?_neg] at hc) <;> (try (exfalso; omega)))
     | ((with_reducible first | refine GuardK_b (fun hc => ?_) (fun hc => ?_)) <;> (try simp only [Bool.not_eq_true', Bool.not_eq_false', decide_eq_true_eq, decide_eq_false_iff_not] at hc) <;> (first | (exfalso; omega) | skip) <;> simp [-List.reduceReplicate, Nat.add_one_le_iff, -getElem?_pos, -getElem?_neg, u64C, iC, hc])
     | (with_reducible refine And.intro (by omega) ?_)
     | fail)
    exact ⟨10, 0, by omega, by omega, by omega, by intros; omega, 0, by omega, fun _ => rfl, rfl, rfl⟩
  · rintro n s Q1 ⟨i, x, h1, rfl, h2, h3, hx, h4, rfl⟩ next hother
    have hi10 : i ≠ 10 → i ≤ 9 := by omega
    by_cases hi : i = 10
    · subst hi
      have hl := hle 10 (by omega) (by omega) h3 (.inl rfl)
      rw [hl] at htv
      simp only [if_true] at htv
      subst htv
      repeat' (first 
       | (with_reducible first | refine awp_scope ?_ | refine awp_seq ?_ | refine awp_block ?_)
       | ((with_reducible first | refine awp_label ?_ | refine awp_skip ?_ | refine awp_exit ?_ | refine hother _ _ rfl ?_); try simp only [thenA, inBlockA, noGotoA, if_true, Nat.reduceEqDiff, if_false, ↓reduceIte])
       | ((with_reducible first | refine awp_reg 52 hX [0, 2, 3, 4, 5, 6, 7, 9, 13, 22, 35, 36, 43] ?_ | change postOf _ _ _ _ _); simp [-List.reduceReplicate, Nat.add_one_le_iff, -getElem?_pos, -getElem?_neg, u64C, iC, takeM])
       | ((first | (with_reducible refine awp_ret ?_; try simp only [thenA, inBlockA, noGotoA])); try simp [-List.reduceReplicate, Nat.add_one_le_iff, -getElem?_pos, -getElem?_neg, u64C, iC, takeM])
       | (with_reducible refine awp_if_b rfl (fun hc => ?_) (fun hc => ?_) <;> (try simp [-getElem?_pos, -getElem?_neg] at hc) <;> (try (exfalso; omega)))
       | ((with_reducible first | refine GuardK_b (fun hc => ?_) (fun hc => ?_)) <;> (try simp only [Bool.not_eq_true', Bool.not_eq_false', decide_eq_true_eq, decide_eq_false_iff_not] at hc) <;> (first | (exfalso; omega) | skip) <;> simp [-List.reduceReplicate, Nat.add_one_le_iff, -getElem?_pos, -getElem?_neg, u64C, iC, takeM, hc])
       | (with_reducible refine And.intro (by omega) ?_)
       | fail)
    · have h9 : i ≤ 9 := hi10 hi
      obtain rfl := h4 h9
      have hi2 : ¬ (i : Int) = 10 := by omega
      by_cases hn : i = b.size
      · have hl := hle i (by omega) (by omega) h3 (.inr (.inl (by omega)))
        have hn2 : (i : Int) = b.size := by omega
        rw [hl, if_neg hi, if_pos (by omega)] at htv
        subst htv
        repeat' (first 
         | (with_reducible first | refine awp_scope ?_ | refine awp_seq ?_ | refine awp_block ?_)
         | ((with_reducible first | refine awp_label ?_ | refine awp_skip ?_ | refine awp_exit ?_ | refine hother _ _ rfl ?_); try simp only [thenA, inBlockA, noGotoA, if_true, Nat.reduceEqDiff, if_false, ↓reduceIte])
         | ((with_reducible first | refine awp_reg 52 hX [0, 2, 3, 4, 5, 6, 7, 9, 13, 22, 35, 36, 43] ?_ | change postOf _ _ _ _ _); simp [-List.reduceReplicate, Nat.add_one_le_iff, -getElem?_pos, -getElem?_neg, u64C, iC, takeM, hi2, hn2])
         | ((first | (with_reducible refine awp_ret ?_; try simp only [thenA, inBlockA, noGotoA])); try simp [-List.reduceReplicate, Nat.add_one_le_iff, -getElem?_pos, -getElem?_neg, u64C, iC, takeM, hi2, hn2])
         | (with_reducible refine awp_if_b rfl (fun hc => ?_) (fun hc => ?_) <;> (try simp [-getElem?_pos, -getElem?_neg] at hc) <;> (try (exfalso; omega)))
         | ((with_reducible first | refine GuardK_b (fun hc => ?_) (fun hc => ?_)) <;> (try simp only [Bool.not_eq_true', Bool.not_eq_false', decide_eq_true_eq, decide_eq_false_iff_not] at hc) <;> (first | (exfalso; omega) | skip) <;> simp [-List.reduceReplicate, Nat.add_one_le_iff, -getElem?_pos, -getElem?_neg, u64C, iC, takeM, hi2, hn2, hc])
         | (with_reducible refine And.intro (by omega) ?_)
         | fail)
      · have hn2 : ¬ (i : Int) = b.size := by omega
        obtain ⟨c, hc8⟩ : ∃ c, (b.data.toList.getD i 0).toNat = c := ⟨_, rfl⟩
        have hcl : c < 256 := by rw [← hc8]; exact UInt8.toNat_lt _
        have hba : byteAt b i = (c : Int) := by rw [← hc8]; exact byteAt_nat b i
        have hwi := wrap_in ((i : Int) + 1) (by omega)
        have hw7 := wrap_in (7 * (i : Int)) (by omega)
        have hw8 := wrapU64 (7 * (i : Int)) (by omega)
        have han : andI .u8 (c : Int) 127 = ((c % 128 : Nat) : Int) := by
          have h7 : (127 : Int) = ((127 : Nat) : Int) := rfl
          rw [h7, andN .u8 c 127 (by simpa [IntKind.bits] using hcl) (by simp [IntKind.bits]) (by simp [IntKind.signed])]
          have : ∀ z, z < 256 → z &&& 127 = z % 128 := by decide +kernel
          rw [this c hcl]
        have hwm := wrapU64 ((c : Int) % 128) (by omega)
        have hwn := wrapU64 ((c % 128 : Nat) : Int) (by omega)
        have hmin : min (7 * i) 64 = 7 * i := by omega
        push_cast at han
        have hng : ¬ 7 * (i : Int) < 0 := by omega
        have hw : valV b.data.toList (i + 1) = valV b.data.toList i + c % 128 * 128 ^ i := by rw [valV, hc8]
        have hsh : (i < 9 ∨ c < 2) → orI .u64 (valV b.data.toList i : Int) (IntKind.u64.wrap ((c : Int) % 128 * 2 ^ min (7 * (i : Int)).toNat 64)) = ((valV b.data.toList (i + 1) : Nat) : Int) := by
          intro h
          have h5 : (128 : Nat) ^ i ≤ 128 ^ 9 := Nat.pow_le_pow_right (by omega) h9
          have h6 : (128 : Nat) ^ 9 = 9223372036854775808 := by decide
          have h7 := shl_or128 (valV b.data.toList i) (c % 128) i (hvl i) (by omega) (by
            rcases h with h | h
            · have h8 : c % 128 * 128 ^ i ≤ 127 * 128 ^ i := Nat.mul_le_mul_right _ (by omega)
              have h10 : (128 : Nat) ^ i ≤ 128 ^ 8 := Nat.pow_le_pow_right (by omega) (by omega)
              have h11 : (128 : Nat) ^ 8 = 72057594037927936 := by decide
              omega
            · have h8 : c % 128 * 128 ^ i ≤ 1 * 128 ^ i := Nat.mul_le_mul_right _ (by omega)
              omega) h9
          rw [hw, ← h7]
          push_cast
          rfl
        have h3' : 128 ≤ c → ∀ j, j < i + 1 → 128 ≤ (b.data.toList.getD j 0).toNat := fun h j hj => by
          by_cases hji : j < i
          · exact h3 j hji
          · obtain rfl : j = i := by omega
            rw [hc8]; exact h
        have hvi := hvl (i + 1)
        by_cases hc1 : 128 ≤ c
        · have hc2 : (128 : Int) ≤ (c : Int) := by omega
          have hc3 : ¬ (c : Int) < 128 := by omega
          by_cases hi9 : i < 9
          · have hi3 : (i : Int) < 9 := by omega
            have hs := hsh (.inl hi9)
            have hv9 : valV b.data.toList (i + 1) < 18446744073709551616 := by
              have h10 : (128 : Nat) ^ (i + 1) ≤ 128 ^ 9 := Nat.pow_le_pow_right (by omega) (by omega)
              have h11 : (128 : Nat) ^ 9 = 9223372036854775808 := by decide
              omega
            clear hsh
            repeat' (first 
             | (with_reducible first | refine awp_scope ?_ | refine awp_seq ?_ | refine awp_block ?_)
             | ((with_reducible first | refine awp_label ?_ | refine awp_skip ?_ | refine awp_exit ?_ | refine hother _ _ rfl ?_); try simp only [thenA, inBlockA, noGotoA, if_true, Nat.reduceEqDiff, if_false, ↓reduceIte])
             | ((with_reducible first | refine awp_reg 52 hX [0, 2, 3, 4, 5, 6, 7, 9, 13, 22, 35, 36, 43] ?_ | change postOf _ _ _ _ _); simp [-List.reduceReplicate, Nat.add_one_le_iff, -getElem?_pos, -getElem?_neg, u64C, iC, takeM, hi2, hn2, hba, hwi, hw7, hw8, han, hwm, hs, hng, hi3, hc2, hc3, IntKind.bits])
             | ((first | (with_reducible refine awp_ret ?_; try simp only [thenA, inBlockA, noGotoA])); try simp [-List.reduceReplicate, Nat.add_one_le_iff, -getElem?_pos, -getElem?_neg, u64C, iC, takeM, hi2, hn2, hba, hwi, hw7, hw8, han, hwm, hs, hng, hi3, hc2, hc3, IntKind.bits])
             | (with_reducible refine awp_if_b rfl (fun hc => ?_) (fun hc => ?_) <;> (try simp [-getElem?_pos, -getElem?_neg] at hc) <;> (try (exfalso; omega)))
             | ((with_reducible first | refine GuardK_b (fun hc => ?_) (fun hc => ?_)) <;> (try simp only [Bool.not_eq_true', Bool.not_eq_false', decide_eq_true_eq, decide_eq_false_iff_not] at hc) <;> (first | (exfalso; omega) | skip) <;> simp [-List.reduceReplicate, Nat.add_one_le_iff, -getElem?_pos, -getElem?_neg, u64C, iC, takeM, hi2, hn2, hba, hwi, hw7, hw8, han, hwm, hs, hng, hi3, hc2, hc3, IntKind.bits, hc])
             | (with_reducible refine And.intro (by omega) ?_)
             | fail)
            refine awp_goto ?_
            simp only [thenA]
            refine next _ (10 - (i + 1)) (by omega) ⟨i + 1, valV b.data.toList (i + 1), by omega, rfl, by omega, h3' hc1, hv9, fun _ => rfl, by simp [keep, u64C, iC]⟩
          · obtain rfl : i = 9 := by omega
            have hw10 : IntKind.i64.wrap 10 = 10 := rfl
            repeat' (first 
             | (with_reducible first | refine awp_scope ?_ | refine awp_seq ?_ | refine awp_block ?_)
             | ((with_reducible first | refine awp_label ?_ | refine awp_skip ?_ | refine awp_exit ?_ | refine hother _ _ rfl ?_); try simp only [thenA, inBlockA, noGotoA, if_true, Nat.reduceEqDiff, if_false, ↓reduceIte])
             | ((with_reducible first | refine awp_reg 52 hX [0, 2, 3, 4, 5, 6, 7, 9, 13, 22, 35, 36, 43] ?_ | change postOf _ _ _ _ _); simp [-List.reduceReplicate, Nat.add_one_le_iff, -getElem?_pos, -getElem?_neg, u64C, iC, takeM, hn2, hba, hc2, hc3, hw10])
             | ((first | (with_reducible refine awp_ret ?_; try simp only [thenA, inBlockA, noGotoA])); try simp [-List.reduceReplicate, Nat.add_one_le_iff, -getElem?_pos, -getElem?_neg, u64C, iC, takeM, hn2, hba, hc2, hc3, hw10])
             | (with_reducible refine awp_if_b rfl (fun hc => ?_) (fun hc => ?_) <;> (try simp [-getElem?_pos, -getElem?_neg] at hc) <;> (try (exfalso; omega)))
             | ((with_reducible first | refine GuardK_b (fun hc => ?_) (fun hc => ?_)) <;> (try simp only [Bool.not_eq_true', Bool.not_eq_false', decide_eq_true_eq, decide_eq_false_iff_not] at hc) <;> (first | (exfalso; omega) | skip) <;> simp [-List.reduceReplicate, Nat.add_one_le_iff, -getElem?_pos, -getElem?_neg, u64C, iC, takeM, hn2, hba, hc2, hc3, hw10, hc])
             | (with_reducible refine And.intro (by omega) ?_)
             | fail)
            refine awp_goto ?_
            simp only [thenA]
            refine next _ 0 (by omega) ⟨10, valV b.data.toList 9, by omega, rfl, by omega, h3' hc1, hx, fun h => by omega, by simp [keep, u64C, iC, hw10]⟩
        · have hc2 : ¬ (128 : Int) ≤ (c : Int) := by omega
          have hc3 : (c : Int) < 128 := by omega
          have hl := hle i (by omega) (by omega) h3 (.inr (.inr (by omega)))
          rw [hl, if_neg hi, if_neg (by omega), hc8] at htv
          by_cases ha : 0 < i ∧ c = 0
          · rw [if_pos ha] at htv
            subst htv
            obtain ⟨ha1, rfl⟩ := ha
            have hs := hsh (.inr (by omega))
            have hi1 : (1 : Int) < (i : Int) + 1 := by omega
            clear hsh
            repeat' (first 
             | (with_reducible first | refine awp_scope ?_ | refine awp_seq ?_ | refine awp_block ?_)
             | ((with_reducible first | refine awp_label ?_ | refine awp_skip ?_ | refine awp_exit ?_ | refine hother _ _ rfl ?_); try simp only [thenA, inBlockA, noGotoA, if_true, Nat.reduceEqDiff, if_false, ↓reduceIte])
             | ((with_reducible first | refine awp_reg 52 hX [0, 2, 3, 4, 5, 6, 7, 9, 13, 22, 35, 36, 43] ?_ | change postOf _ _ _ _ _); simp [-List.reduceReplicate, Nat.add_one_le_iff, -getElem?_pos, -getElem?_neg, u64C, iC, takeM, hi2, hn2, hba, hwi, hw7, hw8, han, hwm, hs, hng, hc2, hc3, IntKind.bits, hi1, ha1])
             | ((first | (with_reducible refine awp_ret ?_; try simp only [thenA, inBlockA, noGotoA])); try simp [-List.reduceReplicate, Nat.add_one_le_iff, -getElem?_pos, -getElem?_neg, u64C, iC, takeM, hi2, hn2, hba, hwi, hw7, hw8, han, hwm, hs, hng, hc2, hc3, IntKind.bits, hi1, ha1])
             | (with_reducible refine awp_if_b rfl (fun hc => ?_) (fun hc => ?_) <;> (try simp [-getElem?_pos, -getElem?_neg] at hc) <;> (try (exfalso; omega)))
             | ((with_reducible first | refine GuardK_b (fun hc => ?_) (fun hc => ?_)) <;> (try simp only [Bool.not_eq_true', Bool.not_eq_false', decide_eq_true_eq, decide_eq_false_iff_not] at hc) <;> (first | (exfalso; omega) | skip) <;> simp [-List.reduceReplicate, Nat.add_one_le_iff, -getElem?_pos, -getElem?_neg, u64C, iC, takeM, hi2, hn2, hba, hwi, hw7, hw8, han, hwm, hs, hng, hc2, hc3, IntKind.bits, hi1, ha1, hc])
             | (with_reducible refine And.intro (by omega) ?_)
             | fail)
          · rw [if_neg ha] at htv
            by_cases hb9 : i = 9 ∧ 1 < c
            · rw [if_pos hb9] at htv
              subst htv
              obtain ⟨rfl, hb1⟩ := hb9
              have hb2 : (1 : Int) < (c : Int) := by omega
              have hb3 : ¬ (c : Int) = 0 := by omega
              have hb4 : ¬ c = 0 := by omega
              have hw10 : IntKind.i64.wrap 10 = 10 := rfl
              have hw63 : IntKind.i64.wrap 63 = 63 := rfl
              have hu63 : IntKind.u64.wrap 63 = 63 := rfl
              clear hsh
              repeat' (first 
               | (with_reducible first | refine awp_scope ?_ | refine awp_seq ?_ | refine awp_block ?_)
               | ((with_reducible first | refine awp_label ?_ | refine awp_skip ?_ | refine awp_exit ?_ | refine hother _ _ rfl ?_); try simp only [thenA, inBlockA, noGotoA, if_true, Nat.reduceEqDiff, if_false, ↓reduceIte])
               | ((with_reducible first | refine awp_reg 52 hX [0, 2, 3, 4, 5, 6, 7, 9, 13, 22, 35, 36, 43] ?_ | change postOf _ _ _ _ _); simp [-List.reduceReplicate, Nat.add_one_le_iff, -getElem?_pos, -getElem?_neg, u64C, iC, takeM, hn2, hba, han, hwm, hc2, hc3, IntKind.bits, hb1, hb2, hb3, hb4, hw10, hw63, hu63])
               | ((first | (with_reducible refine awp_ret ?_; try simp only [thenA, inBlockA, noGotoA])); try simp [-List.reduceReplicate, Nat.add_one_le_iff, -getElem?_pos, -getElem?_neg, u64C, iC, takeM, hn2, hba, han, hwm, hc2, hc3, IntKind.bits, hb1, hb2, hb3, hb4, hw10, hw63, hu63])
               | (with_reducible refine awp_if_b rfl (fun hc => ?_) (fun hc => ?_) <;> (try simp [-getElem?_pos, -getElem?_neg] at hc) <;> (try (exfalso; omega)))
               | ((with_reducible first | refine GuardK_b (fun hc => ?_) (fun hc => ?_)) <;> (try simp only [Bool.not_eq_true', Bool.not_eq_false', decide_eq_true_eq, decide_eq_false_iff_not] at hc) <;> (first | (exfalso; omega) | skip) <;> simp [-List.reduceReplicate, Nat.add_one_le_iff, -getElem?_pos, -getElem?_neg, u64C, iC, takeM, hn2, hba, han, hwm, hc2, hc3, IntKind.bits, hb1, hb2, hb3, hb4, hw10, hw63, hu63, hc])
               | (with_reducible refine And.intro (by omega) ?_)
               | fail)
            · rw [if_neg hb9] at htv
              subst htv
              have hs := hsh (by omega)
              clear hsh
              by_cases hi0 : 0 < i
              · have hi1 : (1 : Int) < (i : Int) + 1 := by omega
                have hb3 : ¬ (c : Int) = 0 := by omega
                have hb4 : ¬ c = 0 := by omega
                by_cases hi9 : i = 9
                · subst hi9
                  have hb2 : ¬ (1 : Int) < (c : Int) := by omega
                  have hb1 : ¬ 1 < c := by omega
                  have hw10 : IntKind.i64.wrap 10 = 10 := rfl
                  have hw63 : IntKind.i64.wrap 63 = 63 := rfl
                  have hu63 : IntKind.u64.wrap 63 = 63 := rfl
                  simp at hs
                  repeat' (first 
                   | (with_reducible first | refine awp_scope ?_ | refine awp_seq ?_ | refine awp_block ?_)
                   | ((with_reducible first | refine awp_label ?_ | refine awp_skip ?_ | refine awp_exit ?_ | refine hother _ _ rfl ?_); try simp only [thenA, inBlockA, noGotoA, if_true, Nat.reduceEqDiff, if_false, ↓reduceIte])
                   | ((with_reducible first | refine awp_reg 52 hX [0, 2, 3, 4, 5, 6, 7, 9, 13, 22, 35, 36, 43] ?_ | change postOf _ _ _ _ _); simp [-List.reduceReplicate, Nat.add_one_le_iff, -getElem?_pos, -getElem?_neg, u64C, iC, takeM, hn2, hba, han, hwm, hs, hc2, hc3, IntKind.bits, hb1, hb2, hb3, hb4, hw10, hw63, hu63])
                   | ((first | (with_reducible refine awp_ret ?_; try simp only [thenA, inBlockA, noGotoA])); try simp [-List.reduceReplicate, Nat.add_one_le_iff, -getElem?_pos, -getElem?_neg, u64C, iC, takeM, hn2, hba, han, hwm, hs, hc2, hc3, IntKind.bits, hb1, hb2, hb3, hb4, hw10, hw63, hu63])
                   | (with_reducible refine awp_if_b rfl (fun hc => ?_) (fun hc => ?_) <;> (try simp [-getElem?_pos, -getElem?_neg] at hc) <;> (try (exfalso; omega)))
                   | ((with_reducible first | refine GuardK_b (fun hc => ?_) (fun hc => ?_)) <;> (try simp only [Bool.not_eq_true', Bool.not_eq_false', decide_eq_true_eq, decide_eq_false_iff_not] at hc) <;> (first | (exfalso; omega) | skip) <;> simp [-List.reduceReplicate, Nat.add_one_le_iff, -getElem?_pos, -getElem?_neg, u64C, iC, takeM, hn2, hba, han, hwm, hs, hc2, hc3, IntKind.bits, hb1, hb2, hb3, hb4, hw10, hw63, hu63, hc])
                   | (with_reducible refine And.intro (by omega) ?_)
                   | fail)
                · have hi10 : ¬ (i : Int) + 1 = 10 := by omega
                  repeat' (first 
                   | (with_reducible first | refine awp_scope ?_ | refine awp_seq ?_ | refine awp_block ?_)
                   | ((with_reducible first | refine awp_label ?_ | refine awp_skip ?_ | refine awp_exit ?_ | refine hother _ _ rfl ?_); try simp only [thenA, inBlockA, noGotoA, if_true, Nat.reduceEqDiff, if_false, ↓reduceIte])
                   | ((with_reducible first | refine awp_reg 52 hX [0, 2, 3, 4, 5, 6, 7, 9, 13, 22, 35, 36, 43] ?_ | change postOf _ _ _ _ _); simp [-List.reduceReplicate, Nat.add_one_le_iff, -getElem?_pos, -getElem?_neg, u64C, iC, takeM, hi2, hn2, hba, hwi, hw7, hw8, han, hwm, hs, hng, hc2, hc3, IntKind.bits, hi1, hi0, hb3, hb4, hi10, hi9])
                   | ((first | (with_reducible refine awp_ret ?_; try simp only [thenA, inBlockA, noGotoA])); try simp [-List.reduceReplicate, Nat.add_one_le_iff, -getElem?_pos, -getElem?_neg, u64C, iC, takeM, hi2, hn2, hba, hwi, hw7, hw8, han, hwm, hs, hng, hc2, hc3, IntKind.bits, hi1, hi0, hb3, hb4, hi10, hi9])
                   | (with_reducible refine awp_if_b rfl (fun hc => ?_) (fun hc => ?_) <;> (try simp [-getElem?_pos, -getElem?_neg] at hc) <;> (try (exfalso; omega)))
                   | ((with_reducible first | refine GuardK_b (fun hc => ?_) (fun hc => ?_)) <;> (try simp only [Bool.not_eq_true', Bool.not_eq_false', decide_eq_true_eq, decide_eq_false_iff_not] at hc) <;> (first | (exfalso; omega) | skip) <;> simp [-List.reduceReplicate, Nat.add_one_le_iff, -getElem?_pos, -getElem?_neg, u64C, iC, takeM, hi2, hn2, hba, hwi, hw7, hw8, han, hwm, hs, hng, hc2, hc3, IntKind.bits, hi1, hi0, hb3, hb4, hi10, hi9, hc])
                   | (with_reducible refine And.intro (by omega) ?_)
                   | fail)
              · obtain rfl : i = 0 := by omega
                have hw1 : IntKind.i64.wrap 1 = 1 := rfl
                have hw0 : IntKind.i64.wrap 0 = 0 := rfl
                have hu0 : IntKind.u64.wrap 0 = 0 := rfl
                simp [hwm] at hs
                repeat' (first 
                 | (with_reducible first | refine awp_scope ?_ | refine awp_seq ?_ | refine awp_block ?_)
                 | ((with_reducible first | refine awp_label ?_ | refine awp_skip ?_ | refine awp_exit ?_ | refine hother _ _ rfl ?_); try simp only [thenA, inBlockA, noGotoA, if_true, Nat.reduceEqDiff, if_false, ↓reduceIte])
                 | ((with_reducible first | refine awp_reg 52 hX [0, 2, 3, 4, 5, 6, 7, 9, 13, 22, 35, 36, 43] ?_ | change postOf _ _ _ _ _); simp [-List.reduceReplicate, Nat.add_one_le_iff, -getElem?_pos, -getElem?_neg, u64C, iC, takeM, hi2, hn2, hba, han, hwm, hs, hc2, hc3, IntKind.bits, hw1, hw0, hu0])
                 | ((first | (with_reducible refine awp_ret ?_; try simp only [thenA, inBlockA, noGotoA])); try simp [-List.reduceReplicate, Nat.add_one_le_iff, -getElem?_pos, -getElem?_neg, u64C, iC, takeM, hi2, hn2, hba, han, hwm, hs, hc2, hc3, IntKind.bits, hw1, hw0, hu0])
                 | (with_reducible refine awp_if_b rfl (fun hc => ?_) (fun hc => ?_) <;> (try simp [-getElem?_pos, -getElem?_neg] at hc) <;> (try (exfalso; omega)))
                 | ((with_reducible first | refine GuardK_b (fun hc => ?_) (fun hc => ?_)) <;> (try simp only [Bool.not_eq_true', Bool.not_eq_false', decide_eq_true_eq, decide_eq_false_iff_not] at hc) <;> (first | (exfalso; omega) | skip) <;> simp [-List.reduceReplicate, Nat.add_one_le_iff, -getElem?_pos, -getElem?_neg, u64C, iC, takeM, hi2, hn2, hba, han, hwm, hs, hc2, hc3, IntKind.bits, hw1, hw0, hu0, hc])
                 | (with_reducible refine And.intro (by omega) ?_)
                 | fail)
end Go.Av

set_option exponentiation.threshold 1000
set_option linter.unusedVariables false
set_option linter.unusedSimpArgs false
set_option maxRecDepth 100000
set_option maxHeartbeats 4000000
namespace Go.Av
open Go Go.Proofs Go.Proofs.YtpcnacknlgmmlaaGreat Go.RowKit
attribute [local simp] List.getElem?_cons_zero List.getElem?_cons_succ
/-! ### milepostref07.Take -/
theorem leadV_spec : ∀ (k : Nat) (l : List UInt8), leadV k l ≤ k ∧ leadV k l ≤ l.length ∧ (∀ j, j < leadV k l → 128 ≤ (l.getD j 0).toNat) ∧ (leadV k l = k ∨ leadV k l = l.length ∨ (l.getD (leadV k l) 0).toNat < 128) := by
  intro k
  induction k with
  | zero => intro l; simp [leadV]
  | succ k ih =>
    intro l
    cases l with
    | nil => simp [leadV]
    | cons b r =>
      obtain ⟨h1, h2, h3, h4⟩ := ih r
      rw [leadV]
      by_cases hb : 128 ≤ b.toNat
      · rw [if_pos hb]
        refine ⟨by omega, by simpa using h2, fun j hj => ?_, by simpa using h4⟩
        cases j with
        | zero => simpa using hb
        | succ j => simpa using h3 j (by omega)
      · rw [if_neg hb]
        refine ⟨by omega, by omega, fun j hj => by omega, .inr (.inr (by simpa using hb))⟩
def hornV (l : List UInt8) (n : Nat) : Nat → Nat
  | 0 => 0
  | k + 1 => hornV l n k * 128 + (l.getD (n - k) 0).toNat % 128
theorem valV_u64 (l : List UInt8) (n : Nat) (h : n ≤ 9) (h9 : n = 9 → (l.getD n 0).toNat ≤ 1) : valV l (n + 1) < 18446744073709551616 := by
  have h11 : (128 : Nat) ^ 9 = 9223372036854775808 := by decide
  by_cases hn : n = 9
  · subst hn
    have h1 := valV_lt l 9
    rw [valV]
    have := h9 rfl
    have h2 : (l.getD 9 0).toNat % 128 * 128 ^ 9 ≤ 1 * 128 ^ 9 := Nat.mul_le_mul_right _ (by omega)
    omega
  · have h1 := valV_lt l (n + 1)
    have h10 : (128 : Nat) ^ (n + 1) ≤ 128 ^ 9 := Nat.pow_le_pow_right (by omega) (by omega)
    omega
end Go.Av

set_option exponentiation.threshold 1000
set_option linter.unusedVariables false
set_option linter.unusedSimpArgs false
set_option maxRecDepth 100000
set_option maxHeartbeats 4000000
namespace Go.Av
open Go Go.Proofs Go.Proofs.YtpcnacknlgmmlaaGreat Go.RowKit
attribute [local simp] List.getElem?_cons_zero List.getElem?_cons_succ
/-! ### hashes -/
def bC8 (b : UInt8) : C := .v (.int .u8 (b.toNat : Int))
def hashM (l : List UInt8) : M := .agg (up (l.map bC8))
theorem eq_hash (l l' : List UInt8) (h : l.length = 32) (h' : l'.length = 32) : eqM (List.replicate 32 0) (up (l.map bC8)) (up (l'.map bC8)) = some (decide (l = l')) := by
  have e := eqM_ints (k := .u8) 32 (l.map fun b => (b.toNat : Int)) (l'.map fun b => (b.toNat : Int)) (by simp [h]) (by simp [h'])
  have inj : (l.map (fun b => (b.toNat : Int)) = l'.map fun b => (b.toNat : Int)) ↔ l = l' := by
    constructor
    · intro h
      exact List.map_inj_right (fun a b hab => UInt8.toNat_inj.1 (by omega)) |>.1 h
    · intro h; rw [h]
  rw [List.map_map, List.map_map] at e
  simp only [inj] at e
  exact e
theorem lt_hash (n : Nat) (l : List UInt8) : ltB n (hashM l) = true := by
  simp only [hashM, ltB]
  exact ltBs_up n _
theorem bytesM_b8 (l : List UInt8) : bytesM (up (l.map bC8)) = some l := by
  induction l with
  | nil => rfl
  | cons x xs ih =>
    simp only [up, List.map_cons] at *
    simp only [bytesM, bC8] at *
    rw [ih]
    simp
theorem raw_den (l : List UInt8) (hl : l.length = 32) : DenV Tryz.prog 42 [hashM l] (.c (.v (.string ⟨l.toArray⟩))) := by
  intro ob
  refine Den.dropM rfl ?_
  refine den_of Tryz.func42 rfl rfl (by simp [Tryz.ntmps42]) (fun X hX hO => ?_)
  rw [Tryz.ntmps42] at hX
  simp only [Tryz.results42]
  repeat' (first 
   | (with_reducible first | refine awp_scope ?_ | refine awp_seq ?_ | refine awp_block ?_)
   | ((with_reducible first | refine awp_label ?_ | refine awp_skip ?_ | refine awp_exit ?_ | refine hother _ _ rfl ?_); try simp only [thenA, inBlockA, noGotoA, if_true, Nat.reduceEqDiff, if_false, ↓reduceIte])
   | ((with_reducible first | refine awp_reg 18 hX [1, 2, 3, 4, 7] ?_ | change postOf _ _ _ _ _); simp [-List.reduceReplicate, Nat.add_one_le_iff, -getElem?_pos, -getElem?_neg, hashM, hl])
   | ((first | (with_reducible refine awp_ret ?_; try simp only [thenA, inBlockA, noGotoA])); try simp [-List.reduceReplicate, Nat.add_one_le_iff, -getElem?_pos, -getElem?_neg, hashM, hl])
   | (with_reducible refine awp_if_b rfl (fun hc => ?_) (fun hc => ?_) <;> (try simp [-getElem?_pos, -getElem?_neg] at hc) <;> (try (exfalso; omega)))
   | (with_reducible refine And.intro (by omega) ?_)
   | fail)
  refine awp_forU [1, 3, 4] (fun i (_u : Unit) => [(4, .c (iC i))]) (fun i (_u : Unit) => ob ++ [⟨24, 1, false, 0, up (l.map bC8), none⟩, ⟨5, 1, false, 0, up ((l.map bC8).take i ++ List.replicate (32 - i) (bC8 0)), none⟩]) (fun i (_u : Unit) => True) (32) (()) (by first | trivial | (simp; done) | omega | (intros; simp at *; done)) (by simp [-List.reduceReplicate, keep, iC, bC8]) (by simp [-List.reduceReplicate, iC, bC8]) ?_
  rintro i _u Q1 hi hH next hother
  conv => arg 5; arg 1; simp only [List.cons_append, List.nil_append, keep, get, Nat.reduceEqDiff, if_true, if_false, ↓reduceIte]
  have hwi := wrap_in ((i : Int) + 1) (by omega)
  have hml : (l.map bC8).length = 32 := by simp [hl]
  by_cases hlt : i < 32
  · obtain ⟨b, hb⟩ := getI l (i : Nat) (by omega) (by omega)
    simp only [Int.toNat_natCast] at hb
    have hset := set_fill (l.map bC8) (bC8 0) (bC8 b) 32 i hlt hml (by simp [hb])
    have hln := len_fill (l.map bC8) (bC8 0) 32 i hi hml
    generalize (l.map bC8).take (i + 1) ++ List.replicate (32 - (i + 1)) (bC8 0) = r1 at *
    have hbc : .v (.int .u8 (b.toNat : Int)) = bC8 b := rfl
    generalize hr0 : (l.map bC8).take i ++ List.replicate (32 - i) (bC8 0) = r0 at *
    repeat' (first 
     | (with_reducible first | refine awp_scope ?_ | refine awp_seq ?_ | refine awp_block ?_)
     | ((with_reducible first | refine awp_label ?_ | refine awp_skip ?_ | refine awp_exit ?_ | refine hother _ _ rfl ?_); try simp only [thenA, inBlockA, noGotoA, if_true, Nat.reduceEqDiff, if_false, ↓reduceIte])
     | ((with_reducible first | refine awp_reg 18 hX [1, 2, 3, 4, 7] ?_ | change postOf _ _ _ _ _); simp [-List.reduceReplicate, Nat.add_one_le_iff, -getElem?_pos, -getElem?_neg, iC, hlt, hwi, hl, hb, hln, bC8])
     | ((first | (with_reducible refine awp_ret ?_; try simp only [thenA, inBlockA, noGotoA])); try simp [-List.reduceReplicate, Nat.add_one_le_iff, -getElem?_pos, -getElem?_neg, iC, hlt, hwi, hl, hb, hln, bC8])
     | (with_reducible refine awp_if_b rfl (fun hc => ?_) (fun hc => ?_) <;> (try simp [-getElem?_pos, -getElem?_neg] at hc) <;> (try (exfalso; omega)))
     | (with_reducible refine And.intro (by omega) ?_)
     | fail)
    rw [hbc, hset]
    refine next _ _ (()) (by omega) (by first | trivial | omega | assumption) (by simp [-List.reduceReplicate, keep, iC]) (by simp [-List.reduceReplicate, iC])
  · have hi32 : i = 32 := by omega
    subst hi32
    have htk : (l.map bC8).take 32 = l.map bC8 := List.take_of_length_le (by simp [hl])
    have hbm := bytesM_b8 l
    repeat' (first 
     | (with_reducible first | refine awp_scope ?_ | refine awp_seq ?_ | refine awp_block ?_)
     | ((with_reducible first | refine awp_label ?_ | refine awp_skip ?_ | refine awp_exit ?_ | refine hother _ _ rfl ?_); try simp only [thenA, inBlockA, noGotoA, if_true, Nat.reduceEqDiff, if_false, ↓reduceIte])
     | ((with_reducible first | refine awp_reg 18 hX [1, 2, 3, 4, 7] ?_ | change postOf _ _ _ _ _); simp [-List.reduceReplicate, Nat.add_one_le_iff, -getElem?_pos, -getElem?_neg, iC, hlt, htk, hbm, hl])
     | ((first | (with_reducible refine awp_ret ?_; try simp only [thenA, inBlockA, noGotoA])); try simp [-List.reduceReplicate, Nat.add_one_le_iff, -getElem?_pos, -getElem?_neg, iC, hlt, htk, hbm, hl])
     | (with_reducible refine awp_if_b rfl (fun hc => ?_) (fun hc => ?_) <;> (try simp [-getElem?_pos, -getElem?_neg] at hc) <;> (try (exfalso; omega)))
     | (with_reducible refine And.intro (by omega) ?_)
     | fail)
end Go.Av
