/- 7 texts of the program logic over abstract values, joined: each is proved without any condition beyond its own words. -/
import Derived.Test.YtpcnacknlgmmlaaProg
import Derived.Test.YtpcnacknlgmmlaaAvEngine3
import Derived.Test.YtpcnacknlgmmlaaAvEngine4
/- The type table of the program, as facts. Printed by mktab.py. -/
set_option linter.unusedVariables false
namespace Go.Proofs.Ytpcnacknlgmmlaa.Tab
open Go Go.Proofs Go.Av
@[simp] theorem zero1 : zeroT Try.prog 1 = some [M.c (C.v Value.nilFunc)] := by kernel_rfl
@[simp] theorem zero2 : zeroT Try.prog 2 = some [M.c (C.v (Value.int IntKind.i64 0))] := by kernel_rfl
@[simp] theorem zero3 : zeroT Try.prog 3 = some [M.c (C.v (Value.int IntKind.i64 0))] := by kernel_rfl
@[simp] theorem zero4 : zeroT Try.prog 4 = some [M.c (C.v (Value.bool false))] := by kernel_rfl
@[simp] theorem zero5 : zeroT Try.prog 5 = some [M.c (C.v (Value.int IntKind.u8 0))] := by kernel_rfl
@[simp] theorem zero6 : zeroT Try.prog 6 = some [M.c (C.v (Value.int IntKind.u8 0))] := by kernel_rfl
@[simp] theorem zero7 : zeroT Try.prog 7 = some [M.c (C.v (Value.int IntKind.i64 0)), M.c (C.v (Value.int IntKind.i64 0)), M.c (C.v (Value.bool false)), M.c (C.v (Value.int IntKind.u8 0))] := by kernel_rfl
@[simp] theorem zero8 : zeroT Try.prog 8 = some [M.c (C.v (Value.int IntKind.i64 0)), M.c (C.v (Value.int IntKind.i64 0)), M.c (C.v (Value.bool false)), M.c (C.v (Value.int IntKind.u8 0))] := by kernel_rfl
@[simp] theorem zero9 : zeroT Try.prog 9 = some [M.c (C.v (Value.string { data := { toList := [] } }))] := by kernel_rfl
@[simp] theorem zero10 : zeroT Try.prog 10 = some [M.c (C.v (Value.string { data := { toList := [] } }))] := by kernel_rfl
@[simp] theorem zero11 : zeroT Try.prog 11 = some [M.c (C.v (Value.string { data := { toList := [] } }))] := by kernel_rfl
@[simp] theorem zero12 : zeroT Try.prog 12 = some [M.c (C.v (Value.int IntKind.u64 0))] := by kernel_rfl
@[simp] theorem zero13 : zeroT Try.prog 13 = some [M.c (C.v (Value.string { data := { toList := [] } })), M.c (C.v (Value.int IntKind.u64 0))] := by kernel_rfl
@[simp] theorem zero14 : zeroT Try.prog 14 = some [M.c (C.v (Value.string { data := { toList := [] } })), M.c (C.v (Value.int IntKind.u64 0))] := by kernel_rfl
@[simp] theorem zero15 : zeroT Try.prog 15 = some [M.c (C.v (Value.pointer none))] := by kernel_rfl
@[simp] theorem zero16 : zeroT Try.prog 16 = some [M.c (C.v (Value.pointer none))] := by kernel_rfl
@[simp] theorem zero17 : zeroT Try.prog 17 = some [M.c (C.v (Value.pointer none))] := by kernel_rfl
@[simp] theorem zero18 : zeroT Try.prog 18 = some [M.c (C.v (Value.pointer none))] := by kernel_rfl
@[simp] theorem zero19 : zeroT Try.prog 19 = some [M.c (C.v (Value.pointer none))] := by kernel_rfl
@[simp] theorem zero20 : zeroT Try.prog 20 = some [M.c (C.v Value.nilIface)] := by kernel_rfl
@[simp] theorem zero21 : zeroT Try.prog 21 = some [M.c (C.v (Value.int IntKind.i32 0))] := by kernel_rfl
@[simp] theorem zero22 : zeroT Try.prog 22 = some [M.c (C.v (Value.slice none 0 0))] := by kernel_rfl
@[simp] theorem zero23 : zeroT Try.prog 23 = some [M.c (C.v Value.nilFunc)] := by kernel_rfl
@[simp] theorem zero24 : zeroT Try.prog 24 = some [M.c (C.v Value.nilFunc)] := by kernel_rfl
@[simp] theorem zero25 : zeroT Try.prog 25 = some [M.c (C.v (Value.pointer none))] := by kernel_rfl
@[simp] theorem zero26 : zeroT Try.prog 26 = some [M.c (C.v Value.nilFunc)] := by kernel_rfl
@[simp] theorem zero27 : zeroT Try.prog 27 = some [M.c (C.v (Value.int IntKind.i64 0))] := by kernel_rfl
@[simp] theorem zero29 : zeroT Try.prog 29 = some [M.c (C.v Value.nilFunc)] := by kernel_rfl
@[simp] theorem zero30 : zeroT Try.prog 30 = some [M.c (C.v Value.nilFunc)] := by kernel_rfl
@[simp] theorem zero31 : zeroT Try.prog 31 = some [M.c (C.v Value.nilFunc)] := by kernel_rfl
@[simp] theorem zero32 : zeroT Try.prog 32 = some [M.c (C.v Value.nilFunc)] := by kernel_rfl
@[simp] theorem zero33 : zeroT Try.prog 33 = some [M.c (C.v Value.nilFunc)] := by kernel_rfl
@[simp] theorem zero34 : zeroT Try.prog 34 = some [M.c (C.v Value.nilFunc)] := by kernel_rfl
@[simp] theorem zero35 : zeroT Try.prog 35 = some [M.c (C.v Value.nilFunc)] := by kernel_rfl
@[simp] theorem zero36 : zeroT Try.prog 36 = some [M.c (C.v Value.nilFunc)] := by kernel_rfl
@[simp] theorem zero37 : zeroT Try.prog 37 = some [M.c (C.v (Value.slice none 0 0))] := by kernel_rfl
@[simp] theorem zero38 : zeroT Try.prog 38 = some [M.c (C.v (Value.int IntKind.u64 0))] := by kernel_rfl
@[simp] theorem zero39 : zeroT Try.prog 39 = some [M.c (C.v Value.nilFunc)] := by kernel_rfl
@[simp] theorem zero40 : zeroT Try.prog 40 = some [M.c (C.v (Value.map none))] := by kernel_rfl
@[simp] theorem zero41 : zeroT Try.prog 41 = some [M.c (C.v (Value.int IntKind.i64 0)), M.c (C.v (Value.map none))] := by kernel_rfl
@[simp] theorem zero42 : zeroT Try.prog 42 = some [M.c (C.v (Value.int IntKind.i64 0)), M.c (C.v (Value.map none))] := by kernel_rfl
@[simp] theorem zero43 : zeroT Try.prog 43 = some [M.c (C.v (Value.int IntKind.u32 0))] := by kernel_rfl
@[simp] theorem zero44 : zeroT Try.prog 44 = some (List.replicate 32 (M.c (C.v (Value.int IntKind.u8 0)))) := by kernel_rfl
@[simp] theorem zero45 : zeroT Try.prog 45 = some (List.replicate 32 (M.c (C.v (Value.int IntKind.u8 0)))) := by kernel_rfl
@[simp] theorem zero46 : zeroT Try.prog 46 = some [M.c (C.v (Value.int IntKind.u32 0)), M.c (C.v (Value.int IntKind.u8 0)), M.c (C.v (Value.int IntKind.u8 0)), M.c (C.v (Value.int IntKind.u8 0)), M.c (C.v (Value.int IntKind.u8 0)), M.c (C.v (Value.int IntKind.u8 0)), M.c (C.v (Value.int IntKind.u8 0)), M.c (C.v (Value.int IntKind.u8 0)), M.c (C.v (Value.int IntKind.u8 0)), M.c (C.v (Value.int IntKind.u8 0)), M.c (C.v (Value.int IntKind.u8 0)), M.c (C.v (Value.int IntKind.u8 0)), M.c (C.v (Value.int IntKind.u8 0)), M.c (C.v (Value.int IntKind.u8 0)), M.c (C.v (Value.int IntKind.u8 0)), M.c (C.v (Value.int IntKind.u8 0)), M.c (C.v (Value.int IntKind.u8 0)), M.c (C.v (Value.int IntKind.u8 0)), M.c (C.v (Value.int IntKind.u8 0)), M.c (C.v (Value.int IntKind.u8 0)), M.c (C.v (Value.int IntKind.u8 0)), M.c (C.v (Value.int IntKind.u8 0)), M.c (C.v (Value.int IntKind.u8 0)), M.c (C.v (Value.int IntKind.u8 0)), M.c (C.v (Value.int IntKind.u8 0)), M.c (C.v (Value.int IntKind.u8 0)), M.c (C.v (Value.int IntKind.u8 0)), M.c (C.v (Value.int IntKind.u8 0)), M.c (C.v (Value.int IntKind.u8 0)), M.c (C.v (Value.int IntKind.u8 0)), M.c (C.v (Value.int IntKind.u8 0)), M.c (C.v (Value.int IntKind.u8 0)), M.c (C.v (Value.int IntKind.u8 0)), M.c (C.v (Value.int IntKind.u8 0)), M.c (C.v (Value.int IntKind.u8 0)), M.c (C.v (Value.int IntKind.u8 0)), M.c (C.v (Value.int IntKind.u8 0)), M.c (C.v (Value.int IntKind.u8 0)), M.c (C.v (Value.int IntKind.u8 0)), M.c (C.v (Value.int IntKind.u8 0)), M.c (C.v (Value.int IntKind.u8 0)), M.c (C.v (Value.int IntKind.u8 0)), M.c (C.v (Value.int IntKind.u8 0)), M.c (C.v (Value.int IntKind.u8 0)), M.c (C.v (Value.int IntKind.u8 0)), M.c (C.v (Value.int IntKind.u8 0)), M.c (C.v (Value.int IntKind.u8 0)), M.c (C.v (Value.int IntKind.u8 0)), M.c (C.v (Value.int IntKind.u8 0)), M.c (C.v (Value.int IntKind.u8 0)), M.c (C.v (Value.int IntKind.u8 0)), M.c (C.v (Value.int IntKind.u8 0)), M.c (C.v (Value.int IntKind.u8 0)), M.c (C.v (Value.int IntKind.u8 0)), M.c (C.v (Value.int IntKind.u8 0)), M.c (C.v (Value.int IntKind.u8 0)), M.c (C.v (Value.int IntKind.u8 0)), M.c (C.v (Value.int IntKind.u8 0)), M.c (C.v (Value.int IntKind.u8 0)), M.c (C.v (Value.int IntKind.u8 0)), M.c (C.v (Value.int IntKind.u8 0)), M.c (C.v (Value.int IntKind.u8 0)), M.c (C.v (Value.int IntKind.u8 0)), M.c (C.v (Value.int IntKind.u8 0)), M.c (C.v (Value.int IntKind.u8 0)), M.c (C.v (Value.int IntKind.u64 0))] := by kernel_rfl
@[simp] theorem zero47 : zeroT Try.prog 47 = some [M.c (C.v (Value.int IntKind.u32 0)), M.c (C.v (Value.int IntKind.u8 0)), M.c (C.v (Value.int IntKind.u8 0)), M.c (C.v (Value.int IntKind.u8 0)), M.c (C.v (Value.int IntKind.u8 0)), M.c (C.v (Value.int IntKind.u8 0)), M.c (C.v (Value.int IntKind.u8 0)), M.c (C.v (Value.int IntKind.u8 0)), M.c (C.v (Value.int IntKind.u8 0)), M.c (C.v (Value.int IntKind.u8 0)), M.c (C.v (Value.int IntKind.u8 0)), M.c (C.v (Value.int IntKind.u8 0)), M.c (C.v (Value.int IntKind.u8 0)), M.c (C.v (Value.int IntKind.u8 0)), M.c (C.v (Value.int IntKind.u8 0)), M.c (C.v (Value.int IntKind.u8 0)), M.c (C.v (Value.int IntKind.u8 0)), M.c (C.v (Value.int IntKind.u8 0)), M.c (C.v (Value.int IntKind.u8 0)), M.c (C.v (Value.int IntKind.u8 0)), M.c (C.v (Value.int IntKind.u8 0)), M.c (C.v (Value.int IntKind.u8 0)), M.c (C.v (Value.int IntKind.u8 0)), M.c (C.v (Value.int IntKind.u8 0)), M.c (C.v (Value.int IntKind.u8 0)), M.c (C.v (Value.int IntKind.u8 0)), M.c (C.v (Value.int IntKind.u8 0)), M.c (C.v (Value.int IntKind.u8 0)), M.c (C.v (Value.int IntKind.u8 0)), M.c (C.v (Value.int IntKind.u8 0)), M.c (C.v (Value.int IntKind.u8 0)), M.c (C.v (Value.int IntKind.u8 0)), M.c (C.v (Value.int IntKind.u8 0)), M.c (C.v (Value.int IntKind.u8 0)), M.c (C.v (Value.int IntKind.u8 0)), M.c (C.v (Value.int IntKind.u8 0)), M.c (C.v (Value.int IntKind.u8 0)), M.c (C.v (Value.int IntKind.u8 0)), M.c (C.v (Value.int IntKind.u8 0)), M.c (C.v (Value.int IntKind.u8 0)), M.c (C.v (Value.int IntKind.u8 0)), M.c (C.v (Value.int IntKind.u8 0)), M.c (C.v (Value.int IntKind.u8 0)), M.c (C.v (Value.int IntKind.u8 0)), M.c (C.v (Value.int IntKind.u8 0)), M.c (C.v (Value.int IntKind.u8 0)), M.c (C.v (Value.int IntKind.u8 0)), M.c (C.v (Value.int IntKind.u8 0)), M.c (C.v (Value.int IntKind.u8 0)), M.c (C.v (Value.int IntKind.u8 0)), M.c (C.v (Value.int IntKind.u8 0)), M.c (C.v (Value.int IntKind.u8 0)), M.c (C.v (Value.int IntKind.u8 0)), M.c (C.v (Value.int IntKind.u8 0)), M.c (C.v (Value.int IntKind.u8 0)), M.c (C.v (Value.int IntKind.u8 0)), M.c (C.v (Value.int IntKind.u8 0)), M.c (C.v (Value.int IntKind.u8 0)), M.c (C.v (Value.int IntKind.u8 0)), M.c (C.v (Value.int IntKind.u8 0)), M.c (C.v (Value.int IntKind.u8 0)), M.c (C.v (Value.int IntKind.u8 0)), M.c (C.v (Value.int IntKind.u8 0)), M.c (C.v (Value.int IntKind.u8 0)), M.c (C.v (Value.int IntKind.u8 0)), M.c (C.v (Value.int IntKind.u64 0))] := by kernel_rfl
@[simp] theorem zero48 : zeroT Try.prog 48 = some [M.c (C.v (Value.int IntKind.u32 0)), M.c (C.v (Value.int IntKind.u8 0)), M.c (C.v (Value.int IntKind.u8 0)), M.c (C.v (Value.int IntKind.u8 0)), M.c (C.v (Value.int IntKind.u8 0)), M.c (C.v (Value.int IntKind.u8 0)), M.c (C.v (Value.int IntKind.u8 0)), M.c (C.v (Value.int IntKind.u8 0)), M.c (C.v (Value.int IntKind.u8 0)), M.c (C.v (Value.int IntKind.u8 0)), M.c (C.v (Value.int IntKind.u8 0)), M.c (C.v (Value.int IntKind.u8 0)), M.c (C.v (Value.int IntKind.u8 0)), M.c (C.v (Value.int IntKind.u8 0)), M.c (C.v (Value.int IntKind.u8 0)), M.c (C.v (Value.int IntKind.u8 0)), M.c (C.v (Value.int IntKind.u8 0)), M.c (C.v (Value.int IntKind.u8 0)), M.c (C.v (Value.int IntKind.u8 0)), M.c (C.v (Value.int IntKind.u8 0)), M.c (C.v (Value.int IntKind.u8 0)), M.c (C.v (Value.int IntKind.u8 0)), M.c (C.v (Value.int IntKind.u8 0)), M.c (C.v (Value.int IntKind.u8 0)), M.c (C.v (Value.int IntKind.u8 0)), M.c (C.v (Value.int IntKind.u8 0)), M.c (C.v (Value.int IntKind.u8 0)), M.c (C.v (Value.int IntKind.u8 0)), M.c (C.v (Value.int IntKind.u8 0)), M.c (C.v (Value.int IntKind.u8 0)), M.c (C.v (Value.int IntKind.u8 0)), M.c (C.v (Value.int IntKind.u8 0)), M.c (C.v (Value.int IntKind.u8 0)), M.c (C.v (Value.int IntKind.u8 0)), M.c (C.v (Value.int IntKind.u8 0)), M.c (C.v (Value.int IntKind.u8 0)), M.c (C.v (Value.int IntKind.u8 0)), M.c (C.v (Value.int IntKind.u8 0)), M.c (C.v (Value.int IntKind.u8 0)), M.c (C.v (Value.int IntKind.u8 0)), M.c (C.v (Value.int IntKind.u8 0)), M.c (C.v (Value.int IntKind.u8 0)), M.c (C.v (Value.int IntKind.u8 0)), M.c (C.v (Value.int IntKind.u8 0)), M.c (C.v (Value.int IntKind.u8 0)), M.c (C.v (Value.int IntKind.u8 0)), M.c (C.v (Value.int IntKind.u8 0)), M.c (C.v (Value.int IntKind.u8 0)), M.c (C.v (Value.int IntKind.u8 0)), M.c (C.v (Value.int IntKind.u8 0)), M.c (C.v (Value.int IntKind.u8 0)), M.c (C.v (Value.int IntKind.u8 0)), M.c (C.v (Value.int IntKind.u8 0)), M.c (C.v (Value.int IntKind.u8 0)), M.c (C.v (Value.int IntKind.u8 0)), M.c (C.v (Value.int IntKind.u8 0)), M.c (C.v (Value.int IntKind.u8 0)), M.c (C.v (Value.int IntKind.u8 0)), M.c (C.v (Value.int IntKind.u8 0)), M.c (C.v (Value.int IntKind.u8 0)), M.c (C.v (Value.int IntKind.u8 0)), M.c (C.v (Value.int IntKind.u8 0)), M.c (C.v (Value.int IntKind.u8 0)), M.c (C.v (Value.int IntKind.u8 0)), M.c (C.v (Value.int IntKind.u8 0)), M.c (C.v (Value.int IntKind.u64 0)), M.c (C.v (Value.int IntKind.u8 0)), M.c (C.v (Value.int IntKind.u8 0)), M.c (C.v (Value.int IntKind.u8 0)), M.c (C.v (Value.int IntKind.u8 0)), M.c (C.v (Value.int IntKind.u8 0)), M.c (C.v (Value.int IntKind.u8 0)), M.c (C.v (Value.int IntKind.u8 0)), M.c (C.v (Value.int IntKind.u8 0)), M.c (C.v (Value.int IntKind.u8 0)), M.c (C.v (Value.int IntKind.u8 0)), M.c (C.v (Value.int IntKind.u8 0)), M.c (C.v (Value.int IntKind.u8 0)), M.c (C.v (Value.int IntKind.u8 0)), M.c (C.v (Value.int IntKind.u8 0)), M.c (C.v (Value.int IntKind.u8 0)), M.c (C.v (Value.int IntKind.u8 0)), M.c (C.v (Value.int IntKind.u8 0)), M.c (C.v (Value.int IntKind.u8 0)), M.c (C.v (Value.int IntKind.u8 0)), M.c (C.v (Value.int IntKind.u8 0)), M.c (C.v (Value.int IntKind.u8 0)), M.c (C.v (Value.int IntKind.u8 0)), M.c (C.v (Value.int IntKind.u8 0)), M.c (C.v (Value.int IntKind.u8 0)), M.c (C.v (Value.int IntKind.u8 0)), M.c (C.v (Value.int IntKind.u8 0)), M.c (C.v (Value.int IntKind.u8 0)), M.c (C.v (Value.int IntKind.u8 0)), M.c (C.v (Value.int IntKind.u8 0)), M.c (C.v (Value.int IntKind.u8 0)), M.c (C.v (Value.int IntKind.u8 0)), M.c (C.v (Value.int IntKind.u8 0)), M.c (C.v (Value.int IntKind.i64 0)), M.c (C.v (Value.int IntKind.i64 0)), M.c (C.v (Value.int IntKind.i64 0)), M.c (C.v (Value.int IntKind.i64 0)), M.c (C.v (Value.int IntKind.i64 0)), M.c (C.v (Value.int IntKind.i64 0))] := by kernel_rfl
@[simp] theorem zero49 : zeroT Try.prog 49 = some [M.c (C.v (Value.int IntKind.u32 0)), M.c (C.v (Value.int IntKind.u8 0)), M.c (C.v (Value.int IntKind.u8 0)), M.c (C.v (Value.int IntKind.u8 0)), M.c (C.v (Value.int IntKind.u8 0)), M.c (C.v (Value.int IntKind.u8 0)), M.c (C.v (Value.int IntKind.u8 0)), M.c (C.v (Value.int IntKind.u8 0)), M.c (C.v (Value.int IntKind.u8 0)), M.c (C.v (Value.int IntKind.u8 0)), M.c (C.v (Value.int IntKind.u8 0)), M.c (C.v (Value.int IntKind.u8 0)), M.c (C.v (Value.int IntKind.u8 0)), M.c (C.v (Value.int IntKind.u8 0)), M.c (C.v (Value.int IntKind.u8 0)), M.c (C.v (Value.int IntKind.u8 0)), M.c (C.v (Value.int IntKind.u8 0)), M.c (C.v (Value.int IntKind.u8 0)), M.c (C.v (Value.int IntKind.u8 0)), M.c (C.v (Value.int IntKind.u8 0)), M.c (C.v (Value.int IntKind.u8 0)), M.c (C.v (Value.int IntKind.u8 0)), M.c (C.v (Value.int IntKind.u8 0)), M.c (C.v (Value.int IntKind.u8 0)), M.c (C.v (Value.int IntKind.u8 0)), M.c (C.v (Value.int IntKind.u8 0)), M.c (C.v (Value.int IntKind.u8 0)), M.c (C.v (Value.int IntKind.u8 0)), M.c (C.v (Value.int IntKind.u8 0)), M.c (C.v (Value.int IntKind.u8 0)), M.c (C.v (Value.int IntKind.u8 0)), M.c (C.v (Value.int IntKind.u8 0)), M.c (C.v (Value.int IntKind.u8 0)), M.c (C.v (Value.int IntKind.u8 0)), M.c (C.v (Value.int IntKind.u8 0)), M.c (C.v (Value.int IntKind.u8 0)), M.c (C.v (Value.int IntKind.u8 0)), M.c (C.v (Value.int IntKind.u8 0)), M.c (C.v (Value.int IntKind.u8 0)), M.c (C.v (Value.int IntKind.u8 0)), M.c (C.v (Value.int IntKind.u8 0)), M.c (C.v (Value.int IntKind.u8 0)), M.c (C.v (Value.int IntKind.u8 0)), M.c (C.v (Value.int IntKind.u8 0)), M.c (C.v (Value.int IntKind.u8 0)), M.c (C.v (Value.int IntKind.u8 0)), M.c (C.v (Value.int IntKind.u8 0)), M.c (C.v (Value.int IntKind.u8 0)), M.c (C.v (Value.int IntKind.u8 0)), M.c (C.v (Value.int IntKind.u8 0)), M.c (C.v (Value.int IntKind.u8 0)), M.c (C.v (Value.int IntKind.u8 0)), M.c (C.v (Value.int IntKind.u8 0)), M.c (C.v (Value.int IntKind.u8 0)), M.c (C.v (Value.int IntKind.u8 0)), M.c (C.v (Value.int IntKind.u8 0)), M.c (C.v (Value.int IntKind.u8 0)), M.c (C.v (Value.int IntKind.u8 0)), M.c (C.v (Value.int IntKind.u8 0)), M.c (C.v (Value.int IntKind.u8 0)), M.c (C.v (Value.int IntKind.u8 0)), M.c (C.v (Value.int IntKind.u8 0)), M.c (C.v (Value.int IntKind.u8 0)), M.c (C.v (Value.int IntKind.u8 0)), M.c (C.v (Value.int IntKind.u8 0)), M.c (C.v (Value.int IntKind.u64 0)), M.c (C.v (Value.int IntKind.u8 0)), M.c (C.v (Value.int IntKind.u8 0)), M.c (C.v (Value.int IntKind.u8 0)), M.c (C.v (Value.int IntKind.u8 0)), M.c (C.v (Value.int IntKind.u8 0)), M.c (C.v (Value.int IntKind.u8 0)), M.c (C.v (Value.int IntKind.u8 0)), M.c (C.v (Value.int IntKind.u8 0)), M.c (C.v (Value.int IntKind.u8 0)), M.c (C.v (Value.int IntKind.u8 0)), M.c (C.v (Value.int IntKind.u8 0)), M.c (C.v (Value.int IntKind.u8 0)), M.c (C.v (Value.int IntKind.u8 0)), M.c (C.v (Value.int IntKind.u8 0)), M.c (C.v (Value.int IntKind.u8 0)), M.c (C.v (Value.int IntKind.u8 0)), M.c (C.v (Value.int IntKind.u8 0)), M.c (C.v (Value.int IntKind.u8 0)), M.c (C.v (Value.int IntKind.u8 0)), M.c (C.v (Value.int IntKind.u8 0)), M.c (C.v (Value.int IntKind.u8 0)), M.c (C.v (Value.int IntKind.u8 0)), M.c (C.v (Value.int IntKind.u8 0)), M.c (C.v (Value.int IntKind.u8 0)), M.c (C.v (Value.int IntKind.u8 0)), M.c (C.v (Value.int IntKind.u8 0)), M.c (C.v (Value.int IntKind.u8 0)), M.c (C.v (Value.int IntKind.u8 0)), M.c (C.v (Value.int IntKind.u8 0)), M.c (C.v (Value.int IntKind.u8 0)), M.c (C.v (Value.int IntKind.u8 0)), M.c (C.v (Value.int IntKind.u8 0)), M.c (C.v (Value.int IntKind.i64 0)), M.c (C.v (Value.int IntKind.i64 0)), M.c (C.v (Value.int IntKind.i64 0)), M.c (C.v (Value.int IntKind.i64 0)), M.c (C.v (Value.int IntKind.i64 0)), M.c (C.v (Value.int IntKind.i64 0))] := by kernel_rfl
@[simp] theorem zero51 : zeroT Try.prog 51 = some [M.c (C.v Value.nilFunc)] := by kernel_rfl
@[simp] theorem zero53 : zeroT Try.prog 53 = some [M.c (C.v Value.nilFunc)] := by kernel_rfl
@[simp] theorem zero54 : zeroT Try.prog 54 = some [M.c (C.v Value.nilFunc)] := by kernel_rfl
@[simp] theorem zero55 : zeroT Try.prog 55 = some [M.c (C.v Value.nilFunc)] := by kernel_rfl
@[simp] theorem zero56 : zeroT Try.prog 56 = some [M.c (C.v Value.nilFunc)] := by kernel_rfl
@[simp] theorem zero58 : zeroT Try.prog 58 = some [M.c (C.v Value.nilFunc)] := by kernel_rfl
@[simp] theorem zero59 : zeroT Try.prog 59 = some [M.c (C.v (Value.pointer none))] := by kernel_rfl
@[simp] theorem zero60 : zeroT Try.prog 60 = some [M.c (C.v Value.nilFunc)] := by kernel_rfl
@[simp] theorem zero61 : zeroT Try.prog 61 = some [M.c (C.v Value.nilFunc)] := by kernel_rfl
@[simp] theorem zero62 : zeroT Try.prog 62 = some [M.c (C.v Value.nilFunc)] := by kernel_rfl
@[simp] theorem zero63 : zeroT Try.prog 63 = some [M.c (C.v Value.nilFunc)] := by kernel_rfl
@[simp] theorem zero64 : zeroT Try.prog 64 = some [M.c (C.v (Value.slice none 0 0))] := by kernel_rfl
@[simp] theorem zero65 : zeroT Try.prog 65 = some [M.c (C.v Value.nilFunc)] := by kernel_rfl
@[simp] theorem zero66 : zeroT Try.prog 66 = some [M.c (C.v (Value.pointer none))] := by kernel_rfl
@[simp] theorem zero67 : zeroT Try.prog 67 = some [M.c (C.v (Value.pointer none))] := by kernel_rfl
@[simp] theorem zero68 : zeroT Try.prog 68 = some [M.c (C.v Value.nilFunc)] := by kernel_rfl
@[simp] theorem zero69 : zeroT Try.prog 69 = some [M.c (C.v Value.nilFunc)] := by kernel_rfl
@[simp] theorem zero70 : zeroT Try.prog 70 = some [M.c (C.v (Value.pointer none))] := by kernel_rfl
@[simp] theorem zero71 : zeroT Try.prog 71 = some [M.c (C.v Value.nilFunc)] := by kernel_rfl
@[simp] theorem zero72 : zeroT Try.prog 72 = some [M.c (C.v Value.nilFunc)] := by kernel_rfl
@[simp] theorem zero73 : zeroT Try.prog 73 = some [M.c (C.v Value.nilFunc)] := by kernel_rfl
@[simp] theorem zero74 : zeroT Try.prog 74 = some [M.c (C.v Value.nilFunc)] := by kernel_rfl
@[simp] theorem zero75 : zeroT Try.prog 75 = some [M.c (C.v Value.nilFunc)] := by kernel_rfl
@[simp] theorem zero76 : zeroT Try.prog 76 = some [M.c (C.v Value.nilFunc)] := by kernel_rfl
@[simp] theorem zero77 : zeroT Try.prog 77 = some [M.c (C.v Value.nilFunc)] := by kernel_rfl
@[simp] theorem zero78 : zeroT Try.prog 78 = some [M.c (C.v Value.nilFunc)] := by kernel_rfl
@[simp] theorem zero79 : zeroT Try.prog 79 = some [M.c (C.v Value.nilFunc)] := by kernel_rfl
@[simp] theorem zero80 : zeroT Try.prog 80 = some [M.c (C.v Value.nilFunc)] := by kernel_rfl
@[simp] theorem zero81 : zeroT Try.prog 81 = some [M.c (C.v Value.nilFunc)] := by kernel_rfl
@[simp] theorem zero82 : zeroT Try.prog 82 = some [M.c (C.v (Value.int IntKind.u64 0))] := by kernel_rfl
@[simp] theorem zero83 : zeroT Try.prog 83 = some [M.c (C.v (Value.pointer none))] := by kernel_rfl
@[simp] theorem zero84 : zeroT Try.prog 84 = some [M.c (C.v (Value.slice none 0 0))] := by kernel_rfl
@[simp] theorem zero85 : zeroT Try.prog 85 = some [M.c (C.v (Value.pointer none)), M.c (C.v (Value.slice none 0 0))] := by kernel_rfl
@[simp] theorem zero86 : zeroT Try.prog 86 = some [M.c (C.v (Value.pointer none)), M.c (C.v (Value.slice none 0 0))] := by kernel_rfl
@[simp] theorem zero87 : zeroT Try.prog 87 = some [M.c (C.v (Value.pointer none)), M.c (C.v (Value.slice none 0 0))] := by kernel_rfl
@[simp] theorem zero88 : zeroT Try.prog 88 = some [M.c (C.v (Value.pointer none)), M.c (C.v (Value.slice none 0 0))] := by kernel_rfl
@[simp] theorem zero89 : zeroT Try.prog 89 = some [M.c (C.v Value.nilIface)] := by kernel_rfl
@[simp] theorem zero90 : zeroT Try.prog 90 = some [M.c (C.v Value.nilIface)] := by kernel_rfl
@[simp] theorem zero92 : zeroT Try.prog 92 = some [M.c (C.v Value.nilFunc)] := by kernel_rfl
@[simp] theorem zero93 : zeroT Try.prog 93 = some [M.c (C.v Value.nilFunc)] := by kernel_rfl
@[simp] theorem zero94 : zeroT Try.prog 94 = some [M.c (C.v Value.nilFunc)] := by kernel_rfl
@[simp] theorem zero95 : zeroT Try.prog 95 = some [M.c (C.v (Value.slice none 0 0))] := by kernel_rfl
@[simp] theorem zero96 : zeroT Try.prog 96 = some [M.c (C.v (Value.string { data := { toList := [] } })), M.c (C.v (Value.int IntKind.i64 0))] := by kernel_rfl
@[simp] theorem zero97 : zeroT Try.prog 97 = some [M.c (C.v (Value.string { data := { toList := [] } })), M.c (C.v (Value.int IntKind.i64 0))] := by kernel_rfl
@[simp] theorem zero98 : zeroT Try.prog 98 = some [M.c (C.v (Value.string { data := { toList := [] } })), M.c (C.v (Value.int IntKind.i64 0))] := by kernel_rfl
@[simp] theorem zero99 : zeroT Try.prog 99 = some [M.c (C.v (Value.string { data := { toList := [] } })), M.c (C.v (Value.int IntKind.i64 0))] := by kernel_rfl
@[simp] theorem zero100 : zeroT Try.prog 100 = some [M.c (C.v Value.nilFunc)] := by kernel_rfl
@[simp] theorem zero101 : zeroT Try.prog 101 = some [M.c (C.v Value.nilFunc)] := by kernel_rfl
@[simp] theorem zero102 : zeroT Try.prog 102 = some [M.c (C.v Value.nilFunc)] := by kernel_rfl
@[simp] theorem zero104 : zeroT Try.prog 104 = some [M.c (C.v Value.nilFunc)] := by kernel_rfl
@[simp] theorem zero105 : zeroT Try.prog 105 = some [M.c (C.v Value.nilFunc)] := by kernel_rfl
@[simp] theorem zero106 : zeroT Try.prog 106 = some [M.c (C.v Value.nilFunc)] := by kernel_rfl
@[simp] theorem zero107 : zeroT Try.prog 107 = some [M.c (C.v Value.nilFunc)] := by kernel_rfl
@[simp] theorem zero108 : zeroT Try.prog 108 = some [M.c (C.v Value.nilFunc)] := by kernel_rfl
@[simp] theorem zero109 : zeroT Try.prog 109 = some [M.c (C.v (Value.int IntKind.u64 0)), M.c (C.v (Value.int IntKind.u64 0)), M.c (C.v (Value.int IntKind.u64 0)), M.c (C.v (Value.int IntKind.u64 0))] := by kernel_rfl
@[simp] theorem zero110 : zeroT Try.prog 110 = some [M.c (C.v (Value.int IntKind.u64 0)), M.c (C.v (Value.int IntKind.u64 0)), M.c (C.v (Value.int IntKind.u64 0)), M.c (C.v (Value.int IntKind.u64 0))] := by kernel_rfl
@[simp] theorem zero111 : zeroT Try.prog 111 = some [M.c (C.v Value.nilFunc)] := by kernel_rfl
@[simp] theorem zero112 : zeroT Try.prog 112 = some [M.c (C.v Value.nilFunc)] := by kernel_rfl
@[simp] theorem zero113 : zeroT Try.prog 113 = some [M.c (C.v Value.nilFunc)] := by kernel_rfl
@[simp] theorem zero114 : zeroT Try.prog 114 = some [M.c (C.v (Value.pointer none))] := by kernel_rfl
@[simp] theorem zero115 : zeroT Try.prog 115 = some [M.c (C.v Value.nilFunc)] := by kernel_rfl
@[simp] theorem zero116 : zeroT Try.prog 116 = some [M.c (C.v (Value.int IntKind.i64 0))] := by kernel_rfl
@[simp] theorem zero118 : zeroT Try.prog 118 = some [M.c (C.v Value.nilFunc)] := by kernel_rfl
@[simp] theorem zero119 : zeroT Try.prog 119 = some [M.c (C.v Value.nilFunc)] := by kernel_rfl
@[simp] theorem zero120 : zeroT Try.prog 120 = some [M.c (C.v Value.nilFunc)] := by kernel_rfl
@[simp] theorem zero121 : zeroT Try.prog 121 = some [M.c (C.v Value.nilFunc)] := by kernel_rfl
@[simp] theorem zero122 : zeroT Try.prog 122 = some [M.c (C.v Value.nilFunc)] := by kernel_rfl
@[simp] theorem zero123 : zeroT Try.prog 123 = some [M.c (C.v Value.nilFunc)] := by kernel_rfl
@[simp] theorem zero124 : zeroT Try.prog 124 = some [M.c (C.v Value.nilFunc)] := by kernel_rfl
@[simp] theorem zero125 : zeroT Try.prog 125 = some [M.c (C.v Value.nilFunc)] := by kernel_rfl
@[simp] theorem zero126 : zeroT Try.prog 126 = some [M.c (C.v Value.nilFunc)] := by kernel_rfl
@[simp] theorem zero127 : zeroT Try.prog 127 = some [M.c (C.v (Value.pointer none))] := by kernel_rfl
@[simp] theorem zero128 : zeroT Try.prog 128 = some [M.c (C.v Value.nilFunc)] := by kernel_rfl
@[simp] theorem zero129 : zeroT Try.prog 129 = some [M.c (C.v Value.nilFunc)] := by kernel_rfl
@[simp] theorem zero130 : zeroT Try.prog 130 = some [M.c (C.v Value.nilFunc)] := by kernel_rfl
@[simp] theorem zero131 : zeroT Try.prog 131 = some [M.c (C.v (Value.int IntKind.u64 0))] := by kernel_rfl
@[simp] theorem zero132 : zeroT Try.prog 132 = some [M.c (C.v Value.nilFunc)] := by kernel_rfl
@[simp] theorem zero133 : zeroT Try.prog 133 = some [M.c (C.v Value.nilFunc)] := by kernel_rfl
@[simp] theorem zero134 : zeroT Try.prog 134 = some [M.c (C.v Value.nilFunc)] := by kernel_rfl
@[simp] theorem zero135 : zeroT Try.prog 135 = some [M.c (C.v Value.nilFunc)] := by kernel_rfl
@[simp] theorem zero136 : zeroT Try.prog 136 = some [M.c (C.v (Value.pointer none))] := by kernel_rfl
@[simp] theorem zero137 : zeroT Try.prog 137 = some [M.c (C.v Value.nilFunc)] := by kernel_rfl
@[simp] theorem zero138 : zeroT Try.prog 138 = some [M.c (C.v Value.nilFunc)] := by kernel_rfl
@[simp] theorem zero140 : zeroT Try.prog 140 = some [M.c (C.v Value.nilFunc)] := by kernel_rfl
@[simp] theorem zero141 : zeroT Try.prog 141 = some [M.c (C.v Value.nilFunc)] := by kernel_rfl
@[simp] theorem zero142 : zeroT Try.prog 142 = some [M.c (C.v Value.nilFunc)] := by kernel_rfl
@[simp] theorem zero143 : zeroT Try.prog 143 = some [M.c (C.v (Value.pointer none))] := by kernel_rfl
@[simp] theorem zero144 : zeroT Try.prog 144 = some [M.c (C.v Value.nilFunc)] := by kernel_rfl
@[simp] theorem zero145 : zeroT Try.prog 145 = some [M.c (C.v Value.nilFunc)] := by kernel_rfl
@[simp] theorem zero146 : zeroT Try.prog 146 = some [M.c (C.v Value.nilFunc)] := by kernel_rfl
@[simp] theorem zero147 : zeroT Try.prog 147 = some [M.c (C.v (Value.pointer none))] := by kernel_rfl
@[simp] theorem zero149 : zeroT Try.prog 149 = some [M.c (C.v Value.nilFunc)] := by kernel_rfl
@[simp] theorem zero150 : zeroT Try.prog 150 = some [M.c (C.v Value.nilFunc)] := by kernel_rfl
@[simp] theorem zero151 : zeroT Try.prog 151 = some [M.c (C.v Value.nilFunc)] := by kernel_rfl
@[simp] theorem zero152 : zeroT Try.prog 152 = some (List.replicate 8 (M.c (C.v (Value.int IntKind.u32 0)))) := by kernel_rfl
@[simp] theorem zero153 : zeroT Try.prog 153 = some (List.replicate 8 (M.c (C.v (Value.int IntKind.u32 0)))) := by kernel_rfl
@[simp] theorem zero154 : zeroT Try.prog 154 = some [M.c (C.v (Value.int IntKind.u32 0)), M.c (C.v (Value.int IntKind.u32 0)), M.c (C.v (Value.int IntKind.u32 0)), M.c (C.v (Value.int IntKind.u32 0)), M.c (C.v (Value.int IntKind.u32 0)), M.c (C.v (Value.int IntKind.u32 0)), M.c (C.v (Value.int IntKind.u32 0)), M.c (C.v (Value.int IntKind.u32 0)), M.c (C.v (Value.string { data := { toList := [] } })), M.c (C.v (Value.int IntKind.u64 0)), M.c (C.v (Value.bool false))] := by kernel_rfl
@[simp] theorem zero155 : zeroT Try.prog 155 = some [M.c (C.v (Value.int IntKind.u32 0)), M.c (C.v (Value.int IntKind.u32 0)), M.c (C.v (Value.int IntKind.u32 0)), M.c (C.v (Value.int IntKind.u32 0)), M.c (C.v (Value.int IntKind.u32 0)), M.c (C.v (Value.int IntKind.u32 0)), M.c (C.v (Value.int IntKind.u32 0)), M.c (C.v (Value.int IntKind.u32 0)), M.c (C.v (Value.string { data := { toList := [] } })), M.c (C.v (Value.int IntKind.u64 0)), M.c (C.v (Value.bool false))] := by kernel_rfl
@[simp] theorem zero156 : zeroT Try.prog 156 = some [M.c (C.v Value.nilFunc)] := by kernel_rfl
@[simp] theorem zero157 : zeroT Try.prog 157 = some [M.c (C.v Value.nilFunc)] := by kernel_rfl
@[simp] theorem zero158 : zeroT Try.prog 158 = some [M.c (C.v Value.nilFunc)] := by kernel_rfl
@[simp] theorem zero159 : zeroT Try.prog 159 = some (List.replicate 64 (M.c (C.v (Value.int IntKind.u32 0)))) := by kernel_rfl
@[simp] theorem zero160 : zeroT Try.prog 160 = some [M.c (C.v Value.nilFunc)] := by kernel_rfl
@[simp] theorem zero161 : zeroT Try.prog 161 = some [M.c (C.v Value.nilFunc)] := by kernel_rfl
@[simp] theorem zero162 : zeroT Try.prog 162 = some [M.c (C.v Value.nilFunc)] := by kernel_rfl
@[simp] theorem zero163 : zeroT Try.prog 163 = some [M.c (C.v Value.nilFunc)] := by kernel_rfl
@[simp] theorem zero164 : zeroT Try.prog 164 = some [M.c (C.v Value.nilFunc)] := by kernel_rfl
@[simp] theorem zero166 : zeroT Try.prog 166 = some [M.c (C.v Value.nilFunc)] := by kernel_rfl
@[simp] theorem zero168 : zeroT Try.prog 168 = some [M.c (C.v Value.nilFunc)] := by kernel_rfl
@[simp] theorem zero170 : zeroT Try.prog 170 = some [M.c (C.v Value.nilFunc)] := by kernel_rfl
@[simp] theorem zero171 : zeroT Try.prog 171 = some [M.c (C.v Value.nilFunc)] := by kernel_rfl
@[simp] theorem zero172 : zeroT Try.prog 172 = some [M.c (C.v (Value.pointer none)), M.c (C.v (Value.pointer none)), M.c (C.v (Value.pointer none)), M.c (C.v (Value.string { data := { toList := [] } }))] := by kernel_rfl
@[simp] theorem zero173 : zeroT Try.prog 173 = some [M.c (C.v (Value.pointer none)), M.c (C.v (Value.pointer none)), M.c (C.v (Value.pointer none)), M.c (C.v (Value.string { data := { toList := [] } }))] := by kernel_rfl
@[simp] theorem zero174 : zeroT Try.prog 174 = some [] := by kernel_rfl
@[simp] theorem zero175 : zeroT Try.prog 175 = some [] := by kernel_rfl
@[simp] theorem zero176 : zeroT Try.prog 176 = some [] := by kernel_rfl
@[simp] theorem zero177 : zeroT Try.prog 177 = some [M.c (C.v (Value.int IntKind.u8 0))] := by kernel_rfl
@[simp] theorem zero178 : zeroT Try.prog 178 = some [M.c (C.v (Value.int IntKind.u8 0))] := by kernel_rfl
@[simp] theorem zero179 : zeroT Try.prog 179 = some [M.c (C.v Value.nilFunc)] := by kernel_rfl
@[simp] theorem zero180 : zeroT Try.prog 180 = some [M.c (C.v (Value.int IntKind.i32 0))] := by kernel_rfl
@[simp] theorem zero181 : zeroT Try.prog 181 = some [M.c (C.v (Value.int IntKind.i32 0))] := by kernel_rfl
@[simp] theorem zero182 : zeroT Try.prog 182 = some [M.c (C.v (Value.int IntKind.u64 0)), M.c (C.v (Value.int IntKind.u64 0)), M.c (C.v (Value.int IntKind.u32 0)), M.c (C.v (Value.int IntKind.u8 0)), M.c (C.v (Value.int IntKind.u8 0)), M.c (C.v (Value.int IntKind.u8 0)), M.c (C.v (Value.int IntKind.u8 0)), M.c (C.v Value.nilFunc), M.c (C.v (Value.pointer none)), M.c (C.v (Value.int IntKind.i32 0)), M.c (C.v (Value.int IntKind.i32 0))] := by kernel_rfl
@[simp] theorem zero183 : zeroT Try.prog 183 = some [M.c (C.v (Value.int IntKind.u64 0)), M.c (C.v (Value.int IntKind.u64 0)), M.c (C.v (Value.int IntKind.u32 0)), M.c (C.v (Value.int IntKind.u8 0)), M.c (C.v (Value.int IntKind.u8 0)), M.c (C.v (Value.int IntKind.u8 0)), M.c (C.v (Value.int IntKind.u8 0)), M.c (C.v Value.nilFunc), M.c (C.v (Value.pointer none)), M.c (C.v (Value.int IntKind.i32 0)), M.c (C.v (Value.int IntKind.i32 0))] := by kernel_rfl
@[simp] theorem zero184 : zeroT Try.prog 184 = some [M.c (C.v Value.nilFunc)] := by kernel_rfl
@[simp] theorem zero185 : zeroT Try.prog 185 = some [M.c (C.v Value.nilFunc)] := by kernel_rfl
@[simp] theorem ty0 : szT Try.prog 0 = 1 ∧ szOb Try.prog 0 = 1 ∧ szBx Try.prog 0 = 1 ∧ isAggT Try.prog 0 = false ∧ okT Try.prog 0 = true ∧ okE Try.prog 0 = true ∧ okZ Try.prog 0 = true ∧ Program.bytesOf Try.prog 0 = 0 := by refine ⟨?_, ?_, ?_, ?_, ?_, ?_, ?_, ?_⟩ <;> kernel_rfl
@[simp] theorem ty1 : szT Try.prog 1 = 1 ∧ szOb Try.prog 1 = 1 ∧ szBx Try.prog 1 = 1 ∧ isAggT Try.prog 1 = false ∧ okT Try.prog 1 = true ∧ okE Try.prog 1 = true ∧ okZ Try.prog 1 = true ∧ Program.bytesOf Try.prog 1 = 8 := by refine ⟨?_, ?_, ?_, ?_, ?_, ?_, ?_, ?_⟩ <;> kernel_rfl
@[simp] theorem ty2 : szT Try.prog 2 = 1 ∧ szOb Try.prog 2 = 1 ∧ szBx Try.prog 2 = 1 ∧ isAggT Try.prog 2 = false ∧ okT Try.prog 2 = true ∧ okE Try.prog 2 = true ∧ okZ Try.prog 2 = true ∧ Program.bytesOf Try.prog 2 = 8 := by refine ⟨?_, ?_, ?_, ?_, ?_, ?_, ?_, ?_⟩ <;> kernel_rfl
@[simp] theorem ty3 : szT Try.prog 3 = 1 ∧ szOb Try.prog 3 = 1 ∧ szBx Try.prog 3 = 1 ∧ isAggT Try.prog 3 = false ∧ okT Try.prog 3 = true ∧ okE Try.prog 3 = true ∧ okZ Try.prog 3 = true ∧ Program.bytesOf Try.prog 3 = 8 := by refine ⟨?_, ?_, ?_, ?_, ?_, ?_, ?_, ?_⟩ <;> kernel_rfl
@[simp] theorem ty4 : szT Try.prog 4 = 1 ∧ szOb Try.prog 4 = 1 ∧ szBx Try.prog 4 = 1 ∧ isAggT Try.prog 4 = false ∧ okT Try.prog 4 = true ∧ okE Try.prog 4 = true ∧ okZ Try.prog 4 = true ∧ Program.bytesOf Try.prog 4 = 1 := by refine ⟨?_, ?_, ?_, ?_, ?_, ?_, ?_, ?_⟩ <;> kernel_rfl
@[simp] theorem ty5 : szT Try.prog 5 = 1 ∧ szOb Try.prog 5 = 1 ∧ szBx Try.prog 5 = 1 ∧ isAggT Try.prog 5 = false ∧ okT Try.prog 5 = true ∧ okE Try.prog 5 = true ∧ okZ Try.prog 5 = true ∧ Program.bytesOf Try.prog 5 = 1 := by refine ⟨?_, ?_, ?_, ?_, ?_, ?_, ?_, ?_⟩ <;> kernel_rfl
@[simp] theorem ty6 : szT Try.prog 6 = 1 ∧ szOb Try.prog 6 = 1 ∧ szBx Try.prog 6 = 1 ∧ isAggT Try.prog 6 = false ∧ okT Try.prog 6 = true ∧ okE Try.prog 6 = true ∧ okZ Try.prog 6 = true ∧ Program.bytesOf Try.prog 6 = 1 := by refine ⟨?_, ?_, ?_, ?_, ?_, ?_, ?_, ?_⟩ <;> kernel_rfl
@[simp] theorem ty7 : szT Try.prog 7 = 4 ∧ leavesX Try.prog 7 = some [0, 0, 1, 0] ∧ szOb Try.prog 7 = 4 ∧ szBx Try.prog 7 = 4 ∧ isAggT Try.prog 7 = true ∧ okT Try.prog 7 = true ∧ okE Try.prog 7 = true ∧ okZ Try.prog 7 = true ∧ Program.bytesOf Try.prog 7 = 24 := by refine ⟨?_, ?_, ?_, ?_, ?_, ?_, ?_, ?_, ?_⟩ <;> kernel_rfl
@[simp] theorem ty8 : szT Try.prog 8 = 4 ∧ leavesX Try.prog 8 = some [0, 0, 1, 0] ∧ szOb Try.prog 8 = 4 ∧ szBx Try.prog 8 = 4 ∧ isAggT Try.prog 8 = true ∧ okT Try.prog 8 = true ∧ okE Try.prog 8 = true ∧ okZ Try.prog 8 = true ∧ Program.bytesOf Try.prog 8 = 24 := by refine ⟨?_, ?_, ?_, ?_, ?_, ?_, ?_, ?_, ?_⟩ <;> kernel_rfl
@[simp] theorem ty9 : szT Try.prog 9 = 1 ∧ szOb Try.prog 9 = 1 ∧ szBx Try.prog 9 = 1 ∧ isAggT Try.prog 9 = false ∧ okT Try.prog 9 = true ∧ okE Try.prog 9 = true ∧ okZ Try.prog 9 = true ∧ Program.bytesOf Try.prog 9 = 16 := by refine ⟨?_, ?_, ?_, ?_, ?_, ?_, ?_, ?_⟩ <;> kernel_rfl
@[simp] theorem ty10 : szT Try.prog 10 = 1 ∧ szOb Try.prog 10 = 1 ∧ szBx Try.prog 10 = 1 ∧ isAggT Try.prog 10 = false ∧ okT Try.prog 10 = true ∧ okE Try.prog 10 = true ∧ okZ Try.prog 10 = true ∧ Program.bytesOf Try.prog 10 = 16 := by refine ⟨?_, ?_, ?_, ?_, ?_, ?_, ?_, ?_⟩ <;> kernel_rfl
@[simp] theorem ty11 : szT Try.prog 11 = 1 ∧ szOb Try.prog 11 = 1 ∧ szBx Try.prog 11 = 1 ∧ isAggT Try.prog 11 = false ∧ okT Try.prog 11 = true ∧ okE Try.prog 11 = true ∧ okZ Try.prog 11 = true ∧ Program.bytesOf Try.prog 11 = 16 := by refine ⟨?_, ?_, ?_, ?_, ?_, ?_, ?_, ?_⟩ <;> kernel_rfl
@[simp] theorem ty12 : szT Try.prog 12 = 1 ∧ szOb Try.prog 12 = 1 ∧ szBx Try.prog 12 = 1 ∧ isAggT Try.prog 12 = false ∧ okT Try.prog 12 = true ∧ okE Try.prog 12 = true ∧ okZ Try.prog 12 = true ∧ Program.bytesOf Try.prog 12 = 8 := by refine ⟨?_, ?_, ?_, ?_, ?_, ?_, ?_, ?_⟩ <;> kernel_rfl
@[simp] theorem ty13 : szT Try.prog 13 = 2 ∧ szOb Try.prog 13 = 2 ∧ szBx Try.prog 13 = 2 ∧ isAggT Try.prog 13 = true ∧ okT Try.prog 13 = true ∧ okE Try.prog 13 = true ∧ okZ Try.prog 13 = true ∧ Program.bytesOf Try.prog 13 = 24 := by refine ⟨?_, ?_, ?_, ?_, ?_, ?_, ?_, ?_⟩ <;> kernel_rfl
@[simp] theorem ty14 : szT Try.prog 14 = 2 ∧ szOb Try.prog 14 = 2 ∧ szBx Try.prog 14 = 2 ∧ isAggT Try.prog 14 = true ∧ okT Try.prog 14 = true ∧ okE Try.prog 14 = true ∧ okZ Try.prog 14 = true ∧ Program.bytesOf Try.prog 14 = 24 := by refine ⟨?_, ?_, ?_, ?_, ?_, ?_, ?_, ?_⟩ <;> kernel_rfl
@[simp] theorem ty15 : szT Try.prog 15 = 1 ∧ szOb Try.prog 15 = 1 ∧ szBx Try.prog 15 = 1 ∧ isAggT Try.prog 15 = false ∧ okT Try.prog 15 = true ∧ okE Try.prog 15 = true ∧ okZ Try.prog 15 = true ∧ Program.bytesOf Try.prog 15 = 8 := by refine ⟨?_, ?_, ?_, ?_, ?_, ?_, ?_, ?_⟩ <;> kernel_rfl
@[simp] theorem ty16 : szT Try.prog 16 = 1 ∧ szOb Try.prog 16 = 1 ∧ szBx Try.prog 16 = 1 ∧ isAggT Try.prog 16 = false ∧ okT Try.prog 16 = true ∧ okE Try.prog 16 = true ∧ okZ Try.prog 16 = true ∧ Program.bytesOf Try.prog 16 = 8 := by refine ⟨?_, ?_, ?_, ?_, ?_, ?_, ?_, ?_⟩ <;> kernel_rfl
@[simp] theorem ty17 : szT Try.prog 17 = 1 ∧ szOb Try.prog 17 = 1 ∧ szBx Try.prog 17 = 1 ∧ isAggT Try.prog 17 = false ∧ okT Try.prog 17 = true ∧ okE Try.prog 17 = true ∧ okZ Try.prog 17 = true ∧ Program.bytesOf Try.prog 17 = 8 := by refine ⟨?_, ?_, ?_, ?_, ?_, ?_, ?_, ?_⟩ <;> kernel_rfl
@[simp] theorem ty18 : szT Try.prog 18 = 1 ∧ szOb Try.prog 18 = 1 ∧ szBx Try.prog 18 = 1 ∧ isAggT Try.prog 18 = true ∧ okT Try.prog 18 = true ∧ okE Try.prog 18 = true ∧ okZ Try.prog 18 = true ∧ Program.bytesOf Try.prog 18 = 8 := by refine ⟨?_, ?_, ?_, ?_, ?_, ?_, ?_, ?_⟩ <;> kernel_rfl
@[simp] theorem ty19 : szT Try.prog 19 = 1 ∧ szOb Try.prog 19 = 1 ∧ szBx Try.prog 19 = 1 ∧ isAggT Try.prog 19 = true ∧ okT Try.prog 19 = true ∧ okE Try.prog 19 = true ∧ okZ Try.prog 19 = true ∧ Program.bytesOf Try.prog 19 = 8 := by refine ⟨?_, ?_, ?_, ?_, ?_, ?_, ?_, ?_⟩ <;> kernel_rfl
@[simp] theorem ty20 : szT Try.prog 20 = 1 ∧ szOb Try.prog 20 = 1 ∧ szBx Try.prog 20 = 1 ∧ isAggT Try.prog 20 = false ∧ okT Try.prog 20 = true ∧ okE Try.prog 20 = true ∧ okZ Try.prog 20 = true ∧ Program.bytesOf Try.prog 20 = 16 := by refine ⟨?_, ?_, ?_, ?_, ?_, ?_, ?_, ?_⟩ <;> kernel_rfl
@[simp] theorem ty21 : szT Try.prog 21 = 1 ∧ szOb Try.prog 21 = 1 ∧ szBx Try.prog 21 = 1 ∧ isAggT Try.prog 21 = false ∧ okT Try.prog 21 = true ∧ okE Try.prog 21 = true ∧ okZ Try.prog 21 = true ∧ Program.bytesOf Try.prog 21 = 4 := by refine ⟨?_, ?_, ?_, ?_, ?_, ?_, ?_, ?_⟩ <;> kernel_rfl
@[simp] theorem ty22 : szT Try.prog 22 = 1 ∧ szOb Try.prog 22 = 1 ∧ szBx Try.prog 22 = 1 ∧ isAggT Try.prog 22 = false ∧ okT Try.prog 22 = true ∧ okE Try.prog 22 = true ∧ okZ Try.prog 22 = true ∧ Program.bytesOf Try.prog 22 = 24 := by refine ⟨?_, ?_, ?_, ?_, ?_, ?_, ?_, ?_⟩ <;> kernel_rfl
@[simp] theorem ty23 : szT Try.prog 23 = 1 ∧ szOb Try.prog 23 = 1 ∧ szBx Try.prog 23 = 1 ∧ isAggT Try.prog 23 = false ∧ okT Try.prog 23 = true ∧ okE Try.prog 23 = true ∧ okZ Try.prog 23 = true ∧ Program.bytesOf Try.prog 23 = 8 := by refine ⟨?_, ?_, ?_, ?_, ?_, ?_, ?_, ?_⟩ <;> kernel_rfl
@[simp] theorem ty24 : szT Try.prog 24 = 1 ∧ szOb Try.prog 24 = 1 ∧ szBx Try.prog 24 = 1 ∧ isAggT Try.prog 24 = false ∧ okT Try.prog 24 = true ∧ okE Try.prog 24 = true ∧ okZ Try.prog 24 = true ∧ Program.bytesOf Try.prog 24 = 8 := by refine ⟨?_, ?_, ?_, ?_, ?_, ?_, ?_, ?_⟩ <;> kernel_rfl
@[simp] theorem ty25 : szT Try.prog 25 = 1 ∧ szOb Try.prog 25 = 1 ∧ szBx Try.prog 25 = 1 ∧ isAggT Try.prog 25 = false ∧ okT Try.prog 25 = true ∧ okE Try.prog 25 = true ∧ okZ Try.prog 25 = true ∧ Program.bytesOf Try.prog 25 = 8 := by refine ⟨?_, ?_, ?_, ?_, ?_, ?_, ?_, ?_⟩ <;> kernel_rfl
@[simp] theorem ty26 : szT Try.prog 26 = 1 ∧ szOb Try.prog 26 = 1 ∧ szBx Try.prog 26 = 1 ∧ isAggT Try.prog 26 = false ∧ okT Try.prog 26 = true ∧ okE Try.prog 26 = true ∧ okZ Try.prog 26 = true ∧ Program.bytesOf Try.prog 26 = 8 := by refine ⟨?_, ?_, ?_, ?_, ?_, ?_, ?_, ?_⟩ <;> kernel_rfl
@[simp] theorem ty27 : szT Try.prog 27 = 1 ∧ szOb Try.prog 27 = 1 ∧ szBx Try.prog 27 = 1 ∧ isAggT Try.prog 27 = false ∧ okT Try.prog 27 = true ∧ okE Try.prog 27 = true ∧ okZ Try.prog 27 = true ∧ Program.bytesOf Try.prog 27 = 8 := by refine ⟨?_, ?_, ?_, ?_, ?_, ?_, ?_, ?_⟩ <;> kernel_rfl
@[simp] theorem ty28 : szT Try.prog 28 = 1 ∧ szOb Try.prog 28 = 1 ∧ szBx Try.prog 28 = 1 ∧ isAggT Try.prog 28 = false ∧ okT Try.prog 28 = true ∧ okE Try.prog 28 = true ∧ okZ Try.prog 28 = true ∧ Program.bytesOf Try.prog 28 = 0 := by refine ⟨?_, ?_, ?_, ?_, ?_, ?_, ?_, ?_⟩ <;> kernel_rfl
@[simp] theorem ty29 : szT Try.prog 29 = 1 ∧ szOb Try.prog 29 = 1 ∧ szBx Try.prog 29 = 1 ∧ isAggT Try.prog 29 = false ∧ okT Try.prog 29 = true ∧ okE Try.prog 29 = true ∧ okZ Try.prog 29 = true ∧ Program.bytesOf Try.prog 29 = 8 := by refine ⟨?_, ?_, ?_, ?_, ?_, ?_, ?_, ?_⟩ <;> kernel_rfl
@[simp] theorem ty30 : szT Try.prog 30 = 1 ∧ szOb Try.prog 30 = 1 ∧ szBx Try.prog 30 = 1 ∧ isAggT Try.prog 30 = false ∧ okT Try.prog 30 = true ∧ okE Try.prog 30 = true ∧ okZ Try.prog 30 = true ∧ Program.bytesOf Try.prog 30 = 8 := by refine ⟨?_, ?_, ?_, ?_, ?_, ?_, ?_, ?_⟩ <;> kernel_rfl
@[simp] theorem ty31 : szT Try.prog 31 = 1 ∧ szOb Try.prog 31 = 1 ∧ szBx Try.prog 31 = 1 ∧ isAggT Try.prog 31 = false ∧ okT Try.prog 31 = true ∧ okE Try.prog 31 = true ∧ okZ Try.prog 31 = true ∧ Program.bytesOf Try.prog 31 = 8 := by refine ⟨?_, ?_, ?_, ?_, ?_, ?_, ?_, ?_⟩ <;> kernel_rfl
@[simp] theorem ty32 : szT Try.prog 32 = 1 ∧ szOb Try.prog 32 = 1 ∧ szBx Try.prog 32 = 1 ∧ isAggT Try.prog 32 = false ∧ okT Try.prog 32 = true ∧ okE Try.prog 32 = true ∧ okZ Try.prog 32 = true ∧ Program.bytesOf Try.prog 32 = 8 := by refine ⟨?_, ?_, ?_, ?_, ?_, ?_, ?_, ?_⟩ <;> kernel_rfl
@[simp] theorem ty33 : szT Try.prog 33 = 1 ∧ szOb Try.prog 33 = 1 ∧ szBx Try.prog 33 = 1 ∧ isAggT Try.prog 33 = false ∧ okT Try.prog 33 = true ∧ okE Try.prog 33 = true ∧ okZ Try.prog 33 = true ∧ Program.bytesOf Try.prog 33 = 8 := by refine ⟨?_, ?_, ?_, ?_, ?_, ?_, ?_, ?_⟩ <;> kernel_rfl
@[simp] theorem ty34 : szT Try.prog 34 = 1 ∧ szOb Try.prog 34 = 1 ∧ szBx Try.prog 34 = 1 ∧ isAggT Try.prog 34 = false ∧ okT Try.prog 34 = true ∧ okE Try.prog 34 = true ∧ okZ Try.prog 34 = true ∧ Program.bytesOf Try.prog 34 = 8 := by refine ⟨?_, ?_, ?_, ?_, ?_, ?_, ?_, ?_⟩ <;> kernel_rfl
@[simp] theorem ty35 : szT Try.prog 35 = 1 ∧ szOb Try.prog 35 = 1 ∧ szBx Try.prog 35 = 1 ∧ isAggT Try.prog 35 = false ∧ okT Try.prog 35 = true ∧ okE Try.prog 35 = true ∧ okZ Try.prog 35 = true ∧ Program.bytesOf Try.prog 35 = 8 := by refine ⟨?_, ?_, ?_, ?_, ?_, ?_, ?_, ?_⟩ <;> kernel_rfl
@[simp] theorem ty36 : szT Try.prog 36 = 1 ∧ szOb Try.prog 36 = 1 ∧ szBx Try.prog 36 = 1 ∧ isAggT Try.prog 36 = false ∧ okT Try.prog 36 = true ∧ okE Try.prog 36 = true ∧ okZ Try.prog 36 = true ∧ Program.bytesOf Try.prog 36 = 8 := by refine ⟨?_, ?_, ?_, ?_, ?_, ?_, ?_, ?_⟩ <;> kernel_rfl
@[simp] theorem ty37 : szT Try.prog 37 = 1 ∧ szOb Try.prog 37 = 1 ∧ szBx Try.prog 37 = 1 ∧ isAggT Try.prog 37 = false ∧ okT Try.prog 37 = true ∧ okE Try.prog 37 = true ∧ okZ Try.prog 37 = true ∧ Program.bytesOf Try.prog 37 = 24 := by refine ⟨?_, ?_, ?_, ?_, ?_, ?_, ?_, ?_⟩ <;> kernel_rfl
@[simp] theorem ty38 : szT Try.prog 38 = 1 ∧ szOb Try.prog 38 = 1 ∧ szBx Try.prog 38 = 1 ∧ isAggT Try.prog 38 = false ∧ okT Try.prog 38 = true ∧ okE Try.prog 38 = true ∧ okZ Try.prog 38 = true ∧ Program.bytesOf Try.prog 38 = 8 := by refine ⟨?_, ?_, ?_, ?_, ?_, ?_, ?_, ?_⟩ <;> kernel_rfl
@[simp] theorem ty39 : szT Try.prog 39 = 1 ∧ szOb Try.prog 39 = 1 ∧ szBx Try.prog 39 = 1 ∧ isAggT Try.prog 39 = false ∧ okT Try.prog 39 = true ∧ okE Try.prog 39 = true ∧ okZ Try.prog 39 = true ∧ Program.bytesOf Try.prog 39 = 8 := by refine ⟨?_, ?_, ?_, ?_, ?_, ?_, ?_, ?_⟩ <;> kernel_rfl
@[simp] theorem ty40 : szT Try.prog 40 = 1 ∧ szOb Try.prog 40 = 1 ∧ szBx Try.prog 40 = 1 ∧ isAggT Try.prog 40 = false ∧ okT Try.prog 40 = true ∧ okE Try.prog 40 = true ∧ okZ Try.prog 40 = true ∧ Program.bytesOf Try.prog 40 = 8 := by refine ⟨?_, ?_, ?_, ?_, ?_, ?_, ?_, ?_⟩ <;> kernel_rfl
@[simp] theorem ty41 : szT Try.prog 41 = 2 ∧ szOb Try.prog 41 = 2 ∧ szBx Try.prog 41 = 2 ∧ isAggT Try.prog 41 = true ∧ okT Try.prog 41 = true ∧ okE Try.prog 41 = true ∧ okZ Try.prog 41 = true ∧ Program.bytesOf Try.prog 41 = 16 := by refine ⟨?_, ?_, ?_, ?_, ?_, ?_, ?_, ?_⟩ <;> kernel_rfl
@[simp] theorem ty42 : szT Try.prog 42 = 2 ∧ szOb Try.prog 42 = 2 ∧ szBx Try.prog 42 = 2 ∧ isAggT Try.prog 42 = true ∧ okT Try.prog 42 = true ∧ okE Try.prog 42 = true ∧ okZ Try.prog 42 = true ∧ Program.bytesOf Try.prog 42 = 16 := by refine ⟨?_, ?_, ?_, ?_, ?_, ?_, ?_, ?_⟩ <;> kernel_rfl
@[simp] theorem ty43 : szT Try.prog 43 = 1 ∧ szOb Try.prog 43 = 1 ∧ szBx Try.prog 43 = 1 ∧ isAggT Try.prog 43 = false ∧ okT Try.prog 43 = true ∧ okE Try.prog 43 = true ∧ okZ Try.prog 43 = true ∧ Program.bytesOf Try.prog 43 = 4 := by refine ⟨?_, ?_, ?_, ?_, ?_, ?_, ?_, ?_⟩ <;> kernel_rfl
@[simp] theorem ty44 : szT Try.prog 44 = 32 ∧ leavesX Try.prog 44 = some (List.replicate 32 0) ∧ szOb Try.prog 44 = 1 ∧ szBx Try.prog 44 = 1 ∧ isAggT Try.prog 44 = true ∧ okT Try.prog 44 = true ∧ okE Try.prog 44 = true ∧ okZ Try.prog 44 = true ∧ Program.bytesOf Try.prog 44 = 32 := by refine ⟨?_, ?_, ?_, ?_, ?_, ?_, ?_, ?_, ?_⟩ <;> kernel_rfl
@[simp] theorem ty45 : szT Try.prog 45 = 32 ∧ leavesX Try.prog 45 = some (List.replicate 32 0) ∧ szOb Try.prog 45 = 1 ∧ szBx Try.prog 45 = 1 ∧ isAggT Try.prog 45 = true ∧ okT Try.prog 45 = true ∧ okE Try.prog 45 = true ∧ okZ Try.prog 45 = true ∧ Program.bytesOf Try.prog 45 = 32 := by refine ⟨?_, ?_, ?_, ?_, ?_, ?_, ?_, ?_, ?_⟩ <;> kernel_rfl
@[simp] theorem ty46 : szT Try.prog 46 = 66 ∧ leavesX Try.prog 46 = some (List.replicate 66 0) ∧ szOb Try.prog 46 = 1 ∧ szBx Try.prog 46 = 1 ∧ isAggT Try.prog 46 = true ∧ okT Try.prog 46 = true ∧ okE Try.prog 46 = true ∧ okZ Try.prog 46 = true ∧ Program.bytesOf Try.prog 46 = 80 := by refine ⟨?_, ?_, ?_, ?_, ?_, ?_, ?_, ?_, ?_⟩ <;> kernel_rfl
@[simp] theorem ty47 : szT Try.prog 47 = 66 ∧ leavesX Try.prog 47 = some (List.replicate 66 0) ∧ szOb Try.prog 47 = 1 ∧ szBx Try.prog 47 = 1 ∧ isAggT Try.prog 47 = true ∧ okT Try.prog 47 = true ∧ okE Try.prog 47 = true ∧ okZ Try.prog 47 = true ∧ Program.bytesOf Try.prog 47 = 80 := by refine ⟨?_, ?_, ?_, ?_, ?_, ?_, ?_, ?_, ?_⟩ <;> kernel_rfl
@[simp] theorem ty48 : szT Try.prog 48 = 104 ∧ leavesX Try.prog 48 = some (List.replicate 104 0) ∧ szOb Try.prog 48 = 1 ∧ szBx Try.prog 48 = 1 ∧ isAggT Try.prog 48 = true ∧ okT Try.prog 48 = true ∧ okE Try.prog 48 = true ∧ okZ Try.prog 48 = true ∧ Program.bytesOf Try.prog 48 = 160 := by refine ⟨?_, ?_, ?_, ?_, ?_, ?_, ?_, ?_, ?_⟩ <;> kernel_rfl
@[simp] theorem ty49 : szT Try.prog 49 = 104 ∧ leavesX Try.prog 49 = some (List.replicate 104 0) ∧ szOb Try.prog 49 = 1 ∧ szBx Try.prog 49 = 1 ∧ isAggT Try.prog 49 = true ∧ okT Try.prog 49 = true ∧ okE Try.prog 49 = true ∧ okZ Try.prog 49 = true ∧ Program.bytesOf Try.prog 49 = 160 := by refine ⟨?_, ?_, ?_, ?_, ?_, ?_, ?_, ?_, ?_⟩ <;> kernel_rfl
@[simp] theorem ty50 : szT Try.prog 50 = 1 ∧ szOb Try.prog 50 = 1 ∧ szBx Try.prog 50 = 1 ∧ isAggT Try.prog 50 = false ∧ okT Try.prog 50 = true ∧ okE Try.prog 50 = true ∧ okZ Try.prog 50 = true ∧ Program.bytesOf Try.prog 50 = 0 := by refine ⟨?_, ?_, ?_, ?_, ?_, ?_, ?_, ?_⟩ <;> kernel_rfl
@[simp] theorem ty51 : szT Try.prog 51 = 1 ∧ szOb Try.prog 51 = 1 ∧ szBx Try.prog 51 = 1 ∧ isAggT Try.prog 51 = false ∧ okT Try.prog 51 = true ∧ okE Try.prog 51 = true ∧ okZ Try.prog 51 = true ∧ Program.bytesOf Try.prog 51 = 8 := by refine ⟨?_, ?_, ?_, ?_, ?_, ?_, ?_, ?_⟩ <;> kernel_rfl
@[simp] theorem ty52 : szT Try.prog 52 = 1 ∧ szOb Try.prog 52 = 1 ∧ szBx Try.prog 52 = 1 ∧ isAggT Try.prog 52 = false ∧ okT Try.prog 52 = true ∧ okE Try.prog 52 = true ∧ okZ Try.prog 52 = true ∧ Program.bytesOf Try.prog 52 = 0 := by refine ⟨?_, ?_, ?_, ?_, ?_, ?_, ?_, ?_⟩ <;> kernel_rfl
@[simp] theorem ty53 : szT Try.prog 53 = 1 ∧ szOb Try.prog 53 = 1 ∧ szBx Try.prog 53 = 1 ∧ isAggT Try.prog 53 = false ∧ okT Try.prog 53 = true ∧ okE Try.prog 53 = true ∧ okZ Try.prog 53 = true ∧ Program.bytesOf Try.prog 53 = 8 := by refine ⟨?_, ?_, ?_, ?_, ?_, ?_, ?_, ?_⟩ <;> kernel_rfl
@[simp] theorem ty54 : szT Try.prog 54 = 1 ∧ szOb Try.prog 54 = 1 ∧ szBx Try.prog 54 = 1 ∧ isAggT Try.prog 54 = false ∧ okT Try.prog 54 = true ∧ okE Try.prog 54 = true ∧ okZ Try.prog 54 = true ∧ Program.bytesOf Try.prog 54 = 8 := by refine ⟨?_, ?_, ?_, ?_, ?_, ?_, ?_, ?_⟩ <;> kernel_rfl
@[simp] theorem ty55 : szT Try.prog 55 = 1 ∧ szOb Try.prog 55 = 1 ∧ szBx Try.prog 55 = 1 ∧ isAggT Try.prog 55 = false ∧ okT Try.prog 55 = true ∧ okE Try.prog 55 = true ∧ okZ Try.prog 55 = true ∧ Program.bytesOf Try.prog 55 = 8 := by refine ⟨?_, ?_, ?_, ?_, ?_, ?_, ?_, ?_⟩ <;> kernel_rfl
@[simp] theorem ty56 : szT Try.prog 56 = 1 ∧ szOb Try.prog 56 = 1 ∧ szBx Try.prog 56 = 1 ∧ isAggT Try.prog 56 = false ∧ okT Try.prog 56 = true ∧ okE Try.prog 56 = true ∧ okZ Try.prog 56 = true ∧ Program.bytesOf Try.prog 56 = 8 := by refine ⟨?_, ?_, ?_, ?_, ?_, ?_, ?_, ?_⟩ <;> kernel_rfl
@[simp] theorem ty57 : szT Try.prog 57 = 1 ∧ szOb Try.prog 57 = 1 ∧ szBx Try.prog 57 = 1 ∧ isAggT Try.prog 57 = false ∧ okT Try.prog 57 = true ∧ okE Try.prog 57 = true ∧ okZ Try.prog 57 = true ∧ Program.bytesOf Try.prog 57 = 0 := by refine ⟨?_, ?_, ?_, ?_, ?_, ?_, ?_, ?_⟩ <;> kernel_rfl
@[simp] theorem ty58 : szT Try.prog 58 = 1 ∧ szOb Try.prog 58 = 1 ∧ szBx Try.prog 58 = 1 ∧ isAggT Try.prog 58 = false ∧ okT Try.prog 58 = true ∧ okE Try.prog 58 = true ∧ okZ Try.prog 58 = true ∧ Program.bytesOf Try.prog 58 = 8 := by refine ⟨?_, ?_, ?_, ?_, ?_, ?_, ?_, ?_⟩ <;> kernel_rfl
@[simp] theorem ty59 : szT Try.prog 59 = 1 ∧ szOb Try.prog 59 = 1 ∧ szBx Try.prog 59 = 1 ∧ isAggT Try.prog 59 = false ∧ okT Try.prog 59 = true ∧ okE Try.prog 59 = true ∧ okZ Try.prog 59 = true ∧ Program.bytesOf Try.prog 59 = 8 := by refine ⟨?_, ?_, ?_, ?_, ?_, ?_, ?_, ?_⟩ <;> kernel_rfl
@[simp] theorem ty60 : szT Try.prog 60 = 1 ∧ szOb Try.prog 60 = 1 ∧ szBx Try.prog 60 = 1 ∧ isAggT Try.prog 60 = false ∧ okT Try.prog 60 = true ∧ okE Try.prog 60 = true ∧ okZ Try.prog 60 = true ∧ Program.bytesOf Try.prog 60 = 8 := by refine ⟨?_, ?_, ?_, ?_, ?_, ?_, ?_, ?_⟩ <;> kernel_rfl
@[simp] theorem ty61 : szT Try.prog 61 = 1 ∧ szOb Try.prog 61 = 1 ∧ szBx Try.prog 61 = 1 ∧ isAggT Try.prog 61 = false ∧ okT Try.prog 61 = true ∧ okE Try.prog 61 = true ∧ okZ Try.prog 61 = true ∧ Program.bytesOf Try.prog 61 = 8 := by refine ⟨?_, ?_, ?_, ?_, ?_, ?_, ?_, ?_⟩ <;> kernel_rfl
@[simp] theorem ty62 : szT Try.prog 62 = 1 ∧ szOb Try.prog 62 = 1 ∧ szBx Try.prog 62 = 1 ∧ isAggT Try.prog 62 = false ∧ okT Try.prog 62 = true ∧ okE Try.prog 62 = true ∧ okZ Try.prog 62 = true ∧ Program.bytesOf Try.prog 62 = 8 := by refine ⟨?_, ?_, ?_, ?_, ?_, ?_, ?_, ?_⟩ <;> kernel_rfl
@[simp] theorem ty63 : szT Try.prog 63 = 1 ∧ szOb Try.prog 63 = 1 ∧ szBx Try.prog 63 = 1 ∧ isAggT Try.prog 63 = false ∧ okT Try.prog 63 = true ∧ okE Try.prog 63 = true ∧ okZ Try.prog 63 = true ∧ Program.bytesOf Try.prog 63 = 8 := by refine ⟨?_, ?_, ?_, ?_, ?_, ?_, ?_, ?_⟩ <;> kernel_rfl
@[simp] theorem ty64 : szT Try.prog 64 = 1 ∧ szOb Try.prog 64 = 1 ∧ szBx Try.prog 64 = 1 ∧ isAggT Try.prog 64 = false ∧ okT Try.prog 64 = true ∧ okE Try.prog 64 = true ∧ okZ Try.prog 64 = true ∧ Program.bytesOf Try.prog 64 = 24 := by refine ⟨?_, ?_, ?_, ?_, ?_, ?_, ?_, ?_⟩ <;> kernel_rfl
@[simp] theorem ty65 : szT Try.prog 65 = 1 ∧ szOb Try.prog 65 = 1 ∧ szBx Try.prog 65 = 1 ∧ isAggT Try.prog 65 = false ∧ okT Try.prog 65 = true ∧ okE Try.prog 65 = true ∧ okZ Try.prog 65 = true ∧ Program.bytesOf Try.prog 65 = 8 := by refine ⟨?_, ?_, ?_, ?_, ?_, ?_, ?_, ?_⟩ <;> kernel_rfl
@[simp] theorem ty66 : szT Try.prog 66 = 1 ∧ szOb Try.prog 66 = 1 ∧ szBx Try.prog 66 = 1 ∧ isAggT Try.prog 66 = false ∧ okT Try.prog 66 = true ∧ okE Try.prog 66 = true ∧ okZ Try.prog 66 = true ∧ Program.bytesOf Try.prog 66 = 8 := by refine ⟨?_, ?_, ?_, ?_, ?_, ?_, ?_, ?_⟩ <;> kernel_rfl
@[simp] theorem ty67 : szT Try.prog 67 = 1 ∧ szOb Try.prog 67 = 1 ∧ szBx Try.prog 67 = 1 ∧ isAggT Try.prog 67 = false ∧ okT Try.prog 67 = true ∧ okE Try.prog 67 = true ∧ okZ Try.prog 67 = true ∧ Program.bytesOf Try.prog 67 = 8 := by refine ⟨?_, ?_, ?_, ?_, ?_, ?_, ?_, ?_⟩ <;> kernel_rfl
@[simp] theorem ty68 : szT Try.prog 68 = 1 ∧ szOb Try.prog 68 = 1 ∧ szBx Try.prog 68 = 1 ∧ isAggT Try.prog 68 = false ∧ okT Try.prog 68 = true ∧ okE Try.prog 68 = true ∧ okZ Try.prog 68 = true ∧ Program.bytesOf Try.prog 68 = 8 := by refine ⟨?_, ?_, ?_, ?_, ?_, ?_, ?_, ?_⟩ <;> kernel_rfl
@[simp] theorem ty69 : szT Try.prog 69 = 1 ∧ szOb Try.prog 69 = 1 ∧ szBx Try.prog 69 = 1 ∧ isAggT Try.prog 69 = false ∧ okT Try.prog 69 = true ∧ okE Try.prog 69 = true ∧ okZ Try.prog 69 = true ∧ Program.bytesOf Try.prog 69 = 8 := by refine ⟨?_, ?_, ?_, ?_, ?_, ?_, ?_, ?_⟩ <;> kernel_rfl
@[simp] theorem ty70 : szT Try.prog 70 = 1 ∧ szOb Try.prog 70 = 1 ∧ szBx Try.prog 70 = 1 ∧ isAggT Try.prog 70 = false ∧ okT Try.prog 70 = true ∧ okE Try.prog 70 = true ∧ okZ Try.prog 70 = true ∧ Program.bytesOf Try.prog 70 = 8 := by refine ⟨?_, ?_, ?_, ?_, ?_, ?_, ?_, ?_⟩ <;> kernel_rfl
@[simp] theorem ty71 : szT Try.prog 71 = 1 ∧ szOb Try.prog 71 = 1 ∧ szBx Try.prog 71 = 1 ∧ isAggT Try.prog 71 = false ∧ okT Try.prog 71 = true ∧ okE Try.prog 71 = true ∧ okZ Try.prog 71 = true ∧ Program.bytesOf Try.prog 71 = 8 := by refine ⟨?_, ?_, ?_, ?_, ?_, ?_, ?_, ?_⟩ <;> kernel_rfl
@[simp] theorem ty72 : szT Try.prog 72 = 1 ∧ szOb Try.prog 72 = 1 ∧ szBx Try.prog 72 = 1 ∧ isAggT Try.prog 72 = false ∧ okT Try.prog 72 = true ∧ okE Try.prog 72 = true ∧ okZ Try.prog 72 = true ∧ Program.bytesOf Try.prog 72 = 8 := by refine ⟨?_, ?_, ?_, ?_, ?_, ?_, ?_, ?_⟩ <;> kernel_rfl
@[simp] theorem ty73 : szT Try.prog 73 = 1 ∧ szOb Try.prog 73 = 1 ∧ szBx Try.prog 73 = 1 ∧ isAggT Try.prog 73 = false ∧ okT Try.prog 73 = true ∧ okE Try.prog 73 = true ∧ okZ Try.prog 73 = true ∧ Program.bytesOf Try.prog 73 = 8 := by refine ⟨?_, ?_, ?_, ?_, ?_, ?_, ?_, ?_⟩ <;> kernel_rfl
@[simp] theorem ty74 : szT Try.prog 74 = 1 ∧ szOb Try.prog 74 = 1 ∧ szBx Try.prog 74 = 1 ∧ isAggT Try.prog 74 = false ∧ okT Try.prog 74 = true ∧ okE Try.prog 74 = true ∧ okZ Try.prog 74 = true ∧ Program.bytesOf Try.prog 74 = 8 := by refine ⟨?_, ?_, ?_, ?_, ?_, ?_, ?_, ?_⟩ <;> kernel_rfl
@[simp] theorem ty75 : szT Try.prog 75 = 1 ∧ szOb Try.prog 75 = 1 ∧ szBx Try.prog 75 = 1 ∧ isAggT Try.prog 75 = false ∧ okT Try.prog 75 = true ∧ okE Try.prog 75 = true ∧ okZ Try.prog 75 = true ∧ Program.bytesOf Try.prog 75 = 8 := by refine ⟨?_, ?_, ?_, ?_, ?_, ?_, ?_, ?_⟩ <;> kernel_rfl
@[simp] theorem ty76 : szT Try.prog 76 = 1 ∧ szOb Try.prog 76 = 1 ∧ szBx Try.prog 76 = 1 ∧ isAggT Try.prog 76 = false ∧ okT Try.prog 76 = true ∧ okE Try.prog 76 = true ∧ okZ Try.prog 76 = true ∧ Program.bytesOf Try.prog 76 = 8 := by refine ⟨?_, ?_, ?_, ?_, ?_, ?_, ?_, ?_⟩ <;> kernel_rfl
@[simp] theorem ty77 : szT Try.prog 77 = 1 ∧ szOb Try.prog 77 = 1 ∧ szBx Try.prog 77 = 1 ∧ isAggT Try.prog 77 = false ∧ okT Try.prog 77 = true ∧ okE Try.prog 77 = true ∧ okZ Try.prog 77 = true ∧ Program.bytesOf Try.prog 77 = 8 := by refine ⟨?_, ?_, ?_, ?_, ?_, ?_, ?_, ?_⟩ <;> kernel_rfl
@[simp] theorem ty78 : szT Try.prog 78 = 1 ∧ szOb Try.prog 78 = 1 ∧ szBx Try.prog 78 = 1 ∧ isAggT Try.prog 78 = false ∧ okT Try.prog 78 = true ∧ okE Try.prog 78 = true ∧ okZ Try.prog 78 = true ∧ Program.bytesOf Try.prog 78 = 8 := by refine ⟨?_, ?_, ?_, ?_, ?_, ?_, ?_, ?_⟩ <;> kernel_rfl
@[simp] theorem ty79 : szT Try.prog 79 = 1 ∧ szOb Try.prog 79 = 1 ∧ szBx Try.prog 79 = 1 ∧ isAggT Try.prog 79 = false ∧ okT Try.prog 79 = true ∧ okE Try.prog 79 = true ∧ okZ Try.prog 79 = true ∧ Program.bytesOf Try.prog 79 = 8 := by refine ⟨?_, ?_, ?_, ?_, ?_, ?_, ?_, ?_⟩ <;> kernel_rfl
@[simp] theorem ty80 : szT Try.prog 80 = 1 ∧ szOb Try.prog 80 = 1 ∧ szBx Try.prog 80 = 1 ∧ isAggT Try.prog 80 = false ∧ okT Try.prog 80 = true ∧ okE Try.prog 80 = true ∧ okZ Try.prog 80 = true ∧ Program.bytesOf Try.prog 80 = 8 := by refine ⟨?_, ?_, ?_, ?_, ?_, ?_, ?_, ?_⟩ <;> kernel_rfl
@[simp] theorem ty81 : szT Try.prog 81 = 1 ∧ szOb Try.prog 81 = 1 ∧ szBx Try.prog 81 = 1 ∧ isAggT Try.prog 81 = false ∧ okT Try.prog 81 = true ∧ okE Try.prog 81 = true ∧ okZ Try.prog 81 = true ∧ Program.bytesOf Try.prog 81 = 8 := by refine ⟨?_, ?_, ?_, ?_, ?_, ?_, ?_, ?_⟩ <;> kernel_rfl
@[simp] theorem ty82 : szT Try.prog 82 = 1 ∧ szOb Try.prog 82 = 1 ∧ szBx Try.prog 82 = 1 ∧ isAggT Try.prog 82 = false ∧ okT Try.prog 82 = true ∧ okE Try.prog 82 = true ∧ okZ Try.prog 82 = true ∧ Program.bytesOf Try.prog 82 = 8 := by refine ⟨?_, ?_, ?_, ?_, ?_, ?_, ?_, ?_⟩ <;> kernel_rfl
@[simp] theorem ty83 : szT Try.prog 83 = 1 ∧ szOb Try.prog 83 = 1 ∧ szBx Try.prog 83 = 1 ∧ isAggT Try.prog 83 = false ∧ okT Try.prog 83 = true ∧ okE Try.prog 83 = true ∧ okZ Try.prog 83 = true ∧ Program.bytesOf Try.prog 83 = 8 := by refine ⟨?_, ?_, ?_, ?_, ?_, ?_, ?_, ?_⟩ <;> kernel_rfl
@[simp] theorem ty84 : szT Try.prog 84 = 1 ∧ szOb Try.prog 84 = 1 ∧ szBx Try.prog 84 = 1 ∧ isAggT Try.prog 84 = false ∧ okT Try.prog 84 = true ∧ okE Try.prog 84 = true ∧ okZ Try.prog 84 = true ∧ Program.bytesOf Try.prog 84 = 24 := by refine ⟨?_, ?_, ?_, ?_, ?_, ?_, ?_, ?_⟩ <;> kernel_rfl
@[simp] theorem ty85 : szT Try.prog 85 = 2 ∧ szOb Try.prog 85 = 2 ∧ szBx Try.prog 85 = 2 ∧ isAggT Try.prog 85 = true ∧ okT Try.prog 85 = true ∧ okE Try.prog 85 = true ∧ okZ Try.prog 85 = true ∧ Program.bytesOf Try.prog 85 = 32 := by refine ⟨?_, ?_, ?_, ?_, ?_, ?_, ?_, ?_⟩ <;> kernel_rfl
@[simp] theorem ty86 : szT Try.prog 86 = 2 ∧ szOb Try.prog 86 = 2 ∧ szBx Try.prog 86 = 2 ∧ isAggT Try.prog 86 = true ∧ okT Try.prog 86 = true ∧ okE Try.prog 86 = true ∧ okZ Try.prog 86 = true ∧ Program.bytesOf Try.prog 86 = 32 := by refine ⟨?_, ?_, ?_, ?_, ?_, ?_, ?_, ?_⟩ <;> kernel_rfl
@[simp] theorem ty87 : szT Try.prog 87 = 2 ∧ szOb Try.prog 87 = 2 ∧ szBx Try.prog 87 = 2 ∧ isAggT Try.prog 87 = true ∧ okT Try.prog 87 = true ∧ okE Try.prog 87 = true ∧ okZ Try.prog 87 = true ∧ Program.bytesOf Try.prog 87 = 32 := by refine ⟨?_, ?_, ?_, ?_, ?_, ?_, ?_, ?_⟩ <;> kernel_rfl
@[simp] theorem ty88 : szT Try.prog 88 = 2 ∧ szOb Try.prog 88 = 2 ∧ szBx Try.prog 88 = 2 ∧ isAggT Try.prog 88 = true ∧ okT Try.prog 88 = true ∧ okE Try.prog 88 = true ∧ okZ Try.prog 88 = true ∧ Program.bytesOf Try.prog 88 = 32 := by refine ⟨?_, ?_, ?_, ?_, ?_, ?_, ?_, ?_⟩ <;> kernel_rfl
@[simp] theorem ty89 : szT Try.prog 89 = 1 ∧ szOb Try.prog 89 = 1 ∧ szBx Try.prog 89 = 1 ∧ isAggT Try.prog 89 = false ∧ okT Try.prog 89 = true ∧ okE Try.prog 89 = true ∧ okZ Try.prog 89 = true ∧ Program.bytesOf Try.prog 89 = 16 := by refine ⟨?_, ?_, ?_, ?_, ?_, ?_, ?_, ?_⟩ <;> kernel_rfl
@[simp] theorem ty90 : szT Try.prog 90 = 1 ∧ szOb Try.prog 90 = 1 ∧ szBx Try.prog 90 = 1 ∧ isAggT Try.prog 90 = false ∧ okT Try.prog 90 = true ∧ okE Try.prog 90 = true ∧ okZ Try.prog 90 = true ∧ Program.bytesOf Try.prog 90 = 16 := by refine ⟨?_, ?_, ?_, ?_, ?_, ?_, ?_, ?_⟩ <;> kernel_rfl
@[simp] theorem ty91 : szT Try.prog 91 = 1 ∧ szOb Try.prog 91 = 1 ∧ szBx Try.prog 91 = 1 ∧ isAggT Try.prog 91 = false ∧ okT Try.prog 91 = true ∧ okE Try.prog 91 = true ∧ okZ Try.prog 91 = true ∧ Program.bytesOf Try.prog 91 = 0 := by refine ⟨?_, ?_, ?_, ?_, ?_, ?_, ?_, ?_⟩ <;> kernel_rfl
@[simp] theorem ty92 : szT Try.prog 92 = 1 ∧ szOb Try.prog 92 = 1 ∧ szBx Try.prog 92 = 1 ∧ isAggT Try.prog 92 = false ∧ okT Try.prog 92 = true ∧ okE Try.prog 92 = true ∧ okZ Try.prog 92 = true ∧ Program.bytesOf Try.prog 92 = 8 := by refine ⟨?_, ?_, ?_, ?_, ?_, ?_, ?_, ?_⟩ <;> kernel_rfl
@[simp] theorem ty93 : szT Try.prog 93 = 1 ∧ szOb Try.prog 93 = 1 ∧ szBx Try.prog 93 = 1 ∧ isAggT Try.prog 93 = false ∧ okT Try.prog 93 = true ∧ okE Try.prog 93 = true ∧ okZ Try.prog 93 = true ∧ Program.bytesOf Try.prog 93 = 8 := by refine ⟨?_, ?_, ?_, ?_, ?_, ?_, ?_, ?_⟩ <;> kernel_rfl
@[simp] theorem ty94 : szT Try.prog 94 = 1 ∧ szOb Try.prog 94 = 1 ∧ szBx Try.prog 94 = 1 ∧ isAggT Try.prog 94 = false ∧ okT Try.prog 94 = true ∧ okE Try.prog 94 = true ∧ okZ Try.prog 94 = true ∧ Program.bytesOf Try.prog 94 = 8 := by refine ⟨?_, ?_, ?_, ?_, ?_, ?_, ?_, ?_⟩ <;> kernel_rfl
@[simp] theorem ty95 : szT Try.prog 95 = 1 ∧ szOb Try.prog 95 = 1 ∧ szBx Try.prog 95 = 1 ∧ isAggT Try.prog 95 = false ∧ okT Try.prog 95 = true ∧ okE Try.prog 95 = true ∧ okZ Try.prog 95 = true ∧ Program.bytesOf Try.prog 95 = 24 := by refine ⟨?_, ?_, ?_, ?_, ?_, ?_, ?_, ?_⟩ <;> kernel_rfl
@[simp] theorem ty96 : szT Try.prog 96 = 2 ∧ leavesX Try.prog 96 = some [2, 0] ∧ szOb Try.prog 96 = 2 ∧ szBx Try.prog 96 = 2 ∧ isAggT Try.prog 96 = true ∧ okT Try.prog 96 = true ∧ okE Try.prog 96 = true ∧ okZ Try.prog 96 = true ∧ Program.bytesOf Try.prog 96 = 24 := by refine ⟨?_, ?_, ?_, ?_, ?_, ?_, ?_, ?_, ?_⟩ <;> kernel_rfl
@[simp] theorem ty97 : szT Try.prog 97 = 2 ∧ leavesX Try.prog 97 = some [2, 0] ∧ szOb Try.prog 97 = 2 ∧ szBx Try.prog 97 = 2 ∧ isAggT Try.prog 97 = true ∧ okT Try.prog 97 = true ∧ okE Try.prog 97 = true ∧ okZ Try.prog 97 = true ∧ Program.bytesOf Try.prog 97 = 24 := by refine ⟨?_, ?_, ?_, ?_, ?_, ?_, ?_, ?_, ?_⟩ <;> kernel_rfl
@[simp] theorem ty98 : szT Try.prog 98 = 2 ∧ leavesX Try.prog 98 = some [2, 0] ∧ szOb Try.prog 98 = 2 ∧ szBx Try.prog 98 = 2 ∧ isAggT Try.prog 98 = true ∧ okT Try.prog 98 = true ∧ okE Try.prog 98 = true ∧ okZ Try.prog 98 = true ∧ Program.bytesOf Try.prog 98 = 24 := by refine ⟨?_, ?_, ?_, ?_, ?_, ?_, ?_, ?_, ?_⟩ <;> kernel_rfl
@[simp] theorem ty99 : szT Try.prog 99 = 2 ∧ leavesX Try.prog 99 = some [2, 0] ∧ szOb Try.prog 99 = 2 ∧ szBx Try.prog 99 = 2 ∧ isAggT Try.prog 99 = true ∧ okT Try.prog 99 = true ∧ okE Try.prog 99 = true ∧ okZ Try.prog 99 = true ∧ Program.bytesOf Try.prog 99 = 24 := by refine ⟨?_, ?_, ?_, ?_, ?_, ?_, ?_, ?_, ?_⟩ <;> kernel_rfl
@[simp] theorem ty100 : szT Try.prog 100 = 1 ∧ szOb Try.prog 100 = 1 ∧ szBx Try.prog 100 = 1 ∧ isAggT Try.prog 100 = false ∧ okT Try.prog 100 = true ∧ okE Try.prog 100 = true ∧ okZ Try.prog 100 = true ∧ Program.bytesOf Try.prog 100 = 8 := by refine ⟨?_, ?_, ?_, ?_, ?_, ?_, ?_, ?_⟩ <;> kernel_rfl
@[simp] theorem ty101 : szT Try.prog 101 = 1 ∧ szOb Try.prog 101 = 1 ∧ szBx Try.prog 101 = 1 ∧ isAggT Try.prog 101 = false ∧ okT Try.prog 101 = true ∧ okE Try.prog 101 = true ∧ okZ Try.prog 101 = true ∧ Program.bytesOf Try.prog 101 = 8 := by refine ⟨?_, ?_, ?_, ?_, ?_, ?_, ?_, ?_⟩ <;> kernel_rfl
@[simp] theorem ty102 : szT Try.prog 102 = 1 ∧ szOb Try.prog 102 = 1 ∧ szBx Try.prog 102 = 1 ∧ isAggT Try.prog 102 = false ∧ okT Try.prog 102 = true ∧ okE Try.prog 102 = true ∧ okZ Try.prog 102 = true ∧ Program.bytesOf Try.prog 102 = 8 := by refine ⟨?_, ?_, ?_, ?_, ?_, ?_, ?_, ?_⟩ <;> kernel_rfl
@[simp] theorem ty103 : szT Try.prog 103 = 1 ∧ szOb Try.prog 103 = 1 ∧ szBx Try.prog 103 = 1 ∧ isAggT Try.prog 103 = false ∧ okT Try.prog 103 = true ∧ okE Try.prog 103 = true ∧ okZ Try.prog 103 = true ∧ Program.bytesOf Try.prog 103 = 0 := by refine ⟨?_, ?_, ?_, ?_, ?_, ?_, ?_, ?_⟩ <;> kernel_rfl
@[simp] theorem ty104 : szT Try.prog 104 = 1 ∧ szOb Try.prog 104 = 1 ∧ szBx Try.prog 104 = 1 ∧ isAggT Try.prog 104 = false ∧ okT Try.prog 104 = true ∧ okE Try.prog 104 = true ∧ okZ Try.prog 104 = true ∧ Program.bytesOf Try.prog 104 = 8 := by refine ⟨?_, ?_, ?_, ?_, ?_, ?_, ?_, ?_⟩ <;> kernel_rfl
@[simp] theorem ty105 : szT Try.prog 105 = 1 ∧ szOb Try.prog 105 = 1 ∧ szBx Try.prog 105 = 1 ∧ isAggT Try.prog 105 = false ∧ okT Try.prog 105 = true ∧ okE Try.prog 105 = true ∧ okZ Try.prog 105 = true ∧ Program.bytesOf Try.prog 105 = 8 := by refine ⟨?_, ?_, ?_, ?_, ?_, ?_, ?_, ?_⟩ <;> kernel_rfl
@[simp] theorem ty106 : szT Try.prog 106 = 1 ∧ szOb Try.prog 106 = 1 ∧ szBx Try.prog 106 = 1 ∧ isAggT Try.prog 106 = false ∧ okT Try.prog 106 = true ∧ okE Try.prog 106 = true ∧ okZ Try.prog 106 = true ∧ Program.bytesOf Try.prog 106 = 8 := by refine ⟨?_, ?_, ?_, ?_, ?_, ?_, ?_, ?_⟩ <;> kernel_rfl
@[simp] theorem ty107 : szT Try.prog 107 = 1 ∧ szOb Try.prog 107 = 1 ∧ szBx Try.prog 107 = 1 ∧ isAggT Try.prog 107 = false ∧ okT Try.prog 107 = true ∧ okE Try.prog 107 = true ∧ okZ Try.prog 107 = true ∧ Program.bytesOf Try.prog 107 = 8 := by refine ⟨?_, ?_, ?_, ?_, ?_, ?_, ?_, ?_⟩ <;> kernel_rfl
@[simp] theorem ty108 : szT Try.prog 108 = 1 ∧ szOb Try.prog 108 = 1 ∧ szBx Try.prog 108 = 1 ∧ isAggT Try.prog 108 = false ∧ okT Try.prog 108 = true ∧ okE Try.prog 108 = true ∧ okZ Try.prog 108 = true ∧ Program.bytesOf Try.prog 108 = 8 := by refine ⟨?_, ?_, ?_, ?_, ?_, ?_, ?_, ?_⟩ <;> kernel_rfl
@[simp] theorem ty109 : szT Try.prog 109 = 4 ∧ leavesX Try.prog 109 = some (List.replicate 4 0) ∧ szOb Try.prog 109 = 1 ∧ szBx Try.prog 109 = 1 ∧ isAggT Try.prog 109 = true ∧ okT Try.prog 109 = true ∧ okE Try.prog 109 = true ∧ okZ Try.prog 109 = true ∧ Program.bytesOf Try.prog 109 = 32 := by refine ⟨?_, ?_, ?_, ?_, ?_, ?_, ?_, ?_, ?_⟩ <;> kernel_rfl
@[simp] theorem ty110 : szT Try.prog 110 = 4 ∧ leavesX Try.prog 110 = some (List.replicate 4 0) ∧ szOb Try.prog 110 = 1 ∧ szBx Try.prog 110 = 1 ∧ isAggT Try.prog 110 = true ∧ okT Try.prog 110 = true ∧ okE Try.prog 110 = true ∧ okZ Try.prog 110 = true ∧ Program.bytesOf Try.prog 110 = 32 := by refine ⟨?_, ?_, ?_, ?_, ?_, ?_, ?_, ?_, ?_⟩ <;> kernel_rfl
@[simp] theorem ty111 : szT Try.prog 111 = 1 ∧ szOb Try.prog 111 = 1 ∧ szBx Try.prog 111 = 1 ∧ isAggT Try.prog 111 = false ∧ okT Try.prog 111 = true ∧ okE Try.prog 111 = true ∧ okZ Try.prog 111 = true ∧ Program.bytesOf Try.prog 111 = 8 := by refine ⟨?_, ?_, ?_, ?_, ?_, ?_, ?_, ?_⟩ <;> kernel_rfl
@[simp] theorem ty112 : szT Try.prog 112 = 1 ∧ szOb Try.prog 112 = 1 ∧ szBx Try.prog 112 = 1 ∧ isAggT Try.prog 112 = false ∧ okT Try.prog 112 = true ∧ okE Try.prog 112 = true ∧ okZ Try.prog 112 = true ∧ Program.bytesOf Try.prog 112 = 8 := by refine ⟨?_, ?_, ?_, ?_, ?_, ?_, ?_, ?_⟩ <;> kernel_rfl
@[simp] theorem ty113 : szT Try.prog 113 = 1 ∧ szOb Try.prog 113 = 1 ∧ szBx Try.prog 113 = 1 ∧ isAggT Try.prog 113 = false ∧ okT Try.prog 113 = true ∧ okE Try.prog 113 = true ∧ okZ Try.prog 113 = true ∧ Program.bytesOf Try.prog 113 = 8 := by refine ⟨?_, ?_, ?_, ?_, ?_, ?_, ?_, ?_⟩ <;> kernel_rfl
@[simp] theorem ty114 : szT Try.prog 114 = 1 ∧ szOb Try.prog 114 = 1 ∧ szBx Try.prog 114 = 1 ∧ isAggT Try.prog 114 = false ∧ okT Try.prog 114 = true ∧ okE Try.prog 114 = true ∧ okZ Try.prog 114 = true ∧ Program.bytesOf Try.prog 114 = 8 := by refine ⟨?_, ?_, ?_, ?_, ?_, ?_, ?_, ?_⟩ <;> kernel_rfl
@[simp] theorem ty115 : szT Try.prog 115 = 1 ∧ szOb Try.prog 115 = 1 ∧ szBx Try.prog 115 = 1 ∧ isAggT Try.prog 115 = false ∧ okT Try.prog 115 = true ∧ okE Try.prog 115 = true ∧ okZ Try.prog 115 = true ∧ Program.bytesOf Try.prog 115 = 8 := by refine ⟨?_, ?_, ?_, ?_, ?_, ?_, ?_, ?_⟩ <;> kernel_rfl
@[simp] theorem ty116 : szT Try.prog 116 = 1 ∧ szOb Try.prog 116 = 1 ∧ szBx Try.prog 116 = 1 ∧ isAggT Try.prog 116 = false ∧ okT Try.prog 116 = true ∧ okE Try.prog 116 = true ∧ okZ Try.prog 116 = true ∧ Program.bytesOf Try.prog 116 = 8 := by refine ⟨?_, ?_, ?_, ?_, ?_, ?_, ?_, ?_⟩ <;> kernel_rfl
@[simp] theorem ty117 : szT Try.prog 117 = 1 ∧ szOb Try.prog 117 = 1 ∧ szBx Try.prog 117 = 1 ∧ isAggT Try.prog 117 = false ∧ okT Try.prog 117 = true ∧ okE Try.prog 117 = true ∧ okZ Try.prog 117 = true ∧ Program.bytesOf Try.prog 117 = 0 := by refine ⟨?_, ?_, ?_, ?_, ?_, ?_, ?_, ?_⟩ <;> kernel_rfl
@[simp] theorem ty118 : szT Try.prog 118 = 1 ∧ szOb Try.prog 118 = 1 ∧ szBx Try.prog 118 = 1 ∧ isAggT Try.prog 118 = false ∧ okT Try.prog 118 = true ∧ okE Try.prog 118 = true ∧ okZ Try.prog 118 = true ∧ Program.bytesOf Try.prog 118 = 8 := by refine ⟨?_, ?_, ?_, ?_, ?_, ?_, ?_, ?_⟩ <;> kernel_rfl
@[simp] theorem ty119 : szT Try.prog 119 = 1 ∧ szOb Try.prog 119 = 1 ∧ szBx Try.prog 119 = 1 ∧ isAggT Try.prog 119 = false ∧ okT Try.prog 119 = true ∧ okE Try.prog 119 = true ∧ okZ Try.prog 119 = true ∧ Program.bytesOf Try.prog 119 = 8 := by refine ⟨?_, ?_, ?_, ?_, ?_, ?_, ?_, ?_⟩ <;> kernel_rfl
@[simp] theorem ty120 : szT Try.prog 120 = 1 ∧ szOb Try.prog 120 = 1 ∧ szBx Try.prog 120 = 1 ∧ isAggT Try.prog 120 = false ∧ okT Try.prog 120 = true ∧ okE Try.prog 120 = true ∧ okZ Try.prog 120 = true ∧ Program.bytesOf Try.prog 120 = 8 := by refine ⟨?_, ?_, ?_, ?_, ?_, ?_, ?_, ?_⟩ <;> kernel_rfl
@[simp] theorem ty121 : szT Try.prog 121 = 1 ∧ szOb Try.prog 121 = 1 ∧ szBx Try.prog 121 = 1 ∧ isAggT Try.prog 121 = false ∧ okT Try.prog 121 = true ∧ okE Try.prog 121 = true ∧ okZ Try.prog 121 = true ∧ Program.bytesOf Try.prog 121 = 8 := by refine ⟨?_, ?_, ?_, ?_, ?_, ?_, ?_, ?_⟩ <;> kernel_rfl
@[simp] theorem ty122 : szT Try.prog 122 = 1 ∧ szOb Try.prog 122 = 1 ∧ szBx Try.prog 122 = 1 ∧ isAggT Try.prog 122 = false ∧ okT Try.prog 122 = true ∧ okE Try.prog 122 = true ∧ okZ Try.prog 122 = true ∧ Program.bytesOf Try.prog 122 = 8 := by refine ⟨?_, ?_, ?_, ?_, ?_, ?_, ?_, ?_⟩ <;> kernel_rfl
@[simp] theorem ty123 : szT Try.prog 123 = 1 ∧ szOb Try.prog 123 = 1 ∧ szBx Try.prog 123 = 1 ∧ isAggT Try.prog 123 = false ∧ okT Try.prog 123 = true ∧ okE Try.prog 123 = true ∧ okZ Try.prog 123 = true ∧ Program.bytesOf Try.prog 123 = 8 := by refine ⟨?_, ?_, ?_, ?_, ?_, ?_, ?_, ?_⟩ <;> kernel_rfl
@[simp] theorem ty124 : szT Try.prog 124 = 1 ∧ szOb Try.prog 124 = 1 ∧ szBx Try.prog 124 = 1 ∧ isAggT Try.prog 124 = false ∧ okT Try.prog 124 = true ∧ okE Try.prog 124 = true ∧ okZ Try.prog 124 = true ∧ Program.bytesOf Try.prog 124 = 8 := by refine ⟨?_, ?_, ?_, ?_, ?_, ?_, ?_, ?_⟩ <;> kernel_rfl
@[simp] theorem ty125 : szT Try.prog 125 = 1 ∧ szOb Try.prog 125 = 1 ∧ szBx Try.prog 125 = 1 ∧ isAggT Try.prog 125 = false ∧ okT Try.prog 125 = true ∧ okE Try.prog 125 = true ∧ okZ Try.prog 125 = true ∧ Program.bytesOf Try.prog 125 = 8 := by refine ⟨?_, ?_, ?_, ?_, ?_, ?_, ?_, ?_⟩ <;> kernel_rfl
@[simp] theorem ty126 : szT Try.prog 126 = 1 ∧ szOb Try.prog 126 = 1 ∧ szBx Try.prog 126 = 1 ∧ isAggT Try.prog 126 = false ∧ okT Try.prog 126 = true ∧ okE Try.prog 126 = true ∧ okZ Try.prog 126 = true ∧ Program.bytesOf Try.prog 126 = 8 := by refine ⟨?_, ?_, ?_, ?_, ?_, ?_, ?_, ?_⟩ <;> kernel_rfl
@[simp] theorem ty127 : szT Try.prog 127 = 1 ∧ szOb Try.prog 127 = 1 ∧ szBx Try.prog 127 = 1 ∧ isAggT Try.prog 127 = false ∧ okT Try.prog 127 = true ∧ okE Try.prog 127 = true ∧ okZ Try.prog 127 = true ∧ Program.bytesOf Try.prog 127 = 8 := by refine ⟨?_, ?_, ?_, ?_, ?_, ?_, ?_, ?_⟩ <;> kernel_rfl
@[simp] theorem ty128 : szT Try.prog 128 = 1 ∧ szOb Try.prog 128 = 1 ∧ szBx Try.prog 128 = 1 ∧ isAggT Try.prog 128 = false ∧ okT Try.prog 128 = true ∧ okE Try.prog 128 = true ∧ okZ Try.prog 128 = true ∧ Program.bytesOf Try.prog 128 = 8 := by refine ⟨?_, ?_, ?_, ?_, ?_, ?_, ?_, ?_⟩ <;> kernel_rfl
@[simp] theorem ty129 : szT Try.prog 129 = 1 ∧ szOb Try.prog 129 = 1 ∧ szBx Try.prog 129 = 1 ∧ isAggT Try.prog 129 = false ∧ okT Try.prog 129 = true ∧ okE Try.prog 129 = true ∧ okZ Try.prog 129 = true ∧ Program.bytesOf Try.prog 129 = 8 := by refine ⟨?_, ?_, ?_, ?_, ?_, ?_, ?_, ?_⟩ <;> kernel_rfl
@[simp] theorem ty130 : szT Try.prog 130 = 1 ∧ szOb Try.prog 130 = 1 ∧ szBx Try.prog 130 = 1 ∧ isAggT Try.prog 130 = false ∧ okT Try.prog 130 = true ∧ okE Try.prog 130 = true ∧ okZ Try.prog 130 = true ∧ Program.bytesOf Try.prog 130 = 8 := by refine ⟨?_, ?_, ?_, ?_, ?_, ?_, ?_, ?_⟩ <;> kernel_rfl
@[simp] theorem ty131 : szT Try.prog 131 = 1 ∧ szOb Try.prog 131 = 1 ∧ szBx Try.prog 131 = 1 ∧ isAggT Try.prog 131 = false ∧ okT Try.prog 131 = true ∧ okE Try.prog 131 = true ∧ okZ Try.prog 131 = true ∧ Program.bytesOf Try.prog 131 = 8 := by refine ⟨?_, ?_, ?_, ?_, ?_, ?_, ?_, ?_⟩ <;> kernel_rfl
@[simp] theorem ty132 : szT Try.prog 132 = 1 ∧ szOb Try.prog 132 = 1 ∧ szBx Try.prog 132 = 1 ∧ isAggT Try.prog 132 = false ∧ okT Try.prog 132 = true ∧ okE Try.prog 132 = true ∧ okZ Try.prog 132 = true ∧ Program.bytesOf Try.prog 132 = 8 := by refine ⟨?_, ?_, ?_, ?_, ?_, ?_, ?_, ?_⟩ <;> kernel_rfl
@[simp] theorem ty133 : szT Try.prog 133 = 1 ∧ szOb Try.prog 133 = 1 ∧ szBx Try.prog 133 = 1 ∧ isAggT Try.prog 133 = false ∧ okT Try.prog 133 = true ∧ okE Try.prog 133 = true ∧ okZ Try.prog 133 = true ∧ Program.bytesOf Try.prog 133 = 8 := by refine ⟨?_, ?_, ?_, ?_, ?_, ?_, ?_, ?_⟩ <;> kernel_rfl
@[simp] theorem ty134 : szT Try.prog 134 = 1 ∧ szOb Try.prog 134 = 1 ∧ szBx Try.prog 134 = 1 ∧ isAggT Try.prog 134 = false ∧ okT Try.prog 134 = true ∧ okE Try.prog 134 = true ∧ okZ Try.prog 134 = true ∧ Program.bytesOf Try.prog 134 = 8 := by refine ⟨?_, ?_, ?_, ?_, ?_, ?_, ?_, ?_⟩ <;> kernel_rfl
@[simp] theorem ty135 : szT Try.prog 135 = 1 ∧ szOb Try.prog 135 = 1 ∧ szBx Try.prog 135 = 1 ∧ isAggT Try.prog 135 = false ∧ okT Try.prog 135 = true ∧ okE Try.prog 135 = true ∧ okZ Try.prog 135 = true ∧ Program.bytesOf Try.prog 135 = 8 := by refine ⟨?_, ?_, ?_, ?_, ?_, ?_, ?_, ?_⟩ <;> kernel_rfl
@[simp] theorem ty136 : szT Try.prog 136 = 1 ∧ szOb Try.prog 136 = 1 ∧ szBx Try.prog 136 = 1 ∧ isAggT Try.prog 136 = false ∧ okT Try.prog 136 = true ∧ okE Try.prog 136 = true ∧ okZ Try.prog 136 = true ∧ Program.bytesOf Try.prog 136 = 8 := by refine ⟨?_, ?_, ?_, ?_, ?_, ?_, ?_, ?_⟩ <;> kernel_rfl
@[simp] theorem ty137 : szT Try.prog 137 = 1 ∧ szOb Try.prog 137 = 1 ∧ szBx Try.prog 137 = 1 ∧ isAggT Try.prog 137 = false ∧ okT Try.prog 137 = true ∧ okE Try.prog 137 = true ∧ okZ Try.prog 137 = true ∧ Program.bytesOf Try.prog 137 = 8 := by refine ⟨?_, ?_, ?_, ?_, ?_, ?_, ?_, ?_⟩ <;> kernel_rfl
@[simp] theorem ty138 : szT Try.prog 138 = 1 ∧ szOb Try.prog 138 = 1 ∧ szBx Try.prog 138 = 1 ∧ isAggT Try.prog 138 = false ∧ okT Try.prog 138 = true ∧ okE Try.prog 138 = true ∧ okZ Try.prog 138 = true ∧ Program.bytesOf Try.prog 138 = 8 := by refine ⟨?_, ?_, ?_, ?_, ?_, ?_, ?_, ?_⟩ <;> kernel_rfl
@[simp] theorem ty139 : szT Try.prog 139 = 1 ∧ szOb Try.prog 139 = 1 ∧ szBx Try.prog 139 = 1 ∧ isAggT Try.prog 139 = false ∧ okT Try.prog 139 = true ∧ okE Try.prog 139 = true ∧ okZ Try.prog 139 = true ∧ Program.bytesOf Try.prog 139 = 0 := by refine ⟨?_, ?_, ?_, ?_, ?_, ?_, ?_, ?_⟩ <;> kernel_rfl
@[simp] theorem ty140 : szT Try.prog 140 = 1 ∧ szOb Try.prog 140 = 1 ∧ szBx Try.prog 140 = 1 ∧ isAggT Try.prog 140 = false ∧ okT Try.prog 140 = true ∧ okE Try.prog 140 = true ∧ okZ Try.prog 140 = true ∧ Program.bytesOf Try.prog 140 = 8 := by refine ⟨?_, ?_, ?_, ?_, ?_, ?_, ?_, ?_⟩ <;> kernel_rfl
@[simp] theorem ty141 : szT Try.prog 141 = 1 ∧ szOb Try.prog 141 = 1 ∧ szBx Try.prog 141 = 1 ∧ isAggT Try.prog 141 = false ∧ okT Try.prog 141 = true ∧ okE Try.prog 141 = true ∧ okZ Try.prog 141 = true ∧ Program.bytesOf Try.prog 141 = 8 := by refine ⟨?_, ?_, ?_, ?_, ?_, ?_, ?_, ?_⟩ <;> kernel_rfl
@[simp] theorem ty142 : szT Try.prog 142 = 1 ∧ szOb Try.prog 142 = 1 ∧ szBx Try.prog 142 = 1 ∧ isAggT Try.prog 142 = false ∧ okT Try.prog 142 = true ∧ okE Try.prog 142 = true ∧ okZ Try.prog 142 = true ∧ Program.bytesOf Try.prog 142 = 8 := by refine ⟨?_, ?_, ?_, ?_, ?_, ?_, ?_, ?_⟩ <;> kernel_rfl
@[simp] theorem ty143 : szT Try.prog 143 = 1 ∧ szOb Try.prog 143 = 1 ∧ szBx Try.prog 143 = 1 ∧ isAggT Try.prog 143 = false ∧ okT Try.prog 143 = true ∧ okE Try.prog 143 = true ∧ okZ Try.prog 143 = true ∧ Program.bytesOf Try.prog 143 = 8 := by refine ⟨?_, ?_, ?_, ?_, ?_, ?_, ?_, ?_⟩ <;> kernel_rfl
@[simp] theorem ty144 : szT Try.prog 144 = 1 ∧ szOb Try.prog 144 = 1 ∧ szBx Try.prog 144 = 1 ∧ isAggT Try.prog 144 = false ∧ okT Try.prog 144 = true ∧ okE Try.prog 144 = true ∧ okZ Try.prog 144 = true ∧ Program.bytesOf Try.prog 144 = 8 := by refine ⟨?_, ?_, ?_, ?_, ?_, ?_, ?_, ?_⟩ <;> kernel_rfl
@[simp] theorem ty145 : szT Try.prog 145 = 1 ∧ szOb Try.prog 145 = 1 ∧ szBx Try.prog 145 = 1 ∧ isAggT Try.prog 145 = false ∧ okT Try.prog 145 = true ∧ okE Try.prog 145 = true ∧ okZ Try.prog 145 = true ∧ Program.bytesOf Try.prog 145 = 8 := by refine ⟨?_, ?_, ?_, ?_, ?_, ?_, ?_, ?_⟩ <;> kernel_rfl
@[simp] theorem ty146 : szT Try.prog 146 = 1 ∧ szOb Try.prog 146 = 1 ∧ szBx Try.prog 146 = 1 ∧ isAggT Try.prog 146 = false ∧ okT Try.prog 146 = true ∧ okE Try.prog 146 = true ∧ okZ Try.prog 146 = true ∧ Program.bytesOf Try.prog 146 = 8 := by refine ⟨?_, ?_, ?_, ?_, ?_, ?_, ?_, ?_⟩ <;> kernel_rfl
@[simp] theorem ty147 : szT Try.prog 147 = 1 ∧ szOb Try.prog 147 = 1 ∧ szBx Try.prog 147 = 1 ∧ isAggT Try.prog 147 = false ∧ okT Try.prog 147 = true ∧ okE Try.prog 147 = true ∧ okZ Try.prog 147 = true ∧ Program.bytesOf Try.prog 147 = 8 := by refine ⟨?_, ?_, ?_, ?_, ?_, ?_, ?_, ?_⟩ <;> kernel_rfl
@[simp] theorem ty148 : szT Try.prog 148 = 1 ∧ szOb Try.prog 148 = 1 ∧ szBx Try.prog 148 = 1 ∧ isAggT Try.prog 148 = false ∧ okT Try.prog 148 = true ∧ okE Try.prog 148 = true ∧ okZ Try.prog 148 = true ∧ Program.bytesOf Try.prog 148 = 0 := by refine ⟨?_, ?_, ?_, ?_, ?_, ?_, ?_, ?_⟩ <;> kernel_rfl
@[simp] theorem ty149 : szT Try.prog 149 = 1 ∧ szOb Try.prog 149 = 1 ∧ szBx Try.prog 149 = 1 ∧ isAggT Try.prog 149 = false ∧ okT Try.prog 149 = true ∧ okE Try.prog 149 = true ∧ okZ Try.prog 149 = true ∧ Program.bytesOf Try.prog 149 = 8 := by refine ⟨?_, ?_, ?_, ?_, ?_, ?_, ?_, ?_⟩ <;> kernel_rfl
@[simp] theorem ty150 : szT Try.prog 150 = 1 ∧ szOb Try.prog 150 = 1 ∧ szBx Try.prog 150 = 1 ∧ isAggT Try.prog 150 = false ∧ okT Try.prog 150 = true ∧ okE Try.prog 150 = true ∧ okZ Try.prog 150 = true ∧ Program.bytesOf Try.prog 150 = 8 := by refine ⟨?_, ?_, ?_, ?_, ?_, ?_, ?_, ?_⟩ <;> kernel_rfl
@[simp] theorem ty151 : szT Try.prog 151 = 1 ∧ szOb Try.prog 151 = 1 ∧ szBx Try.prog 151 = 1 ∧ isAggT Try.prog 151 = false ∧ okT Try.prog 151 = true ∧ okE Try.prog 151 = true ∧ okZ Try.prog 151 = true ∧ Program.bytesOf Try.prog 151 = 8 := by refine ⟨?_, ?_, ?_, ?_, ?_, ?_, ?_, ?_⟩ <;> kernel_rfl
@[simp] theorem ty152 : szT Try.prog 152 = 8 ∧ leavesX Try.prog 152 = some (List.replicate 8 0) ∧ szOb Try.prog 152 = 1 ∧ szBx Try.prog 152 = 1 ∧ isAggT Try.prog 152 = true ∧ okT Try.prog 152 = true ∧ okE Try.prog 152 = true ∧ okZ Try.prog 152 = true ∧ Program.bytesOf Try.prog 152 = 32 := by refine ⟨?_, ?_, ?_, ?_, ?_, ?_, ?_, ?_, ?_⟩ <;> kernel_rfl
@[simp] theorem ty153 : szT Try.prog 153 = 8 ∧ leavesX Try.prog 153 = some (List.replicate 8 0) ∧ szOb Try.prog 153 = 1 ∧ szBx Try.prog 153 = 1 ∧ isAggT Try.prog 153 = true ∧ okT Try.prog 153 = true ∧ okE Try.prog 153 = true ∧ okZ Try.prog 153 = true ∧ Program.bytesOf Try.prog 153 = 32 := by refine ⟨?_, ?_, ?_, ?_, ?_, ?_, ?_, ?_, ?_⟩ <;> kernel_rfl
@[simp] theorem ty154 : szT Try.prog 154 = 11 ∧ leavesX Try.prog 154 = some [0, 0, 0, 0, 0, 0, 0, 0, 2, 0, 1] ∧ szOb Try.prog 154 = 11 ∧ szBx Try.prog 154 = 11 ∧ isAggT Try.prog 154 = true ∧ okT Try.prog 154 = true ∧ okE Try.prog 154 = true ∧ okZ Try.prog 154 = true ∧ Program.bytesOf Try.prog 154 = 64 := by refine ⟨?_, ?_, ?_, ?_, ?_, ?_, ?_, ?_, ?_⟩ <;> kernel_rfl
@[simp] theorem ty155 : szT Try.prog 155 = 11 ∧ leavesX Try.prog 155 = some [0, 0, 0, 0, 0, 0, 0, 0, 2, 0, 1] ∧ szOb Try.prog 155 = 11 ∧ szBx Try.prog 155 = 11 ∧ isAggT Try.prog 155 = true ∧ okT Try.prog 155 = true ∧ okE Try.prog 155 = true ∧ okZ Try.prog 155 = true ∧ Program.bytesOf Try.prog 155 = 64 := by refine ⟨?_, ?_, ?_, ?_, ?_, ?_, ?_, ?_, ?_⟩ <;> kernel_rfl
@[simp] theorem ty156 : szT Try.prog 156 = 1 ∧ szOb Try.prog 156 = 1 ∧ szBx Try.prog 156 = 1 ∧ isAggT Try.prog 156 = false ∧ okT Try.prog 156 = true ∧ okE Try.prog 156 = true ∧ okZ Try.prog 156 = true ∧ Program.bytesOf Try.prog 156 = 8 := by refine ⟨?_, ?_, ?_, ?_, ?_, ?_, ?_, ?_⟩ <;> kernel_rfl
@[simp] theorem ty157 : szT Try.prog 157 = 1 ∧ szOb Try.prog 157 = 1 ∧ szBx Try.prog 157 = 1 ∧ isAggT Try.prog 157 = false ∧ okT Try.prog 157 = true ∧ okE Try.prog 157 = true ∧ okZ Try.prog 157 = true ∧ Program.bytesOf Try.prog 157 = 8 := by refine ⟨?_, ?_, ?_, ?_, ?_, ?_, ?_, ?_⟩ <;> kernel_rfl
@[simp] theorem ty158 : szT Try.prog 158 = 1 ∧ szOb Try.prog 158 = 1 ∧ szBx Try.prog 158 = 1 ∧ isAggT Try.prog 158 = false ∧ okT Try.prog 158 = true ∧ okE Try.prog 158 = true ∧ okZ Try.prog 158 = true ∧ Program.bytesOf Try.prog 158 = 8 := by refine ⟨?_, ?_, ?_, ?_, ?_, ?_, ?_, ?_⟩ <;> kernel_rfl
@[simp] theorem ty159 : szT Try.prog 159 = 64 ∧ leavesX Try.prog 159 = some (List.replicate 64 0) ∧ szOb Try.prog 159 = 1 ∧ szBx Try.prog 159 = 1 ∧ isAggT Try.prog 159 = true ∧ okT Try.prog 159 = true ∧ okE Try.prog 159 = true ∧ okZ Try.prog 159 = true ∧ Program.bytesOf Try.prog 159 = 256 := by refine ⟨?_, ?_, ?_, ?_, ?_, ?_, ?_, ?_, ?_⟩ <;> kernel_rfl
@[simp] theorem ty160 : szT Try.prog 160 = 1 ∧ szOb Try.prog 160 = 1 ∧ szBx Try.prog 160 = 1 ∧ isAggT Try.prog 160 = false ∧ okT Try.prog 160 = true ∧ okE Try.prog 160 = true ∧ okZ Try.prog 160 = true ∧ Program.bytesOf Try.prog 160 = 8 := by refine ⟨?_, ?_, ?_, ?_, ?_, ?_, ?_, ?_⟩ <;> kernel_rfl
@[simp] theorem ty161 : szT Try.prog 161 = 1 ∧ szOb Try.prog 161 = 1 ∧ szBx Try.prog 161 = 1 ∧ isAggT Try.prog 161 = false ∧ okT Try.prog 161 = true ∧ okE Try.prog 161 = true ∧ okZ Try.prog 161 = true ∧ Program.bytesOf Try.prog 161 = 8 := by refine ⟨?_, ?_, ?_, ?_, ?_, ?_, ?_, ?_⟩ <;> kernel_rfl
@[simp] theorem ty162 : szT Try.prog 162 = 1 ∧ szOb Try.prog 162 = 1 ∧ szBx Try.prog 162 = 1 ∧ isAggT Try.prog 162 = false ∧ okT Try.prog 162 = true ∧ okE Try.prog 162 = true ∧ okZ Try.prog 162 = true ∧ Program.bytesOf Try.prog 162 = 8 := by refine ⟨?_, ?_, ?_, ?_, ?_, ?_, ?_, ?_⟩ <;> kernel_rfl
@[simp] theorem ty163 : szT Try.prog 163 = 1 ∧ szOb Try.prog 163 = 1 ∧ szBx Try.prog 163 = 1 ∧ isAggT Try.prog 163 = false ∧ okT Try.prog 163 = true ∧ okE Try.prog 163 = true ∧ okZ Try.prog 163 = true ∧ Program.bytesOf Try.prog 163 = 8 := by refine ⟨?_, ?_, ?_, ?_, ?_, ?_, ?_, ?_⟩ <;> kernel_rfl
@[simp] theorem ty164 : szT Try.prog 164 = 1 ∧ szOb Try.prog 164 = 1 ∧ szBx Try.prog 164 = 1 ∧ isAggT Try.prog 164 = false ∧ okT Try.prog 164 = true ∧ okE Try.prog 164 = true ∧ okZ Try.prog 164 = true ∧ Program.bytesOf Try.prog 164 = 8 := by refine ⟨?_, ?_, ?_, ?_, ?_, ?_, ?_, ?_⟩ <;> kernel_rfl
@[simp] theorem ty165 : szT Try.prog 165 = 1 ∧ szOb Try.prog 165 = 1 ∧ szBx Try.prog 165 = 1 ∧ isAggT Try.prog 165 = false ∧ okT Try.prog 165 = true ∧ okE Try.prog 165 = true ∧ okZ Try.prog 165 = true ∧ Program.bytesOf Try.prog 165 = 0 := by refine ⟨?_, ?_, ?_, ?_, ?_, ?_, ?_, ?_⟩ <;> kernel_rfl
@[simp] theorem ty166 : szT Try.prog 166 = 1 ∧ szOb Try.prog 166 = 1 ∧ szBx Try.prog 166 = 1 ∧ isAggT Try.prog 166 = false ∧ okT Try.prog 166 = true ∧ okE Try.prog 166 = true ∧ okZ Try.prog 166 = true ∧ Program.bytesOf Try.prog 166 = 8 := by refine ⟨?_, ?_, ?_, ?_, ?_, ?_, ?_, ?_⟩ <;> kernel_rfl
@[simp] theorem ty167 : szT Try.prog 167 = 1 ∧ szOb Try.prog 167 = 1 ∧ szBx Try.prog 167 = 1 ∧ isAggT Try.prog 167 = false ∧ okT Try.prog 167 = true ∧ okE Try.prog 167 = true ∧ okZ Try.prog 167 = true ∧ Program.bytesOf Try.prog 167 = 0 := by refine ⟨?_, ?_, ?_, ?_, ?_, ?_, ?_, ?_⟩ <;> kernel_rfl
@[simp] theorem ty168 : szT Try.prog 168 = 1 ∧ szOb Try.prog 168 = 1 ∧ szBx Try.prog 168 = 1 ∧ isAggT Try.prog 168 = false ∧ okT Try.prog 168 = true ∧ okE Try.prog 168 = true ∧ okZ Try.prog 168 = true ∧ Program.bytesOf Try.prog 168 = 8 := by refine ⟨?_, ?_, ?_, ?_, ?_, ?_, ?_, ?_⟩ <;> kernel_rfl
@[simp] theorem ty169 : szT Try.prog 169 = 1 ∧ szOb Try.prog 169 = 1 ∧ szBx Try.prog 169 = 1 ∧ isAggT Try.prog 169 = false ∧ okT Try.prog 169 = true ∧ okE Try.prog 169 = true ∧ okZ Try.prog 169 = true ∧ Program.bytesOf Try.prog 169 = 0 := by refine ⟨?_, ?_, ?_, ?_, ?_, ?_, ?_, ?_⟩ <;> kernel_rfl
@[simp] theorem ty170 : szT Try.prog 170 = 1 ∧ szOb Try.prog 170 = 1 ∧ szBx Try.prog 170 = 1 ∧ isAggT Try.prog 170 = false ∧ okT Try.prog 170 = true ∧ okE Try.prog 170 = true ∧ okZ Try.prog 170 = true ∧ Program.bytesOf Try.prog 170 = 8 := by refine ⟨?_, ?_, ?_, ?_, ?_, ?_, ?_, ?_⟩ <;> kernel_rfl
@[simp] theorem ty171 : szT Try.prog 171 = 1 ∧ szOb Try.prog 171 = 1 ∧ szBx Try.prog 171 = 1 ∧ isAggT Try.prog 171 = false ∧ okT Try.prog 171 = true ∧ okE Try.prog 171 = true ∧ okZ Try.prog 171 = true ∧ Program.bytesOf Try.prog 171 = 8 := by refine ⟨?_, ?_, ?_, ?_, ?_, ?_, ?_, ?_⟩ <;> kernel_rfl
@[simp] theorem ty172 : szT Try.prog 172 = 4 ∧ szOb Try.prog 172 = 4 ∧ szBx Try.prog 172 = 4 ∧ isAggT Try.prog 172 = true ∧ okT Try.prog 172 = true ∧ okE Try.prog 172 = true ∧ okZ Try.prog 172 = true ∧ Program.bytesOf Try.prog 172 = 40 := by refine ⟨?_, ?_, ?_, ?_, ?_, ?_, ?_, ?_⟩ <;> kernel_rfl
@[simp] theorem ty173 : szT Try.prog 173 = 4 ∧ szOb Try.prog 173 = 4 ∧ szBx Try.prog 173 = 4 ∧ isAggT Try.prog 173 = true ∧ okT Try.prog 173 = true ∧ okE Try.prog 173 = true ∧ okZ Try.prog 173 = true ∧ Program.bytesOf Try.prog 173 = 40 := by refine ⟨?_, ?_, ?_, ?_, ?_, ?_, ?_, ?_⟩ <;> kernel_rfl
@[simp] theorem ty174 : szT Try.prog 174 = 0 ∧ szOb Try.prog 174 = 1 ∧ szBx Try.prog 174 = 1 ∧ isAggT Try.prog 174 = true ∧ okT Try.prog 174 = true ∧ okE Try.prog 174 = true ∧ okZ Try.prog 174 = true ∧ Program.bytesOf Try.prog 174 = 0 := by refine ⟨?_, ?_, ?_, ?_, ?_, ?_, ?_, ?_⟩ <;> kernel_rfl
@[simp] theorem ty175 : szT Try.prog 175 = 0 ∧ szOb Try.prog 175 = 0 ∧ szBx Try.prog 175 = 0 ∧ isAggT Try.prog 175 = true ∧ okT Try.prog 175 = true ∧ okE Try.prog 175 = true ∧ okZ Try.prog 175 = true ∧ Program.bytesOf Try.prog 175 = 0 := by refine ⟨?_, ?_, ?_, ?_, ?_, ?_, ?_, ?_⟩ <;> kernel_rfl
@[simp] theorem ty176 : szT Try.prog 176 = 0 ∧ szOb Try.prog 176 = 0 ∧ szBx Try.prog 176 = 0 ∧ isAggT Try.prog 176 = true ∧ okT Try.prog 176 = true ∧ okE Try.prog 176 = true ∧ okZ Try.prog 176 = true ∧ Program.bytesOf Try.prog 176 = 0 := by refine ⟨?_, ?_, ?_, ?_, ?_, ?_, ?_, ?_⟩ <;> kernel_rfl
@[simp] theorem ty177 : szT Try.prog 177 = 1 ∧ szOb Try.prog 177 = 1 ∧ szBx Try.prog 177 = 1 ∧ isAggT Try.prog 177 = false ∧ okT Try.prog 177 = true ∧ okE Try.prog 177 = true ∧ okZ Try.prog 177 = true ∧ Program.bytesOf Try.prog 177 = 1 := by refine ⟨?_, ?_, ?_, ?_, ?_, ?_, ?_, ?_⟩ <;> kernel_rfl
@[simp] theorem ty178 : szT Try.prog 178 = 1 ∧ szOb Try.prog 178 = 1 ∧ szBx Try.prog 178 = 1 ∧ isAggT Try.prog 178 = false ∧ okT Try.prog 178 = true ∧ okE Try.prog 178 = true ∧ okZ Try.prog 178 = true ∧ Program.bytesOf Try.prog 178 = 1 := by refine ⟨?_, ?_, ?_, ?_, ?_, ?_, ?_, ?_⟩ <;> kernel_rfl
@[simp] theorem ty179 : szT Try.prog 179 = 1 ∧ szOb Try.prog 179 = 1 ∧ szBx Try.prog 179 = 1 ∧ isAggT Try.prog 179 = false ∧ okT Try.prog 179 = true ∧ okE Try.prog 179 = true ∧ okZ Try.prog 179 = true ∧ Program.bytesOf Try.prog 179 = 8 := by refine ⟨?_, ?_, ?_, ?_, ?_, ?_, ?_, ?_⟩ <;> kernel_rfl
@[simp] theorem ty180 : szT Try.prog 180 = 1 ∧ szOb Try.prog 180 = 1 ∧ szBx Try.prog 180 = 1 ∧ isAggT Try.prog 180 = false ∧ okT Try.prog 180 = true ∧ okE Try.prog 180 = true ∧ okZ Try.prog 180 = true ∧ Program.bytesOf Try.prog 180 = 4 := by refine ⟨?_, ?_, ?_, ?_, ?_, ?_, ?_, ?_⟩ <;> kernel_rfl
@[simp] theorem ty181 : szT Try.prog 181 = 1 ∧ szOb Try.prog 181 = 1 ∧ szBx Try.prog 181 = 1 ∧ isAggT Try.prog 181 = false ∧ okT Try.prog 181 = true ∧ okE Try.prog 181 = true ∧ okZ Try.prog 181 = true ∧ Program.bytesOf Try.prog 181 = 4 := by refine ⟨?_, ?_, ?_, ?_, ?_, ?_, ?_, ?_⟩ <;> kernel_rfl
@[simp] theorem ty182 : szT Try.prog 182 = 11 ∧ szOb Try.prog 182 = 11 ∧ szBx Try.prog 182 = 11 ∧ isAggT Try.prog 182 = true ∧ okT Try.prog 182 = true ∧ okE Try.prog 182 = true ∧ okZ Try.prog 182 = true ∧ Program.bytesOf Try.prog 182 = 48 := by refine ⟨?_, ?_, ?_, ?_, ?_, ?_, ?_, ?_⟩ <;> kernel_rfl
@[simp] theorem ty183 : szT Try.prog 183 = 11 ∧ szOb Try.prog 183 = 11 ∧ szBx Try.prog 183 = 11 ∧ isAggT Try.prog 183 = true ∧ okT Try.prog 183 = true ∧ okE Try.prog 183 = true ∧ okZ Try.prog 183 = true ∧ Program.bytesOf Try.prog 183 = 48 := by refine ⟨?_, ?_, ?_, ?_, ?_, ?_, ?_, ?_⟩ <;> kernel_rfl
@[simp] theorem ty184 : szT Try.prog 184 = 1 ∧ szOb Try.prog 184 = 1 ∧ szBx Try.prog 184 = 1 ∧ isAggT Try.prog 184 = false ∧ okT Try.prog 184 = true ∧ okE Try.prog 184 = true ∧ okZ Try.prog 184 = true ∧ Program.bytesOf Try.prog 184 = 8 := by refine ⟨?_, ?_, ?_, ?_, ?_, ?_, ?_, ?_⟩ <;> kernel_rfl
@[simp] theorem ty185 : szT Try.prog 185 = 1 ∧ szOb Try.prog 185 = 1 ∧ szBx Try.prog 185 = 1 ∧ isAggT Try.prog 185 = false ∧ okT Try.prog 185 = true ∧ okE Try.prog 185 = true ∧ okZ Try.prog 185 = true ∧ Program.bytesOf Try.prog 185 = 8 := by refine ⟨?_, ?_, ?_, ?_, ?_, ?_, ?_, ?_⟩ <;> kernel_rfl
theorem mixed : Try.prog.follows .mixedOrders = true := by kernel_rfl
attribute [simp] Try.underlying0
attribute [simp] Try.underlying1
attribute [simp] Try.underlying2
attribute [simp] Try.underlying3
attribute [simp] Try.underlying4
attribute [simp] Try.underlying5
attribute [simp] Try.underlying6
attribute [simp] Try.underlying7
attribute [simp] Try.underlying8
attribute [simp] Try.underlying9
attribute [simp] Try.underlying10
attribute [simp] Try.underlying11
attribute [simp] Try.underlying12
attribute [simp] Try.underlying13
attribute [simp] Try.underlying14
attribute [simp] Try.underlying15
attribute [simp] Try.underlying16
attribute [simp] Try.underlying17
attribute [simp] Try.underlying18
attribute [simp] Try.underlying19
attribute [simp] Try.underlying20
attribute [simp] Try.underlying21
attribute [simp] Try.underlying22
attribute [simp] Try.underlying23
attribute [simp] Try.underlying24
attribute [simp] Try.underlying25
attribute [simp] Try.underlying26
attribute [simp] Try.underlying27
attribute [simp] Try.underlying28
attribute [simp] Try.underlying29
attribute [simp] Try.underlying30
attribute [simp] Try.underlying31
attribute [simp] Try.underlying32
attribute [simp] Try.underlying33
attribute [simp] Try.underlying34
attribute [simp] Try.underlying35
attribute [simp] Try.underlying36
attribute [simp] Try.underlying37
attribute [simp] Try.underlying38
attribute [simp] Try.underlying39
attribute [simp] Try.underlying40
attribute [simp] Try.underlying41
attribute [simp] Try.underlying42
attribute [simp] Try.underlying43
attribute [simp] Try.underlying44
attribute [simp] Try.underlying45
attribute [simp] Try.underlying46
attribute [simp] Try.underlying47
attribute [simp] Try.underlying48
attribute [simp] Try.underlying49
attribute [simp] Try.underlying50
attribute [simp] Try.underlying51
attribute [simp] Try.underlying52
attribute [simp] Try.underlying53
attribute [simp] Try.underlying54
attribute [simp] Try.underlying55
attribute [simp] Try.underlying56
attribute [simp] Try.underlying57
attribute [simp] Try.underlying58
attribute [simp] Try.underlying59
attribute [simp] Try.underlying60
attribute [simp] Try.underlying61
attribute [simp] Try.underlying62
attribute [simp] Try.underlying63
attribute [simp] Try.underlying64
attribute [simp] Try.underlying65
attribute [simp] Try.underlying66
attribute [simp] Try.underlying67
attribute [simp] Try.underlying68
attribute [simp] Try.underlying69
attribute [simp] Try.underlying70
attribute [simp] Try.underlying71
attribute [simp] Try.underlying72
attribute [simp] Try.underlying73
attribute [simp] Try.underlying74
attribute [simp] Try.underlying75
attribute [simp] Try.underlying76
attribute [simp] Try.underlying77
attribute [simp] Try.underlying78
attribute [simp] Try.underlying79
attribute [simp] Try.underlying80
attribute [simp] Try.underlying81
attribute [simp] Try.underlying82
attribute [simp] Try.underlying83
attribute [simp] Try.underlying84
attribute [simp] Try.underlying85
attribute [simp] Try.underlying86
attribute [simp] Try.underlying87
attribute [simp] Try.underlying88
attribute [simp] Try.underlying89
attribute [simp] Try.underlying90
attribute [simp] Try.underlying91
attribute [simp] Try.underlying92
attribute [simp] Try.underlying93
attribute [simp] Try.underlying94
attribute [simp] Try.underlying95
attribute [simp] Try.underlying96
attribute [simp] Try.underlying97
attribute [simp] Try.underlying98
attribute [simp] Try.underlying99
attribute [simp] Try.underlying100
attribute [simp] Try.underlying101
attribute [simp] Try.underlying102
attribute [simp] Try.underlying103
attribute [simp] Try.underlying104
attribute [simp] Try.underlying105
attribute [simp] Try.underlying106
attribute [simp] Try.underlying107
attribute [simp] Try.underlying108
attribute [simp] Try.underlying109
attribute [simp] Try.underlying110
attribute [simp] Try.underlying111
attribute [simp] Try.underlying112
attribute [simp] Try.underlying113
attribute [simp] Try.underlying114
attribute [simp] Try.underlying115
attribute [simp] Try.underlying116
attribute [simp] Try.underlying117
attribute [simp] Try.underlying118
attribute [simp] Try.underlying119
attribute [simp] Try.underlying120
attribute [simp] Try.underlying121
attribute [simp] Try.underlying122
attribute [simp] Try.underlying123
attribute [simp] Try.underlying124
attribute [simp] Try.underlying125
attribute [simp] Try.underlying126
attribute [simp] Try.underlying127
attribute [simp] Try.underlying128
attribute [simp] Try.underlying129
attribute [simp] Try.underlying130
attribute [simp] Try.underlying131
attribute [simp] Try.underlying132
attribute [simp] Try.underlying133
attribute [simp] Try.underlying134
attribute [simp] Try.underlying135
attribute [simp] Try.underlying136
attribute [simp] Try.underlying137
attribute [simp] Try.underlying138
attribute [simp] Try.underlying139
attribute [simp] Try.underlying140
attribute [simp] Try.underlying141
attribute [simp] Try.underlying142
attribute [simp] Try.underlying143
attribute [simp] Try.underlying144
attribute [simp] Try.underlying145
attribute [simp] Try.underlying146
attribute [simp] Try.underlying147
attribute [simp] Try.underlying148
attribute [simp] Try.underlying149
attribute [simp] Try.underlying150
attribute [simp] Try.underlying151
attribute [simp] Try.underlying152
attribute [simp] Try.underlying153
attribute [simp] Try.underlying154
attribute [simp] Try.underlying155
attribute [simp] Try.underlying156
attribute [simp] Try.underlying157
attribute [simp] Try.underlying158
attribute [simp] Try.underlying159
attribute [simp] Try.underlying160
attribute [simp] Try.underlying161
attribute [simp] Try.underlying162
attribute [simp] Try.underlying163
attribute [simp] Try.underlying164
attribute [simp] Try.underlying165
attribute [simp] Try.underlying166
attribute [simp] Try.underlying167
attribute [simp] Try.underlying168
attribute [simp] Try.underlying169
attribute [simp] Try.underlying170
attribute [simp] Try.underlying171
attribute [simp] Try.underlying172
attribute [simp] Try.underlying173
attribute [simp] Try.underlying174
attribute [simp] Try.underlying175
attribute [simp] Try.underlying176
attribute [simp] Try.underlying177
attribute [simp] Try.underlying178
attribute [simp] Try.underlying179
attribute [simp] Try.underlying180
attribute [simp] Try.underlying181
attribute [simp] Try.underlying182
attribute [simp] Try.underlying183
attribute [simp] Try.underlying184
attribute [simp] Try.underlying185
end Go.Proofs.Ytpcnacknlgmmlaa.Tab

set_option exponentiation.threshold 1000
set_option linter.unusedVariables false
set_option linter.unusedSimpArgs false
set_option maxRecDepth 100000
set_option maxHeartbeats 4000000
namespace Go.Av
open Go Go.Proofs Go.Proofs.Ytpcnacknlgmmlaa Go.RowKit
attribute [local simp] List.getElem?_cons_zero List.getElem?_cons_succ
/-! ### words as bytes -/
def b8 (b : UInt8) : C := .v (.int .u8 (b.toNat : Int))
def bytesC (l : List UInt8) : List C := l.map b8
def bsS (l : List UInt8) : ByteArray := ⟨l.toArray⟩
def u64C (n : Nat) : C := .v (.int .u64 (n : Int))
def putN : Nat → Nat → List UInt8
  | _, 0 => []
  | x, n + 1 => putN (x / 256) n ++ [UInt8.ofNat x]
theorem putN_len (x n : Nat) : (putN x n).length = n := by
  induction n generalizing x with
  | zero => rfl
  | succ n ih => rw [putN, List.length_append, ih]; rfl
theorem putN_succ (x n : Nat) : putN x (n + 1) = UInt8.ofNat (x / 256 ^ n) :: putN x n := by
  induction n generalizing x with
  | zero => simp [putN]
  | succ n ih =>
    rw [putN, ih, putN, List.cons_append, Nat.div_div_eq_div_mul, Nat.pow_succ, Nat.mul_comm]
theorem bytesM_bytes (l : List UInt8) : bytesM (up (bytesC l)) = some l := by
  induction l with
  | nil => rfl
  | cons x xs ih =>
    simp only [bytesC, up, List.map_cons] at *
    simp only [bytesM, b8] at *
    rw [ih]
    simp
theorem ofNat_mod (x : Nat) : ((UInt8.ofNat x).toNat : Int) = ((x % 256 : Nat) : Int) := by simp
theorem put_den (x n : Nat) (hx : x < 18446744073709551616) (hn : n ≤ 1000000) : DenV Try.prog 73 [.c (u64C x), .c (iC n)] (.c (.v (.string (bsS (putN x n))))) := by
  refine Den.frame rfl rfl ?_
  refine den_of Try.func73 rfl rfl (by simp [Try.ntmps73]) (fun X hX hO => ?_)
  rw [Try.ntmps73] at hX
  simp only [Try.results73]
  repeat' (first 
   | (with_reducible first | refine awp_scope ?_ | refine awp_seq ?_ | refine awp_block ?_)
   | ((with_reducible first | refine awp_label ?_ | refine awp_skip ?_ | refine awp_exit ?_ | refine hother _ _ rfl ?_); try simp only [thenA, inBlockA, noGotoA, if_true, Nat.reduceEqDiff, if_false, ↓reduceIte])
   | ((with_reducible first | refine awp_reg 26 hX [0, 1, 4, 5, 6, 9, 10, 11] ?_ | change postOf _ _ _ _ _); simp [-List.reduceReplicate, Nat.add_one_le_iff, -getElem?_pos, -getElem?_neg, u64C, iC])
   | ((first | (with_reducible refine awp_ret ?_; try simp only [thenA, inBlockA, noGotoA])); try simp [-List.reduceReplicate, Nat.add_one_le_iff, -getElem?_pos, -getElem?_neg, u64C, iC])
   | (with_reducible refine awp_if_b rfl (fun hc => ?_) (fun hc => ?_) <;> (try simp [-getElem?_pos, -getElem?_neg] at hc) <;> (try (exfalso; omega)))
   | (with_reducible refine And.intro (by omega) ?_)
   | fail)
  refine awp_forU [0, 1, 5, 9, 10] (fun i (_u : Unit) => [(0, .c (u64C (x / 256 ^ i))), (10, .c (iC i))]) (fun i (_u : Unit) => [⟨5, 1, false, 0, up (List.replicate (n - i) (b8 0) ++ bytesC (putN x i)), none⟩]) (fun i (_u : Unit) => True) (n) (()) (by first | trivial | (simp; done) | omega | (intros; simp at *; done)) (by simp [-List.reduceReplicate, keep, u64C, iC, b8, putN, bytesC]) (by simp [-List.reduceReplicate, u64C, iC, b8, putN, bytesC]) ?_
  rintro i _u Q1 hi hH next hother
  conv => arg 5; arg 1; simp only [List.cons_append, List.nil_append, keep, get, Nat.reduceEqDiff, if_true, if_false, ↓reduceIte]
  have hwi := wrap_in ((i : Int) + 1) (by omega)
  have hw1 := wrap_in ((n : Int) - 1) (by omega)
  have hw2 := wrap_in ((n : Int) - 1 - (i : Int)) (by omega)
  have hlx : x / 256 ^ i ≤ x := Nat.div_le_self _ _
  have hw3 := modU8 ((x / 256 ^ i : Nat) : Int)
  by_cases hlt : i < n
  · have hb : .v (.int .u8 (((x / 256 ^ i : Nat) : Int) % 256)) = b8 (UInt8.ofNat (x / 256 ^ i)) := by unfold b8; rw [ofNat_mod]; rfl
    have hset : (List.replicate (n - i) (b8 0) ++ bytesC (putN x i)).set (n - 1 - i) (b8 (UInt8.ofNat (x / 256 ^ i))) = List.replicate (n - (i + 1)) (b8 0) ++ bytesC (putN x (i + 1)) := by
      rw [show n - i = (n - (i + 1)) + 1 by omega, List.replicate_succ', List.append_assoc, List.set_append_right _ _ (by simp; omega), List.length_replicate, show n - 1 - i - (n - (i + 1)) = 0 by omega, putN_succ]
      rfl
    have hln : (List.replicate (n - i) (b8 0) ++ bytesC (putN x i)).length = n := by simp [bytesC, putN_len]; omega
    have hdiv : ((x / 256 ^ i : Nat) : Int).fdiv 256 = ((x / 256 ^ (i + 1) : Nat) : Int) := by rw [Nat.pow_succ, ← Nat.div_div_eq_div_mul]; exact fdiv_nat _ 256
    generalize hxj : x / 256 ^ (i + 1) = xj at *
    have ht : ((n : Int) - 1 - (i : Int)).toNat = n - 1 - i := by omega
    have c1 : (i : Int) ≤ (n : Int) - 1 := by omega
    have c2 : (n : Int) - 1 - (i : Int) < n := by omega
    have c3 : n - 1 - i < n := by omega
    generalize List.replicate (n - i) (b8 0) ++ bytesC (putN x i) = r0 at *
    generalize hxi : x / 256 ^ i = xi at *
    repeat' (first 
     | (with_reducible first | refine awp_scope ?_ | refine awp_seq ?_ | refine awp_block ?_)
     | ((with_reducible first | refine awp_label ?_ | refine awp_skip ?_ | refine awp_exit ?_ | refine hother _ _ rfl ?_); try simp only [thenA, inBlockA, noGotoA, if_true, Nat.reduceEqDiff, if_false, ↓reduceIte])
     | ((with_reducible first | refine awp_reg 26 hX [0, 1, 4, 5, 6, 9, 10, 11] ?_ | change postOf _ _ _ _ _); simp [-List.reduceReplicate, Nat.add_one_le_iff, -getElem?_pos, -getElem?_neg, u64C, iC, hlt, hwi, hw1, hw2, hw3, ht, c1, c2, c3, hln, hdiv, IntKind.bits])
     | ((first | (with_reducible refine awp_ret ?_; try simp only [thenA, inBlockA, noGotoA])); try simp [-List.reduceReplicate, Nat.add_one_le_iff, -getElem?_pos, -getElem?_neg, u64C, iC, hlt, hwi, hw1, hw2, hw3, ht, c1, c2, c3, hln, hdiv, IntKind.bits])
     | (with_reducible refine awp_if_b rfl (fun hc => ?_) (fun hc => ?_) <;> (try simp [-getElem?_pos, -getElem?_neg] at hc) <;> (try (exfalso; omega)))
     | (with_reducible refine And.intro (by omega) ?_)
     | fail)
    refine next _ _ () hlt trivial (by simp [keep, u64C, iC, hxj]) ?_
    rw [hb, hset]
  · have hin : i = n := by omega
    subst hin
    have hbm := bytesM_bytes (putN x i)
    have htk : (bytesC (putN x i)).take i = bytesC (putN x i) := List.take_of_length_le (by simp [bytesC, putN_len])
    have hl : (bytesC (putN x i)).length = i := by simp [bytesC, putN_len]
    generalize hr : bytesC (putN x i) = r at *
    repeat' (first 
     | (with_reducible first | refine awp_scope ?_ | refine awp_seq ?_ | refine awp_block ?_)
     | ((with_reducible first | refine awp_label ?_ | refine awp_skip ?_ | refine awp_exit ?_ | refine hother _ _ rfl ?_); try simp only [thenA, inBlockA, noGotoA, if_true, Nat.reduceEqDiff, if_false, ↓reduceIte])
     | ((with_reducible first | refine awp_reg 26 hX [0, 1, 4, 5, 6, 9, 10, 11] ?_ | change postOf _ _ _ _ _); simp [-List.reduceReplicate, Nat.add_one_le_iff, -getElem?_pos, -getElem?_neg, u64C, iC, hlt, hbm, hl, htk, hr, bsS])
     | ((first | (with_reducible refine awp_ret ?_; try simp only [thenA, inBlockA, noGotoA])); try simp [-List.reduceReplicate, Nat.add_one_le_iff, -getElem?_pos, -getElem?_neg, u64C, iC, hlt, hbm, hl, htk, hr, bsS])
     | (with_reducible refine awp_if_b rfl (fun hc => ?_) (fun hc => ?_) <;> (try simp [-getElem?_pos, -getElem?_neg] at hc) <;> (try (exfalso; omega)))
     | (with_reducible refine And.intro (by omega) ?_)
     | fail)
theorem put64_den (x : Nat) (hx : x < 18446744073709551616) : DenV Try.prog 44 [.c (u64C x)] (.c (.v (.string (bsS (putN x 8))))) := by
  refine Den.frame rfl rfl ?_
  refine den_of Try.func44 rfl rfl (by simp [Try.ntmps44]) (fun X hX hO => ?_)
  rw [Try.ntmps44] at hX
  simp only [Try.results44]
  repeat' (first 
   | (with_reducible first | refine awp_scope ?_ | refine awp_seq ?_ | refine awp_block ?_)
   | ((with_reducible first | refine awp_label ?_ | refine awp_skip ?_ | refine awp_exit ?_); try simp only [thenA, inBlockA, noGotoA, if_true, Nat.reduceEqDiff, if_false, ↓reduceIte])
   | ((with_reducible first | refine awp_reg 5 hX [0, 2] ?_ | change postOf _ _ _ _ _); simp [-List.reduceReplicate, Nat.add_one_le_iff, -getElem?_pos, -getElem?_neg, u64C])
   | ((first | (with_reducible refine awp_ret ?_; try simp only [thenA, inBlockA, noGotoA]) | ((with_reducible refine Den.at_ (f := 73) ?_); refine (put_den x 8 hx (by omega) _).det ?_)); try simp [-List.reduceReplicate, Nat.add_one_le_iff, -getElem?_pos, -getElem?_neg, u64C])
   | (with_reducible refine awp_if_b rfl (fun hc => ?_) (fun hc => ?_) <;> (try simp [-getElem?_pos, -getElem?_neg] at hc) <;> (try (exfalso; omega)))
   | (with_reducible refine And.intro (by omega) ?_)
   | fail)
theorem bs_append (a b : List UInt8) : bsS a ++ bsS b = bsS (a ++ b) := by
  apply ByteArray.ext
  simp [bsS]
theorem bs_size (l : List UInt8) : (bsS l).size = l.length := by simp [bsS, ByteArray.size]
end Go.Av

set_option exponentiation.threshold 1000
set_option linter.unusedVariables false
set_option linter.unusedSimpArgs false
set_option maxRecDepth 100000
set_option maxHeartbeats 4000000
namespace Go.Av
open Go Go.Proofs Go.Proofs.Ytpcnacknlgmmlaa Go.RowKit
attribute [local simp] List.getElem?_cons_zero List.getElem?_cons_succ
/-! ### arguments of the laws -/
def strC (l : List ByteArray) : C := .sl (l.map fun s => .v (.string s)) l.length false
theorem opens_u64 {P : Program} {t : TypeId} (ht : P.underlying t = some (.int .u64)) : Opens P t (fun n : Nat => [u64C n]) (fun n => n < 18446744073709551616) :=
  (opens_int ht).conv fun n hn => by
    have h : 0 ≤ n ∧ n ≤ 18446744073709551615 := by simpa [Lit.wf, IntKind.min, IntKind.max, IntKind.signed, IntKind.bits] using hn
    exact ⟨n.toNat, by omega, by simp only [u64C]; rw [show ((n.toNat : Nat) : Int) = n by omega]⟩
end Go.Av

set_option exponentiation.threshold 1000
set_option linter.unusedVariables false
set_option linter.unusedSimpArgs false
set_option maxRecDepth 100000
set_option maxHeartbeats 4000000
namespace Go.Av
open Go Go.Proofs Go.Proofs.Ytpcnacknlgmmlaa Go.RowKit
attribute [local simp] List.getElem?_cons_zero List.getElem?_cons_succ
/-! ### num: numbers as bytes, seven bits each -/
def putV (x : Nat) : List UInt8 := if x < 128 then [UInt8.ofNat x] else UInt8.ofNat (x % 128 + 128) :: putV (x / 128)
theorem putV_lo {x : Nat} (h : x < 128) : putV x = [UInt8.ofNat x] := by rw [putV, if_pos h]
theorem putV_hi {x : Nat} (h : ¬ x < 128) : putV x = UInt8.ofNat (x % 128 + 128) :: putV (x / 128) := by rw [putV, if_neg h]
theorem putV_len : ∀ (n x : Nat), x < 128 ^ (n + 1) → (putV x).length ≤ n + 1 := by
  intro n
  induction n with
  | zero => intro x h; rw [putV_lo (by simpa using h)]; simp
  | succ n ih =>
    intro x h
    by_cases hx : x < 128
    · rw [putV_lo hx]; simp
    · rw [putV_hi hx, List.length_cons]
      have := ih (x / 128) (by rw [Nat.pow_succ] at h; exact Nat.div_lt_of_lt_mul (by omega))
      omega
theorem putV_len10 (x : Nat) (h : x < 18446744073709551616) : (putV x).length ≤ 10 := putV_len 9 x (Nat.lt_of_lt_of_le h (by decide))
theorem putV_pos (x : Nat) : 0 < (putV x).length := by rw [putV]; split <;> simp
theorem b8_u8 (y : Nat) : C.v (Value.int .u8 (IntKind.u8.wrap (y : Int))) = b8 (UInt8.ofNat y) := by
  rw [modU8, b8, ofNat_mod]
  norm_cast
theorem b8_or (y : Nat) : C.v (Value.int .u8 (orI .u8 (IntKind.u8.wrap (y : Int)) 128)) = b8 (UInt8.ofNat (y % 128 + 128)) := by
  rw [modU8, b8, ofNat_mod]
  have h1 : ((y : Int) % 256) = ((y % 256 : Nat) : Int) := by norm_cast
  have h2 : (128 : Int) = ((128 : Nat) : Int) := rfl
  rw [h1, h2, orU .u8 _ _ (by simp [IntKind.bits]; omega) (by simp [IntKind.bits]) rfl]
  congr 3
  have h3 := Nat.two_pow_add_eq_or_of_lt (i := 7) (b := y % 128) (by omega) 1
  have h4 : (y % 256) ||| 128 = (128 ||| (y % 128)) := by
    have : ∀ z, z < 256 → z ||| 128 = 128 ||| (z % 128) := by decide +kernel
    rw [this _ (by omega)]
    congr 1
    omega
  rw [h4]
  simp at h3
  omega
theorem num_put_den (x : Nat) (hx : x < 18446744073709551616) : DenV Try.prog 45 [.c (u64C x)] (.c (.v (.string (bsS (putV x))))) := by
  refine Den.frame rfl rfl ?_
  have hpl := putV_len10 x hx
  obtain ⟨r, hr⟩ : ∃ r, putV x = r := ⟨_, rfl⟩
  rw [hr] at hpl ⊢
  refine den_of Try.func45 rfl rfl (by simp [Try.ntmps45]) (fun X hX hO => ?_)
  rw [Try.ntmps45] at hX
  simp only [Try.results45]
  repeat' (first 
   | (with_reducible first | refine awp_scope ?_ | refine awp_seq ?_ | refine awp_block ?_)
   | ((with_reducible first | refine awp_label ?_ | refine awp_skip ?_ | refine awp_exit ?_ | refine hother _ _ rfl ?_); try simp only [thenA, inBlockA, noGotoA, if_true, Nat.reduceEqDiff, if_false, ↓reduceIte])
   | ((with_reducible first | refine awp_reg 20 hX [0, 2, 3, 5] ?_ | change postOf _ _ _ _ _); simp [-List.reduceReplicate, Nat.add_one_le_iff, -getElem?_pos, -getElem?_neg, u64C])
   | ((first | (with_reducible refine awp_ret ?_; try simp only [thenA, inBlockA, noGotoA])); try simp [-List.reduceReplicate, Nat.add_one_le_iff, -getElem?_pos, -getElem?_neg, u64C])
   | (with_reducible refine awp_if_b rfl (fun hc => ?_) (fun hc => ?_) <;> (try simp [-getElem?_pos, -getElem?_neg] at hc) <;> (try (exfalso; omega)))
   | (with_reducible refine And.intro (by omega) ?_)
   | fail)
  refine awp_nil 3 5 1 (by simp) ?_
  simp
  have h80 : ∀ (l : List UInt8) (a : UInt8), bytesC l ++ [b8 a] = bytesC (l ++ [a]) := fun l a => by simp [bytesC]
  refine awp_whileU [0, 3] (fun (g : Nat × List UInt8 × Bool) => [(0, .c (u64C g.1)), (3, .ms 0 g.2.1.length 0 g.2.1.length)]) (fun (g : Nat × List UInt8 × Bool) => [⟨5, 1, g.2.2, g.2.1.length, up (bytesC g.2.1), none⟩]) (fun (g : Nat × List UInt8 × Bool) => g.1 < 18446744073709551616 ∧ g.2.1 ++ putV g.1 = r) (fun (g : Nat × List UInt8 × Bool) => g.1) (x, [], true) (⟨hx, hr⟩) (by simp [-List.reduceReplicate, keep, u64C, bytesC]) (by simp [-List.reduceReplicate, u64C, bytesC]) ?_
  rintro g Q1 hH next hother
  conv => arg 5; arg 1; simp only [List.cons_append, List.nil_append, keep, get, Nat.reduceEqDiff, if_true, if_false, ↓reduceIte]
  obtain ⟨y, l, nl⟩ := g
  obtain ⟨h1, h2⟩ := hH
  simp only at h1 h2
  have hbl : (bytesC l).length = l.length := by simp [bytesC]
  have hll : l.length ≤ 9 := by
    have := congrArg List.length h2
    have h9 := putV_pos y
    rw [List.length_append] at this
    omega
  have hrm : l.length < 140737488355328 := by omega
  have hlt : l.length < l.length + 1 := by omega
  by_cases hy : y < 128
  · have hy2 : ¬ (127 : Int) < (y : Int) := by omega
    have hb := b8_u8 y
    rw [putV_lo hy] at h2
    have hbm := bytesM_bytes (l ++ [UInt8.ofNat y])
    have hbl2 : (bytesC (l ++ [UInt8.ofNat y])).length = l.length + 1 := by simp [bytesC]
    have htk : (bytesC (l ++ [UInt8.ofNat y])).take (l.length + 1) = bytesC (l ++ [UInt8.ofNat y]) := List.take_of_length_le (by omega)
    have h8 := h80 l (UInt8.ofNat y)
    rw [← hb] at h8
    rw [h2] at hbm hbl2 htk h8
    generalize bytesC r = cs2 at *
    repeat' (first 
     | (with_reducible first | refine awp_scope ?_ | refine awp_seq ?_ | refine awp_block ?_)
     | ((with_reducible first | refine awp_label ?_ | refine awp_skip ?_ | refine awp_exit ?_ | refine hother _ _ rfl ?_); try simp only [thenA, inBlockA, noGotoA, if_true, Nat.reduceEqDiff, if_false, ↓reduceIte])
     | ((with_reducible first | refine awp_reg 20 hX [0, 2, 3, 5] ?_ | change postOf _ _ _ _ _); simp [-List.reduceReplicate, Nat.add_one_le_iff, -getElem?_pos, -getElem?_neg, u64C, hy2, hbl, roomB, hrm, hlt, h8, htk, hbm, hbl2, bsS])
     | ((first | (with_reducible refine awp_ret ?_; try simp only [thenA, inBlockA, noGotoA])); try simp [-List.reduceReplicate, Nat.add_one_le_iff, -getElem?_pos, -getElem?_neg, u64C, hy2, hbl, roomB, hrm, hlt, h8, htk, hbm, hbl2, bsS])
     | (with_reducible refine awp_if_b rfl (fun hc => ?_) (fun hc => ?_) <;> (try simp [-getElem?_pos, -getElem?_neg] at hc) <;> (try (exfalso; omega)))
     | (with_reducible refine And.intro (by omega) ?_)
     | fail)
  · have hy2 : (127 : Int) < (y : Int) := by omega
    have hb := b8_or y
    rw [putV_hi hy] at h2
    have h8 := h80 l (UInt8.ofNat (y % 128 + 128))
    rw [← hb] at h8
    have hsh : ((y : Int)).fdiv 128 = ((y / 128 : Nat) : Int) := (Int.ofNat_fdiv y 128).symm
    have nx : y / 128 < 18446744073709551616 ∧ (l ++ [UInt8.ofNat (y % 128 + 128)]) ++ putV (y / 128) = r := ⟨by omega, by rw [← h2]; simp⟩
    have nl2 : y / 128 < y := by omega
    repeat' (first 
     | (with_reducible first | refine awp_scope ?_ | refine awp_seq ?_ | refine awp_block ?_)
     | ((with_reducible first | refine awp_label ?_ | refine awp_skip ?_ | refine awp_exit ?_ | refine hother _ _ rfl ?_); try simp only [thenA, inBlockA, noGotoA, if_true, Nat.reduceEqDiff, if_false, ↓reduceIte])
     | ((with_reducible first | refine awp_reg 20 hX [0, 2, 3, 5] ?_ | change postOf _ _ _ _ _); simp [-List.reduceReplicate, Nat.add_one_le_iff, -getElem?_pos, -getElem?_neg, u64C, hy2, hbl, roomB, hrm, h8, hsh, IntKind.bits])
     | ((first | (with_reducible refine awp_ret ?_; try simp only [thenA, inBlockA, noGotoA])); try simp [-List.reduceReplicate, Nat.add_one_le_iff, -getElem?_pos, -getElem?_neg, u64C, hy2, hbl, roomB, hrm, h8, hsh, IntKind.bits])
     | (with_reducible refine awp_if_b rfl (fun hc => ?_) (fun hc => ?_) <;> (try simp [-getElem?_pos, -getElem?_neg] at hc) <;> (try (exfalso; omega)))
     | (with_reducible refine And.intro (by omega) ?_)
     | fail)
    refine next _ _ ((y / 128, l ++ [UInt8.ofNat (y % 128 + 128)], false)) (by first | assumption | omega) (by first | trivial | omega | assumption) (by simp [-List.reduceReplicate, keep, u64C]) (by simp [-List.reduceReplicate, u64C])
    trace_state
end Go.Av

set_option exponentiation.threshold 1000
set_option linter.unusedVariables false
set_option linter.unusedSimpArgs false
set_option maxRecDepth 100000
set_option maxHeartbeats 4000000
namespace Go.Av
open Go Go.Proofs Go.Proofs.Ytpcnacknlgmmlaa Go.RowKit
attribute [local simp] List.getElem?_cons_zero List.getElem?_cons_succ
/-! ### num.Take -/
def leadV : Nat → List UInt8 → Nat
  | 0, _ => 0
  | _ + 1, [] => 0
  | k + 1, b :: r => if 128 ≤ b.toNat then leadV k r + 1 else 0
theorem leadV_eq : ∀ (k : Nat) (l : List UInt8) (i : Nat), i ≤ k → i ≤ l.length → (∀ j, j < i → 128 ≤ (l.getD j 0).toNat) → (i = k ∨ i = l.length ∨ (l.getD i 0).toNat < 128) → leadV k l = i := by
  intro k
  induction k with
  | zero => intro l i h _ _ _; simp [leadV]; omega
  | succ k ih =>
    intro l i h1 h2 h3 h4
    cases l with
    | nil => simp at h2; simp [leadV, h2]
    | cons b r =>
      rw [leadV]
      cases i with
      | zero =>
        have : ¬ 128 ≤ b.toNat := by simpa using h4
        rw [if_neg this]
      | succ i =>
        have hb : 128 ≤ b.toNat := by simpa using h3 0 (by omega)
        rw [if_pos hb, ih r i (by omega) (by simpa using h2) (fun j hj => by simpa using h3 (j + 1) (by omega)) (by simpa using h4)]
def valV (l : List UInt8) : Nat → Nat
  | 0 => 0
  | n + 1 => valV l n + (l.getD n 0).toNat % 128 * 128 ^ n
theorem valV_lt (l : List UInt8) (n : Nat) : valV l n < 128 ^ n := by
  induction n with
  | zero => simp [valV]
  | succ n ih =>
    rw [valV, Nat.pow_succ]
    have : (l.getD n 0).toNat % 128 < 128 := Nat.mod_lt _ (by omega)
    have h2 : (l.getD n 0).toNat % 128 * 128 ^ n ≤ 127 * 128 ^ n := Nat.mul_le_mul_right _ (by omega)
    omega
/-- The number with which bytes begin, how many they are, the error. -/
def takeV (b : ByteArray) : Nat × Nat × Nat :=
  let l := b.data.toList
  let n := leadV 10 l
  if n = 10 then (0, 0, 2) else if n = l.length then (0, 0, 1) else if 0 < n ∧ (l.getD n 0).toNat = 0 then (0, 0, 2) else if n = 9 ∧ 1 < (l.getD n 0).toNat then (0, 0, 3) else (valV l (n + 1), n + 1, 0)
def takeM (p : Nat × Nat × Nat) : M := .tup [.c (u64C p.1), .c (iC p.2.1), .c (iC p.2.2)]
theorem byteAt_nat (b : ByteArray) (i : Nat) : byteAt b i = (((b.data.toList.getD i 0).toNat : Nat) : Int) := by
  unfold byteAt
  rw [toList_data]
theorem shl_or128 (x c i : Nat) (hx : x < 128 ^ i) (hc : c < 128) (hf : c * 128 ^ i < 18446744073709551616) (hi : i ≤ 9) : orI .u64 (x : Int) (IntKind.u64.wrap ((c : Int) * 2 ^ min (7 * (i : Int)).toNat 64)) = ((x + c * 128 ^ i : Nat) : Int) := by
  have h1 : min (7 * (i : Int)).toNat 64 = 7 * i := by omega
  have hp : (128 : Nat) ^ i = 2 ^ (7 * i) := by rw [Nat.pow_mul]
  have h2 : ((c : Int) * 2 ^ min (7 * (i : Int)).toNat 64) = ((c * 128 ^ i : Nat) : Int) := by
    rw [h1, hp]; push_cast; rfl
  rw [h2, wrapU64 _ (by omega)]
  have hx2 : (128 : Nat) ^ i ≤ 128 ^ 9 := Nat.pow_le_pow_right (by omega) hi
  have hx3 : x < 18446744073709551616 := by
    have : (128 : Nat) ^ 9 = 9223372036854775808 := by decide
    omega
  rw [orU .u64 _ _ (by simpa [IntKind.bits] using hx3) (by simpa [IntKind.bits] using hf) rfl]
  congr 1
  rw [hp] at hx ⊢
  have h3 := Nat.two_pow_add_eq_or_of_lt (i := 7 * i) (b := x) hx c
  rw [Nat.mul_comm c, Nat.or_comm, ← h3]
  omega
theorem num_take_den (b : ByteArray) (hb : b.size ≤ 9223372036854775807) : DenV Try.prog 50 [.c (.v (.string b))] (takeM (takeV b)) := by
  refine Den.frame rfl rfl ?_
  refine den_of Try.func50 rfl rfl (by simp [Try.ntmps50]) (fun X hX hO => ?_)
  rw [Try.ntmps50] at hX
  simp only [Try.results50]
  repeat' (first 
   | (with_reducible first | refine awp_seq ?_ | refine awp_block ?_)
   | ((with_reducible first | refine awp_label ?_ | refine awp_skip ?_ | refine awp_exit ?_ | refine hother _ _ rfl ?_); try simp only [thenA, inBlockA, noGotoA, if_true, Nat.reduceEqDiff, if_false, ↓reduceIte])
   | ((with_reducible first | refine awp_reg 52 hX [0, 2, 3, 4, 5, 6, 7, 9, 13, 22, 35, 36, 43] ?_ | change postOf _ _ _ _ _); simp [-List.reduceReplicate, Nat.add_one_le_iff, -getElem?_pos, -getElem?_neg, u64C, iC])
   | ((first | (with_reducible refine awp_ret ?_; try simp only [thenA, inBlockA, noGotoA])); try simp [-List.reduceReplicate, Nat.add_one_le_iff, -getElem?_pos, -getElem?_neg, u64C, iC])
   | (with_reducible refine awp_if_b rfl (fun hc => ?_) (fun hc => ?_) <;> (try simp [-getElem?_pos, -getElem?_neg] at hc) <;> (try (exfalso; omega)))
   | ((with_reducible first | refine GuardK_b (fun hc => ?_) (fun hc => ?_)) <;> (try simp only [Bool.not_eq_true', Bool.not_eq_false', decide_eq_true_eq, decide_eq_false_iff_not] at hc) <;> (first | (exfalso; omega) | skip) <;> simp [-List.reduceReplicate, Nat.add_one_le_iff, -getElem?_pos, -getElem?_neg, u64C, iC, hc])
   | (with_reducible refine And.intro (by omega) ?_)
   | fail)
  have htv : takeV b = if leadV 10 b.data.toList = 10 then (0, 0, 2) else if leadV 10 b.data.toList = b.data.toList.length then (0, 0, 1) else if 0 < leadV 10 b.data.toList ∧ (b.data.toList.getD (leadV 10 b.data.toList) 0).toNat = 0 then (0, 0, 2) else if leadV 10 b.data.toList = 9 ∧ 1 < (b.data.toList.getD (leadV 10 b.data.toList) 0).toNat then (0, 0, 3) else (valV b.data.toList (leadV 10 b.data.toList + 1), leadV 10 b.data.toList + 1, 0) := rfl
  have hle := leadV_eq 10 b.data.toList
  have hvl := valV_lt b.data.toList
  have hlen : b.data.toList.length = b.size := by rw [Array.length_toList]; rfl
  generalize takeV b = r at *
  refine awp_scopeL 0 [0, 5, 6] (fun n s => ∃ (i x : Nat), i ≤ 10 ∧ n = 10 - i ∧ i ≤ b.size ∧ (∀ j, j < i → 128 ≤ (b.data.toList.getD j 0).toNat) ∧ x < 18446744073709551616 ∧ (i ≤ 9 → x = valV b.data.toList i) ∧ s = ⟨[(0, .c (.v (.string b))), (5, .c (u64C x)), (6, .c (iC i))], []⟩) rfl (.inr rfl) ?_ ?_
  · repeat' (first 
     | (with_reducible first | refine awp_scope ?_ | refine awp_seq ?_ | refine awp_block ?_)
     | ((with_reducible first | refine awp_label ?_ | refine awp_skip ?_ | refine awp_exit ?_ | refine hother _ _ rfl ?_); try simp only [thenA, inBlockA, noGotoA, if_true, Nat.reduceEqDiff, if_false, ↓reduceIte])
     | ((with_reducible first | refine awp_reg 52 hX [0, 2, 3, 4, 5, 6, 7, 9, 13, 22, 35, 36, 43] ?_ | change postOf _ _ _ _ _); simp [-List.reduceReplicate, Nat.add_one_le_iff, -getElem?_pos, -getElem?_neg, u64C, iC])
     | ((first | (with_reducible refine awp_ret ?_; try simp only [thenA, inBlockA, noGotoA])); try simp [-List.reduceReplicate, Nat.add_one_le_iff, -getElem?_pos, -getElem?_neg, u64C, iC])
     | (with_reducible refine awp_if_b rfl (fun hc => ?_) (fun hc => ?_) <;> (try simp [-getElem?_pos, -getElem?_neg] at hc) <;> (try (exfalso; omega)))
     | ((with_reducible first | refine GuardK_b (fun hc => ?_) (fun hc => ?_)) <;> (try simp only [Bool.not_eq_true', Bool.not_eq_false', decide_eq_true_eq, decide_eq_false_iff_not] at hc) <;> (first | (exfalso; omega) | skip) <;> simp [-List.reduceReplicate, Nat.add_one_le_iff, -getElem?_pos, -getElem?_neg, u64C, iC, hc])
     | (with_reducible refine And.intro (by omega) ?_)
     | fail)
    exact ⟨10, 0, by omega, by omega, by omega, by intros; omega, 0, by omega, fun _ => rfl, rfl, rfl⟩
  · rintro n s Q1 ⟨i, x, h1, rfl, h2, h3, hx, h4, rfl⟩ next hother
    have hi10 : i ≠ 10 → i ≤ 9 := by omega
    by_cases hi : i = 10
    · subst hi
      have hl := hle 10 (by omega) (by omega) h3 (.inl rfl)
      rw [hl] at htv
      simp only [if_true] at htv
      subst htv
      repeat' (first 
       | (with_reducible first | refine awp_scope ?_ | refine awp_seq ?_ | refine awp_block ?_)
       | ((with_reducible first | refine awp_label ?_ | refine awp_skip ?_ | refine awp_exit ?_ | refine hother _ _ rfl ?_); try simp only [thenA, inBlockA, noGotoA, if_true, Nat.reduceEqDiff, if_false, ↓reduceIte])
       | ((with_reducible first | refine awp_reg 52 hX [0, 2, 3, 4, 5, 6, 7, 9, 13, 22, 35, 36, 43] ?_ | change postOf _ _ _ _ _); simp [-List.reduceReplicate, Nat.add_one_le_iff, -getElem?_pos, -getElem?_neg, u64C, iC, takeM])
       | ((first | (with_reducible refine awp_ret ?_; try simp only [thenA, inBlockA, noGotoA])); try simp [-List.reduceReplicate, Nat.add_one_le_iff, -getElem?_pos, -getElem?_neg, u64C, iC, takeM])
       | (with_reducible refine awp_if_b rfl (fun hc => ?_) (fun hc => ?_) <;> (try simp [-getElem?_pos, -getElem?_neg] at hc) <;> (try (exfalso; omega)))
       | ((with_reducible first | refine GuardK_b (fun hc => ?_) (fun hc => ?_)) <;> (try simp only [Bool.not_eq_true', Bool.not_eq_false', decide_eq_true_eq, decide_eq_false_iff_not] at hc) <;> (first | (exfalso; omega) | skip) <;> simp [-List.reduceReplicate, Nat.add_one_le_iff, -getElem?_pos, -getElem?_neg, u64C, iC, takeM, hc])
       | (with_reducible refine And.intro (by omega) ?_)
       | fail)
    · have h9 : i ≤ 9 := hi10 hi
      obtain rfl := h4 h9
      have hi2 : ¬ (i : Int) = 10 := by omega
      by_cases hn : i = b.size
      · have hl := hle i (by omega) (by omega) h3 (.inr (.inl (by omega)))
        have hn2 : (i : Int) = b.size := by omega
        rw [hl, if_neg hi, if_pos (by omega)] at htv
        subst htv
        repeat' (first 
         | (with_reducible first | refine awp_scope ?_ | refine awp_seq ?_ | refine awp_block ?_)
         | ((with_reducible first | refine awp_label ?_ | refine awp_skip ?_ | refine awp_exit ?_ | refine hother _ _ rfl ?_); try simp only [thenA, inBlockA, noGotoA, if_true, Nat.reduceEqDiff, if_false, ↓reduceIte])
         | ((with_reducible first | refine awp_reg 52 hX [0, 2, 3, 4, 5, 6, 7, 9, 13, 22, 35, 36, 43] ?_ | change postOf _ _ _ _ _); simp [-List.reduceReplicate, Nat.add_one_le_iff, -getElem?_pos, -getElem?_neg, u64C, iC, takeM, hi2, hn2])
         | ((first | (with_reducible refine awp_ret ?_; try simp only [thenA, inBlockA, noGotoA])); try simp [-List.reduceReplicate, Nat.add_one_le_iff, -getElem?_pos, -getElem?_neg, u64C, iC, takeM, hi2, hn2])
         | (with_reducible refine awp_if_b rfl (fun hc => ?_) (fun hc => ?_) <;> (try simp [-getElem?_pos, -getElem?_neg] at hc) <;> (try (exfalso; omega)))
         | ((with_reducible first | refine GuardK_b (fun hc => ?_) (fun hc => ?_)) <;> (try simp only [Bool.not_eq_true', Bool.not_eq_false', decide_eq_true_eq, decide_eq_false_iff_not] at hc) <;> (first | (exfalso; omega) | skip) <;> simp [-List.reduceReplicate, Nat.add_one_le_iff, -getElem?_pos, -getElem?_neg, u64C, iC, takeM, hi2, hn2, hc])
         | (with_reducible refine And.intro (by omega) ?_)
         | fail)
      · have hn2 : ¬ (i : Int) = b.size := by omega
        obtain ⟨c, hc8⟩ : ∃ c, (b.data.toList.getD i 0).toNat = c := ⟨_, rfl⟩
        have hcl : c < 256 := by rw [← hc8]; exact UInt8.toNat_lt _
        have hba : byteAt b i = (c : Int) := by rw [← hc8]; exact byteAt_nat b i
        have hwi := wrap_in ((i : Int) + 1) (by omega)
        have hw7 := wrap_in (7 * (i : Int)) (by omega)
        have hw8 := wrapU64 (7 * (i : Int)) (by omega)
        have han : andI .u8 (c : Int) 127 = ((c % 128 : Nat) : Int) := by
          have h7 : (127 : Int) = ((127 : Nat) : Int) := rfl
          rw [h7, andN .u8 c 127 (by simpa [IntKind.bits] using hcl) (by simp [IntKind.bits]) (by simp [IntKind.signed])]
          have : ∀ z, z < 256 → z &&& 127 = z % 128 := by decide +kernel
          rw [this c hcl]
        have hwm := wrapU64 ((c : Int) % 128) (by omega)
        have hwn := wrapU64 ((c % 128 : Nat) : Int) (by omega)
        have hmin : min (7 * i) 64 = 7 * i := by omega
        push_cast at han
        have hng : ¬ 7 * (i : Int) < 0 := by omega
        have hw : valV b.data.toList (i + 1) = valV b.data.toList i + c % 128 * 128 ^ i := by rw [valV, hc8]
        have hsh : (i < 9 ∨ c < 2) → orI .u64 (valV b.data.toList i : Int) (IntKind.u64.wrap ((c : Int) % 128 * 2 ^ min (7 * (i : Int)).toNat 64)) = ((valV b.data.toList (i + 1) : Nat) : Int) := by
          intro h
          have h5 : (128 : Nat) ^ i ≤ 128 ^ 9 := Nat.pow_le_pow_right (by omega) h9
          have h6 : (128 : Nat) ^ 9 = 9223372036854775808 := by decide
          have h7 := shl_or128 (valV b.data.toList i) (c % 128) i (hvl i) (by omega) (by
            rcases h with h | h
            · have h8 : c % 128 * 128 ^ i ≤ 127 * 128 ^ i := Nat.mul_le_mul_right _ (by omega)
              have h10 : (128 : Nat) ^ i ≤ 128 ^ 8 := Nat.pow_le_pow_right (by omega) (by omega)
              have h11 : (128 : Nat) ^ 8 = 72057594037927936 := by decide
              omega
            · have h8 : c % 128 * 128 ^ i ≤ 1 * 128 ^ i := Nat.mul_le_mul_right _ (by omega)
              omega) h9
          rw [hw, ← h7]
          push_cast
          rfl
        have h3' : 128 ≤ c → ∀ j, j < i + 1 → 128 ≤ (b.data.toList.getD j 0).toNat := fun h j hj => by
          by_cases hji : j < i
          · exact h3 j hji
          · obtain rfl : j = i := by omega
            rw [hc8]; exact h
        have hvi := hvl (i + 1)
        by_cases hc1 : 128 ≤ c
        · have hc2 : (128 : Int) ≤ (c : Int) := by omega
          have hc3 : ¬ (c : Int) < 128 := by omega
          by_cases hi9 : i < 9
          · have hi3 : (i : Int) < 9 := by omega
            have hs := hsh (.inl hi9)
            have hv9 : valV b.data.toList (i + 1) < 18446744073709551616 := by
              have h10 : (128 : Nat) ^ (i + 1) ≤ 128 ^ 9 := Nat.pow_le_pow_right (by omega) (by omega)
              have h11 : (128 : Nat) ^ 9 = 9223372036854775808 := by decide
              omega
            clear hsh
            repeat' (first 
             | (with_reducible first | refine awp_scope ?_ | refine awp_seq ?_ | refine awp_block ?_)
             | ((with_reducible first | refine awp_label ?_ | refine awp_skip ?_ | refine awp_exit ?_ | refine hother _ _ rfl ?_); try simp only [thenA, inBlockA, noGotoA, if_true, Nat.reduceEqDiff, if_false, ↓reduceIte])
             | ((with_reducible first | refine awp_reg 52 hX [0, 2, 3, 4, 5, 6, 7, 9, 13, 22, 35, 36, 43] ?_ | change postOf _ _ _ _ _); simp [-List.reduceReplicate, Nat.add_one_le_iff, -getElem?_pos, -getElem?_neg, u64C, iC, takeM, hi2, hn2, hba, hwi, hw7, hw8, han, hwm, hs, hng, hi3, hc2, hc3, IntKind.bits])
             | ((first | (with_reducible refine awp_ret ?_; try simp only [thenA, inBlockA, noGotoA])); try simp [-List.reduceReplicate, Nat.add_one_le_iff, -getElem?_pos, -getElem?_neg, u64C, iC, takeM, hi2, hn2, hba, hwi, hw7, hw8, han, hwm, hs, hng, hi3, hc2, hc3, IntKind.bits])
             | (with_reducible refine awp_if_b rfl (fun hc => ?_) (fun hc => ?_) <;> (try simp [-getElem?_pos, -getElem?_neg] at hc) <;> (try (exfalso; omega)))
             | ((with_reducible first | refine GuardK_b (fun hc => ?_) (fun hc => ?_)) <;> (try simp only [Bool.not_eq_true', Bool.not_eq_false', decide_eq_true_eq, decide_eq_false_iff_not] at hc) <;> (first | (exfalso; omega) | skip) <;> simp [-List.reduceReplicate, Nat.add_one_le_iff, -getElem?_pos, -getElem?_neg, u64C, iC, takeM, hi2, hn2, hba, hwi, hw7, hw8, han, hwm, hs, hng, hi3, hc2, hc3, IntKind.bits, hc])
             | (with_reducible refine And.intro (by omega) ?_)
             | fail)
            refine awp_goto ?_
            simp only [thenA]
            refine next _ (10 - (i + 1)) (by omega) ⟨i + 1, valV b.data.toList (i + 1), by omega, rfl, by omega, h3' hc1, hv9, fun _ => rfl, by simp [keep, u64C, iC]⟩
          · obtain rfl : i = 9 := by omega
            have hw10 : IntKind.i64.wrap 10 = 10 := rfl
            repeat' (first 
             | (with_reducible first | refine awp_scope ?_ | refine awp_seq ?_ | refine awp_block ?_)
             | ((with_reducible first | refine awp_label ?_ | refine awp_skip ?_ | refine awp_exit ?_ | refine hother _ _ rfl ?_); try simp only [thenA, inBlockA, noGotoA, if_true, Nat.reduceEqDiff, if_false, ↓reduceIte])
             | ((with_reducible first | refine awp_reg 52 hX [0, 2, 3, 4, 5, 6, 7, 9, 13, 22, 35, 36, 43] ?_ | change postOf _ _ _ _ _); simp [-List.reduceReplicate, Nat.add_one_le_iff, -getElem?_pos, -getElem?_neg, u64C, iC, takeM, hn2, hba, hc2, hc3, hw10])
             | ((first | (with_reducible refine awp_ret ?_; try simp only [thenA, inBlockA, noGotoA])); try simp [-List.reduceReplicate, Nat.add_one_le_iff, -getElem?_pos, -getElem?_neg, u64C, iC, takeM, hn2, hba, hc2, hc3, hw10])
             | (with_reducible refine awp_if_b rfl (fun hc => ?_) (fun hc => ?_) <;> (try simp [-getElem?_pos, -getElem?_neg] at hc) <;> (try (exfalso; omega)))
             | ((with_reducible first | refine GuardK_b (fun hc => ?_) (fun hc => ?_)) <;> (try simp only [Bool.not_eq_true', Bool.not_eq_false', decide_eq_true_eq, decide_eq_false_iff_not] at hc) <;> (first | (exfalso; omega) | skip) <;> simp [-List.reduceReplicate, Nat.add_one_le_iff, -getElem?_pos, -getElem?_neg, u64C, iC, takeM, hn2, hba, hc2, hc3, hw10, hc])
             | (with_reducible refine And.intro (by omega) ?_)
             | fail)
            refine awp_goto ?_
            simp only [thenA]
            refine next _ 0 (by omega) ⟨10, valV b.data.toList 9, by omega, rfl, by omega, h3' hc1, hx, fun h => by omega, by simp [keep, u64C, iC, hw10]⟩
        · have hc2 : ¬ (128 : Int) ≤ (c : Int) := by omega
          have hc3 : (c : Int) < 128 := by omega
          have hl := hle i (by omega) (by omega) h3 (.inr (.inr (by omega)))
          rw [hl, if_neg hi, if_neg (by omega), hc8] at htv
          by_cases ha : 0 < i ∧ c = 0
          · rw [if_pos ha] at htv
            subst htv
            obtain ⟨ha1, rfl⟩ := ha
            have hs := hsh (.inr (by omega))
            have hi1 : (1 : Int) < (i : Int) + 1 := by omega
            clear hsh
            repeat' (first 
             | (with_reducible first | refine awp_scope ?_ | refine awp_seq ?_ | refine awp_block ?_)
             | ((with_reducible first | refine awp_label ?_ | refine awp_skip ?_ | refine awp_exit ?_ | refine hother _ _ rfl ?_); try simp only [thenA, inBlockA, noGotoA, if_true, Nat.reduceEqDiff, if_false, ↓reduceIte])
             | ((with_reducible first | refine awp_reg 52 hX [0, 2, 3, 4, 5, 6, 7, 9, 13, 22, 35, 36, 43] ?_ | change postOf _ _ _ _ _); simp [-List.reduceReplicate, Nat.add_one_le_iff, -getElem?_pos, -getElem?_neg, u64C, iC, takeM, hi2, hn2, hba, hwi, hw7, hw8, han, hwm, hs, hng, hc2, hc3, IntKind.bits, hi1, ha1])
             | ((first | (with_reducible refine awp_ret ?_; try simp only [thenA, inBlockA, noGotoA])); try simp [-List.reduceReplicate, Nat.add_one_le_iff, -getElem?_pos, -getElem?_neg, u64C, iC, takeM, hi2, hn2, hba, hwi, hw7, hw8, han, hwm, hs, hng, hc2, hc3, IntKind.bits, hi1, ha1])
             | (with_reducible refine awp_if_b rfl (fun hc => ?_) (fun hc => ?_) <;> (try simp [-getElem?_pos, -getElem?_neg] at hc) <;> (try (exfalso; omega)))
             | ((with_reducible first | refine GuardK_b (fun hc => ?_) (fun hc => ?_)) <;> (try simp only [Bool.not_eq_true', Bool.not_eq_false', decide_eq_true_eq, decide_eq_false_iff_not] at hc) <;> (first | (exfalso; omega) | skip) <;> simp [-List.reduceReplicate, Nat.add_one_le_iff, -getElem?_pos, -getElem?_neg, u64C, iC, takeM, hi2, hn2, hba, hwi, hw7, hw8, han, hwm, hs, hng, hc2, hc3, IntKind.bits, hi1, ha1, hc])
             | (with_reducible refine And.intro (by omega) ?_)
             | fail)
          · rw [if_neg ha] at htv
            by_cases hb9 : i = 9 ∧ 1 < c
            · rw [if_pos hb9] at htv
              subst htv
              obtain ⟨rfl, hb1⟩ := hb9
              have hb2 : (1 : Int) < (c : Int) := by omega
              have hb3 : ¬ (c : Int) = 0 := by omega
              have hb4 : ¬ c = 0 := by omega
              have hw10 : IntKind.i64.wrap 10 = 10 := rfl
              have hw63 : IntKind.i64.wrap 63 = 63 := rfl
              have hu63 : IntKind.u64.wrap 63 = 63 := rfl
              clear hsh
              repeat' (first 
               | (with_reducible first | refine awp_scope ?_ | refine awp_seq ?_ | refine awp_block ?_)
               | ((with_reducible first | refine awp_label ?_ | refine awp_skip ?_ | refine awp_exit ?_ | refine hother _ _ rfl ?_); try simp only [thenA, inBlockA, noGotoA, if_true, Nat.reduceEqDiff, if_false, ↓reduceIte])
               | ((with_reducible first | refine awp_reg 52 hX [0, 2, 3, 4, 5, 6, 7, 9, 13, 22, 35, 36, 43] ?_ | change postOf _ _ _ _ _); simp [-List.reduceReplicate, Nat.add_one_le_iff, -getElem?_pos, -getElem?_neg, u64C, iC, takeM, hn2, hba, han, hwm, hc2, hc3, IntKind.bits, hb1, hb2, hb3, hb4, hw10, hw63, hu63])
               | ((first | (with_reducible refine awp_ret ?_; try simp only [thenA, inBlockA, noGotoA])); try simp [-List.reduceReplicate, Nat.add_one_le_iff, -getElem?_pos, -getElem?_neg, u64C, iC, takeM, hn2, hba, han, hwm, hc2, hc3, IntKind.bits, hb1, hb2, hb3, hb4, hw10, hw63, hu63])
               | (with_reducible refine awp_if_b rfl (fun hc => ?_) (fun hc => ?_) <;> (try simp [-getElem?_pos, -getElem?_neg] at hc) <;> (try (exfalso; omega)))
               | ((with_reducible first | refine GuardK_b (fun hc => ?_) (fun hc => ?_)) <;> (try simp only [Bool.not_eq_true', Bool.not_eq_false', decide_eq_true_eq, decide_eq_false_iff_not] at hc) <;> (first | (exfalso; omega) | skip) <;> simp [-List.reduceReplicate, Nat.add_one_le_iff, -getElem?_pos, -getElem?_neg, u64C, iC, takeM, hn2, hba, han, hwm, hc2, hc3, IntKind.bits, hb1, hb2, hb3, hb4, hw10, hw63, hu63, hc])
               | (with_reducible refine And.intro (by omega) ?_)
               | fail)
            · rw [if_neg hb9] at htv
              subst htv
              have hs := hsh (by omega)
              clear hsh
              by_cases hi0 : 0 < i
              · have hi1 : (1 : Int) < (i : Int) + 1 := by omega
                have hb3 : ¬ (c : Int) = 0 := by omega
                have hb4 : ¬ c = 0 := by omega
                by_cases hi9 : i = 9
                · subst hi9
                  have hb2 : ¬ (1 : Int) < (c : Int) := by omega
                  have hb1 : ¬ 1 < c := by omega
                  have hw10 : IntKind.i64.wrap 10 = 10 := rfl
                  have hw63 : IntKind.i64.wrap 63 = 63 := rfl
                  have hu63 : IntKind.u64.wrap 63 = 63 := rfl
                  simp at hs
                  repeat' (first 
                   | (with_reducible first | refine awp_scope ?_ | refine awp_seq ?_ | refine awp_block ?_)
                   | ((with_reducible first | refine awp_label ?_ | refine awp_skip ?_ | refine awp_exit ?_ | refine hother _ _ rfl ?_); try simp only [thenA, inBlockA, noGotoA, if_true, Nat.reduceEqDiff, if_false, ↓reduceIte])
                   | ((with_reducible first | refine awp_reg 52 hX [0, 2, 3, 4, 5, 6, 7, 9, 13, 22, 35, 36, 43] ?_ | change postOf _ _ _ _ _); simp [-List.reduceReplicate, Nat.add_one_le_iff, -getElem?_pos, -getElem?_neg, u64C, iC, takeM, hn2, hba, han, hwm, hs, hc2, hc3, IntKind.bits, hb1, hb2, hb3, hb4, hw10, hw63, hu63])
                   | ((first | (with_reducible refine awp_ret ?_; try simp only [thenA, inBlockA, noGotoA])); try simp [-List.reduceReplicate, Nat.add_one_le_iff, -getElem?_pos, -getElem?_neg, u64C, iC, takeM, hn2, hba, han, hwm, hs, hc2, hc3, IntKind.bits, hb1, hb2, hb3, hb4, hw10, hw63, hu63])
                   | (with_reducible refine awp_if_b rfl (fun hc => ?_) (fun hc => ?_) <;> (try simp [-getElem?_pos, -getElem?_neg] at hc) <;> (try (exfalso; omega)))
                   | ((with_reducible first | refine GuardK_b (fun hc => ?_) (fun hc => ?_)) <;> (try simp only [Bool.not_eq_true', Bool.not_eq_false', decide_eq_true_eq, decide_eq_false_iff_not] at hc) <;> (first | (exfalso; omega) | skip) <;> simp [-List.reduceReplicate, Nat.add_one_le_iff, -getElem?_pos, -getElem?_neg, u64C, iC, takeM, hn2, hba, han, hwm, hs, hc2, hc3, IntKind.bits, hb1, hb2, hb3, hb4, hw10, hw63, hu63, hc])
                   | (with_reducible refine And.intro (by omega) ?_)
                   | fail)
                · have hi10 : ¬ (i : Int) + 1 = 10 := by omega
                  repeat' (first 
                   | (with_reducible first | refine awp_scope ?_ | refine awp_seq ?_ | refine awp_block ?_)
                   | ((with_reducible first | refine awp_label ?_ | refine awp_skip ?_ | refine awp_exit ?_ | refine hother _ _ rfl ?_); try simp only [thenA, inBlockA, noGotoA, if_true, Nat.reduceEqDiff, if_false, ↓reduceIte])
                   | ((with_reducible first | refine awp_reg 52 hX [0, 2, 3, 4, 5, 6, 7, 9, 13, 22, 35, 36, 43] ?_ | change postOf _ _ _ _ _); simp [-List.reduceReplicate, Nat.add_one_le_iff, -getElem?_pos, -getElem?_neg, u64C, iC, takeM, hi2, hn2, hba, hwi, hw7, hw8, han, hwm, hs, hng, hc2, hc3, IntKind.bits, hi1, hi0, hb3, hb4, hi10, hi9])
                   | ((first | (with_reducible refine awp_ret ?_; try simp only [thenA, inBlockA, noGotoA])); try simp [-List.reduceReplicate, Nat.add_one_le_iff, -getElem?_pos, -getElem?_neg, u64C, iC, takeM, hi2, hn2, hba, hwi, hw7, hw8, han, hwm, hs, hng, hc2, hc3, IntKind.bits, hi1, hi0, hb3, hb4, hi10, hi9])
                   | (with_reducible refine awp_if_b rfl (fun hc => ?_) (fun hc => ?_) <;> (try simp [-getElem?_pos, -getElem?_neg] at hc) <;> (try (exfalso; omega)))
                   | ((with_reducible first | refine GuardK_b (fun hc => ?_) (fun hc => ?_)) <;> (try simp only [Bool.not_eq_true', Bool.not_eq_false', decide_eq_true_eq, decide_eq_false_iff_not] at hc) <;> (first | (exfalso; omega) | skip) <;> simp [-List.reduceReplicate, Nat.add_one_le_iff, -getElem?_pos, -getElem?_neg, u64C, iC, takeM, hi2, hn2, hba, hwi, hw7, hw8, han, hwm, hs, hng, hc2, hc3, IntKind.bits, hi1, hi0, hb3, hb4, hi10, hi9, hc])
                   | (with_reducible refine And.intro (by omega) ?_)
                   | fail)
              · obtain rfl : i = 0 := by omega
                have hw1 : IntKind.i64.wrap 1 = 1 := rfl
                have hw0 : IntKind.i64.wrap 0 = 0 := rfl
                have hu0 : IntKind.u64.wrap 0 = 0 := rfl
                simp [hwm] at hs
                repeat' (first 
                 | (with_reducible first | refine awp_scope ?_ | refine awp_seq ?_ | refine awp_block ?_)
                 | ((with_reducible first | refine awp_label ?_ | refine awp_skip ?_ | refine awp_exit ?_ | refine hother _ _ rfl ?_); try simp only [thenA, inBlockA, noGotoA, if_true, Nat.reduceEqDiff, if_false, ↓reduceIte])
                 | ((with_reducible first | refine awp_reg 52 hX [0, 2, 3, 4, 5, 6, 7, 9, 13, 22, 35, 36, 43] ?_ | change postOf _ _ _ _ _); simp [-List.reduceReplicate, Nat.add_one_le_iff, -getElem?_pos, -getElem?_neg, u64C, iC, takeM, hi2, hn2, hba, han, hwm, hs, hc2, hc3, IntKind.bits, hw1, hw0, hu0])
                 | ((first | (with_reducible refine awp_ret ?_; try simp only [thenA, inBlockA, noGotoA])); try simp [-List.reduceReplicate, Nat.add_one_le_iff, -getElem?_pos, -getElem?_neg, u64C, iC, takeM, hi2, hn2, hba, han, hwm, hs, hc2, hc3, IntKind.bits, hw1, hw0, hu0])
                 | (with_reducible refine awp_if_b rfl (fun hc => ?_) (fun hc => ?_) <;> (try simp [-getElem?_pos, -getElem?_neg] at hc) <;> (try (exfalso; omega)))
                 | ((with_reducible first | refine GuardK_b (fun hc => ?_) (fun hc => ?_)) <;> (try simp only [Bool.not_eq_true', Bool.not_eq_false', decide_eq_true_eq, decide_eq_false_iff_not] at hc) <;> (first | (exfalso; omega) | skip) <;> simp [-List.reduceReplicate, Nat.add_one_le_iff, -getElem?_pos, -getElem?_neg, u64C, iC, takeM, hi2, hn2, hba, han, hwm, hs, hc2, hc3, IntKind.bits, hw1, hw0, hu0, hc])
                 | (with_reducible refine And.intro (by omega) ?_)
                 | fail)
end Go.Av

set_option exponentiation.threshold 1000
set_option linter.unusedVariables false
set_option linter.unusedSimpArgs false
set_option maxRecDepth 100000
set_option maxHeartbeats 4000000
namespace Go.Av
open Go Go.Proofs Go.Proofs.Ytpcnacknlgmmlaa Go.RowKit
attribute [local simp] List.getElem?_cons_zero List.getElem?_cons_succ
/-! ### milepostref07.Take -/
theorem leadV_spec : ∀ (k : Nat) (l : List UInt8), leadV k l ≤ k ∧ leadV k l ≤ l.length ∧ (∀ j, j < leadV k l → 128 ≤ (l.getD j 0).toNat) ∧ (leadV k l = k ∨ leadV k l = l.length ∨ (l.getD (leadV k l) 0).toNat < 128) := by
  intro k
  induction k with
  | zero => intro l; simp [leadV]
  | succ k ih =>
    intro l
    cases l with
    | nil => simp [leadV]
    | cons b r =>
      obtain ⟨h1, h2, h3, h4⟩ := ih r
      rw [leadV]
      by_cases hb : 128 ≤ b.toNat
      · rw [if_pos hb]
        refine ⟨by omega, by simpa using h2, fun j hj => ?_, by simpa using h4⟩
        cases j with
        | zero => simpa using hb
        | succ j => simpa using h3 j (by omega)
      · rw [if_neg hb]
        refine ⟨by omega, by omega, fun j hj => by omega, .inr (.inr (by simpa using hb))⟩
def hornV (l : List UInt8) (n : Nat) : Nat → Nat
  | 0 => 0
  | k + 1 => hornV l n k * 128 + (l.getD (n - k) 0).toNat % 128
theorem valV_u64 (l : List UInt8) (n : Nat) (h : n ≤ 9) (h9 : n = 9 → (l.getD n 0).toNat ≤ 1) : valV l (n + 1) < 18446744073709551616 := by
  have h11 : (128 : Nat) ^ 9 = 9223372036854775808 := by decide
  by_cases hn : n = 9
  · subst hn
    have h1 := valV_lt l 9
    rw [valV]
    have := h9 rfl
    have h2 : (l.getD 9 0).toNat % 128 * 128 ^ 9 ≤ 1 * 128 ^ 9 := Nat.mul_le_mul_right _ (by omega)
    omega
  · have h1 := valV_lt l (n + 1)
    have h10 : (128 : Nat) ^ (n + 1) ≤ 128 ^ 9 := Nat.pow_le_pow_right (by omega) (by omega)
    omega
end Go.Av

set_option exponentiation.threshold 1000
set_option linter.unusedVariables false
set_option linter.unusedSimpArgs false
set_option maxRecDepth 100000
set_option maxHeartbeats 4000000
namespace Go.Av
open Go Go.Proofs Go.Proofs.Ytpcnacknlgmmlaa Go.RowKit
attribute [local simp] List.getElem?_cons_zero List.getElem?_cons_succ
/-! ### hashes -/
def bC8 (b : UInt8) : C := .v (.int .u8 (b.toNat : Int))
def hashM (l : List UInt8) : M := .agg (up (l.map bC8))
theorem eq_hash (l l' : List UInt8) (h : l.length = 32) (h' : l'.length = 32) : eqM (List.replicate 32 0) (up (l.map bC8)) (up (l'.map bC8)) = some (decide (l = l')) := by
  have e := eqM_ints (k := .u8) 32 (l.map fun b => (b.toNat : Int)) (l'.map fun b => (b.toNat : Int)) (by simp [h]) (by simp [h'])
  have inj : (l.map (fun b => (b.toNat : Int)) = l'.map fun b => (b.toNat : Int)) ↔ l = l' := by
    constructor
    · intro h
      exact List.map_inj_right (fun a b hab => UInt8.toNat_inj.1 (by omega)) |>.1 h
    · intro h; rw [h]
  rw [List.map_map, List.map_map] at e
  simp only [inj] at e
  exact e
theorem lt_hash (n : Nat) (l : List UInt8) : ltB n (hashM l) = true := by
  simp only [hashM, ltB]
  exact ltBs_up n _
theorem bytesM_b8 (l : List UInt8) : bytesM (up (l.map bC8)) = some l := by
  induction l with
  | nil => rfl
  | cons x xs ih =>
    simp only [up, List.map_cons] at *
    simp only [bytesM, bC8] at *
    rw [ih]
    simp
end Go.Av
