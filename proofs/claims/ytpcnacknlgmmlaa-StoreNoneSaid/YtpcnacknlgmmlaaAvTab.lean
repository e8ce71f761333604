/- The type table of the program, as facts. Printed by mktab.py. -/
import Derived.Test.YtpcnacknlgmmlaaProg
import Derived.Test.YtpcnacknlgmmlaaAvEngine3
set_option linter.unusedVariables false
namespace Go.Proofs.Ytpcnacknlgmmlaa.Tab
open Go Go.Proofs Go.Av
@[simp] theorem sz0 : szT Try.prog 0 = 1 := by kernel_rfl
@[simp] theorem szob0 : szOb Try.prog 0 = 1 := by kernel_rfl
@[simp] theorem szbx0 : szBx Try.prog 0 = 1 := by kernel_rfl
@[simp] theorem agg0 : isAggT Try.prog 0 = false := by kernel_rfl
@[simp] theorem ok0 : okT Try.prog 0 = true := by kernel_rfl
@[simp] theorem oke0 : okE Try.prog 0 = true := by kernel_rfl
@[simp] theorem okz0 : okZ Try.prog 0 = true := by kernel_rfl
@[simp] theorem bytes0 : Program.bytesOf Try.prog 0 = 0 := by kernel_rfl
@[simp] theorem sz1 : szT Try.prog 1 = 1 := by kernel_rfl
@[simp] theorem szob1 : szOb Try.prog 1 = 1 := by kernel_rfl
@[simp] theorem szbx1 : szBx Try.prog 1 = 1 := by kernel_rfl
@[simp] theorem agg1 : isAggT Try.prog 1 = false := by kernel_rfl
@[simp] theorem ok1 : okT Try.prog 1 = true := by kernel_rfl
@[simp] theorem oke1 : okE Try.prog 1 = true := by kernel_rfl
@[simp] theorem okz1 : okZ Try.prog 1 = true := by kernel_rfl
@[simp] theorem bytes1 : Program.bytesOf Try.prog 1 = 8 := by kernel_rfl
@[simp] theorem zero1 : zeroT Try.prog 1 = some [M.c (C.v Value.nilFunc)] := by kernel_rfl
@[simp] theorem sz2 : szT Try.prog 2 = 1 := by kernel_rfl
@[simp] theorem szob2 : szOb Try.prog 2 = 1 := by kernel_rfl
@[simp] theorem szbx2 : szBx Try.prog 2 = 1 := by kernel_rfl
@[simp] theorem agg2 : isAggT Try.prog 2 = false := by kernel_rfl
@[simp] theorem ok2 : okT Try.prog 2 = true := by kernel_rfl
@[simp] theorem oke2 : okE Try.prog 2 = true := by kernel_rfl
@[simp] theorem okz2 : okZ Try.prog 2 = true := by kernel_rfl
@[simp] theorem bytes2 : Program.bytesOf Try.prog 2 = 8 := by kernel_rfl
@[simp] theorem zero2 : zeroT Try.prog 2 = some [M.c (C.v (Value.int IntKind.i64 0))] := by kernel_rfl
@[simp] theorem sz3 : szT Try.prog 3 = 1 := by kernel_rfl
@[simp] theorem szob3 : szOb Try.prog 3 = 1 := by kernel_rfl
@[simp] theorem szbx3 : szBx Try.prog 3 = 1 := by kernel_rfl
@[simp] theorem agg3 : isAggT Try.prog 3 = false := by kernel_rfl
@[simp] theorem ok3 : okT Try.prog 3 = true := by kernel_rfl
@[simp] theorem oke3 : okE Try.prog 3 = true := by kernel_rfl
@[simp] theorem okz3 : okZ Try.prog 3 = true := by kernel_rfl
@[simp] theorem bytes3 : Program.bytesOf Try.prog 3 = 8 := by kernel_rfl
@[simp] theorem zero3 : zeroT Try.prog 3 = some [M.c (C.v (Value.int IntKind.i64 0))] := by kernel_rfl
@[simp] theorem sz4 : szT Try.prog 4 = 1 := by kernel_rfl
@[simp] theorem szob4 : szOb Try.prog 4 = 1 := by kernel_rfl
@[simp] theorem szbx4 : szBx Try.prog 4 = 1 := by kernel_rfl
@[simp] theorem agg4 : isAggT Try.prog 4 = false := by kernel_rfl
@[simp] theorem ok4 : okT Try.prog 4 = true := by kernel_rfl
@[simp] theorem oke4 : okE Try.prog 4 = true := by kernel_rfl
@[simp] theorem okz4 : okZ Try.prog 4 = true := by kernel_rfl
@[simp] theorem bytes4 : Program.bytesOf Try.prog 4 = 1 := by kernel_rfl
@[simp] theorem zero4 : zeroT Try.prog 4 = some [M.c (C.v (Value.bool false))] := by kernel_rfl
@[simp] theorem sz5 : szT Try.prog 5 = 1 := by kernel_rfl
@[simp] theorem szob5 : szOb Try.prog 5 = 1 := by kernel_rfl
@[simp] theorem szbx5 : szBx Try.prog 5 = 1 := by kernel_rfl
@[simp] theorem agg5 : isAggT Try.prog 5 = false := by kernel_rfl
@[simp] theorem ok5 : okT Try.prog 5 = true := by kernel_rfl
@[simp] theorem oke5 : okE Try.prog 5 = true := by kernel_rfl
@[simp] theorem okz5 : okZ Try.prog 5 = true := by kernel_rfl
@[simp] theorem bytes5 : Program.bytesOf Try.prog 5 = 1 := by kernel_rfl
@[simp] theorem zero5 : zeroT Try.prog 5 = some [M.c (C.v (Value.int IntKind.u8 0))] := by kernel_rfl
@[simp] theorem sz6 : szT Try.prog 6 = 1 := by kernel_rfl
@[simp] theorem szob6 : szOb Try.prog 6 = 1 := by kernel_rfl
@[simp] theorem szbx6 : szBx Try.prog 6 = 1 := by kernel_rfl
@[simp] theorem agg6 : isAggT Try.prog 6 = false := by kernel_rfl
@[simp] theorem ok6 : okT Try.prog 6 = true := by kernel_rfl
@[simp] theorem oke6 : okE Try.prog 6 = true := by kernel_rfl
@[simp] theorem okz6 : okZ Try.prog 6 = true := by kernel_rfl
@[simp] theorem bytes6 : Program.bytesOf Try.prog 6 = 1 := by kernel_rfl
@[simp] theorem zero6 : zeroT Try.prog 6 = some [M.c (C.v (Value.int IntKind.u8 0))] := by kernel_rfl
@[simp] theorem sz7 : szT Try.prog 7 = 4 := by kernel_rfl
@[simp] theorem leaves7 : leavesX Try.prog 7 = some [0, 0, 1, 0] := by kernel_rfl
@[simp] theorem szob7 : szOb Try.prog 7 = 4 := by kernel_rfl
@[simp] theorem szbx7 : szBx Try.prog 7 = 4 := by kernel_rfl
@[simp] theorem agg7 : isAggT Try.prog 7 = true := by kernel_rfl
@[simp] theorem ok7 : okT Try.prog 7 = true := by kernel_rfl
@[simp] theorem oke7 : okE Try.prog 7 = true := by kernel_rfl
@[simp] theorem okz7 : okZ Try.prog 7 = true := by kernel_rfl
@[simp] theorem bytes7 : Program.bytesOf Try.prog 7 = 24 := by kernel_rfl
@[simp] theorem zero7 : zeroT Try.prog 7 = some [M.c (C.v (Value.int IntKind.i64 0)), M.c (C.v (Value.int IntKind.i64 0)), M.c (C.v (Value.bool false)), M.c (C.v (Value.int IntKind.u8 0))] := by kernel_rfl
@[simp] theorem sz8 : szT Try.prog 8 = 4 := by kernel_rfl
@[simp] theorem leaves8 : leavesX Try.prog 8 = some [0, 0, 1, 0] := by kernel_rfl
@[simp] theorem szob8 : szOb Try.prog 8 = 4 := by kernel_rfl
@[simp] theorem szbx8 : szBx Try.prog 8 = 4 := by kernel_rfl
@[simp] theorem agg8 : isAggT Try.prog 8 = true := by kernel_rfl
@[simp] theorem ok8 : okT Try.prog 8 = true := by kernel_rfl
@[simp] theorem oke8 : okE Try.prog 8 = true := by kernel_rfl
@[simp] theorem okz8 : okZ Try.prog 8 = true := by kernel_rfl
@[simp] theorem bytes8 : Program.bytesOf Try.prog 8 = 24 := by kernel_rfl
@[simp] theorem zero8 : zeroT Try.prog 8 = some [M.c (C.v (Value.int IntKind.i64 0)), M.c (C.v (Value.int IntKind.i64 0)), M.c (C.v (Value.bool false)), M.c (C.v (Value.int IntKind.u8 0))] := by kernel_rfl
@[simp] theorem sz9 : szT Try.prog 9 = 1 := by kernel_rfl
@[simp] theorem szob9 : szOb Try.prog 9 = 1 := by kernel_rfl
@[simp] theorem szbx9 : szBx Try.prog 9 = 1 := by kernel_rfl
@[simp] theorem agg9 : isAggT Try.prog 9 = false := by kernel_rfl
@[simp] theorem ok9 : okT Try.prog 9 = true := by kernel_rfl
@[simp] theorem oke9 : okE Try.prog 9 = true := by kernel_rfl
@[simp] theorem okz9 : okZ Try.prog 9 = true := by kernel_rfl
@[simp] theorem bytes9 : Program.bytesOf Try.prog 9 = 16 := by kernel_rfl
@[simp] theorem zero9 : zeroT Try.prog 9 = some [M.c (C.v (Value.string { data := { toList := [] } }))] := by kernel_rfl
@[simp] theorem sz10 : szT Try.prog 10 = 1 := by kernel_rfl
@[simp] theorem szob10 : szOb Try.prog 10 = 1 := by kernel_rfl
@[simp] theorem szbx10 : szBx Try.prog 10 = 1 := by kernel_rfl
@[simp] theorem agg10 : isAggT Try.prog 10 = false := by kernel_rfl
@[simp] theorem ok10 : okT Try.prog 10 = true := by kernel_rfl
@[simp] theorem oke10 : okE Try.prog 10 = true := by kernel_rfl
@[simp] theorem okz10 : okZ Try.prog 10 = true := by kernel_rfl
@[simp] theorem bytes10 : Program.bytesOf Try.prog 10 = 16 := by kernel_rfl
@[simp] theorem zero10 : zeroT Try.prog 10 = some [M.c (C.v (Value.string { data := { toList := [] } }))] := by kernel_rfl
@[simp] theorem sz11 : szT Try.prog 11 = 1 := by kernel_rfl
@[simp] theorem szob11 : szOb Try.prog 11 = 1 := by kernel_rfl
@[simp] theorem szbx11 : szBx Try.prog 11 = 1 := by kernel_rfl
@[simp] theorem agg11 : isAggT Try.prog 11 = false := by kernel_rfl
@[simp] theorem ok11 : okT Try.prog 11 = true := by kernel_rfl
@[simp] theorem oke11 : okE Try.prog 11 = true := by kernel_rfl
@[simp] theorem okz11 : okZ Try.prog 11 = true := by kernel_rfl
@[simp] theorem bytes11 : Program.bytesOf Try.prog 11 = 16 := by kernel_rfl
@[simp] theorem zero11 : zeroT Try.prog 11 = some [M.c (C.v (Value.string { data := { toList := [] } }))] := by kernel_rfl
@[simp] theorem sz12 : szT Try.prog 12 = 1 := by kernel_rfl
@[simp] theorem szob12 : szOb Try.prog 12 = 1 := by kernel_rfl
@[simp] theorem szbx12 : szBx Try.prog 12 = 1 := by kernel_rfl
@[simp] theorem agg12 : isAggT Try.prog 12 = false := by kernel_rfl
@[simp] theorem ok12 : okT Try.prog 12 = true := by kernel_rfl
@[simp] theorem oke12 : okE Try.prog 12 = true := by kernel_rfl
@[simp] theorem okz12 : okZ Try.prog 12 = true := by kernel_rfl
@[simp] theorem bytes12 : Program.bytesOf Try.prog 12 = 8 := by kernel_rfl
@[simp] theorem zero12 : zeroT Try.prog 12 = some [M.c (C.v (Value.int IntKind.u64 0))] := by kernel_rfl
@[simp] theorem sz13 : szT Try.prog 13 = 2 := by kernel_rfl
@[simp] theorem szob13 : szOb Try.prog 13 = 2 := by kernel_rfl
@[simp] theorem szbx13 : szBx Try.prog 13 = 2 := by kernel_rfl
@[simp] theorem agg13 : isAggT Try.prog 13 = true := by kernel_rfl
@[simp] theorem ok13 : okT Try.prog 13 = true := by kernel_rfl
@[simp] theorem oke13 : okE Try.prog 13 = true := by kernel_rfl
@[simp] theorem okz13 : okZ Try.prog 13 = true := by kernel_rfl
@[simp] theorem bytes13 : Program.bytesOf Try.prog 13 = 24 := by kernel_rfl
@[simp] theorem zero13 : zeroT Try.prog 13 = some [M.c (C.v (Value.string { data := { toList := [] } })), M.c (C.v (Value.int IntKind.u64 0))] := by kernel_rfl
@[simp] theorem sz14 : szT Try.prog 14 = 2 := by kernel_rfl
@[simp] theorem szob14 : szOb Try.prog 14 = 2 := by kernel_rfl
@[simp] theorem szbx14 : szBx Try.prog 14 = 2 := by kernel_rfl
@[simp] theorem agg14 : isAggT Try.prog 14 = true := by kernel_rfl
@[simp] theorem ok14 : okT Try.prog 14 = true := by kernel_rfl
@[simp] theorem oke14 : okE Try.prog 14 = true := by kernel_rfl
@[simp] theorem okz14 : okZ Try.prog 14 = true := by kernel_rfl
@[simp] theorem bytes14 : Program.bytesOf Try.prog 14 = 24 := by kernel_rfl
@[simp] theorem zero14 : zeroT Try.prog 14 = some [M.c (C.v (Value.string { data := { toList := [] } })), M.c (C.v (Value.int IntKind.u64 0))] := by kernel_rfl
@[simp] theorem sz15 : szT Try.prog 15 = 1 := by kernel_rfl
@[simp] theorem szob15 : szOb Try.prog 15 = 1 := by kernel_rfl
@[simp] theorem szbx15 : szBx Try.prog 15 = 1 := by kernel_rfl
@[simp] theorem agg15 : isAggT Try.prog 15 = false := by kernel_rfl
@[simp] theorem ok15 : okT Try.prog 15 = true := by kernel_rfl
@[simp] theorem oke15 : okE Try.prog 15 = true := by kernel_rfl
@[simp] theorem okz15 : okZ Try.prog 15 = true := by kernel_rfl
@[simp] theorem bytes15 : Program.bytesOf Try.prog 15 = 8 := by kernel_rfl
@[simp] theorem zero15 : zeroT Try.prog 15 = some [M.c (C.v (Value.pointer none))] := by kernel_rfl
@[simp] theorem sz16 : szT Try.prog 16 = 1 := by kernel_rfl
@[simp] theorem szob16 : szOb Try.prog 16 = 1 := by kernel_rfl
@[simp] theorem szbx16 : szBx Try.prog 16 = 1 := by kernel_rfl
@[simp] theorem agg16 : isAggT Try.prog 16 = false := by kernel_rfl
@[simp] theorem ok16 : okT Try.prog 16 = true := by kernel_rfl
@[simp] theorem oke16 : okE Try.prog 16 = true := by kernel_rfl
@[simp] theorem okz16 : okZ Try.prog 16 = true := by kernel_rfl
@[simp] theorem bytes16 : Program.bytesOf Try.prog 16 = 8 := by kernel_rfl
@[simp] theorem zero16 : zeroT Try.prog 16 = some [M.c (C.v (Value.pointer none))] := by kernel_rfl
@[simp] theorem sz17 : szT Try.prog 17 = 1 := by kernel_rfl
@[simp] theorem szob17 : szOb Try.prog 17 = 1 := by kernel_rfl
@[simp] theorem szbx17 : szBx Try.prog 17 = 1 := by kernel_rfl
@[simp] theorem agg17 : isAggT Try.prog 17 = false := by kernel_rfl
@[simp] theorem ok17 : okT Try.prog 17 = true := by kernel_rfl
@[simp] theorem oke17 : okE Try.prog 17 = true := by kernel_rfl
@[simp] theorem okz17 : okZ Try.prog 17 = true := by kernel_rfl
@[simp] theorem bytes17 : Program.bytesOf Try.prog 17 = 8 := by kernel_rfl
@[simp] theorem zero17 : zeroT Try.prog 17 = some [M.c (C.v (Value.pointer none))] := by kernel_rfl
@[simp] theorem sz18 : szT Try.prog 18 = 1 := by kernel_rfl
@[simp] theorem szob18 : szOb Try.prog 18 = 1 := by kernel_rfl
@[simp] theorem szbx18 : szBx Try.prog 18 = 1 := by kernel_rfl
@[simp] theorem agg18 : isAggT Try.prog 18 = true := by kernel_rfl
@[simp] theorem ok18 : okT Try.prog 18 = true := by kernel_rfl
@[simp] theorem oke18 : okE Try.prog 18 = true := by kernel_rfl
@[simp] theorem okz18 : okZ Try.prog 18 = true := by kernel_rfl
@[simp] theorem bytes18 : Program.bytesOf Try.prog 18 = 8 := by kernel_rfl
@[simp] theorem zero18 : zeroT Try.prog 18 = some [M.c (C.v (Value.pointer none))] := by kernel_rfl
@[simp] theorem sz19 : szT Try.prog 19 = 1 := by kernel_rfl
@[simp] theorem szob19 : szOb Try.prog 19 = 1 := by kernel_rfl
@[simp] theorem szbx19 : szBx Try.prog 19 = 1 := by kernel_rfl
@[simp] theorem agg19 : isAggT Try.prog 19 = true := by kernel_rfl
@[simp] theorem ok19 : okT Try.prog 19 = true := by kernel_rfl
@[simp] theorem oke19 : okE Try.prog 19 = true := by kernel_rfl
@[simp] theorem okz19 : okZ Try.prog 19 = true := by kernel_rfl
@[simp] theorem bytes19 : Program.bytesOf Try.prog 19 = 8 := by kernel_rfl
@[simp] theorem zero19 : zeroT Try.prog 19 = some [M.c (C.v (Value.pointer none))] := by kernel_rfl
@[simp] theorem sz20 : szT Try.prog 20 = 1 := by kernel_rfl
@[simp] theorem szob20 : szOb Try.prog 20 = 1 := by kernel_rfl
@[simp] theorem szbx20 : szBx Try.prog 20 = 1 := by kernel_rfl
@[simp] theorem agg20 : isAggT Try.prog 20 = false := by kernel_rfl
@[simp] theorem ok20 : okT Try.prog 20 = true := by kernel_rfl
@[simp] theorem oke20 : okE Try.prog 20 = true := by kernel_rfl
@[simp] theorem okz20 : okZ Try.prog 20 = true := by kernel_rfl
@[simp] theorem bytes20 : Program.bytesOf Try.prog 20 = 16 := by kernel_rfl
@[simp] theorem zero20 : zeroT Try.prog 20 = some [M.c (C.v Value.nilIface)] := by kernel_rfl
@[simp] theorem sz21 : szT Try.prog 21 = 1 := by kernel_rfl
@[simp] theorem szob21 : szOb Try.prog 21 = 1 := by kernel_rfl
@[simp] theorem szbx21 : szBx Try.prog 21 = 1 := by kernel_rfl
@[simp] theorem agg21 : isAggT Try.prog 21 = false := by kernel_rfl
@[simp] theorem ok21 : okT Try.prog 21 = true := by kernel_rfl
@[simp] theorem oke21 : okE Try.prog 21 = true := by kernel_rfl
@[simp] theorem okz21 : okZ Try.prog 21 = true := by kernel_rfl
@[simp] theorem bytes21 : Program.bytesOf Try.prog 21 = 4 := by kernel_rfl
@[simp] theorem zero21 : zeroT Try.prog 21 = some [M.c (C.v (Value.int IntKind.i32 0))] := by kernel_rfl
@[simp] theorem sz22 : szT Try.prog 22 = 1 := by kernel_rfl
@[simp] theorem szob22 : szOb Try.prog 22 = 1 := by kernel_rfl
@[simp] theorem szbx22 : szBx Try.prog 22 = 1 := by kernel_rfl
@[simp] theorem agg22 : isAggT Try.prog 22 = false := by kernel_rfl
@[simp] theorem ok22 : okT Try.prog 22 = true := by kernel_rfl
@[simp] theorem oke22 : okE Try.prog 22 = true := by kernel_rfl
@[simp] theorem okz22 : okZ Try.prog 22 = true := by kernel_rfl
@[simp] theorem bytes22 : Program.bytesOf Try.prog 22 = 24 := by kernel_rfl
@[simp] theorem zero22 : zeroT Try.prog 22 = some [M.c (C.v (Value.slice none 0 0))] := by kernel_rfl
@[simp] theorem sz23 : szT Try.prog 23 = 1 := by kernel_rfl
@[simp] theorem szob23 : szOb Try.prog 23 = 1 := by kernel_rfl
@[simp] theorem szbx23 : szBx Try.prog 23 = 1 := by kernel_rfl
@[simp] theorem agg23 : isAggT Try.prog 23 = false := by kernel_rfl
@[simp] theorem ok23 : okT Try.prog 23 = true := by kernel_rfl
@[simp] theorem oke23 : okE Try.prog 23 = true := by kernel_rfl
@[simp] theorem okz23 : okZ Try.prog 23 = true := by kernel_rfl
@[simp] theorem bytes23 : Program.bytesOf Try.prog 23 = 8 := by kernel_rfl
@[simp] theorem zero23 : zeroT Try.prog 23 = some [M.c (C.v Value.nilFunc)] := by kernel_rfl
@[simp] theorem sz24 : szT Try.prog 24 = 1 := by kernel_rfl
@[simp] theorem szob24 : szOb Try.prog 24 = 1 := by kernel_rfl
@[simp] theorem szbx24 : szBx Try.prog 24 = 1 := by kernel_rfl
@[simp] theorem agg24 : isAggT Try.prog 24 = false := by kernel_rfl
@[simp] theorem ok24 : okT Try.prog 24 = true := by kernel_rfl
@[simp] theorem oke24 : okE Try.prog 24 = true := by kernel_rfl
@[simp] theorem okz24 : okZ Try.prog 24 = true := by kernel_rfl
@[simp] theorem bytes24 : Program.bytesOf Try.prog 24 = 8 := by kernel_rfl
@[simp] theorem zero24 : zeroT Try.prog 24 = some [M.c (C.v Value.nilFunc)] := by kernel_rfl
@[simp] theorem sz25 : szT Try.prog 25 = 1 := by kernel_rfl
@[simp] theorem szob25 : szOb Try.prog 25 = 1 := by kernel_rfl
@[simp] theorem szbx25 : szBx Try.prog 25 = 1 := by kernel_rfl
@[simp] theorem agg25 : isAggT Try.prog 25 = false := by kernel_rfl
@[simp] theorem ok25 : okT Try.prog 25 = true := by kernel_rfl
@[simp] theorem oke25 : okE Try.prog 25 = true := by kernel_rfl
@[simp] theorem okz25 : okZ Try.prog 25 = true := by kernel_rfl
@[simp] theorem bytes25 : Program.bytesOf Try.prog 25 = 8 := by kernel_rfl
@[simp] theorem zero25 : zeroT Try.prog 25 = some [M.c (C.v (Value.pointer none))] := by kernel_rfl
@[simp] theorem sz26 : szT Try.prog 26 = 1 := by kernel_rfl
@[simp] theorem szob26 : szOb Try.prog 26 = 1 := by kernel_rfl
@[simp] theorem szbx26 : szBx Try.prog 26 = 1 := by kernel_rfl
@[simp] theorem agg26 : isAggT Try.prog 26 = false := by kernel_rfl
@[simp] theorem ok26 : okT Try.prog 26 = true := by kernel_rfl
@[simp] theorem oke26 : okE Try.prog 26 = true := by kernel_rfl
@[simp] theorem okz26 : okZ Try.prog 26 = true := by kernel_rfl
@[simp] theorem bytes26 : Program.bytesOf Try.prog 26 = 8 := by kernel_rfl
@[simp] theorem zero26 : zeroT Try.prog 26 = some [M.c (C.v Value.nilFunc)] := by kernel_rfl
@[simp] theorem sz27 : szT Try.prog 27 = 1 := by kernel_rfl
@[simp] theorem szob27 : szOb Try.prog 27 = 1 := by kernel_rfl
@[simp] theorem szbx27 : szBx Try.prog 27 = 1 := by kernel_rfl
@[simp] theorem agg27 : isAggT Try.prog 27 = false := by kernel_rfl
@[simp] theorem ok27 : okT Try.prog 27 = true := by kernel_rfl
@[simp] theorem oke27 : okE Try.prog 27 = true := by kernel_rfl
@[simp] theorem okz27 : okZ Try.prog 27 = true := by kernel_rfl
@[simp] theorem bytes27 : Program.bytesOf Try.prog 27 = 8 := by kernel_rfl
@[simp] theorem zero27 : zeroT Try.prog 27 = some [M.c (C.v (Value.int IntKind.i64 0))] := by kernel_rfl
@[simp] theorem sz28 : szT Try.prog 28 = 1 := by kernel_rfl
@[simp] theorem szob28 : szOb Try.prog 28 = 1 := by kernel_rfl
@[simp] theorem szbx28 : szBx Try.prog 28 = 1 := by kernel_rfl
@[simp] theorem agg28 : isAggT Try.prog 28 = false := by kernel_rfl
@[simp] theorem ok28 : okT Try.prog 28 = true := by kernel_rfl
@[simp] theorem oke28 : okE Try.prog 28 = true := by kernel_rfl
@[simp] theorem okz28 : okZ Try.prog 28 = true := by kernel_rfl
@[simp] theorem bytes28 : Program.bytesOf Try.prog 28 = 0 := by kernel_rfl
@[simp] theorem sz29 : szT Try.prog 29 = 1 := by kernel_rfl
@[simp] theorem szob29 : szOb Try.prog 29 = 1 := by kernel_rfl
@[simp] theorem szbx29 : szBx Try.prog 29 = 1 := by kernel_rfl
@[simp] theorem agg29 : isAggT Try.prog 29 = false := by kernel_rfl
@[simp] theorem ok29 : okT Try.prog 29 = true := by kernel_rfl
@[simp] theorem oke29 : okE Try.prog 29 = true := by kernel_rfl
@[simp] theorem okz29 : okZ Try.prog 29 = true := by kernel_rfl
@[simp] theorem bytes29 : Program.bytesOf Try.prog 29 = 8 := by kernel_rfl
@[simp] theorem zero29 : zeroT Try.prog 29 = some [M.c (C.v Value.nilFunc)] := by kernel_rfl
@[simp] theorem sz30 : szT Try.prog 30 = 1 := by kernel_rfl
@[simp] theorem szob30 : szOb Try.prog 30 = 1 := by kernel_rfl
@[simp] theorem szbx30 : szBx Try.prog 30 = 1 := by kernel_rfl
@[simp] theorem agg30 : isAggT Try.prog 30 = false := by kernel_rfl
@[simp] theorem ok30 : okT Try.prog 30 = true := by kernel_rfl
@[simp] theorem oke30 : okE Try.prog 30 = true := by kernel_rfl
@[simp] theorem okz30 : okZ Try.prog 30 = true := by kernel_rfl
@[simp] theorem bytes30 : Program.bytesOf Try.prog 30 = 8 := by kernel_rfl
@[simp] theorem zero30 : zeroT Try.prog 30 = some [M.c (C.v Value.nilFunc)] := by kernel_rfl
@[simp] theorem sz31 : szT Try.prog 31 = 1 := by kernel_rfl
@[simp] theorem szob31 : szOb Try.prog 31 = 1 := by kernel_rfl
@[simp] theorem szbx31 : szBx Try.prog 31 = 1 := by kernel_rfl
@[simp] theorem agg31 : isAggT Try.prog 31 = false := by kernel_rfl
@[simp] theorem ok31 : okT Try.prog 31 = true := by kernel_rfl
@[simp] theorem oke31 : okE Try.prog 31 = true := by kernel_rfl
@[simp] theorem okz31 : okZ Try.prog 31 = true := by kernel_rfl
@[simp] theorem bytes31 : Program.bytesOf Try.prog 31 = 8 := by kernel_rfl
@[simp] theorem zero31 : zeroT Try.prog 31 = some [M.c (C.v Value.nilFunc)] := by kernel_rfl
@[simp] theorem sz32 : szT Try.prog 32 = 1 := by kernel_rfl
@[simp] theorem szob32 : szOb Try.prog 32 = 1 := by kernel_rfl
@[simp] theorem szbx32 : szBx Try.prog 32 = 1 := by kernel_rfl
@[simp] theorem agg32 : isAggT Try.prog 32 = false := by kernel_rfl
@[simp] theorem ok32 : okT Try.prog 32 = true := by kernel_rfl
@[simp] theorem oke32 : okE Try.prog 32 = true := by kernel_rfl
@[simp] theorem okz32 : okZ Try.prog 32 = true := by kernel_rfl
@[simp] theorem bytes32 : Program.bytesOf Try.prog 32 = 8 := by kernel_rfl
@[simp] theorem zero32 : zeroT Try.prog 32 = some [M.c (C.v Value.nilFunc)] := by kernel_rfl
@[simp] theorem sz33 : szT Try.prog 33 = 1 := by kernel_rfl
@[simp] theorem szob33 : szOb Try.prog 33 = 1 := by kernel_rfl
@[simp] theorem szbx33 : szBx Try.prog 33 = 1 := by kernel_rfl
@[simp] theorem agg33 : isAggT Try.prog 33 = false := by kernel_rfl
@[simp] theorem ok33 : okT Try.prog 33 = true := by kernel_rfl
@[simp] theorem oke33 : okE Try.prog 33 = true := by kernel_rfl
@[simp] theorem okz33 : okZ Try.prog 33 = true := by kernel_rfl
@[simp] theorem bytes33 : Program.bytesOf Try.prog 33 = 8 := by kernel_rfl
@[simp] theorem zero33 : zeroT Try.prog 33 = some [M.c (C.v Value.nilFunc)] := by kernel_rfl
@[simp] theorem sz34 : szT Try.prog 34 = 1 := by kernel_rfl
@[simp] theorem szob34 : szOb Try.prog 34 = 1 := by kernel_rfl
@[simp] theorem szbx34 : szBx Try.prog 34 = 1 := by kernel_rfl
@[simp] theorem agg34 : isAggT Try.prog 34 = false := by kernel_rfl
@[simp] theorem ok34 : okT Try.prog 34 = true := by kernel_rfl
@[simp] theorem oke34 : okE Try.prog 34 = true := by kernel_rfl
@[simp] theorem okz34 : okZ Try.prog 34 = true := by kernel_rfl
@[simp] theorem bytes34 : Program.bytesOf Try.prog 34 = 8 := by kernel_rfl
@[simp] theorem zero34 : zeroT Try.prog 34 = some [M.c (C.v Value.nilFunc)] := by kernel_rfl
@[simp] theorem sz35 : szT Try.prog 35 = 1 := by kernel_rfl
@[simp] theorem szob35 : szOb Try.prog 35 = 1 := by kernel_rfl
@[simp] theorem szbx35 : szBx Try.prog 35 = 1 := by kernel_rfl
@[simp] theorem agg35 : isAggT Try.prog 35 = false := by kernel_rfl
@[simp] theorem ok35 : okT Try.prog 35 = true := by kernel_rfl
@[simp] theorem oke35 : okE Try.prog 35 = true := by kernel_rfl
@[simp] theorem okz35 : okZ Try.prog 35 = true := by kernel_rfl
@[simp] theorem bytes35 : Program.bytesOf Try.prog 35 = 8 := by kernel_rfl
@[simp] theorem zero35 : zeroT Try.prog 35 = some [M.c (C.v Value.nilFunc)] := by kernel_rfl
@[simp] theorem sz36 : szT Try.prog 36 = 1 := by kernel_rfl
@[simp] theorem szob36 : szOb Try.prog 36 = 1 := by kernel_rfl
@[simp] theorem szbx36 : szBx Try.prog 36 = 1 := by kernel_rfl
@[simp] theorem agg36 : isAggT Try.prog 36 = false := by kernel_rfl
@[simp] theorem ok36 : okT Try.prog 36 = true := by kernel_rfl
@[simp] theorem oke36 : okE Try.prog 36 = true := by kernel_rfl
@[simp] theorem okz36 : okZ Try.prog 36 = true := by kernel_rfl
@[simp] theorem bytes36 : Program.bytesOf Try.prog 36 = 8 := by kernel_rfl
@[simp] theorem zero36 : zeroT Try.prog 36 = some [M.c (C.v Value.nilFunc)] := by kernel_rfl
@[simp] theorem sz37 : szT Try.prog 37 = 1 := by kernel_rfl
@[simp] theorem szob37 : szOb Try.prog 37 = 1 := by kernel_rfl
@[simp] theorem szbx37 : szBx Try.prog 37 = 1 := by kernel_rfl
@[simp] theorem agg37 : isAggT Try.prog 37 = false := by kernel_rfl
@[simp] theorem ok37 : okT Try.prog 37 = true := by kernel_rfl
@[simp] theorem oke37 : okE Try.prog 37 = true := by kernel_rfl
@[simp] theorem okz37 : okZ Try.prog 37 = true := by kernel_rfl
@[simp] theorem bytes37 : Program.bytesOf Try.prog 37 = 24 := by kernel_rfl
@[simp] theorem zero37 : zeroT Try.prog 37 = some [M.c (C.v (Value.slice none 0 0))] := by kernel_rfl
@[simp] theorem sz38 : szT Try.prog 38 = 1 := by kernel_rfl
@[simp] theorem szob38 : szOb Try.prog 38 = 1 := by kernel_rfl
@[simp] theorem szbx38 : szBx Try.prog 38 = 1 := by kernel_rfl
@[simp] theorem agg38 : isAggT Try.prog 38 = false := by kernel_rfl
@[simp] theorem ok38 : okT Try.prog 38 = true := by kernel_rfl
@[simp] theorem oke38 : okE Try.prog 38 = true := by kernel_rfl
@[simp] theorem okz38 : okZ Try.prog 38 = true := by kernel_rfl
@[simp] theorem bytes38 : Program.bytesOf Try.prog 38 = 8 := by kernel_rfl
@[simp] theorem zero38 : zeroT Try.prog 38 = some [M.c (C.v (Value.int IntKind.u64 0))] := by kernel_rfl
@[simp] theorem sz39 : szT Try.prog 39 = 1 := by kernel_rfl
@[simp] theorem szob39 : szOb Try.prog 39 = 1 := by kernel_rfl
@[simp] theorem szbx39 : szBx Try.prog 39 = 1 := by kernel_rfl
@[simp] theorem agg39 : isAggT Try.prog 39 = false := by kernel_rfl
@[simp] theorem ok39 : okT Try.prog 39 = true := by kernel_rfl
@[simp] theorem oke39 : okE Try.prog 39 = true := by kernel_rfl
@[simp] theorem okz39 : okZ Try.prog 39 = true := by kernel_rfl
@[simp] theorem bytes39 : Program.bytesOf Try.prog 39 = 8 := by kernel_rfl
@[simp] theorem zero39 : zeroT Try.prog 39 = some [M.c (C.v Value.nilFunc)] := by kernel_rfl
@[simp] theorem sz40 : szT Try.prog 40 = 1 := by kernel_rfl
@[simp] theorem szob40 : szOb Try.prog 40 = 1 := by kernel_rfl
@[simp] theorem szbx40 : szBx Try.prog 40 = 1 := by kernel_rfl
@[simp] theorem agg40 : isAggT Try.prog 40 = false := by kernel_rfl
@[simp] theorem ok40 : okT Try.prog 40 = true := by kernel_rfl
@[simp] theorem oke40 : okE Try.prog 40 = true := by kernel_rfl
@[simp] theorem okz40 : okZ Try.prog 40 = true := by kernel_rfl
@[simp] theorem bytes40 : Program.bytesOf Try.prog 40 = 8 := by kernel_rfl
@[simp] theorem zero40 : zeroT Try.prog 40 = some [M.c (C.v (Value.map none))] := by kernel_rfl
@[simp] theorem sz41 : szT Try.prog 41 = 2 := by kernel_rfl
@[simp] theorem szob41 : szOb Try.prog 41 = 2 := by kernel_rfl
@[simp] theorem szbx41 : szBx Try.prog 41 = 2 := by kernel_rfl
@[simp] theorem agg41 : isAggT Try.prog 41 = true := by kernel_rfl
@[simp] theorem ok41 : okT Try.prog 41 = true := by kernel_rfl
@[simp] theorem oke41 : okE Try.prog 41 = true := by kernel_rfl
@[simp] theorem okz41 : okZ Try.prog 41 = true := by kernel_rfl
@[simp] theorem bytes41 : Program.bytesOf Try.prog 41 = 16 := by kernel_rfl
@[simp] theorem zero41 : zeroT Try.prog 41 = some [M.c (C.v (Value.int IntKind.i64 0)), M.c (C.v (Value.map none))] := by kernel_rfl
@[simp] theorem sz42 : szT Try.prog 42 = 2 := by kernel_rfl
@[simp] theorem szob42 : szOb Try.prog 42 = 2 := by kernel_rfl
@[simp] theorem szbx42 : szBx Try.prog 42 = 2 := by kernel_rfl
@[simp] theorem agg42 : isAggT Try.prog 42 = true := by kernel_rfl
@[simp] theorem ok42 : okT Try.prog 42 = true := by kernel_rfl
@[simp] theorem oke42 : okE Try.prog 42 = true := by kernel_rfl
@[simp] theorem okz42 : okZ Try.prog 42 = true := by kernel_rfl
@[simp] theorem bytes42 : Program.bytesOf Try.prog 42 = 16 := by kernel_rfl
@[simp] theorem zero42 : zeroT Try.prog 42 = some [M.c (C.v (Value.int IntKind.i64 0)), M.c (C.v (Value.map none))] := by kernel_rfl
@[simp] theorem sz43 : szT Try.prog 43 = 1 := by kernel_rfl
@[simp] theorem szob43 : szOb Try.prog 43 = 1 := by kernel_rfl
@[simp] theorem szbx43 : szBx Try.prog 43 = 1 := by kernel_rfl
@[simp] theorem agg43 : isAggT Try.prog 43 = false := by kernel_rfl
@[simp] theorem ok43 : okT Try.prog 43 = true := by kernel_rfl
@[simp] theorem oke43 : okE Try.prog 43 = true := by kernel_rfl
@[simp] theorem okz43 : okZ Try.prog 43 = true := by kernel_rfl
@[simp] theorem bytes43 : Program.bytesOf Try.prog 43 = 4 := by kernel_rfl
@[simp] theorem zero43 : zeroT Try.prog 43 = some [M.c (C.v (Value.int IntKind.u32 0))] := by kernel_rfl
@[simp] theorem sz44 : szT Try.prog 44 = 32 := by kernel_rfl
@[simp] theorem leaves44 : leavesX Try.prog 44 = some (List.replicate 32 0) := by kernel_rfl
@[simp] theorem szob44 : szOb Try.prog 44 = 1 := by kernel_rfl
@[simp] theorem szbx44 : szBx Try.prog 44 = 1 := by kernel_rfl
@[simp] theorem agg44 : isAggT Try.prog 44 = true := by kernel_rfl
@[simp] theorem ok44 : okT Try.prog 44 = true := by kernel_rfl
@[simp] theorem oke44 : okE Try.prog 44 = true := by kernel_rfl
@[simp] theorem okz44 : okZ Try.prog 44 = true := by kernel_rfl
@[simp] theorem bytes44 : Program.bytesOf Try.prog 44 = 32 := by kernel_rfl
@[simp] theorem zero44 : zeroT Try.prog 44 = some (List.replicate 32 (M.c (C.v (Value.int IntKind.u8 0)))) := by kernel_rfl
@[simp] theorem sz45 : szT Try.prog 45 = 32 := by kernel_rfl
@[simp] theorem leaves45 : leavesX Try.prog 45 = some (List.replicate 32 0) := by kernel_rfl
@[simp] theorem szob45 : szOb Try.prog 45 = 1 := by kernel_rfl
@[simp] theorem szbx45 : szBx Try.prog 45 = 1 := by kernel_rfl
@[simp] theorem agg45 : isAggT Try.prog 45 = true := by kernel_rfl
@[simp] theorem ok45 : okT Try.prog 45 = true := by kernel_rfl
@[simp] theorem oke45 : okE Try.prog 45 = true := by kernel_rfl
@[simp] theorem okz45 : okZ Try.prog 45 = true := by kernel_rfl
@[simp] theorem bytes45 : Program.bytesOf Try.prog 45 = 32 := by kernel_rfl
@[simp] theorem zero45 : zeroT Try.prog 45 = some (List.replicate 32 (M.c (C.v (Value.int IntKind.u8 0)))) := by kernel_rfl
@[simp] theorem sz46 : szT Try.prog 46 = 66 := by kernel_rfl
@[simp] theorem leaves46 : leavesX Try.prog 46 = some (List.replicate 66 0) := by kernel_rfl
@[simp] theorem szob46 : szOb Try.prog 46 = 66 := by kernel_rfl
@[simp] theorem szbx46 : szBx Try.prog 46 = 1 := by kernel_rfl
@[simp] theorem agg46 : isAggT Try.prog 46 = true := by kernel_rfl
@[simp] theorem ok46 : okT Try.prog 46 = true := by kernel_rfl
@[simp] theorem oke46 : okE Try.prog 46 = true := by kernel_rfl
@[simp] theorem okz46 : okZ Try.prog 46 = true := by kernel_rfl
@[simp] theorem bytes46 : Program.bytesOf Try.prog 46 = 80 := by kernel_rfl
@[simp] theorem zero46 : zeroT Try.prog 46 = some [M.c (C.v (Value.int IntKind.u32 0)), M.c (C.v (Value.int IntKind.u8 0)), M.c (C.v (Value.int IntKind.u8 0)), M.c (C.v (Value.int IntKind.u8 0)), M.c (C.v (Value.int IntKind.u8 0)), M.c (C.v (Value.int IntKind.u8 0)), M.c (C.v (Value.int IntKind.u8 0)), M.c (C.v (Value.int IntKind.u8 0)), M.c (C.v (Value.int IntKind.u8 0)), M.c (C.v (Value.int IntKind.u8 0)), M.c (C.v (Value.int IntKind.u8 0)), M.c (C.v (Value.int IntKind.u8 0)), M.c (C.v (Value.int IntKind.u8 0)), M.c (C.v (Value.int IntKind.u8 0)), M.c (C.v (Value.int IntKind.u8 0)), M.c (C.v (Value.int IntKind.u8 0)), M.c (C.v (Value.int IntKind.u8 0)), M.c (C.v (Value.int IntKind.u8 0)), M.c (C.v (Value.int IntKind.u8 0)), M.c (C.v (Value.int IntKind.u8 0)), M.c (C.v (Value.int IntKind.u8 0)), M.c (C.v (Value.int IntKind.u8 0)), M.c (C.v (Value.int IntKind.u8 0)), M.c (C.v (Value.int IntKind.u8 0)), M.c (C.v (Value.int IntKind.u8 0)), M.c (C.v (Value.int IntKind.u8 0)), M.c (C.v (Value.int IntKind.u8 0)), M.c (C.v (Value.int IntKind.u8 0)), M.c (C.v (Value.int IntKind.u8 0)), M.c (C.v (Value.int IntKind.u8 0)), M.c (C.v (Value.int IntKind.u8 0)), M.c (C.v (Value.int IntKind.u8 0)), M.c (C.v (Value.int IntKind.u8 0)), M.c (C.v (Value.int IntKind.u8 0)), M.c (C.v (Value.int IntKind.u8 0)), M.c (C.v (Value.int IntKind.u8 0)), M.c (C.v (Value.int IntKind.u8 0)), M.c (C.v (Value.int IntKind.u8 0)), M.c (C.v (Value.int IntKind.u8 0)), M.c (C.v (Value.int IntKind.u8 0)), M.c (C.v (Value.int IntKind.u8 0)), M.c (C.v (Value.int IntKind.u8 0)), M.c (C.v (Value.int IntKind.u8 0)), M.c (C.v (Value.int IntKind.u8 0)), M.c (C.v (Value.int IntKind.u8 0)), M.c (C.v (Value.int IntKind.u8 0)), M.c (C.v (Value.int IntKind.u8 0)), M.c (C.v (Value.int IntKind.u8 0)), M.c (C.v (Value.int IntKind.u8 0)), M.c (C.v (Value.int IntKind.u8 0)), M.c (C.v (Value.int IntKind.u8 0)), M.c (C.v (Value.int IntKind.u8 0)), M.c (C.v (Value.int IntKind.u8 0)), M.c (C.v (Value.int IntKind.u8 0)), M.c (C.v (Value.int IntKind.u8 0)), M.c (C.v (Value.int IntKind.u8 0)), M.c (C.v (Value.int IntKind.u8 0)), M.c (C.v (Value.int IntKind.u8 0)), M.c (C.v (Value.int IntKind.u8 0)), M.c (C.v (Value.int IntKind.u8 0)), M.c (C.v (Value.int IntKind.u8 0)), M.c (C.v (Value.int IntKind.u8 0)), M.c (C.v (Value.int IntKind.u8 0)), M.c (C.v (Value.int IntKind.u8 0)), M.c (C.v (Value.int IntKind.u8 0)), M.c (C.v (Value.int IntKind.u64 0))] := by kernel_rfl
@[simp] theorem sz47 : szT Try.prog 47 = 66 := by kernel_rfl
@[simp] theorem leaves47 : leavesX Try.prog 47 = some (List.replicate 66 0) := by kernel_rfl
@[simp] theorem szob47 : szOb Try.prog 47 = 66 := by kernel_rfl
@[simp] theorem szbx47 : szBx Try.prog 47 = 1 := by kernel_rfl
@[simp] theorem agg47 : isAggT Try.prog 47 = true := by kernel_rfl
@[simp] theorem ok47 : okT Try.prog 47 = true := by kernel_rfl
@[simp] theorem oke47 : okE Try.prog 47 = true := by kernel_rfl
@[simp] theorem okz47 : okZ Try.prog 47 = true := by kernel_rfl
@[simp] theorem bytes47 : Program.bytesOf Try.prog 47 = 80 := by kernel_rfl
@[simp] theorem zero47 : zeroT Try.prog 47 = some [M.c (C.v (Value.int IntKind.u32 0)), M.c (C.v (Value.int IntKind.u8 0)), M.c (C.v (Value.int IntKind.u8 0)), M.c (C.v (Value.int IntKind.u8 0)), M.c (C.v (Value.int IntKind.u8 0)), M.c (C.v (Value.int IntKind.u8 0)), M.c (C.v (Value.int IntKind.u8 0)), M.c (C.v (Value.int IntKind.u8 0)), M.c (C.v (Value.int IntKind.u8 0)), M.c (C.v (Value.int IntKind.u8 0)), M.c (C.v (Value.int IntKind.u8 0)), M.c (C.v (Value.int IntKind.u8 0)), M.c (C.v (Value.int IntKind.u8 0)), M.c (C.v (Value.int IntKind.u8 0)), M.c (C.v (Value.int IntKind.u8 0)), M.c (C.v (Value.int IntKind.u8 0)), M.c (C.v (Value.int IntKind.u8 0)), M.c (C.v (Value.int IntKind.u8 0)), M.c (C.v (Value.int IntKind.u8 0)), M.c (C.v (Value.int IntKind.u8 0)), M.c (C.v (Value.int IntKind.u8 0)), M.c (C.v (Value.int IntKind.u8 0)), M.c (C.v (Value.int IntKind.u8 0)), M.c (C.v (Value.int IntKind.u8 0)), M.c (C.v (Value.int IntKind.u8 0)), M.c (C.v (Value.int IntKind.u8 0)), M.c (C.v (Value.int IntKind.u8 0)), M.c (C.v (Value.int IntKind.u8 0)), M.c (C.v (Value.int IntKind.u8 0)), M.c (C.v (Value.int IntKind.u8 0)), M.c (C.v (Value.int IntKind.u8 0)), M.c (C.v (Value.int IntKind.u8 0)), M.c (C.v (Value.int IntKind.u8 0)), M.c (C.v (Value.int IntKind.u8 0)), M.c (C.v (Value.int IntKind.u8 0)), M.c (C.v (Value.int IntKind.u8 0)), M.c (C.v (Value.int IntKind.u8 0)), M.c (C.v (Value.int IntKind.u8 0)), M.c (C.v (Value.int IntKind.u8 0)), M.c (C.v (Value.int IntKind.u8 0)), M.c (C.v (Value.int IntKind.u8 0)), M.c (C.v (Value.int IntKind.u8 0)), M.c (C.v (Value.int IntKind.u8 0)), M.c (C.v (Value.int IntKind.u8 0)), M.c (C.v (Value.int IntKind.u8 0)), M.c (C.v (Value.int IntKind.u8 0)), M.c (C.v (Value.int IntKind.u8 0)), M.c (C.v (Value.int IntKind.u8 0)), M.c (C.v (Value.int IntKind.u8 0)), M.c (C.v (Value.int IntKind.u8 0)), M.c (C.v (Value.int IntKind.u8 0)), M.c (C.v (Value.int IntKind.u8 0)), M.c (C.v (Value.int IntKind.u8 0)), M.c (C.v (Value.int IntKind.u8 0)), M.c (C.v (Value.int IntKind.u8 0)), M.c (C.v (Value.int IntKind.u8 0)), M.c (C.v (Value.int IntKind.u8 0)), M.c (C.v (Value.int IntKind.u8 0)), M.c (C.v (Value.int IntKind.u8 0)), M.c (C.v (Value.int IntKind.u8 0)), M.c (C.v (Value.int IntKind.u8 0)), M.c (C.v (Value.int IntKind.u8 0)), M.c (C.v (Value.int IntKind.u8 0)), M.c (C.v (Value.int IntKind.u8 0)), M.c (C.v (Value.int IntKind.u8 0)), M.c (C.v (Value.int IntKind.u64 0))] := by kernel_rfl
@[simp] theorem sz48 : szT Try.prog 48 = 104 := by kernel_rfl
@[simp] theorem leaves48 : leavesX Try.prog 48 = some (List.replicate 104 0) := by kernel_rfl
@[simp] theorem szob48 : szOb Try.prog 48 = 104 := by kernel_rfl
@[simp] theorem szbx48 : szBx Try.prog 48 = 1 := by kernel_rfl
@[simp] theorem agg48 : isAggT Try.prog 48 = true := by kernel_rfl
@[simp] theorem ok48 : okT Try.prog 48 = true := by kernel_rfl
@[simp] theorem oke48 : okE Try.prog 48 = true := by kernel_rfl
@[simp] theorem okz48 : okZ Try.prog 48 = true := by kernel_rfl
@[simp] theorem bytes48 : Program.bytesOf Try.prog 48 = 160 := by kernel_rfl
@[simp] theorem zero48 : zeroT Try.prog 48 = some [M.c (C.v (Value.int IntKind.u32 0)), M.c (C.v (Value.int IntKind.u8 0)), M.c (C.v (Value.int IntKind.u8 0)), M.c (C.v (Value.int IntKind.u8 0)), M.c (C.v (Value.int IntKind.u8 0)), M.c (C.v (Value.int IntKind.u8 0)), M.c (C.v (Value.int IntKind.u8 0)), M.c (C.v (Value.int IntKind.u8 0)), M.c (C.v (Value.int IntKind.u8 0)), M.c (C.v (Value.int IntKind.u8 0)), M.c (C.v (Value.int IntKind.u8 0)), M.c (C.v (Value.int IntKind.u8 0)), M.c (C.v (Value.int IntKind.u8 0)), M.c (C.v (Value.int IntKind.u8 0)), M.c (C.v (Value.int IntKind.u8 0)), M.c (C.v (Value.int IntKind.u8 0)), M.c (C.v (Value.int IntKind.u8 0)), M.c (C.v (Value.int IntKind.u8 0)), M.c (C.v (Value.int IntKind.u8 0)), M.c (C.v (Value.int IntKind.u8 0)), M.c (C.v (Value.int IntKind.u8 0)), M.c (C.v (Value.int IntKind.u8 0)), M.c (C.v (Value.int IntKind.u8 0)), M.c (C.v (Value.int IntKind.u8 0)), M.c (C.v (Value.int IntKind.u8 0)), M.c (C.v (Value.int IntKind.u8 0)), M.c (C.v (Value.int IntKind.u8 0)), M.c (C.v (Value.int IntKind.u8 0)), M.c (C.v (Value.int IntKind.u8 0)), M.c (C.v (Value.int IntKind.u8 0)), M.c (C.v (Value.int IntKind.u8 0)), M.c (C.v (Value.int IntKind.u8 0)), M.c (C.v (Value.int IntKind.u8 0)), M.c (C.v (Value.int IntKind.u8 0)), M.c (C.v (Value.int IntKind.u8 0)), M.c (C.v (Value.int IntKind.u8 0)), M.c (C.v (Value.int IntKind.u8 0)), M.c (C.v (Value.int IntKind.u8 0)), M.c (C.v (Value.int IntKind.u8 0)), M.c (C.v (Value.int IntKind.u8 0)), M.c (C.v (Value.int IntKind.u8 0)), M.c (C.v (Value.int IntKind.u8 0)), M.c (C.v (Value.int IntKind.u8 0)), M.c (C.v (Value.int IntKind.u8 0)), M.c (C.v (Value.int IntKind.u8 0)), M.c (C.v (Value.int IntKind.u8 0)), M.c (C.v (Value.int IntKind.u8 0)), M.c (C.v (Value.int IntKind.u8 0)), M.c (C.v (Value.int IntKind.u8 0)), M.c (C.v (Value.int IntKind.u8 0)), M.c (C.v (Value.int IntKind.u8 0)), M.c (C.v (Value.int IntKind.u8 0)), M.c (C.v (Value.int IntKind.u8 0)), M.c (C.v (Value.int IntKind.u8 0)), M.c (C.v (Value.int IntKind.u8 0)), M.c (C.v (Value.int IntKind.u8 0)), M.c (C.v (Value.int IntKind.u8 0)), M.c (C.v (Value.int IntKind.u8 0)), M.c (C.v (Value.int IntKind.u8 0)), M.c (C.v (Value.int IntKind.u8 0)), M.c (C.v (Value.int IntKind.u8 0)), M.c (C.v (Value.int IntKind.u8 0)), M.c (C.v (Value.int IntKind.u8 0)), M.c (C.v (Value.int IntKind.u8 0)), M.c (C.v (Value.int IntKind.u8 0)), M.c (C.v (Value.int IntKind.u64 0)), M.c (C.v (Value.int IntKind.u8 0)), M.c (C.v (Value.int IntKind.u8 0)), M.c (C.v (Value.int IntKind.u8 0)), M.c (C.v (Value.int IntKind.u8 0)), M.c (C.v (Value.int IntKind.u8 0)), M.c (C.v (Value.int IntKind.u8 0)), M.c (C.v (Value.int IntKind.u8 0)), M.c (C.v (Value.int IntKind.u8 0)), M.c (C.v (Value.int IntKind.u8 0)), M.c (C.v (Value.int IntKind.u8 0)), M.c (C.v (Value.int IntKind.u8 0)), M.c (C.v (Value.int IntKind.u8 0)), M.c (C.v (Value.int IntKind.u8 0)), M.c (C.v (Value.int IntKind.u8 0)), M.c (C.v (Value.int IntKind.u8 0)), M.c (C.v (Value.int IntKind.u8 0)), M.c (C.v (Value.int IntKind.u8 0)), M.c (C.v (Value.int IntKind.u8 0)), M.c (C.v (Value.int IntKind.u8 0)), M.c (C.v (Value.int IntKind.u8 0)), M.c (C.v (Value.int IntKind.u8 0)), M.c (C.v (Value.int IntKind.u8 0)), M.c (C.v (Value.int IntKind.u8 0)), M.c (C.v (Value.int IntKind.u8 0)), M.c (C.v (Value.int IntKind.u8 0)), M.c (C.v (Value.int IntKind.u8 0)), M.c (C.v (Value.int IntKind.u8 0)), M.c (C.v (Value.int IntKind.u8 0)), M.c (C.v (Value.int IntKind.u8 0)), M.c (C.v (Value.int IntKind.u8 0)), M.c (C.v (Value.int IntKind.u8 0)), M.c (C.v (Value.int IntKind.u8 0)), M.c (C.v (Value.int IntKind.i64 0)), M.c (C.v (Value.int IntKind.i64 0)), M.c (C.v (Value.int IntKind.i64 0)), M.c (C.v (Value.int IntKind.i64 0)), M.c (C.v (Value.int IntKind.i64 0)), M.c (C.v (Value.int IntKind.i64 0))] := by kernel_rfl
@[simp] theorem sz49 : szT Try.prog 49 = 104 := by kernel_rfl
@[simp] theorem leaves49 : leavesX Try.prog 49 = some (List.replicate 104 0) := by kernel_rfl
@[simp] theorem szob49 : szOb Try.prog 49 = 104 := by kernel_rfl
@[simp] theorem szbx49 : szBx Try.prog 49 = 1 := by kernel_rfl
@[simp] theorem agg49 : isAggT Try.prog 49 = true := by kernel_rfl
@[simp] theorem ok49 : okT Try.prog 49 = true := by kernel_rfl
@[simp] theorem oke49 : okE Try.prog 49 = true := by kernel_rfl
@[simp] theorem okz49 : okZ Try.prog 49 = true := by kernel_rfl
@[simp] theorem bytes49 : Program.bytesOf Try.prog 49 = 160 := by kernel_rfl
@[simp] theorem zero49 : zeroT Try.prog 49 = some [M.c (C.v (Value.int IntKind.u32 0)), M.c (C.v (Value.int IntKind.u8 0)), M.c (C.v (Value.int IntKind.u8 0)), M.c (C.v (Value.int IntKind.u8 0)), M.c (C.v (Value.int IntKind.u8 0)), M.c (C.v (Value.int IntKind.u8 0)), M.c (C.v (Value.int IntKind.u8 0)), M.c (C.v (Value.int IntKind.u8 0)), M.c (C.v (Value.int IntKind.u8 0)), M.c (C.v (Value.int IntKind.u8 0)), M.c (C.v (Value.int IntKind.u8 0)), M.c (C.v (Value.int IntKind.u8 0)), M.c (C.v (Value.int IntKind.u8 0)), M.c (C.v (Value.int IntKind.u8 0)), M.c (C.v (Value.int IntKind.u8 0)), M.c (C.v (Value.int IntKind.u8 0)), M.c (C.v (Value.int IntKind.u8 0)), M.c (C.v (Value.int IntKind.u8 0)), M.c (C.v (Value.int IntKind.u8 0)), M.c (C.v (Value.int IntKind.u8 0)), M.c (C.v (Value.int IntKind.u8 0)), M.c (C.v (Value.int IntKind.u8 0)), M.c (C.v (Value.int IntKind.u8 0)), M.c (C.v (Value.int IntKind.u8 0)), M.c (C.v (Value.int IntKind.u8 0)), M.c (C.v (Value.int IntKind.u8 0)), M.c (C.v (Value.int IntKind.u8 0)), M.c (C.v (Value.int IntKind.u8 0)), M.c (C.v (Value.int IntKind.u8 0)), M.c (C.v (Value.int IntKind.u8 0)), M.c (C.v (Value.int IntKind.u8 0)), M.c (C.v (Value.int IntKind.u8 0)), M.c (C.v (Value.int IntKind.u8 0)), M.c (C.v (Value.int IntKind.u8 0)), M.c (C.v (Value.int IntKind.u8 0)), M.c (C.v (Value.int IntKind.u8 0)), M.c (C.v (Value.int IntKind.u8 0)), M.c (C.v (Value.int IntKind.u8 0)), M.c (C.v (Value.int IntKind.u8 0)), M.c (C.v (Value.int IntKind.u8 0)), M.c (C.v (Value.int IntKind.u8 0)), M.c (C.v (Value.int IntKind.u8 0)), M.c (C.v (Value.int IntKind.u8 0)), M.c (C.v (Value.int IntKind.u8 0)), M.c (C.v (Value.int IntKind.u8 0)), M.c (C.v (Value.int IntKind.u8 0)), M.c (C.v (Value.int IntKind.u8 0)), M.c (C.v (Value.int IntKind.u8 0)), M.c (C.v (Value.int IntKind.u8 0)), M.c (C.v (Value.int IntKind.u8 0)), M.c (C.v (Value.int IntKind.u8 0)), M.c (C.v (Value.int IntKind.u8 0)), M.c (C.v (Value.int IntKind.u8 0)), M.c (C.v (Value.int IntKind.u8 0)), M.c (C.v (Value.int IntKind.u8 0)), M.c (C.v (Value.int IntKind.u8 0)), M.c (C.v (Value.int IntKind.u8 0)), M.c (C.v (Value.int IntKind.u8 0)), M.c (C.v (Value.int IntKind.u8 0)), M.c (C.v (Value.int IntKind.u8 0)), M.c (C.v (Value.int IntKind.u8 0)), M.c (C.v (Value.int IntKind.u8 0)), M.c (C.v (Value.int IntKind.u8 0)), M.c (C.v (Value.int IntKind.u8 0)), M.c (C.v (Value.int IntKind.u8 0)), M.c (C.v (Value.int IntKind.u64 0)), M.c (C.v (Value.int IntKind.u8 0)), M.c (C.v (Value.int IntKind.u8 0)), M.c (C.v (Value.int IntKind.u8 0)), M.c (C.v (Value.int IntKind.u8 0)), M.c (C.v (Value.int IntKind.u8 0)), M.c (C.v (Value.int IntKind.u8 0)), M.c (C.v (Value.int IntKind.u8 0)), M.c (C.v (Value.int IntKind.u8 0)), M.c (C.v (Value.int IntKind.u8 0)), M.c (C.v (Value.int IntKind.u8 0)), M.c (C.v (Value.int IntKind.u8 0)), M.c (C.v (Value.int IntKind.u8 0)), M.c (C.v (Value.int IntKind.u8 0)), M.c (C.v (Value.int IntKind.u8 0)), M.c (C.v (Value.int IntKind.u8 0)), M.c (C.v (Value.int IntKind.u8 0)), M.c (C.v (Value.int IntKind.u8 0)), M.c (C.v (Value.int IntKind.u8 0)), M.c (C.v (Value.int IntKind.u8 0)), M.c (C.v (Value.int IntKind.u8 0)), M.c (C.v (Value.int IntKind.u8 0)), M.c (C.v (Value.int IntKind.u8 0)), M.c (C.v (Value.int IntKind.u8 0)), M.c (C.v (Value.int IntKind.u8 0)), M.c (C.v (Value.int IntKind.u8 0)), M.c (C.v (Value.int IntKind.u8 0)), M.c (C.v (Value.int IntKind.u8 0)), M.c (C.v (Value.int IntKind.u8 0)), M.c (C.v (Value.int IntKind.u8 0)), M.c (C.v (Value.int IntKind.u8 0)), M.c (C.v (Value.int IntKind.u8 0)), M.c (C.v (Value.int IntKind.u8 0)), M.c (C.v (Value.int IntKind.i64 0)), M.c (C.v (Value.int IntKind.i64 0)), M.c (C.v (Value.int IntKind.i64 0)), M.c (C.v (Value.int IntKind.i64 0)), M.c (C.v (Value.int IntKind.i64 0)), M.c (C.v (Value.int IntKind.i64 0))] := by kernel_rfl
@[simp] theorem sz50 : szT Try.prog 50 = 1 := by kernel_rfl
@[simp] theorem szob50 : szOb Try.prog 50 = 1 := by kernel_rfl
@[simp] theorem szbx50 : szBx Try.prog 50 = 1 := by kernel_rfl
@[simp] theorem agg50 : isAggT Try.prog 50 = false := by kernel_rfl
@[simp] theorem ok50 : okT Try.prog 50 = true := by kernel_rfl
@[simp] theorem oke50 : okE Try.prog 50 = true := by kernel_rfl
@[simp] theorem okz50 : okZ Try.prog 50 = true := by kernel_rfl
@[simp] theorem bytes50 : Program.bytesOf Try.prog 50 = 0 := by kernel_rfl
@[simp] theorem sz51 : szT Try.prog 51 = 1 := by kernel_rfl
@[simp] theorem szob51 : szOb Try.prog 51 = 1 := by kernel_rfl
@[simp] theorem szbx51 : szBx Try.prog 51 = 1 := by kernel_rfl
@[simp] theorem agg51 : isAggT Try.prog 51 = false := by kernel_rfl
@[simp] theorem ok51 : okT Try.prog 51 = true := by kernel_rfl
@[simp] theorem oke51 : okE Try.prog 51 = true := by kernel_rfl
@[simp] theorem okz51 : okZ Try.prog 51 = true := by kernel_rfl
@[simp] theorem bytes51 : Program.bytesOf Try.prog 51 = 8 := by kernel_rfl
@[simp] theorem zero51 : zeroT Try.prog 51 = some [M.c (C.v Value.nilFunc)] := by kernel_rfl
@[simp] theorem sz52 : szT Try.prog 52 = 1 := by kernel_rfl
@[simp] theorem szob52 : szOb Try.prog 52 = 1 := by kernel_rfl
@[simp] theorem szbx52 : szBx Try.prog 52 = 1 := by kernel_rfl
@[simp] theorem agg52 : isAggT Try.prog 52 = false := by kernel_rfl
@[simp] theorem ok52 : okT Try.prog 52 = true := by kernel_rfl
@[simp] theorem oke52 : okE Try.prog 52 = true := by kernel_rfl
@[simp] theorem okz52 : okZ Try.prog 52 = true := by kernel_rfl
@[simp] theorem bytes52 : Program.bytesOf Try.prog 52 = 0 := by kernel_rfl
@[simp] theorem sz53 : szT Try.prog 53 = 1 := by kernel_rfl
@[simp] theorem szob53 : szOb Try.prog 53 = 1 := by kernel_rfl
@[simp] theorem szbx53 : szBx Try.prog 53 = 1 := by kernel_rfl
@[simp] theorem agg53 : isAggT Try.prog 53 = false := by kernel_rfl
@[simp] theorem ok53 : okT Try.prog 53 = true := by kernel_rfl
@[simp] theorem oke53 : okE Try.prog 53 = true := by kernel_rfl
@[simp] theorem okz53 : okZ Try.prog 53 = true := by kernel_rfl
@[simp] theorem bytes53 : Program.bytesOf Try.prog 53 = 8 := by kernel_rfl
@[simp] theorem zero53 : zeroT Try.prog 53 = some [M.c (C.v Value.nilFunc)] := by kernel_rfl
@[simp] theorem sz54 : szT Try.prog 54 = 1 := by kernel_rfl
@[simp] theorem szob54 : szOb Try.prog 54 = 1 := by kernel_rfl
@[simp] theorem szbx54 : szBx Try.prog 54 = 1 := by kernel_rfl
@[simp] theorem agg54 : isAggT Try.prog 54 = false := by kernel_rfl
@[simp] theorem ok54 : okT Try.prog 54 = true := by kernel_rfl
@[simp] theorem oke54 : okE Try.prog 54 = true := by kernel_rfl
@[simp] theorem okz54 : okZ Try.prog 54 = true := by kernel_rfl
@[simp] theorem bytes54 : Program.bytesOf Try.prog 54 = 8 := by kernel_rfl
@[simp] theorem zero54 : zeroT Try.prog 54 = some [M.c (C.v Value.nilFunc)] := by kernel_rfl
@[simp] theorem sz55 : szT Try.prog 55 = 1 := by kernel_rfl
@[simp] theorem szob55 : szOb Try.prog 55 = 1 := by kernel_rfl
@[simp] theorem szbx55 : szBx Try.prog 55 = 1 := by kernel_rfl
@[simp] theorem agg55 : isAggT Try.prog 55 = false := by kernel_rfl
@[simp] theorem ok55 : okT Try.prog 55 = true := by kernel_rfl
@[simp] theorem oke55 : okE Try.prog 55 = true := by kernel_rfl
@[simp] theorem okz55 : okZ Try.prog 55 = true := by kernel_rfl
@[simp] theorem bytes55 : Program.bytesOf Try.prog 55 = 8 := by kernel_rfl
@[simp] theorem zero55 : zeroT Try.prog 55 = some [M.c (C.v Value.nilFunc)] := by kernel_rfl
@[simp] theorem sz56 : szT Try.prog 56 = 1 := by kernel_rfl
@[simp] theorem szob56 : szOb Try.prog 56 = 1 := by kernel_rfl
@[simp] theorem szbx56 : szBx Try.prog 56 = 1 := by kernel_rfl
@[simp] theorem agg56 : isAggT Try.prog 56 = false := by kernel_rfl
@[simp] theorem ok56 : okT Try.prog 56 = true := by kernel_rfl
@[simp] theorem oke56 : okE Try.prog 56 = true := by kernel_rfl
@[simp] theorem okz56 : okZ Try.prog 56 = true := by kernel_rfl
@[simp] theorem bytes56 : Program.bytesOf Try.prog 56 = 8 := by kernel_rfl
@[simp] theorem zero56 : zeroT Try.prog 56 = some [M.c (C.v Value.nilFunc)] := by kernel_rfl
@[simp] theorem sz57 : szT Try.prog 57 = 1 := by kernel_rfl
@[simp] theorem szob57 : szOb Try.prog 57 = 1 := by kernel_rfl
@[simp] theorem szbx57 : szBx Try.prog 57 = 1 := by kernel_rfl
@[simp] theorem agg57 : isAggT Try.prog 57 = false := by kernel_rfl
@[simp] theorem ok57 : okT Try.prog 57 = true := by kernel_rfl
@[simp] theorem oke57 : okE Try.prog 57 = true := by kernel_rfl
@[simp] theorem okz57 : okZ Try.prog 57 = true := by kernel_rfl
@[simp] theorem bytes57 : Program.bytesOf Try.prog 57 = 0 := by kernel_rfl
@[simp] theorem sz58 : szT Try.prog 58 = 1 := by kernel_rfl
@[simp] theorem szob58 : szOb Try.prog 58 = 1 := by kernel_rfl
@[simp] theorem szbx58 : szBx Try.prog 58 = 1 := by kernel_rfl
@[simp] theorem agg58 : isAggT Try.prog 58 = false := by kernel_rfl
@[simp] theorem ok58 : okT Try.prog 58 = true := by kernel_rfl
@[simp] theorem oke58 : okE Try.prog 58 = true := by kernel_rfl
@[simp] theorem okz58 : okZ Try.prog 58 = true := by kernel_rfl
@[simp] theorem bytes58 : Program.bytesOf Try.prog 58 = 8 := by kernel_rfl
@[simp] theorem zero58 : zeroT Try.prog 58 = some [M.c (C.v Value.nilFunc)] := by kernel_rfl
@[simp] theorem sz59 : szT Try.prog 59 = 1 := by kernel_rfl
@[simp] theorem szob59 : szOb Try.prog 59 = 1 := by kernel_rfl
@[simp] theorem szbx59 : szBx Try.prog 59 = 1 := by kernel_rfl
@[simp] theorem agg59 : isAggT Try.prog 59 = false := by kernel_rfl
@[simp] theorem ok59 : okT Try.prog 59 = true := by kernel_rfl
@[simp] theorem oke59 : okE Try.prog 59 = true := by kernel_rfl
@[simp] theorem okz59 : okZ Try.prog 59 = true := by kernel_rfl
@[simp] theorem bytes59 : Program.bytesOf Try.prog 59 = 8 := by kernel_rfl
@[simp] theorem zero59 : zeroT Try.prog 59 = some [M.c (C.v (Value.pointer none))] := by kernel_rfl
@[simp] theorem sz60 : szT Try.prog 60 = 1 := by kernel_rfl
@[simp] theorem szob60 : szOb Try.prog 60 = 1 := by kernel_rfl
@[simp] theorem szbx60 : szBx Try.prog 60 = 1 := by kernel_rfl
@[simp] theorem agg60 : isAggT Try.prog 60 = false := by kernel_rfl
@[simp] theorem ok60 : okT Try.prog 60 = true := by kernel_rfl
@[simp] theorem oke60 : okE Try.prog 60 = true := by kernel_rfl
@[simp] theorem okz60 : okZ Try.prog 60 = true := by kernel_rfl
@[simp] theorem bytes60 : Program.bytesOf Try.prog 60 = 8 := by kernel_rfl
@[simp] theorem zero60 : zeroT Try.prog 60 = some [M.c (C.v Value.nilFunc)] := by kernel_rfl
@[simp] theorem sz61 : szT Try.prog 61 = 1 := by kernel_rfl
@[simp] theorem szob61 : szOb Try.prog 61 = 1 := by kernel_rfl
@[simp] theorem szbx61 : szBx Try.prog 61 = 1 := by kernel_rfl
@[simp] theorem agg61 : isAggT Try.prog 61 = false := by kernel_rfl
@[simp] theorem ok61 : okT Try.prog 61 = true := by kernel_rfl
@[simp] theorem oke61 : okE Try.prog 61 = true := by kernel_rfl
@[simp] theorem okz61 : okZ Try.prog 61 = true := by kernel_rfl
@[simp] theorem bytes61 : Program.bytesOf Try.prog 61 = 8 := by kernel_rfl
@[simp] theorem zero61 : zeroT Try.prog 61 = some [M.c (C.v Value.nilFunc)] := by kernel_rfl
@[simp] theorem sz62 : szT Try.prog 62 = 1 := by kernel_rfl
@[simp] theorem szob62 : szOb Try.prog 62 = 1 := by kernel_rfl
@[simp] theorem szbx62 : szBx Try.prog 62 = 1 := by kernel_rfl
@[simp] theorem agg62 : isAggT Try.prog 62 = false := by kernel_rfl
@[simp] theorem ok62 : okT Try.prog 62 = true := by kernel_rfl
@[simp] theorem oke62 : okE Try.prog 62 = true := by kernel_rfl
@[simp] theorem okz62 : okZ Try.prog 62 = true := by kernel_rfl
@[simp] theorem bytes62 : Program.bytesOf Try.prog 62 = 8 := by kernel_rfl
@[simp] theorem zero62 : zeroT Try.prog 62 = some [M.c (C.v Value.nilFunc)] := by kernel_rfl
@[simp] theorem sz63 : szT Try.prog 63 = 1 := by kernel_rfl
@[simp] theorem szob63 : szOb Try.prog 63 = 1 := by kernel_rfl
@[simp] theorem szbx63 : szBx Try.prog 63 = 1 := by kernel_rfl
@[simp] theorem agg63 : isAggT Try.prog 63 = false := by kernel_rfl
@[simp] theorem ok63 : okT Try.prog 63 = true := by kernel_rfl
@[simp] theorem oke63 : okE Try.prog 63 = true := by kernel_rfl
@[simp] theorem okz63 : okZ Try.prog 63 = true := by kernel_rfl
@[simp] theorem bytes63 : Program.bytesOf Try.prog 63 = 8 := by kernel_rfl
@[simp] theorem zero63 : zeroT Try.prog 63 = some [M.c (C.v Value.nilFunc)] := by kernel_rfl
@[simp] theorem sz64 : szT Try.prog 64 = 1 := by kernel_rfl
@[simp] theorem szob64 : szOb Try.prog 64 = 1 := by kernel_rfl
@[simp] theorem szbx64 : szBx Try.prog 64 = 1 := by kernel_rfl
@[simp] theorem agg64 : isAggT Try.prog 64 = false := by kernel_rfl
@[simp] theorem ok64 : okT Try.prog 64 = true := by kernel_rfl
@[simp] theorem oke64 : okE Try.prog 64 = true := by kernel_rfl
@[simp] theorem okz64 : okZ Try.prog 64 = true := by kernel_rfl
@[simp] theorem bytes64 : Program.bytesOf Try.prog 64 = 24 := by kernel_rfl
@[simp] theorem zero64 : zeroT Try.prog 64 = some [M.c (C.v (Value.slice none 0 0))] := by kernel_rfl
@[simp] theorem sz65 : szT Try.prog 65 = 1 := by kernel_rfl
@[simp] theorem szob65 : szOb Try.prog 65 = 1 := by kernel_rfl
@[simp] theorem szbx65 : szBx Try.prog 65 = 1 := by kernel_rfl
@[simp] theorem agg65 : isAggT Try.prog 65 = false := by kernel_rfl
@[simp] theorem ok65 : okT Try.prog 65 = true := by kernel_rfl
@[simp] theorem oke65 : okE Try.prog 65 = true := by kernel_rfl
@[simp] theorem okz65 : okZ Try.prog 65 = true := by kernel_rfl
@[simp] theorem bytes65 : Program.bytesOf Try.prog 65 = 8 := by kernel_rfl
@[simp] theorem zero65 : zeroT Try.prog 65 = some [M.c (C.v Value.nilFunc)] := by kernel_rfl
@[simp] theorem sz66 : szT Try.prog 66 = 1 := by kernel_rfl
@[simp] theorem szob66 : szOb Try.prog 66 = 1 := by kernel_rfl
@[simp] theorem szbx66 : szBx Try.prog 66 = 1 := by kernel_rfl
@[simp] theorem agg66 : isAggT Try.prog 66 = false := by kernel_rfl
@[simp] theorem ok66 : okT Try.prog 66 = true := by kernel_rfl
@[simp] theorem oke66 : okE Try.prog 66 = true := by kernel_rfl
@[simp] theorem okz66 : okZ Try.prog 66 = true := by kernel_rfl
@[simp] theorem bytes66 : Program.bytesOf Try.prog 66 = 8 := by kernel_rfl
@[simp] theorem zero66 : zeroT Try.prog 66 = some [M.c (C.v (Value.pointer none))] := by kernel_rfl
@[simp] theorem sz67 : szT Try.prog 67 = 1 := by kernel_rfl
@[simp] theorem szob67 : szOb Try.prog 67 = 1 := by kernel_rfl
@[simp] theorem szbx67 : szBx Try.prog 67 = 1 := by kernel_rfl
@[simp] theorem agg67 : isAggT Try.prog 67 = false := by kernel_rfl
@[simp] theorem ok67 : okT Try.prog 67 = true := by kernel_rfl
@[simp] theorem oke67 : okE Try.prog 67 = true := by kernel_rfl
@[simp] theorem okz67 : okZ Try.prog 67 = true := by kernel_rfl
@[simp] theorem bytes67 : Program.bytesOf Try.prog 67 = 8 := by kernel_rfl
@[simp] theorem zero67 : zeroT Try.prog 67 = some [M.c (C.v (Value.pointer none))] := by kernel_rfl
@[simp] theorem sz68 : szT Try.prog 68 = 1 := by kernel_rfl
@[simp] theorem szob68 : szOb Try.prog 68 = 1 := by kernel_rfl
@[simp] theorem szbx68 : szBx Try.prog 68 = 1 := by kernel_rfl
@[simp] theorem agg68 : isAggT Try.prog 68 = false := by kernel_rfl
@[simp] theorem ok68 : okT Try.prog 68 = true := by kernel_rfl
@[simp] theorem oke68 : okE Try.prog 68 = true := by kernel_rfl
@[simp] theorem okz68 : okZ Try.prog 68 = true := by kernel_rfl
@[simp] theorem bytes68 : Program.bytesOf Try.prog 68 = 8 := by kernel_rfl
@[simp] theorem zero68 : zeroT Try.prog 68 = some [M.c (C.v Value.nilFunc)] := by kernel_rfl
@[simp] theorem sz69 : szT Try.prog 69 = 1 := by kernel_rfl
@[simp] theorem szob69 : szOb Try.prog 69 = 1 := by kernel_rfl
@[simp] theorem szbx69 : szBx Try.prog 69 = 1 := by kernel_rfl
@[simp] theorem agg69 : isAggT Try.prog 69 = false := by kernel_rfl
@[simp] theorem ok69 : okT Try.prog 69 = true := by kernel_rfl
@[simp] theorem oke69 : okE Try.prog 69 = true := by kernel_rfl
@[simp] theorem okz69 : okZ Try.prog 69 = true := by kernel_rfl
@[simp] theorem bytes69 : Program.bytesOf Try.prog 69 = 8 := by kernel_rfl
@[simp] theorem zero69 : zeroT Try.prog 69 = some [M.c (C.v Value.nilFunc)] := by kernel_rfl
@[simp] theorem sz70 : szT Try.prog 70 = 1 := by kernel_rfl
@[simp] theorem szob70 : szOb Try.prog 70 = 1 := by kernel_rfl
@[simp] theorem szbx70 : szBx Try.prog 70 = 1 := by kernel_rfl
@[simp] theorem agg70 : isAggT Try.prog 70 = false := by kernel_rfl
@[simp] theorem ok70 : okT Try.prog 70 = true := by kernel_rfl
@[simp] theorem oke70 : okE Try.prog 70 = true := by kernel_rfl
@[simp] theorem okz70 : okZ Try.prog 70 = true := by kernel_rfl
@[simp] theorem bytes70 : Program.bytesOf Try.prog 70 = 8 := by kernel_rfl
@[simp] theorem zero70 : zeroT Try.prog 70 = some [M.c (C.v (Value.pointer none))] := by kernel_rfl
@[simp] theorem sz71 : szT Try.prog 71 = 1 := by kernel_rfl
@[simp] theorem szob71 : szOb Try.prog 71 = 1 := by kernel_rfl
@[simp] theorem szbx71 : szBx Try.prog 71 = 1 := by kernel_rfl
@[simp] theorem agg71 : isAggT Try.prog 71 = false := by kernel_rfl
@[simp] theorem ok71 : okT Try.prog 71 = true := by kernel_rfl
@[simp] theorem oke71 : okE Try.prog 71 = true := by kernel_rfl
@[simp] theorem okz71 : okZ Try.prog 71 = true := by kernel_rfl
@[simp] theorem bytes71 : Program.bytesOf Try.prog 71 = 8 := by kernel_rfl
@[simp] theorem zero71 : zeroT Try.prog 71 = some [M.c (C.v Value.nilFunc)] := by kernel_rfl
@[simp] theorem sz72 : szT Try.prog 72 = 1 := by kernel_rfl
@[simp] theorem szob72 : szOb Try.prog 72 = 1 := by kernel_rfl
@[simp] theorem szbx72 : szBx Try.prog 72 = 1 := by kernel_rfl
@[simp] theorem agg72 : isAggT Try.prog 72 = false := by kernel_rfl
@[simp] theorem ok72 : okT Try.prog 72 = true := by kernel_rfl
@[simp] theorem oke72 : okE Try.prog 72 = true := by kernel_rfl
@[simp] theorem okz72 : okZ Try.prog 72 = true := by kernel_rfl
@[simp] theorem bytes72 : Program.bytesOf Try.prog 72 = 8 := by kernel_rfl
@[simp] theorem zero72 : zeroT Try.prog 72 = some [M.c (C.v Value.nilFunc)] := by kernel_rfl
@[simp] theorem sz73 : szT Try.prog 73 = 1 := by kernel_rfl
@[simp] theorem szob73 : szOb Try.prog 73 = 1 := by kernel_rfl
@[simp] theorem szbx73 : szBx Try.prog 73 = 1 := by kernel_rfl
@[simp] theorem agg73 : isAggT Try.prog 73 = false := by kernel_rfl
@[simp] theorem ok73 : okT Try.prog 73 = true := by kernel_rfl
@[simp] theorem oke73 : okE Try.prog 73 = true := by kernel_rfl
@[simp] theorem okz73 : okZ Try.prog 73 = true := by kernel_rfl
@[simp] theorem bytes73 : Program.bytesOf Try.prog 73 = 8 := by kernel_rfl
@[simp] theorem zero73 : zeroT Try.prog 73 = some [M.c (C.v Value.nilFunc)] := by kernel_rfl
@[simp] theorem sz74 : szT Try.prog 74 = 1 := by kernel_rfl
@[simp] theorem szob74 : szOb Try.prog 74 = 1 := by kernel_rfl
@[simp] theorem szbx74 : szBx Try.prog 74 = 1 := by kernel_rfl
@[simp] theorem agg74 : isAggT Try.prog 74 = false := by kernel_rfl
@[simp] theorem ok74 : okT Try.prog 74 = true := by kernel_rfl
@[simp] theorem oke74 : okE Try.prog 74 = true := by kernel_rfl
@[simp] theorem okz74 : okZ Try.prog 74 = true := by kernel_rfl
@[simp] theorem bytes74 : Program.bytesOf Try.prog 74 = 8 := by kernel_rfl
@[simp] theorem zero74 : zeroT Try.prog 74 = some [M.c (C.v Value.nilFunc)] := by kernel_rfl
@[simp] theorem sz75 : szT Try.prog 75 = 1 := by kernel_rfl
@[simp] theorem szob75 : szOb Try.prog 75 = 1 := by kernel_rfl
@[simp] theorem szbx75 : szBx Try.prog 75 = 1 := by kernel_rfl
@[simp] theorem agg75 : isAggT Try.prog 75 = false := by kernel_rfl
@[simp] theorem ok75 : okT Try.prog 75 = true := by kernel_rfl
@[simp] theorem oke75 : okE Try.prog 75 = true := by kernel_rfl
@[simp] theorem okz75 : okZ Try.prog 75 = true := by kernel_rfl
@[simp] theorem bytes75 : Program.bytesOf Try.prog 75 = 8 := by kernel_rfl
@[simp] theorem zero75 : zeroT Try.prog 75 = some [M.c (C.v Value.nilFunc)] := by kernel_rfl
@[simp] theorem sz76 : szT Try.prog 76 = 1 := by kernel_rfl
@[simp] theorem szob76 : szOb Try.prog 76 = 1 := by kernel_rfl
@[simp] theorem szbx76 : szBx Try.prog 76 = 1 := by kernel_rfl
@[simp] theorem agg76 : isAggT Try.prog 76 = false := by kernel_rfl
@[simp] theorem ok76 : okT Try.prog 76 = true := by kernel_rfl
@[simp] theorem oke76 : okE Try.prog 76 = true := by kernel_rfl
@[simp] theorem okz76 : okZ Try.prog 76 = true := by kernel_rfl
@[simp] theorem bytes76 : Program.bytesOf Try.prog 76 = 8 := by kernel_rfl
@[simp] theorem zero76 : zeroT Try.prog 76 = some [M.c (C.v Value.nilFunc)] := by kernel_rfl
@[simp] theorem sz77 : szT Try.prog 77 = 1 := by kernel_rfl
@[simp] theorem szob77 : szOb Try.prog 77 = 1 := by kernel_rfl
@[simp] theorem szbx77 : szBx Try.prog 77 = 1 := by kernel_rfl
@[simp] theorem agg77 : isAggT Try.prog 77 = false := by kernel_rfl
@[simp] theorem ok77 : okT Try.prog 77 = true := by kernel_rfl
@[simp] theorem oke77 : okE Try.prog 77 = true := by kernel_rfl
@[simp] theorem okz77 : okZ Try.prog 77 = true := by kernel_rfl
@[simp] theorem bytes77 : Program.bytesOf Try.prog 77 = 8 := by kernel_rfl
@[simp] theorem zero77 : zeroT Try.prog 77 = some [M.c (C.v Value.nilFunc)] := by kernel_rfl
@[simp] theorem sz78 : szT Try.prog 78 = 1 := by kernel_rfl
@[simp] theorem szob78 : szOb Try.prog 78 = 1 := by kernel_rfl
@[simp] theorem szbx78 : szBx Try.prog 78 = 1 := by kernel_rfl
@[simp] theorem agg78 : isAggT Try.prog 78 = false := by kernel_rfl
@[simp] theorem ok78 : okT Try.prog 78 = true := by kernel_rfl
@[simp] theorem oke78 : okE Try.prog 78 = true := by kernel_rfl
@[simp] theorem okz78 : okZ Try.prog 78 = true := by kernel_rfl
@[simp] theorem bytes78 : Program.bytesOf Try.prog 78 = 8 := by kernel_rfl
@[simp] theorem zero78 : zeroT Try.prog 78 = some [M.c (C.v Value.nilFunc)] := by kernel_rfl
@[simp] theorem sz79 : szT Try.prog 79 = 1 := by kernel_rfl
@[simp] theorem szob79 : szOb Try.prog 79 = 1 := by kernel_rfl
@[simp] theorem szbx79 : szBx Try.prog 79 = 1 := by kernel_rfl
@[simp] theorem agg79 : isAggT Try.prog 79 = false := by kernel_rfl
@[simp] theorem ok79 : okT Try.prog 79 = true := by kernel_rfl
@[simp] theorem oke79 : okE Try.prog 79 = true := by kernel_rfl
@[simp] theorem okz79 : okZ Try.prog 79 = true := by kernel_rfl
@[simp] theorem bytes79 : Program.bytesOf Try.prog 79 = 8 := by kernel_rfl
@[simp] theorem zero79 : zeroT Try.prog 79 = some [M.c (C.v Value.nilFunc)] := by kernel_rfl
@[simp] theorem sz80 : szT Try.prog 80 = 1 := by kernel_rfl
@[simp] theorem szob80 : szOb Try.prog 80 = 1 := by kernel_rfl
@[simp] theorem szbx80 : szBx Try.prog 80 = 1 := by kernel_rfl
@[simp] theorem agg80 : isAggT Try.prog 80 = false := by kernel_rfl
@[simp] theorem ok80 : okT Try.prog 80 = true := by kernel_rfl
@[simp] theorem oke80 : okE Try.prog 80 = true := by kernel_rfl
@[simp] theorem okz80 : okZ Try.prog 80 = true := by kernel_rfl
@[simp] theorem bytes80 : Program.bytesOf Try.prog 80 = 8 := by kernel_rfl
@[simp] theorem zero80 : zeroT Try.prog 80 = some [M.c (C.v Value.nilFunc)] := by kernel_rfl
@[simp] theorem sz81 : szT Try.prog 81 = 1 := by kernel_rfl
@[simp] theorem szob81 : szOb Try.prog 81 = 1 := by kernel_rfl
@[simp] theorem szbx81 : szBx Try.prog 81 = 1 := by kernel_rfl
@[simp] theorem agg81 : isAggT Try.prog 81 = false := by kernel_rfl
@[simp] theorem ok81 : okT Try.prog 81 = true := by kernel_rfl
@[simp] theorem oke81 : okE Try.prog 81 = true := by kernel_rfl
@[simp] theorem okz81 : okZ Try.prog 81 = true := by kernel_rfl
@[simp] theorem bytes81 : Program.bytesOf Try.prog 81 = 8 := by kernel_rfl
@[simp] theorem zero81 : zeroT Try.prog 81 = some [M.c (C.v Value.nilFunc)] := by kernel_rfl
@[simp] theorem sz82 : szT Try.prog 82 = 1 := by kernel_rfl
@[simp] theorem szob82 : szOb Try.prog 82 = 1 := by kernel_rfl
@[simp] theorem szbx82 : szBx Try.prog 82 = 1 := by kernel_rfl
@[simp] theorem agg82 : isAggT Try.prog 82 = false := by kernel_rfl
@[simp] theorem ok82 : okT Try.prog 82 = true := by kernel_rfl
@[simp] theorem oke82 : okE Try.prog 82 = true := by kernel_rfl
@[simp] theorem okz82 : okZ Try.prog 82 = true := by kernel_rfl
@[simp] theorem bytes82 : Program.bytesOf Try.prog 82 = 8 := by kernel_rfl
@[simp] theorem zero82 : zeroT Try.prog 82 = some [M.c (C.v (Value.int IntKind.u64 0))] := by kernel_rfl
@[simp] theorem sz83 : szT Try.prog 83 = 1 := by kernel_rfl
@[simp] theorem szob83 : szOb Try.prog 83 = 1 := by kernel_rfl
@[simp] theorem szbx83 : szBx Try.prog 83 = 1 := by kernel_rfl
@[simp] theorem agg83 : isAggT Try.prog 83 = false := by kernel_rfl
@[simp] theorem ok83 : okT Try.prog 83 = true := by kernel_rfl
@[simp] theorem oke83 : okE Try.prog 83 = true := by kernel_rfl
@[simp] theorem okz83 : okZ Try.prog 83 = true := by kernel_rfl
@[simp] theorem bytes83 : Program.bytesOf Try.prog 83 = 8 := by kernel_rfl
@[simp] theorem zero83 : zeroT Try.prog 83 = some [M.c (C.v (Value.pointer none))] := by kernel_rfl
@[simp] theorem sz84 : szT Try.prog 84 = 1 := by kernel_rfl
@[simp] theorem szob84 : szOb Try.prog 84 = 1 := by kernel_rfl
@[simp] theorem szbx84 : szBx Try.prog 84 = 1 := by kernel_rfl
@[simp] theorem agg84 : isAggT Try.prog 84 = false := by kernel_rfl
@[simp] theorem ok84 : okT Try.prog 84 = true := by kernel_rfl
@[simp] theorem oke84 : okE Try.prog 84 = true := by kernel_rfl
@[simp] theorem okz84 : okZ Try.prog 84 = true := by kernel_rfl
@[simp] theorem bytes84 : Program.bytesOf Try.prog 84 = 24 := by kernel_rfl
@[simp] theorem zero84 : zeroT Try.prog 84 = some [M.c (C.v (Value.slice none 0 0))] := by kernel_rfl
@[simp] theorem sz85 : szT Try.prog 85 = 2 := by kernel_rfl
@[simp] theorem szob85 : szOb Try.prog 85 = 2 := by kernel_rfl
@[simp] theorem szbx85 : szBx Try.prog 85 = 2 := by kernel_rfl
@[simp] theorem agg85 : isAggT Try.prog 85 = true := by kernel_rfl
@[simp] theorem ok85 : okT Try.prog 85 = true := by kernel_rfl
@[simp] theorem oke85 : okE Try.prog 85 = true := by kernel_rfl
@[simp] theorem okz85 : okZ Try.prog 85 = true := by kernel_rfl
@[simp] theorem bytes85 : Program.bytesOf Try.prog 85 = 32 := by kernel_rfl
@[simp] theorem zero85 : zeroT Try.prog 85 = some [M.c (C.v (Value.pointer none)), M.c (C.v (Value.slice none 0 0))] := by kernel_rfl
@[simp] theorem sz86 : szT Try.prog 86 = 2 := by kernel_rfl
@[simp] theorem szob86 : szOb Try.prog 86 = 2 := by kernel_rfl
@[simp] theorem szbx86 : szBx Try.prog 86 = 2 := by kernel_rfl
@[simp] theorem agg86 : isAggT Try.prog 86 = true := by kernel_rfl
@[simp] theorem ok86 : okT Try.prog 86 = true := by kernel_rfl
@[simp] theorem oke86 : okE Try.prog 86 = true := by kernel_rfl
@[simp] theorem okz86 : okZ Try.prog 86 = true := by kernel_rfl
@[simp] theorem bytes86 : Program.bytesOf Try.prog 86 = 32 := by kernel_rfl
@[simp] theorem zero86 : zeroT Try.prog 86 = some [M.c (C.v (Value.pointer none)), M.c (C.v (Value.slice none 0 0))] := by kernel_rfl
@[simp] theorem sz87 : szT Try.prog 87 = 2 := by kernel_rfl
@[simp] theorem szob87 : szOb Try.prog 87 = 2 := by kernel_rfl
@[simp] theorem szbx87 : szBx Try.prog 87 = 2 := by kernel_rfl
@[simp] theorem agg87 : isAggT Try.prog 87 = true := by kernel_rfl
@[simp] theorem ok87 : okT Try.prog 87 = true := by kernel_rfl
@[simp] theorem oke87 : okE Try.prog 87 = true := by kernel_rfl
@[simp] theorem okz87 : okZ Try.prog 87 = true := by kernel_rfl
@[simp] theorem bytes87 : Program.bytesOf Try.prog 87 = 32 := by kernel_rfl
@[simp] theorem zero87 : zeroT Try.prog 87 = some [M.c (C.v (Value.pointer none)), M.c (C.v (Value.slice none 0 0))] := by kernel_rfl
@[simp] theorem sz88 : szT Try.prog 88 = 2 := by kernel_rfl
@[simp] theorem szob88 : szOb Try.prog 88 = 2 := by kernel_rfl
@[simp] theorem szbx88 : szBx Try.prog 88 = 2 := by kernel_rfl
@[simp] theorem agg88 : isAggT Try.prog 88 = true := by kernel_rfl
@[simp] theorem ok88 : okT Try.prog 88 = true := by kernel_rfl
@[simp] theorem oke88 : okE Try.prog 88 = true := by kernel_rfl
@[simp] theorem okz88 : okZ Try.prog 88 = true := by kernel_rfl
@[simp] theorem bytes88 : Program.bytesOf Try.prog 88 = 32 := by kernel_rfl
@[simp] theorem zero88 : zeroT Try.prog 88 = some [M.c (C.v (Value.pointer none)), M.c (C.v (Value.slice none 0 0))] := by kernel_rfl
@[simp] theorem sz89 : szT Try.prog 89 = 1 := by kernel_rfl
@[simp] theorem szob89 : szOb Try.prog 89 = 1 := by kernel_rfl
@[simp] theorem szbx89 : szBx Try.prog 89 = 1 := by kernel_rfl
@[simp] theorem agg89 : isAggT Try.prog 89 = false := by kernel_rfl
@[simp] theorem ok89 : okT Try.prog 89 = true := by kernel_rfl
@[simp] theorem oke89 : okE Try.prog 89 = true := by kernel_rfl
@[simp] theorem okz89 : okZ Try.prog 89 = true := by kernel_rfl
@[simp] theorem bytes89 : Program.bytesOf Try.prog 89 = 16 := by kernel_rfl
@[simp] theorem zero89 : zeroT Try.prog 89 = some [M.c (C.v Value.nilIface)] := by kernel_rfl
@[simp] theorem sz90 : szT Try.prog 90 = 1 := by kernel_rfl
@[simp] theorem szob90 : szOb Try.prog 90 = 1 := by kernel_rfl
@[simp] theorem szbx90 : szBx Try.prog 90 = 1 := by kernel_rfl
@[simp] theorem agg90 : isAggT Try.prog 90 = false := by kernel_rfl
@[simp] theorem ok90 : okT Try.prog 90 = true := by kernel_rfl
@[simp] theorem oke90 : okE Try.prog 90 = true := by kernel_rfl
@[simp] theorem okz90 : okZ Try.prog 90 = true := by kernel_rfl
@[simp] theorem bytes90 : Program.bytesOf Try.prog 90 = 16 := by kernel_rfl
@[simp] theorem zero90 : zeroT Try.prog 90 = some [M.c (C.v Value.nilIface)] := by kernel_rfl
@[simp] theorem sz91 : szT Try.prog 91 = 1 := by kernel_rfl
@[simp] theorem szob91 : szOb Try.prog 91 = 1 := by kernel_rfl
@[simp] theorem szbx91 : szBx Try.prog 91 = 1 := by kernel_rfl
@[simp] theorem agg91 : isAggT Try.prog 91 = false := by kernel_rfl
@[simp] theorem ok91 : okT Try.prog 91 = true := by kernel_rfl
@[simp] theorem oke91 : okE Try.prog 91 = true := by kernel_rfl
@[simp] theorem okz91 : okZ Try.prog 91 = true := by kernel_rfl
@[simp] theorem bytes91 : Program.bytesOf Try.prog 91 = 0 := by kernel_rfl
@[simp] theorem sz92 : szT Try.prog 92 = 1 := by kernel_rfl
@[simp] theorem szob92 : szOb Try.prog 92 = 1 := by kernel_rfl
@[simp] theorem szbx92 : szBx Try.prog 92 = 1 := by kernel_rfl
@[simp] theorem agg92 : isAggT Try.prog 92 = false := by kernel_rfl
@[simp] theorem ok92 : okT Try.prog 92 = true := by kernel_rfl
@[simp] theorem oke92 : okE Try.prog 92 = true := by kernel_rfl
@[simp] theorem okz92 : okZ Try.prog 92 = true := by kernel_rfl
@[simp] theorem bytes92 : Program.bytesOf Try.prog 92 = 8 := by kernel_rfl
@[simp] theorem zero92 : zeroT Try.prog 92 = some [M.c (C.v Value.nilFunc)] := by kernel_rfl
@[simp] theorem sz93 : szT Try.prog 93 = 1 := by kernel_rfl
@[simp] theorem szob93 : szOb Try.prog 93 = 1 := by kernel_rfl
@[simp] theorem szbx93 : szBx Try.prog 93 = 1 := by kernel_rfl
@[simp] theorem agg93 : isAggT Try.prog 93 = false := by kernel_rfl
@[simp] theorem ok93 : okT Try.prog 93 = true := by kernel_rfl
@[simp] theorem oke93 : okE Try.prog 93 = true := by kernel_rfl
@[simp] theorem okz93 : okZ Try.prog 93 = true := by kernel_rfl
@[simp] theorem bytes93 : Program.bytesOf Try.prog 93 = 8 := by kernel_rfl
@[simp] theorem zero93 : zeroT Try.prog 93 = some [M.c (C.v Value.nilFunc)] := by kernel_rfl
@[simp] theorem sz94 : szT Try.prog 94 = 1 := by kernel_rfl
@[simp] theorem szob94 : szOb Try.prog 94 = 1 := by kernel_rfl
@[simp] theorem szbx94 : szBx Try.prog 94 = 1 := by kernel_rfl
@[simp] theorem agg94 : isAggT Try.prog 94 = false := by kernel_rfl
@[simp] theorem ok94 : okT Try.prog 94 = true := by kernel_rfl
@[simp] theorem oke94 : okE Try.prog 94 = true := by kernel_rfl
@[simp] theorem okz94 : okZ Try.prog 94 = true := by kernel_rfl
@[simp] theorem bytes94 : Program.bytesOf Try.prog 94 = 8 := by kernel_rfl
@[simp] theorem zero94 : zeroT Try.prog 94 = some [M.c (C.v Value.nilFunc)] := by kernel_rfl
@[simp] theorem sz95 : szT Try.prog 95 = 1 := by kernel_rfl
@[simp] theorem szob95 : szOb Try.prog 95 = 1 := by kernel_rfl
@[simp] theorem szbx95 : szBx Try.prog 95 = 1 := by kernel_rfl
@[simp] theorem agg95 : isAggT Try.prog 95 = false := by kernel_rfl
@[simp] theorem ok95 : okT Try.prog 95 = true := by kernel_rfl
@[simp] theorem oke95 : okE Try.prog 95 = true := by kernel_rfl
@[simp] theorem okz95 : okZ Try.prog 95 = true := by kernel_rfl
@[simp] theorem bytes95 : Program.bytesOf Try.prog 95 = 24 := by kernel_rfl
@[simp] theorem zero95 : zeroT Try.prog 95 = some [M.c (C.v (Value.slice none 0 0))] := by kernel_rfl
@[simp] theorem sz96 : szT Try.prog 96 = 2 := by kernel_rfl
@[simp] theorem leaves96 : leavesX Try.prog 96 = some [2, 0] := by kernel_rfl
@[simp] theorem szob96 : szOb Try.prog 96 = 2 := by kernel_rfl
@[simp] theorem szbx96 : szBx Try.prog 96 = 2 := by kernel_rfl
@[simp] theorem agg96 : isAggT Try.prog 96 = true := by kernel_rfl
@[simp] theorem ok96 : okT Try.prog 96 = true := by kernel_rfl
@[simp] theorem oke96 : okE Try.prog 96 = true := by kernel_rfl
@[simp] theorem okz96 : okZ Try.prog 96 = true := by kernel_rfl
@[simp] theorem bytes96 : Program.bytesOf Try.prog 96 = 24 := by kernel_rfl
@[simp] theorem zero96 : zeroT Try.prog 96 = some [M.c (C.v (Value.string { data := { toList := [] } })), M.c (C.v (Value.int IntKind.i64 0))] := by kernel_rfl
@[simp] theorem sz97 : szT Try.prog 97 = 2 := by kernel_rfl
@[simp] theorem leaves97 : leavesX Try.prog 97 = some [2, 0] := by kernel_rfl
@[simp] theorem szob97 : szOb Try.prog 97 = 2 := by kernel_rfl
@[simp] theorem szbx97 : szBx Try.prog 97 = 2 := by kernel_rfl
@[simp] theorem agg97 : isAggT Try.prog 97 = true := by kernel_rfl
@[simp] theorem ok97 : okT Try.prog 97 = true := by kernel_rfl
@[simp] theorem oke97 : okE Try.prog 97 = true := by kernel_rfl
@[simp] theorem okz97 : okZ Try.prog 97 = true := by kernel_rfl
@[simp] theorem bytes97 : Program.bytesOf Try.prog 97 = 24 := by kernel_rfl
@[simp] theorem zero97 : zeroT Try.prog 97 = some [M.c (C.v (Value.string { data := { toList := [] } })), M.c (C.v (Value.int IntKind.i64 0))] := by kernel_rfl
@[simp] theorem sz98 : szT Try.prog 98 = 2 := by kernel_rfl
@[simp] theorem leaves98 : leavesX Try.prog 98 = some [2, 0] := by kernel_rfl
@[simp] theorem szob98 : szOb Try.prog 98 = 2 := by kernel_rfl
@[simp] theorem szbx98 : szBx Try.prog 98 = 2 := by kernel_rfl
@[simp] theorem agg98 : isAggT Try.prog 98 = true := by kernel_rfl
@[simp] theorem ok98 : okT Try.prog 98 = true := by kernel_rfl
@[simp] theorem oke98 : okE Try.prog 98 = true := by kernel_rfl
@[simp] theorem okz98 : okZ Try.prog 98 = true := by kernel_rfl
@[simp] theorem bytes98 : Program.bytesOf Try.prog 98 = 24 := by kernel_rfl
@[simp] theorem zero98 : zeroT Try.prog 98 = some [M.c (C.v (Value.string { data := { toList := [] } })), M.c (C.v (Value.int IntKind.i64 0))] := by kernel_rfl
@[simp] theorem sz99 : szT Try.prog 99 = 2 := by kernel_rfl
@[simp] theorem leaves99 : leavesX Try.prog 99 = some [2, 0] := by kernel_rfl
@[simp] theorem szob99 : szOb Try.prog 99 = 2 := by kernel_rfl
@[simp] theorem szbx99 : szBx Try.prog 99 = 2 := by kernel_rfl
@[simp] theorem agg99 : isAggT Try.prog 99 = true := by kernel_rfl
@[simp] theorem ok99 : okT Try.prog 99 = true := by kernel_rfl
@[simp] theorem oke99 : okE Try.prog 99 = true := by kernel_rfl
@[simp] theorem okz99 : okZ Try.prog 99 = true := by kernel_rfl
@[simp] theorem bytes99 : Program.bytesOf Try.prog 99 = 24 := by kernel_rfl
@[simp] theorem zero99 : zeroT Try.prog 99 = some [M.c (C.v (Value.string { data := { toList := [] } })), M.c (C.v (Value.int IntKind.i64 0))] := by kernel_rfl
@[simp] theorem sz100 : szT Try.prog 100 = 1 := by kernel_rfl
@[simp] theorem szob100 : szOb Try.prog 100 = 1 := by kernel_rfl
@[simp] theorem szbx100 : szBx Try.prog 100 = 1 := by kernel_rfl
@[simp] theorem agg100 : isAggT Try.prog 100 = false := by kernel_rfl
@[simp] theorem ok100 : okT Try.prog 100 = true := by kernel_rfl
@[simp] theorem oke100 : okE Try.prog 100 = true := by kernel_rfl
@[simp] theorem okz100 : okZ Try.prog 100 = true := by kernel_rfl
@[simp] theorem bytes100 : Program.bytesOf Try.prog 100 = 8 := by kernel_rfl
@[simp] theorem zero100 : zeroT Try.prog 100 = some [M.c (C.v Value.nilFunc)] := by kernel_rfl
@[simp] theorem sz101 : szT Try.prog 101 = 1 := by kernel_rfl
@[simp] theorem szob101 : szOb Try.prog 101 = 1 := by kernel_rfl
@[simp] theorem szbx101 : szBx Try.prog 101 = 1 := by kernel_rfl
@[simp] theorem agg101 : isAggT Try.prog 101 = false := by kernel_rfl
@[simp] theorem ok101 : okT Try.prog 101 = true := by kernel_rfl
@[simp] theorem oke101 : okE Try.prog 101 = true := by kernel_rfl
@[simp] theorem okz101 : okZ Try.prog 101 = true := by kernel_rfl
@[simp] theorem bytes101 : Program.bytesOf Try.prog 101 = 8 := by kernel_rfl
@[simp] theorem zero101 : zeroT Try.prog 101 = some [M.c (C.v Value.nilFunc)] := by kernel_rfl
@[simp] theorem sz102 : szT Try.prog 102 = 1 := by kernel_rfl
@[simp] theorem szob102 : szOb Try.prog 102 = 1 := by kernel_rfl
@[simp] theorem szbx102 : szBx Try.prog 102 = 1 := by kernel_rfl
@[simp] theorem agg102 : isAggT Try.prog 102 = false := by kernel_rfl
@[simp] theorem ok102 : okT Try.prog 102 = true := by kernel_rfl
@[simp] theorem oke102 : okE Try.prog 102 = true := by kernel_rfl
@[simp] theorem okz102 : okZ Try.prog 102 = true := by kernel_rfl
@[simp] theorem bytes102 : Program.bytesOf Try.prog 102 = 8 := by kernel_rfl
@[simp] theorem zero102 : zeroT Try.prog 102 = some [M.c (C.v Value.nilFunc)] := by kernel_rfl
@[simp] theorem sz103 : szT Try.prog 103 = 1 := by kernel_rfl
@[simp] theorem szob103 : szOb Try.prog 103 = 1 := by kernel_rfl
@[simp] theorem szbx103 : szBx Try.prog 103 = 1 := by kernel_rfl
@[simp] theorem agg103 : isAggT Try.prog 103 = false := by kernel_rfl
@[simp] theorem ok103 : okT Try.prog 103 = true := by kernel_rfl
@[simp] theorem oke103 : okE Try.prog 103 = true := by kernel_rfl
@[simp] theorem okz103 : okZ Try.prog 103 = true := by kernel_rfl
@[simp] theorem bytes103 : Program.bytesOf Try.prog 103 = 0 := by kernel_rfl
@[simp] theorem sz104 : szT Try.prog 104 = 1 := by kernel_rfl
@[simp] theorem szob104 : szOb Try.prog 104 = 1 := by kernel_rfl
@[simp] theorem szbx104 : szBx Try.prog 104 = 1 := by kernel_rfl
@[simp] theorem agg104 : isAggT Try.prog 104 = false := by kernel_rfl
@[simp] theorem ok104 : okT Try.prog 104 = true := by kernel_rfl
@[simp] theorem oke104 : okE Try.prog 104 = true := by kernel_rfl
@[simp] theorem okz104 : okZ Try.prog 104 = true := by kernel_rfl
@[simp] theorem bytes104 : Program.bytesOf Try.prog 104 = 8 := by kernel_rfl
@[simp] theorem zero104 : zeroT Try.prog 104 = some [M.c (C.v Value.nilFunc)] := by kernel_rfl
@[simp] theorem sz105 : szT Try.prog 105 = 1 := by kernel_rfl
@[simp] theorem szob105 : szOb Try.prog 105 = 1 := by kernel_rfl
@[simp] theorem szbx105 : szBx Try.prog 105 = 1 := by kernel_rfl
@[simp] theorem agg105 : isAggT Try.prog 105 = false := by kernel_rfl
@[simp] theorem ok105 : okT Try.prog 105 = true := by kernel_rfl
@[simp] theorem oke105 : okE Try.prog 105 = true := by kernel_rfl
@[simp] theorem okz105 : okZ Try.prog 105 = true := by kernel_rfl
@[simp] theorem bytes105 : Program.bytesOf Try.prog 105 = 8 := by kernel_rfl
@[simp] theorem zero105 : zeroT Try.prog 105 = some [M.c (C.v Value.nilFunc)] := by kernel_rfl
@[simp] theorem sz106 : szT Try.prog 106 = 1 := by kernel_rfl
@[simp] theorem szob106 : szOb Try.prog 106 = 1 := by kernel_rfl
@[simp] theorem szbx106 : szBx Try.prog 106 = 1 := by kernel_rfl
@[simp] theorem agg106 : isAggT Try.prog 106 = false := by kernel_rfl
@[simp] theorem ok106 : okT Try.prog 106 = true := by kernel_rfl
@[simp] theorem oke106 : okE Try.prog 106 = true := by kernel_rfl
@[simp] theorem okz106 : okZ Try.prog 106 = true := by kernel_rfl
@[simp] theorem bytes106 : Program.bytesOf Try.prog 106 = 8 := by kernel_rfl
@[simp] theorem zero106 : zeroT Try.prog 106 = some [M.c (C.v Value.nilFunc)] := by kernel_rfl
@[simp] theorem sz107 : szT Try.prog 107 = 1 := by kernel_rfl
@[simp] theorem szob107 : szOb Try.prog 107 = 1 := by kernel_rfl
@[simp] theorem szbx107 : szBx Try.prog 107 = 1 := by kernel_rfl
@[simp] theorem agg107 : isAggT Try.prog 107 = false := by kernel_rfl
@[simp] theorem ok107 : okT Try.prog 107 = true := by kernel_rfl
@[simp] theorem oke107 : okE Try.prog 107 = true := by kernel_rfl
@[simp] theorem okz107 : okZ Try.prog 107 = true := by kernel_rfl
@[simp] theorem bytes107 : Program.bytesOf Try.prog 107 = 8 := by kernel_rfl
@[simp] theorem zero107 : zeroT Try.prog 107 = some [M.c (C.v Value.nilFunc)] := by kernel_rfl
@[simp] theorem sz108 : szT Try.prog 108 = 1 := by kernel_rfl
@[simp] theorem szob108 : szOb Try.prog 108 = 1 := by kernel_rfl
@[simp] theorem szbx108 : szBx Try.prog 108 = 1 := by kernel_rfl
@[simp] theorem agg108 : isAggT Try.prog 108 = false := by kernel_rfl
@[simp] theorem ok108 : okT Try.prog 108 = true := by kernel_rfl
@[simp] theorem oke108 : okE Try.prog 108 = true := by kernel_rfl
@[simp] theorem okz108 : okZ Try.prog 108 = true := by kernel_rfl
@[simp] theorem bytes108 : Program.bytesOf Try.prog 108 = 8 := by kernel_rfl
@[simp] theorem zero108 : zeroT Try.prog 108 = some [M.c (C.v Value.nilFunc)] := by kernel_rfl
@[simp] theorem sz109 : szT Try.prog 109 = 4 := by kernel_rfl
@[simp] theorem leaves109 : leavesX Try.prog 109 = some (List.replicate 4 0) := by kernel_rfl
@[simp] theorem szob109 : szOb Try.prog 109 = 1 := by kernel_rfl
@[simp] theorem szbx109 : szBx Try.prog 109 = 1 := by kernel_rfl
@[simp] theorem agg109 : isAggT Try.prog 109 = true := by kernel_rfl
@[simp] theorem ok109 : okT Try.prog 109 = true := by kernel_rfl
@[simp] theorem oke109 : okE Try.prog 109 = true := by kernel_rfl
@[simp] theorem okz109 : okZ Try.prog 109 = true := by kernel_rfl
@[simp] theorem bytes109 : Program.bytesOf Try.prog 109 = 32 := by kernel_rfl
@[simp] theorem zero109 : zeroT Try.prog 109 = some [M.c (C.v (Value.int IntKind.u64 0)), M.c (C.v (Value.int IntKind.u64 0)), M.c (C.v (Value.int IntKind.u64 0)), M.c (C.v (Value.int IntKind.u64 0))] := by kernel_rfl
@[simp] theorem sz110 : szT Try.prog 110 = 4 := by kernel_rfl
@[simp] theorem leaves110 : leavesX Try.prog 110 = some (List.replicate 4 0) := by kernel_rfl
@[simp] theorem szob110 : szOb Try.prog 110 = 1 := by kernel_rfl
@[simp] theorem szbx110 : szBx Try.prog 110 = 1 := by kernel_rfl
@[simp] theorem agg110 : isAggT Try.prog 110 = true := by kernel_rfl
@[simp] theorem ok110 : okT Try.prog 110 = true := by kernel_rfl
@[simp] theorem oke110 : okE Try.prog 110 = true := by kernel_rfl
@[simp] theorem okz110 : okZ Try.prog 110 = true := by kernel_rfl
@[simp] theorem bytes110 : Program.bytesOf Try.prog 110 = 32 := by kernel_rfl
@[simp] theorem zero110 : zeroT Try.prog 110 = some [M.c (C.v (Value.int IntKind.u64 0)), M.c (C.v (Value.int IntKind.u64 0)), M.c (C.v (Value.int IntKind.u64 0)), M.c (C.v (Value.int IntKind.u64 0))] := by kernel_rfl
@[simp] theorem sz111 : szT Try.prog 111 = 1 := by kernel_rfl
@[simp] theorem szob111 : szOb Try.prog 111 = 1 := by kernel_rfl
@[simp] theorem szbx111 : szBx Try.prog 111 = 1 := by kernel_rfl
@[simp] theorem agg111 : isAggT Try.prog 111 = false := by kernel_rfl
@[simp] theorem ok111 : okT Try.prog 111 = true := by kernel_rfl
@[simp] theorem oke111 : okE Try.prog 111 = true := by kernel_rfl
@[simp] theorem okz111 : okZ Try.prog 111 = true := by kernel_rfl
@[simp] theorem bytes111 : Program.bytesOf Try.prog 111 = 8 := by kernel_rfl
@[simp] theorem zero111 : zeroT Try.prog 111 = some [M.c (C.v Value.nilFunc)] := by kernel_rfl
@[simp] theorem sz112 : szT Try.prog 112 = 1 := by kernel_rfl
@[simp] theorem szob112 : szOb Try.prog 112 = 1 := by kernel_rfl
@[simp] theorem szbx112 : szBx Try.prog 112 = 1 := by kernel_rfl
@[simp] theorem agg112 : isAggT Try.prog 112 = false := by kernel_rfl
@[simp] theorem ok112 : okT Try.prog 112 = true := by kernel_rfl
@[simp] theorem oke112 : okE Try.prog 112 = true := by kernel_rfl
@[simp] theorem okz112 : okZ Try.prog 112 = true := by kernel_rfl
@[simp] theorem bytes112 : Program.bytesOf Try.prog 112 = 8 := by kernel_rfl
@[simp] theorem zero112 : zeroT Try.prog 112 = some [M.c (C.v Value.nilFunc)] := by kernel_rfl
@[simp] theorem sz113 : szT Try.prog 113 = 1 := by kernel_rfl
@[simp] theorem szob113 : szOb Try.prog 113 = 1 := by kernel_rfl
@[simp] theorem szbx113 : szBx Try.prog 113 = 1 := by kernel_rfl
@[simp] theorem agg113 : isAggT Try.prog 113 = false := by kernel_rfl
@[simp] theorem ok113 : okT Try.prog 113 = true := by kernel_rfl
@[simp] theorem oke113 : okE Try.prog 113 = true := by kernel_rfl
@[simp] theorem okz113 : okZ Try.prog 113 = true := by kernel_rfl
@[simp] theorem bytes113 : Program.bytesOf Try.prog 113 = 8 := by kernel_rfl
@[simp] theorem zero113 : zeroT Try.prog 113 = some [M.c (C.v Value.nilFunc)] := by kernel_rfl
@[simp] theorem sz114 : szT Try.prog 114 = 1 := by kernel_rfl
@[simp] theorem szob114 : szOb Try.prog 114 = 1 := by kernel_rfl
@[simp] theorem szbx114 : szBx Try.prog 114 = 1 := by kernel_rfl
@[simp] theorem agg114 : isAggT Try.prog 114 = false := by kernel_rfl
@[simp] theorem ok114 : okT Try.prog 114 = true := by kernel_rfl
@[simp] theorem oke114 : okE Try.prog 114 = true := by kernel_rfl
@[simp] theorem okz114 : okZ Try.prog 114 = true := by kernel_rfl
@[simp] theorem bytes114 : Program.bytesOf Try.prog 114 = 8 := by kernel_rfl
@[simp] theorem zero114 : zeroT Try.prog 114 = some [M.c (C.v (Value.pointer none))] := by kernel_rfl
@[simp] theorem sz115 : szT Try.prog 115 = 1 := by kernel_rfl
@[simp] theorem szob115 : szOb Try.prog 115 = 1 := by kernel_rfl
@[simp] theorem szbx115 : szBx Try.prog 115 = 1 := by kernel_rfl
@[simp] theorem agg115 : isAggT Try.prog 115 = false := by kernel_rfl
@[simp] theorem ok115 : okT Try.prog 115 = true := by kernel_rfl
@[simp] theorem oke115 : okE Try.prog 115 = true := by kernel_rfl
@[simp] theorem okz115 : okZ Try.prog 115 = true := by kernel_rfl
@[simp] theorem bytes115 : Program.bytesOf Try.prog 115 = 8 := by kernel_rfl
@[simp] theorem zero115 : zeroT Try.prog 115 = some [M.c (C.v Value.nilFunc)] := by kernel_rfl
@[simp] theorem sz116 : szT Try.prog 116 = 1 := by kernel_rfl
@[simp] theorem szob116 : szOb Try.prog 116 = 1 := by kernel_rfl
@[simp] theorem szbx116 : szBx Try.prog 116 = 1 := by kernel_rfl
@[simp] theorem agg116 : isAggT Try.prog 116 = false := by kernel_rfl
@[simp] theorem ok116 : okT Try.prog 116 = true := by kernel_rfl
@[simp] theorem oke116 : okE Try.prog 116 = true := by kernel_rfl
@[simp] theorem okz116 : okZ Try.prog 116 = true := by kernel_rfl
@[simp] theorem bytes116 : Program.bytesOf Try.prog 116 = 8 := by kernel_rfl
@[simp] theorem zero116 : zeroT Try.prog 116 = some [M.c (C.v (Value.int IntKind.i64 0))] := by kernel_rfl
@[simp] theorem sz117 : szT Try.prog 117 = 1 := by kernel_rfl
@[simp] theorem szob117 : szOb Try.prog 117 = 1 := by kernel_rfl
@[simp] theorem szbx117 : szBx Try.prog 117 = 1 := by kernel_rfl
@[simp] theorem agg117 : isAggT Try.prog 117 = false := by kernel_rfl
@[simp] theorem ok117 : okT Try.prog 117 = true := by kernel_rfl
@[simp] theorem oke117 : okE Try.prog 117 = true := by kernel_rfl
@[simp] theorem okz117 : okZ Try.prog 117 = true := by kernel_rfl
@[simp] theorem bytes117 : Program.bytesOf Try.prog 117 = 0 := by kernel_rfl
@[simp] theorem sz118 : szT Try.prog 118 = 1 := by kernel_rfl
@[simp] theorem szob118 : szOb Try.prog 118 = 1 := by kernel_rfl
@[simp] theorem szbx118 : szBx Try.prog 118 = 1 := by kernel_rfl
@[simp] theorem agg118 : isAggT Try.prog 118 = false := by kernel_rfl
@[simp] theorem ok118 : okT Try.prog 118 = true := by kernel_rfl
@[simp] theorem oke118 : okE Try.prog 118 = true := by kernel_rfl
@[simp] theorem okz118 : okZ Try.prog 118 = true := by kernel_rfl
@[simp] theorem bytes118 : Program.bytesOf Try.prog 118 = 8 := by kernel_rfl
@[simp] theorem zero118 : zeroT Try.prog 118 = some [M.c (C.v Value.nilFunc)] := by kernel_rfl
@[simp] theorem sz119 : szT Try.prog 119 = 1 := by kernel_rfl
@[simp] theorem szob119 : szOb Try.prog 119 = 1 := by kernel_rfl
@[simp] theorem szbx119 : szBx Try.prog 119 = 1 := by kernel_rfl
@[simp] theorem agg119 : isAggT Try.prog 119 = false := by kernel_rfl
@[simp] theorem ok119 : okT Try.prog 119 = true := by kernel_rfl
@[simp] theorem oke119 : okE Try.prog 119 = true := by kernel_rfl
@[simp] theorem okz119 : okZ Try.prog 119 = true := by kernel_rfl
@[simp] theorem bytes119 : Program.bytesOf Try.prog 119 = 8 := by kernel_rfl
@[simp] theorem zero119 : zeroT Try.prog 119 = some [M.c (C.v Value.nilFunc)] := by kernel_rfl
@[simp] theorem sz120 : szT Try.prog 120 = 1 := by kernel_rfl
@[simp] theorem szob120 : szOb Try.prog 120 = 1 := by kernel_rfl
@[simp] theorem szbx120 : szBx Try.prog 120 = 1 := by kernel_rfl
@[simp] theorem agg120 : isAggT Try.prog 120 = false := by kernel_rfl
@[simp] theorem ok120 : okT Try.prog 120 = true := by kernel_rfl
@[simp] theorem oke120 : okE Try.prog 120 = true := by kernel_rfl
@[simp] theorem okz120 : okZ Try.prog 120 = true := by kernel_rfl
@[simp] theorem bytes120 : Program.bytesOf Try.prog 120 = 8 := by kernel_rfl
@[simp] theorem zero120 : zeroT Try.prog 120 = some [M.c (C.v Value.nilFunc)] := by kernel_rfl
@[simp] theorem sz121 : szT Try.prog 121 = 1 := by kernel_rfl
@[simp] theorem szob121 : szOb Try.prog 121 = 1 := by kernel_rfl
@[simp] theorem szbx121 : szBx Try.prog 121 = 1 := by kernel_rfl
@[simp] theorem agg121 : isAggT Try.prog 121 = false := by kernel_rfl
@[simp] theorem ok121 : okT Try.prog 121 = true := by kernel_rfl
@[simp] theorem oke121 : okE Try.prog 121 = true := by kernel_rfl
@[simp] theorem okz121 : okZ Try.prog 121 = true := by kernel_rfl
@[simp] theorem bytes121 : Program.bytesOf Try.prog 121 = 8 := by kernel_rfl
@[simp] theorem zero121 : zeroT Try.prog 121 = some [M.c (C.v Value.nilFunc)] := by kernel_rfl
@[simp] theorem sz122 : szT Try.prog 122 = 1 := by kernel_rfl
@[simp] theorem szob122 : szOb Try.prog 122 = 1 := by kernel_rfl
@[simp] theorem szbx122 : szBx Try.prog 122 = 1 := by kernel_rfl
@[simp] theorem agg122 : isAggT Try.prog 122 = false := by kernel_rfl
@[simp] theorem ok122 : okT Try.prog 122 = true := by kernel_rfl
@[simp] theorem oke122 : okE Try.prog 122 = true := by kernel_rfl
@[simp] theorem okz122 : okZ Try.prog 122 = true := by kernel_rfl
@[simp] theorem bytes122 : Program.bytesOf Try.prog 122 = 8 := by kernel_rfl
@[simp] theorem zero122 : zeroT Try.prog 122 = some [M.c (C.v Value.nilFunc)] := by kernel_rfl
@[simp] theorem sz123 : szT Try.prog 123 = 1 := by kernel_rfl
@[simp] theorem szob123 : szOb Try.prog 123 = 1 := by kernel_rfl
@[simp] theorem szbx123 : szBx Try.prog 123 = 1 := by kernel_rfl
@[simp] theorem agg123 : isAggT Try.prog 123 = false := by kernel_rfl
@[simp] theorem ok123 : okT Try.prog 123 = true := by kernel_rfl
@[simp] theorem oke123 : okE Try.prog 123 = true := by kernel_rfl
@[simp] theorem okz123 : okZ Try.prog 123 = true := by kernel_rfl
@[simp] theorem bytes123 : Program.bytesOf Try.prog 123 = 8 := by kernel_rfl
@[simp] theorem zero123 : zeroT Try.prog 123 = some [M.c (C.v Value.nilFunc)] := by kernel_rfl
@[simp] theorem sz124 : szT Try.prog 124 = 1 := by kernel_rfl
@[simp] theorem szob124 : szOb Try.prog 124 = 1 := by kernel_rfl
@[simp] theorem szbx124 : szBx Try.prog 124 = 1 := by kernel_rfl
@[simp] theorem agg124 : isAggT Try.prog 124 = false := by kernel_rfl
@[simp] theorem ok124 : okT Try.prog 124 = true := by kernel_rfl
@[simp] theorem oke124 : okE Try.prog 124 = true := by kernel_rfl
@[simp] theorem okz124 : okZ Try.prog 124 = true := by kernel_rfl
@[simp] theorem bytes124 : Program.bytesOf Try.prog 124 = 8 := by kernel_rfl
@[simp] theorem zero124 : zeroT Try.prog 124 = some [M.c (C.v Value.nilFunc)] := by kernel_rfl
@[simp] theorem sz125 : szT Try.prog 125 = 1 := by kernel_rfl
@[simp] theorem szob125 : szOb Try.prog 125 = 1 := by kernel_rfl
@[simp] theorem szbx125 : szBx Try.prog 125 = 1 := by kernel_rfl
@[simp] theorem agg125 : isAggT Try.prog 125 = false := by kernel_rfl
@[simp] theorem ok125 : okT Try.prog 125 = true := by kernel_rfl
@[simp] theorem oke125 : okE Try.prog 125 = true := by kernel_rfl
@[simp] theorem okz125 : okZ Try.prog 125 = true := by kernel_rfl
@[simp] theorem bytes125 : Program.bytesOf Try.prog 125 = 8 := by kernel_rfl
@[simp] theorem zero125 : zeroT Try.prog 125 = some [M.c (C.v Value.nilFunc)] := by kernel_rfl
@[simp] theorem sz126 : szT Try.prog 126 = 1 := by kernel_rfl
@[simp] theorem szob126 : szOb Try.prog 126 = 1 := by kernel_rfl
@[simp] theorem szbx126 : szBx Try.prog 126 = 1 := by kernel_rfl
@[simp] theorem agg126 : isAggT Try.prog 126 = false := by kernel_rfl
@[simp] theorem ok126 : okT Try.prog 126 = true := by kernel_rfl
@[simp] theorem oke126 : okE Try.prog 126 = true := by kernel_rfl
@[simp] theorem okz126 : okZ Try.prog 126 = true := by kernel_rfl
@[simp] theorem bytes126 : Program.bytesOf Try.prog 126 = 8 := by kernel_rfl
@[simp] theorem zero126 : zeroT Try.prog 126 = some [M.c (C.v Value.nilFunc)] := by kernel_rfl
@[simp] theorem sz127 : szT Try.prog 127 = 1 := by kernel_rfl
@[simp] theorem szob127 : szOb Try.prog 127 = 1 := by kernel_rfl
@[simp] theorem szbx127 : szBx Try.prog 127 = 1 := by kernel_rfl
@[simp] theorem agg127 : isAggT Try.prog 127 = false := by kernel_rfl
@[simp] theorem ok127 : okT Try.prog 127 = true := by kernel_rfl
@[simp] theorem oke127 : okE Try.prog 127 = true := by kernel_rfl
@[simp] theorem okz127 : okZ Try.prog 127 = true := by kernel_rfl
@[simp] theorem bytes127 : Program.bytesOf Try.prog 127 = 8 := by kernel_rfl
@[simp] theorem zero127 : zeroT Try.prog 127 = some [M.c (C.v (Value.pointer none))] := by kernel_rfl
@[simp] theorem sz128 : szT Try.prog 128 = 1 := by kernel_rfl
@[simp] theorem szob128 : szOb Try.prog 128 = 1 := by kernel_rfl
@[simp] theorem szbx128 : szBx Try.prog 128 = 1 := by kernel_rfl
@[simp] theorem agg128 : isAggT Try.prog 128 = false := by kernel_rfl
@[simp] theorem ok128 : okT Try.prog 128 = true := by kernel_rfl
@[simp] theorem oke128 : okE Try.prog 128 = true := by kernel_rfl
@[simp] theorem okz128 : okZ Try.prog 128 = true := by kernel_rfl
@[simp] theorem bytes128 : Program.bytesOf Try.prog 128 = 8 := by kernel_rfl
@[simp] theorem zero128 : zeroT Try.prog 128 = some [M.c (C.v Value.nilFunc)] := by kernel_rfl
@[simp] theorem sz129 : szT Try.prog 129 = 1 := by kernel_rfl
@[simp] theorem szob129 : szOb Try.prog 129 = 1 := by kernel_rfl
@[simp] theorem szbx129 : szBx Try.prog 129 = 1 := by kernel_rfl
@[simp] theorem agg129 : isAggT Try.prog 129 = false := by kernel_rfl
@[simp] theorem ok129 : okT Try.prog 129 = true := by kernel_rfl
@[simp] theorem oke129 : okE Try.prog 129 = true := by kernel_rfl
@[simp] theorem okz129 : okZ Try.prog 129 = true := by kernel_rfl
@[simp] theorem bytes129 : Program.bytesOf Try.prog 129 = 8 := by kernel_rfl
@[simp] theorem zero129 : zeroT Try.prog 129 = some [M.c (C.v Value.nilFunc)] := by kernel_rfl
@[simp] theorem sz130 : szT Try.prog 130 = 1 := by kernel_rfl
@[simp] theorem szob130 : szOb Try.prog 130 = 1 := by kernel_rfl
@[simp] theorem szbx130 : szBx Try.prog 130 = 1 := by kernel_rfl
@[simp] theorem agg130 : isAggT Try.prog 130 = false := by kernel_rfl
@[simp] theorem ok130 : okT Try.prog 130 = true := by kernel_rfl
@[simp] theorem oke130 : okE Try.prog 130 = true := by kernel_rfl
@[simp] theorem okz130 : okZ Try.prog 130 = true := by kernel_rfl
@[simp] theorem bytes130 : Program.bytesOf Try.prog 130 = 8 := by kernel_rfl
@[simp] theorem zero130 : zeroT Try.prog 130 = some [M.c (C.v Value.nilFunc)] := by kernel_rfl
@[simp] theorem sz131 : szT Try.prog 131 = 1 := by kernel_rfl
@[simp] theorem szob131 : szOb Try.prog 131 = 1 := by kernel_rfl
@[simp] theorem szbx131 : szBx Try.prog 131 = 1 := by kernel_rfl
@[simp] theorem agg131 : isAggT Try.prog 131 = false := by kernel_rfl
@[simp] theorem ok131 : okT Try.prog 131 = true := by kernel_rfl
@[simp] theorem oke131 : okE Try.prog 131 = true := by kernel_rfl
@[simp] theorem okz131 : okZ Try.prog 131 = true := by kernel_rfl
@[simp] theorem bytes131 : Program.bytesOf Try.prog 131 = 8 := by kernel_rfl
@[simp] theorem zero131 : zeroT Try.prog 131 = some [M.c (C.v (Value.int IntKind.u64 0))] := by kernel_rfl
@[simp] theorem sz132 : szT Try.prog 132 = 1 := by kernel_rfl
@[simp] theorem szob132 : szOb Try.prog 132 = 1 := by kernel_rfl
@[simp] theorem szbx132 : szBx Try.prog 132 = 1 := by kernel_rfl
@[simp] theorem agg132 : isAggT Try.prog 132 = false := by kernel_rfl
@[simp] theorem ok132 : okT Try.prog 132 = true := by kernel_rfl
@[simp] theorem oke132 : okE Try.prog 132 = true := by kernel_rfl
@[simp] theorem okz132 : okZ Try.prog 132 = true := by kernel_rfl
@[simp] theorem bytes132 : Program.bytesOf Try.prog 132 = 8 := by kernel_rfl
@[simp] theorem zero132 : zeroT Try.prog 132 = some [M.c (C.v Value.nilFunc)] := by kernel_rfl
@[simp] theorem sz133 : szT Try.prog 133 = 1 := by kernel_rfl
@[simp] theorem szob133 : szOb Try.prog 133 = 1 := by kernel_rfl
@[simp] theorem szbx133 : szBx Try.prog 133 = 1 := by kernel_rfl
@[simp] theorem agg133 : isAggT Try.prog 133 = false := by kernel_rfl
@[simp] theorem ok133 : okT Try.prog 133 = true := by kernel_rfl
@[simp] theorem oke133 : okE Try.prog 133 = true := by kernel_rfl
@[simp] theorem okz133 : okZ Try.prog 133 = true := by kernel_rfl
@[simp] theorem bytes133 : Program.bytesOf Try.prog 133 = 8 := by kernel_rfl
@[simp] theorem zero133 : zeroT Try.prog 133 = some [M.c (C.v Value.nilFunc)] := by kernel_rfl
@[simp] theorem sz134 : szT Try.prog 134 = 1 := by kernel_rfl
@[simp] theorem szob134 : szOb Try.prog 134 = 1 := by kernel_rfl
@[simp] theorem szbx134 : szBx Try.prog 134 = 1 := by kernel_rfl
@[simp] theorem agg134 : isAggT Try.prog 134 = false := by kernel_rfl
@[simp] theorem ok134 : okT Try.prog 134 = true := by kernel_rfl
@[simp] theorem oke134 : okE Try.prog 134 = true := by kernel_rfl
@[simp] theorem okz134 : okZ Try.prog 134 = true := by kernel_rfl
@[simp] theorem bytes134 : Program.bytesOf Try.prog 134 = 8 := by kernel_rfl
@[simp] theorem zero134 : zeroT Try.prog 134 = some [M.c (C.v Value.nilFunc)] := by kernel_rfl
@[simp] theorem sz135 : szT Try.prog 135 = 1 := by kernel_rfl
@[simp] theorem szob135 : szOb Try.prog 135 = 1 := by kernel_rfl
@[simp] theorem szbx135 : szBx Try.prog 135 = 1 := by kernel_rfl
@[simp] theorem agg135 : isAggT Try.prog 135 = false := by kernel_rfl
@[simp] theorem ok135 : okT Try.prog 135 = true := by kernel_rfl
@[simp] theorem oke135 : okE Try.prog 135 = true := by kernel_rfl
@[simp] theorem okz135 : okZ Try.prog 135 = true := by kernel_rfl
@[simp] theorem bytes135 : Program.bytesOf Try.prog 135 = 8 := by kernel_rfl
@[simp] theorem zero135 : zeroT Try.prog 135 = some [M.c (C.v Value.nilFunc)] := by kernel_rfl
@[simp] theorem sz136 : szT Try.prog 136 = 1 := by kernel_rfl
@[simp] theorem szob136 : szOb Try.prog 136 = 1 := by kernel_rfl
@[simp] theorem szbx136 : szBx Try.prog 136 = 1 := by kernel_rfl
@[simp] theorem agg136 : isAggT Try.prog 136 = false := by kernel_rfl
@[simp] theorem ok136 : okT Try.prog 136 = true := by kernel_rfl
@[simp] theorem oke136 : okE Try.prog 136 = true := by kernel_rfl
@[simp] theorem okz136 : okZ Try.prog 136 = true := by kernel_rfl
@[simp] theorem bytes136 : Program.bytesOf Try.prog 136 = 8 := by kernel_rfl
@[simp] theorem zero136 : zeroT Try.prog 136 = some [M.c (C.v (Value.pointer none))] := by kernel_rfl
@[simp] theorem sz137 : szT Try.prog 137 = 1 := by kernel_rfl
@[simp] theorem szob137 : szOb Try.prog 137 = 1 := by kernel_rfl
@[simp] theorem szbx137 : szBx Try.prog 137 = 1 := by kernel_rfl
@[simp] theorem agg137 : isAggT Try.prog 137 = false := by kernel_rfl
@[simp] theorem ok137 : okT Try.prog 137 = true := by kernel_rfl
@[simp] theorem oke137 : okE Try.prog 137 = true := by kernel_rfl
@[simp] theorem okz137 : okZ Try.prog 137 = true := by kernel_rfl
@[simp] theorem bytes137 : Program.bytesOf Try.prog 137 = 8 := by kernel_rfl
@[simp] theorem zero137 : zeroT Try.prog 137 = some [M.c (C.v Value.nilFunc)] := by kernel_rfl
@[simp] theorem sz138 : szT Try.prog 138 = 1 := by kernel_rfl
@[simp] theorem szob138 : szOb Try.prog 138 = 1 := by kernel_rfl
@[simp] theorem szbx138 : szBx Try.prog 138 = 1 := by kernel_rfl
@[simp] theorem agg138 : isAggT Try.prog 138 = false := by kernel_rfl
@[simp] theorem ok138 : okT Try.prog 138 = true := by kernel_rfl
@[simp] theorem oke138 : okE Try.prog 138 = true := by kernel_rfl
@[simp] theorem okz138 : okZ Try.prog 138 = true := by kernel_rfl
@[simp] theorem bytes138 : Program.bytesOf Try.prog 138 = 8 := by kernel_rfl
@[simp] theorem zero138 : zeroT Try.prog 138 = some [M.c (C.v Value.nilFunc)] := by kernel_rfl
@[simp] theorem sz139 : szT Try.prog 139 = 1 := by kernel_rfl
@[simp] theorem szob139 : szOb Try.prog 139 = 1 := by kernel_rfl
@[simp] theorem szbx139 : szBx Try.prog 139 = 1 := by kernel_rfl
@[simp] theorem agg139 : isAggT Try.prog 139 = false := by kernel_rfl
@[simp] theorem ok139 : okT Try.prog 139 = true := by kernel_rfl
@[simp] theorem oke139 : okE Try.prog 139 = true := by kernel_rfl
@[simp] theorem okz139 : okZ Try.prog 139 = true := by kernel_rfl
@[simp] theorem bytes139 : Program.bytesOf Try.prog 139 = 0 := by kernel_rfl
@[simp] theorem sz140 : szT Try.prog 140 = 1 := by kernel_rfl
@[simp] theorem szob140 : szOb Try.prog 140 = 1 := by kernel_rfl
@[simp] theorem szbx140 : szBx Try.prog 140 = 1 := by kernel_rfl
@[simp] theorem agg140 : isAggT Try.prog 140 = false := by kernel_rfl
@[simp] theorem ok140 : okT Try.prog 140 = true := by kernel_rfl
@[simp] theorem oke140 : okE Try.prog 140 = true := by kernel_rfl
@[simp] theorem okz140 : okZ Try.prog 140 = true := by kernel_rfl
@[simp] theorem bytes140 : Program.bytesOf Try.prog 140 = 8 := by kernel_rfl
@[simp] theorem zero140 : zeroT Try.prog 140 = some [M.c (C.v Value.nilFunc)] := by kernel_rfl
@[simp] theorem sz141 : szT Try.prog 141 = 1 := by kernel_rfl
@[simp] theorem szob141 : szOb Try.prog 141 = 1 := by kernel_rfl
@[simp] theorem szbx141 : szBx Try.prog 141 = 1 := by kernel_rfl
@[simp] theorem agg141 : isAggT Try.prog 141 = false := by kernel_rfl
@[simp] theorem ok141 : okT Try.prog 141 = true := by kernel_rfl
@[simp] theorem oke141 : okE Try.prog 141 = true := by kernel_rfl
@[simp] theorem okz141 : okZ Try.prog 141 = true := by kernel_rfl
@[simp] theorem bytes141 : Program.bytesOf Try.prog 141 = 8 := by kernel_rfl
@[simp] theorem zero141 : zeroT Try.prog 141 = some [M.c (C.v Value.nilFunc)] := by kernel_rfl
@[simp] theorem sz142 : szT Try.prog 142 = 1 := by kernel_rfl
@[simp] theorem szob142 : szOb Try.prog 142 = 1 := by kernel_rfl
@[simp] theorem szbx142 : szBx Try.prog 142 = 1 := by kernel_rfl
@[simp] theorem agg142 : isAggT Try.prog 142 = false := by kernel_rfl
@[simp] theorem ok142 : okT Try.prog 142 = true := by kernel_rfl
@[simp] theorem oke142 : okE Try.prog 142 = true := by kernel_rfl
@[simp] theorem okz142 : okZ Try.prog 142 = true := by kernel_rfl
@[simp] theorem bytes142 : Program.bytesOf Try.prog 142 = 8 := by kernel_rfl
@[simp] theorem zero142 : zeroT Try.prog 142 = some [M.c (C.v Value.nilFunc)] := by kernel_rfl
@[simp] theorem sz143 : szT Try.prog 143 = 1 := by kernel_rfl
@[simp] theorem szob143 : szOb Try.prog 143 = 1 := by kernel_rfl
@[simp] theorem szbx143 : szBx Try.prog 143 = 1 := by kernel_rfl
@[simp] theorem agg143 : isAggT Try.prog 143 = false := by kernel_rfl
@[simp] theorem ok143 : okT Try.prog 143 = true := by kernel_rfl
@[simp] theorem oke143 : okE Try.prog 143 = true := by kernel_rfl
@[simp] theorem okz143 : okZ Try.prog 143 = true := by kernel_rfl
@[simp] theorem bytes143 : Program.bytesOf Try.prog 143 = 8 := by kernel_rfl
@[simp] theorem zero143 : zeroT Try.prog 143 = some [M.c (C.v (Value.pointer none))] := by kernel_rfl
@[simp] theorem sz144 : szT Try.prog 144 = 1 := by kernel_rfl
@[simp] theorem szob144 : szOb Try.prog 144 = 1 := by kernel_rfl
@[simp] theorem szbx144 : szBx Try.prog 144 = 1 := by kernel_rfl
@[simp] theorem agg144 : isAggT Try.prog 144 = false := by kernel_rfl
@[simp] theorem ok144 : okT Try.prog 144 = true := by kernel_rfl
@[simp] theorem oke144 : okE Try.prog 144 = true := by kernel_rfl
@[simp] theorem okz144 : okZ Try.prog 144 = true := by kernel_rfl
@[simp] theorem bytes144 : Program.bytesOf Try.prog 144 = 8 := by kernel_rfl
@[simp] theorem zero144 : zeroT Try.prog 144 = some [M.c (C.v Value.nilFunc)] := by kernel_rfl
@[simp] theorem sz145 : szT Try.prog 145 = 1 := by kernel_rfl
@[simp] theorem szob145 : szOb Try.prog 145 = 1 := by kernel_rfl
@[simp] theorem szbx145 : szBx Try.prog 145 = 1 := by kernel_rfl
@[simp] theorem agg145 : isAggT Try.prog 145 = false := by kernel_rfl
@[simp] theorem ok145 : okT Try.prog 145 = true := by kernel_rfl
@[simp] theorem oke145 : okE Try.prog 145 = true := by kernel_rfl
@[simp] theorem okz145 : okZ Try.prog 145 = true := by kernel_rfl
@[simp] theorem bytes145 : Program.bytesOf Try.prog 145 = 8 := by kernel_rfl
@[simp] theorem zero145 : zeroT Try.prog 145 = some [M.c (C.v Value.nilFunc)] := by kernel_rfl
@[simp] theorem sz146 : szT Try.prog 146 = 1 := by kernel_rfl
@[simp] theorem szob146 : szOb Try.prog 146 = 1 := by kernel_rfl
@[simp] theorem szbx146 : szBx Try.prog 146 = 1 := by kernel_rfl
@[simp] theorem agg146 : isAggT Try.prog 146 = false := by kernel_rfl
@[simp] theorem ok146 : okT Try.prog 146 = true := by kernel_rfl
@[simp] theorem oke146 : okE Try.prog 146 = true := by kernel_rfl
@[simp] theorem okz146 : okZ Try.prog 146 = true := by kernel_rfl
@[simp] theorem bytes146 : Program.bytesOf Try.prog 146 = 8 := by kernel_rfl
@[simp] theorem zero146 : zeroT Try.prog 146 = some [M.c (C.v Value.nilFunc)] := by kernel_rfl
@[simp] theorem sz147 : szT Try.prog 147 = 1 := by kernel_rfl
@[simp] theorem szob147 : szOb Try.prog 147 = 1 := by kernel_rfl
@[simp] theorem szbx147 : szBx Try.prog 147 = 1 := by kernel_rfl
@[simp] theorem agg147 : isAggT Try.prog 147 = false := by kernel_rfl
@[simp] theorem ok147 : okT Try.prog 147 = true := by kernel_rfl
@[simp] theorem oke147 : okE Try.prog 147 = true := by kernel_rfl
@[simp] theorem okz147 : okZ Try.prog 147 = true := by kernel_rfl
@[simp] theorem bytes147 : Program.bytesOf Try.prog 147 = 8 := by kernel_rfl
@[simp] theorem zero147 : zeroT Try.prog 147 = some [M.c (C.v (Value.pointer none))] := by kernel_rfl
@[simp] theorem sz148 : szT Try.prog 148 = 1 := by kernel_rfl
@[simp] theorem szob148 : szOb Try.prog 148 = 1 := by kernel_rfl
@[simp] theorem szbx148 : szBx Try.prog 148 = 1 := by kernel_rfl
@[simp] theorem agg148 : isAggT Try.prog 148 = false := by kernel_rfl
@[simp] theorem ok148 : okT Try.prog 148 = true := by kernel_rfl
@[simp] theorem oke148 : okE Try.prog 148 = true := by kernel_rfl
@[simp] theorem okz148 : okZ Try.prog 148 = true := by kernel_rfl
@[simp] theorem bytes148 : Program.bytesOf Try.prog 148 = 0 := by kernel_rfl
@[simp] theorem sz149 : szT Try.prog 149 = 1 := by kernel_rfl
@[simp] theorem szob149 : szOb Try.prog 149 = 1 := by kernel_rfl
@[simp] theorem szbx149 : szBx Try.prog 149 = 1 := by kernel_rfl
@[simp] theorem agg149 : isAggT Try.prog 149 = false := by kernel_rfl
@[simp] theorem ok149 : okT Try.prog 149 = true := by kernel_rfl
@[simp] theorem oke149 : okE Try.prog 149 = true := by kernel_rfl
@[simp] theorem okz149 : okZ Try.prog 149 = true := by kernel_rfl
@[simp] theorem bytes149 : Program.bytesOf Try.prog 149 = 8 := by kernel_rfl
@[simp] theorem zero149 : zeroT Try.prog 149 = some [M.c (C.v Value.nilFunc)] := by kernel_rfl
@[simp] theorem sz150 : szT Try.prog 150 = 1 := by kernel_rfl
@[simp] theorem szob150 : szOb Try.prog 150 = 1 := by kernel_rfl
@[simp] theorem szbx150 : szBx Try.prog 150 = 1 := by kernel_rfl
@[simp] theorem agg150 : isAggT Try.prog 150 = false := by kernel_rfl
@[simp] theorem ok150 : okT Try.prog 150 = true := by kernel_rfl
@[simp] theorem oke150 : okE Try.prog 150 = true := by kernel_rfl
@[simp] theorem okz150 : okZ Try.prog 150 = true := by kernel_rfl
@[simp] theorem bytes150 : Program.bytesOf Try.prog 150 = 8 := by kernel_rfl
@[simp] theorem zero150 : zeroT Try.prog 150 = some [M.c (C.v Value.nilFunc)] := by kernel_rfl
@[simp] theorem sz151 : szT Try.prog 151 = 1 := by kernel_rfl
@[simp] theorem szob151 : szOb Try.prog 151 = 1 := by kernel_rfl
@[simp] theorem szbx151 : szBx Try.prog 151 = 1 := by kernel_rfl
@[simp] theorem agg151 : isAggT Try.prog 151 = false := by kernel_rfl
@[simp] theorem ok151 : okT Try.prog 151 = true := by kernel_rfl
@[simp] theorem oke151 : okE Try.prog 151 = true := by kernel_rfl
@[simp] theorem okz151 : okZ Try.prog 151 = true := by kernel_rfl
@[simp] theorem bytes151 : Program.bytesOf Try.prog 151 = 8 := by kernel_rfl
@[simp] theorem zero151 : zeroT Try.prog 151 = some [M.c (C.v Value.nilFunc)] := by kernel_rfl
@[simp] theorem sz152 : szT Try.prog 152 = 8 := by kernel_rfl
@[simp] theorem leaves152 : leavesX Try.prog 152 = some (List.replicate 8 0) := by kernel_rfl
@[simp] theorem szob152 : szOb Try.prog 152 = 1 := by kernel_rfl
@[simp] theorem szbx152 : szBx Try.prog 152 = 1 := by kernel_rfl
@[simp] theorem agg152 : isAggT Try.prog 152 = true := by kernel_rfl
@[simp] theorem ok152 : okT Try.prog 152 = true := by kernel_rfl
@[simp] theorem oke152 : okE Try.prog 152 = true := by kernel_rfl
@[simp] theorem okz152 : okZ Try.prog 152 = true := by kernel_rfl
@[simp] theorem bytes152 : Program.bytesOf Try.prog 152 = 32 := by kernel_rfl
@[simp] theorem zero152 : zeroT Try.prog 152 = some (List.replicate 8 (M.c (C.v (Value.int IntKind.u32 0)))) := by kernel_rfl
@[simp] theorem sz153 : szT Try.prog 153 = 8 := by kernel_rfl
@[simp] theorem leaves153 : leavesX Try.prog 153 = some (List.replicate 8 0) := by kernel_rfl
@[simp] theorem szob153 : szOb Try.prog 153 = 1 := by kernel_rfl
@[simp] theorem szbx153 : szBx Try.prog 153 = 1 := by kernel_rfl
@[simp] theorem agg153 : isAggT Try.prog 153 = true := by kernel_rfl
@[simp] theorem ok153 : okT Try.prog 153 = true := by kernel_rfl
@[simp] theorem oke153 : okE Try.prog 153 = true := by kernel_rfl
@[simp] theorem okz153 : okZ Try.prog 153 = true := by kernel_rfl
@[simp] theorem bytes153 : Program.bytesOf Try.prog 153 = 32 := by kernel_rfl
@[simp] theorem zero153 : zeroT Try.prog 153 = some (List.replicate 8 (M.c (C.v (Value.int IntKind.u32 0)))) := by kernel_rfl
@[simp] theorem sz154 : szT Try.prog 154 = 11 := by kernel_rfl
@[simp] theorem leaves154 : leavesX Try.prog 154 = some [0, 0, 0, 0, 0, 0, 0, 0, 2, 0, 1] := by kernel_rfl
@[simp] theorem szob154 : szOb Try.prog 154 = 11 := by kernel_rfl
@[simp] theorem szbx154 : szBx Try.prog 154 = 11 := by kernel_rfl
@[simp] theorem agg154 : isAggT Try.prog 154 = true := by kernel_rfl
@[simp] theorem ok154 : okT Try.prog 154 = true := by kernel_rfl
@[simp] theorem oke154 : okE Try.prog 154 = true := by kernel_rfl
@[simp] theorem okz154 : okZ Try.prog 154 = true := by kernel_rfl
@[simp] theorem bytes154 : Program.bytesOf Try.prog 154 = 64 := by kernel_rfl
@[simp] theorem zero154 : zeroT Try.prog 154 = some [M.c (C.v (Value.int IntKind.u32 0)), M.c (C.v (Value.int IntKind.u32 0)), M.c (C.v (Value.int IntKind.u32 0)), M.c (C.v (Value.int IntKind.u32 0)), M.c (C.v (Value.int IntKind.u32 0)), M.c (C.v (Value.int IntKind.u32 0)), M.c (C.v (Value.int IntKind.u32 0)), M.c (C.v (Value.int IntKind.u32 0)), M.c (C.v (Value.string { data := { toList := [] } })), M.c (C.v (Value.int IntKind.u64 0)), M.c (C.v (Value.bool false))] := by kernel_rfl
@[simp] theorem sz155 : szT Try.prog 155 = 11 := by kernel_rfl
@[simp] theorem leaves155 : leavesX Try.prog 155 = some [0, 0, 0, 0, 0, 0, 0, 0, 2, 0, 1] := by kernel_rfl
@[simp] theorem szob155 : szOb Try.prog 155 = 11 := by kernel_rfl
@[simp] theorem szbx155 : szBx Try.prog 155 = 11 := by kernel_rfl
@[simp] theorem agg155 : isAggT Try.prog 155 = true := by kernel_rfl
@[simp] theorem ok155 : okT Try.prog 155 = true := by kernel_rfl
@[simp] theorem oke155 : okE Try.prog 155 = true := by kernel_rfl
@[simp] theorem okz155 : okZ Try.prog 155 = true := by kernel_rfl
@[simp] theorem bytes155 : Program.bytesOf Try.prog 155 = 64 := by kernel_rfl
@[simp] theorem zero155 : zeroT Try.prog 155 = some [M.c (C.v (Value.int IntKind.u32 0)), M.c (C.v (Value.int IntKind.u32 0)), M.c (C.v (Value.int IntKind.u32 0)), M.c (C.v (Value.int IntKind.u32 0)), M.c (C.v (Value.int IntKind.u32 0)), M.c (C.v (Value.int IntKind.u32 0)), M.c (C.v (Value.int IntKind.u32 0)), M.c (C.v (Value.int IntKind.u32 0)), M.c (C.v (Value.string { data := { toList := [] } })), M.c (C.v (Value.int IntKind.u64 0)), M.c (C.v (Value.bool false))] := by kernel_rfl
@[simp] theorem sz156 : szT Try.prog 156 = 1 := by kernel_rfl
@[simp] theorem szob156 : szOb Try.prog 156 = 1 := by kernel_rfl
@[simp] theorem szbx156 : szBx Try.prog 156 = 1 := by kernel_rfl
@[simp] theorem agg156 : isAggT Try.prog 156 = false := by kernel_rfl
@[simp] theorem ok156 : okT Try.prog 156 = true := by kernel_rfl
@[simp] theorem oke156 : okE Try.prog 156 = true := by kernel_rfl
@[simp] theorem okz156 : okZ Try.prog 156 = true := by kernel_rfl
@[simp] theorem bytes156 : Program.bytesOf Try.prog 156 = 8 := by kernel_rfl
@[simp] theorem zero156 : zeroT Try.prog 156 = some [M.c (C.v Value.nilFunc)] := by kernel_rfl
@[simp] theorem sz157 : szT Try.prog 157 = 1 := by kernel_rfl
@[simp] theorem szob157 : szOb Try.prog 157 = 1 := by kernel_rfl
@[simp] theorem szbx157 : szBx Try.prog 157 = 1 := by kernel_rfl
@[simp] theorem agg157 : isAggT Try.prog 157 = false := by kernel_rfl
@[simp] theorem ok157 : okT Try.prog 157 = true := by kernel_rfl
@[simp] theorem oke157 : okE Try.prog 157 = true := by kernel_rfl
@[simp] theorem okz157 : okZ Try.prog 157 = true := by kernel_rfl
@[simp] theorem bytes157 : Program.bytesOf Try.prog 157 = 8 := by kernel_rfl
@[simp] theorem zero157 : zeroT Try.prog 157 = some [M.c (C.v Value.nilFunc)] := by kernel_rfl
@[simp] theorem sz158 : szT Try.prog 158 = 1 := by kernel_rfl
@[simp] theorem szob158 : szOb Try.prog 158 = 1 := by kernel_rfl
@[simp] theorem szbx158 : szBx Try.prog 158 = 1 := by kernel_rfl
@[simp] theorem agg158 : isAggT Try.prog 158 = false := by kernel_rfl
@[simp] theorem ok158 : okT Try.prog 158 = true := by kernel_rfl
@[simp] theorem oke158 : okE Try.prog 158 = true := by kernel_rfl
@[simp] theorem okz158 : okZ Try.prog 158 = true := by kernel_rfl
@[simp] theorem bytes158 : Program.bytesOf Try.prog 158 = 8 := by kernel_rfl
@[simp] theorem zero158 : zeroT Try.prog 158 = some [M.c (C.v Value.nilFunc)] := by kernel_rfl
@[simp] theorem sz159 : szT Try.prog 159 = 64 := by kernel_rfl
@[simp] theorem leaves159 : leavesX Try.prog 159 = some (List.replicate 64 0) := by kernel_rfl
@[simp] theorem szob159 : szOb Try.prog 159 = 1 := by kernel_rfl
@[simp] theorem szbx159 : szBx Try.prog 159 = 1 := by kernel_rfl
@[simp] theorem agg159 : isAggT Try.prog 159 = true := by kernel_rfl
@[simp] theorem ok159 : okT Try.prog 159 = true := by kernel_rfl
@[simp] theorem oke159 : okE Try.prog 159 = true := by kernel_rfl
@[simp] theorem okz159 : okZ Try.prog 159 = true := by kernel_rfl
@[simp] theorem bytes159 : Program.bytesOf Try.prog 159 = 256 := by kernel_rfl
@[simp] theorem zero159 : zeroT Try.prog 159 = some (List.replicate 64 (M.c (C.v (Value.int IntKind.u32 0)))) := by kernel_rfl
@[simp] theorem sz160 : szT Try.prog 160 = 1 := by kernel_rfl
@[simp] theorem szob160 : szOb Try.prog 160 = 1 := by kernel_rfl
@[simp] theorem szbx160 : szBx Try.prog 160 = 1 := by kernel_rfl
@[simp] theorem agg160 : isAggT Try.prog 160 = false := by kernel_rfl
@[simp] theorem ok160 : okT Try.prog 160 = true := by kernel_rfl
@[simp] theorem oke160 : okE Try.prog 160 = true := by kernel_rfl
@[simp] theorem okz160 : okZ Try.prog 160 = true := by kernel_rfl
@[simp] theorem bytes160 : Program.bytesOf Try.prog 160 = 8 := by kernel_rfl
@[simp] theorem zero160 : zeroT Try.prog 160 = some [M.c (C.v Value.nilFunc)] := by kernel_rfl
@[simp] theorem sz161 : szT Try.prog 161 = 1 := by kernel_rfl
@[simp] theorem szob161 : szOb Try.prog 161 = 1 := by kernel_rfl
@[simp] theorem szbx161 : szBx Try.prog 161 = 1 := by kernel_rfl
@[simp] theorem agg161 : isAggT Try.prog 161 = false := by kernel_rfl
@[simp] theorem ok161 : okT Try.prog 161 = true := by kernel_rfl
@[simp] theorem oke161 : okE Try.prog 161 = true := by kernel_rfl
@[simp] theorem okz161 : okZ Try.prog 161 = true := by kernel_rfl
@[simp] theorem bytes161 : Program.bytesOf Try.prog 161 = 8 := by kernel_rfl
@[simp] theorem zero161 : zeroT Try.prog 161 = some [M.c (C.v Value.nilFunc)] := by kernel_rfl
@[simp] theorem sz162 : szT Try.prog 162 = 1 := by kernel_rfl
@[simp] theorem szob162 : szOb Try.prog 162 = 1 := by kernel_rfl
@[simp] theorem szbx162 : szBx Try.prog 162 = 1 := by kernel_rfl
@[simp] theorem agg162 : isAggT Try.prog 162 = false := by kernel_rfl
@[simp] theorem ok162 : okT Try.prog 162 = true := by kernel_rfl
@[simp] theorem oke162 : okE Try.prog 162 = true := by kernel_rfl
@[simp] theorem okz162 : okZ Try.prog 162 = true := by kernel_rfl
@[simp] theorem bytes162 : Program.bytesOf Try.prog 162 = 8 := by kernel_rfl
@[simp] theorem zero162 : zeroT Try.prog 162 = some [M.c (C.v Value.nilFunc)] := by kernel_rfl
@[simp] theorem sz163 : szT Try.prog 163 = 1 := by kernel_rfl
@[simp] theorem szob163 : szOb Try.prog 163 = 1 := by kernel_rfl
@[simp] theorem szbx163 : szBx Try.prog 163 = 1 := by kernel_rfl
@[simp] theorem agg163 : isAggT Try.prog 163 = false := by kernel_rfl
@[simp] theorem ok163 : okT Try.prog 163 = true := by kernel_rfl
@[simp] theorem oke163 : okE Try.prog 163 = true := by kernel_rfl
@[simp] theorem okz163 : okZ Try.prog 163 = true := by kernel_rfl
@[simp] theorem bytes163 : Program.bytesOf Try.prog 163 = 8 := by kernel_rfl
@[simp] theorem zero163 : zeroT Try.prog 163 = some [M.c (C.v Value.nilFunc)] := by kernel_rfl
@[simp] theorem sz164 : szT Try.prog 164 = 1 := by kernel_rfl
@[simp] theorem szob164 : szOb Try.prog 164 = 1 := by kernel_rfl
@[simp] theorem szbx164 : szBx Try.prog 164 = 1 := by kernel_rfl
@[simp] theorem agg164 : isAggT Try.prog 164 = false := by kernel_rfl
@[simp] theorem ok164 : okT Try.prog 164 = true := by kernel_rfl
@[simp] theorem oke164 : okE Try.prog 164 = true := by kernel_rfl
@[simp] theorem okz164 : okZ Try.prog 164 = true := by kernel_rfl
@[simp] theorem bytes164 : Program.bytesOf Try.prog 164 = 8 := by kernel_rfl
@[simp] theorem zero164 : zeroT Try.prog 164 = some [M.c (C.v Value.nilFunc)] := by kernel_rfl
@[simp] theorem sz165 : szT Try.prog 165 = 1 := by kernel_rfl
@[simp] theorem szob165 : szOb Try.prog 165 = 1 := by kernel_rfl
@[simp] theorem szbx165 : szBx Try.prog 165 = 1 := by kernel_rfl
@[simp] theorem agg165 : isAggT Try.prog 165 = false := by kernel_rfl
@[simp] theorem ok165 : okT Try.prog 165 = true := by kernel_rfl
@[simp] theorem oke165 : okE Try.prog 165 = true := by kernel_rfl
@[simp] theorem okz165 : okZ Try.prog 165 = true := by kernel_rfl
@[simp] theorem bytes165 : Program.bytesOf Try.prog 165 = 0 := by kernel_rfl
@[simp] theorem sz166 : szT Try.prog 166 = 1 := by kernel_rfl
@[simp] theorem szob166 : szOb Try.prog 166 = 1 := by kernel_rfl
@[simp] theorem szbx166 : szBx Try.prog 166 = 1 := by kernel_rfl
@[simp] theorem agg166 : isAggT Try.prog 166 = false := by kernel_rfl
@[simp] theorem ok166 : okT Try.prog 166 = true := by kernel_rfl
@[simp] theorem oke166 : okE Try.prog 166 = true := by kernel_rfl
@[simp] theorem okz166 : okZ Try.prog 166 = true := by kernel_rfl
@[simp] theorem bytes166 : Program.bytesOf Try.prog 166 = 8 := by kernel_rfl
@[simp] theorem zero166 : zeroT Try.prog 166 = some [M.c (C.v Value.nilFunc)] := by kernel_rfl
@[simp] theorem sz167 : szT Try.prog 167 = 1 := by kernel_rfl
@[simp] theorem szob167 : szOb Try.prog 167 = 1 := by kernel_rfl
@[simp] theorem szbx167 : szBx Try.prog 167 = 1 := by kernel_rfl
@[simp] theorem agg167 : isAggT Try.prog 167 = false := by kernel_rfl
@[simp] theorem ok167 : okT Try.prog 167 = true := by kernel_rfl
@[simp] theorem oke167 : okE Try.prog 167 = true := by kernel_rfl
@[simp] theorem okz167 : okZ Try.prog 167 = true := by kernel_rfl
@[simp] theorem bytes167 : Program.bytesOf Try.prog 167 = 0 := by kernel_rfl
@[simp] theorem sz168 : szT Try.prog 168 = 1 := by kernel_rfl
@[simp] theorem szob168 : szOb Try.prog 168 = 1 := by kernel_rfl
@[simp] theorem szbx168 : szBx Try.prog 168 = 1 := by kernel_rfl
@[simp] theorem agg168 : isAggT Try.prog 168 = false := by kernel_rfl
@[simp] theorem ok168 : okT Try.prog 168 = true := by kernel_rfl
@[simp] theorem oke168 : okE Try.prog 168 = true := by kernel_rfl
@[simp] theorem okz168 : okZ Try.prog 168 = true := by kernel_rfl
@[simp] theorem bytes168 : Program.bytesOf Try.prog 168 = 8 := by kernel_rfl
@[simp] theorem zero168 : zeroT Try.prog 168 = some [M.c (C.v Value.nilFunc)] := by kernel_rfl
@[simp] theorem sz169 : szT Try.prog 169 = 1 := by kernel_rfl
@[simp] theorem szob169 : szOb Try.prog 169 = 1 := by kernel_rfl
@[simp] theorem szbx169 : szBx Try.prog 169 = 1 := by kernel_rfl
@[simp] theorem agg169 : isAggT Try.prog 169 = false := by kernel_rfl
@[simp] theorem ok169 : okT Try.prog 169 = true := by kernel_rfl
@[simp] theorem oke169 : okE Try.prog 169 = true := by kernel_rfl
@[simp] theorem okz169 : okZ Try.prog 169 = true := by kernel_rfl
@[simp] theorem bytes169 : Program.bytesOf Try.prog 169 = 0 := by kernel_rfl
@[simp] theorem sz170 : szT Try.prog 170 = 1 := by kernel_rfl
@[simp] theorem szob170 : szOb Try.prog 170 = 1 := by kernel_rfl
@[simp] theorem szbx170 : szBx Try.prog 170 = 1 := by kernel_rfl
@[simp] theorem agg170 : isAggT Try.prog 170 = false := by kernel_rfl
@[simp] theorem ok170 : okT Try.prog 170 = true := by kernel_rfl
@[simp] theorem oke170 : okE Try.prog 170 = true := by kernel_rfl
@[simp] theorem okz170 : okZ Try.prog 170 = true := by kernel_rfl
@[simp] theorem bytes170 : Program.bytesOf Try.prog 170 = 8 := by kernel_rfl
@[simp] theorem zero170 : zeroT Try.prog 170 = some [M.c (C.v Value.nilFunc)] := by kernel_rfl
@[simp] theorem sz171 : szT Try.prog 171 = 1 := by kernel_rfl
@[simp] theorem szob171 : szOb Try.prog 171 = 1 := by kernel_rfl
@[simp] theorem szbx171 : szBx Try.prog 171 = 1 := by kernel_rfl
@[simp] theorem agg171 : isAggT Try.prog 171 = false := by kernel_rfl
@[simp] theorem ok171 : okT Try.prog 171 = true := by kernel_rfl
@[simp] theorem oke171 : okE Try.prog 171 = true := by kernel_rfl
@[simp] theorem okz171 : okZ Try.prog 171 = true := by kernel_rfl
@[simp] theorem bytes171 : Program.bytesOf Try.prog 171 = 8 := by kernel_rfl
@[simp] theorem zero171 : zeroT Try.prog 171 = some [M.c (C.v Value.nilFunc)] := by kernel_rfl
@[simp] theorem sz172 : szT Try.prog 172 = 4 := by kernel_rfl
@[simp] theorem szob172 : szOb Try.prog 172 = 4 := by kernel_rfl
@[simp] theorem szbx172 : szBx Try.prog 172 = 4 := by kernel_rfl
@[simp] theorem agg172 : isAggT Try.prog 172 = true := by kernel_rfl
@[simp] theorem ok172 : okT Try.prog 172 = true := by kernel_rfl
@[simp] theorem oke172 : okE Try.prog 172 = true := by kernel_rfl
@[simp] theorem okz172 : okZ Try.prog 172 = true := by kernel_rfl
@[simp] theorem bytes172 : Program.bytesOf Try.prog 172 = 40 := by kernel_rfl
@[simp] theorem zero172 : zeroT Try.prog 172 = some [M.c (C.v (Value.pointer none)), M.c (C.v (Value.pointer none)), M.c (C.v (Value.pointer none)), M.c (C.v (Value.string { data := { toList := [] } }))] := by kernel_rfl
@[simp] theorem sz173 : szT Try.prog 173 = 4 := by kernel_rfl
@[simp] theorem szob173 : szOb Try.prog 173 = 4 := by kernel_rfl
@[simp] theorem szbx173 : szBx Try.prog 173 = 4 := by kernel_rfl
@[simp] theorem agg173 : isAggT Try.prog 173 = true := by kernel_rfl
@[simp] theorem ok173 : okT Try.prog 173 = true := by kernel_rfl
@[simp] theorem oke173 : okE Try.prog 173 = true := by kernel_rfl
@[simp] theorem okz173 : okZ Try.prog 173 = true := by kernel_rfl
@[simp] theorem bytes173 : Program.bytesOf Try.prog 173 = 40 := by kernel_rfl
@[simp] theorem zero173 : zeroT Try.prog 173 = some [M.c (C.v (Value.pointer none)), M.c (C.v (Value.pointer none)), M.c (C.v (Value.pointer none)), M.c (C.v (Value.string { data := { toList := [] } }))] := by kernel_rfl
@[simp] theorem sz174 : szT Try.prog 174 = 0 := by kernel_rfl
@[simp] theorem szob174 : szOb Try.prog 174 = 1 := by kernel_rfl
@[simp] theorem szbx174 : szBx Try.prog 174 = 1 := by kernel_rfl
@[simp] theorem agg174 : isAggT Try.prog 174 = true := by kernel_rfl
@[simp] theorem ok174 : okT Try.prog 174 = true := by kernel_rfl
@[simp] theorem oke174 : okE Try.prog 174 = true := by kernel_rfl
@[simp] theorem okz174 : okZ Try.prog 174 = true := by kernel_rfl
@[simp] theorem bytes174 : Program.bytesOf Try.prog 174 = 0 := by kernel_rfl
@[simp] theorem zero174 : zeroT Try.prog 174 = some [] := by kernel_rfl
@[simp] theorem sz175 : szT Try.prog 175 = 0 := by kernel_rfl
@[simp] theorem szob175 : szOb Try.prog 175 = 0 := by kernel_rfl
@[simp] theorem szbx175 : szBx Try.prog 175 = 0 := by kernel_rfl
@[simp] theorem agg175 : isAggT Try.prog 175 = true := by kernel_rfl
@[simp] theorem ok175 : okT Try.prog 175 = true := by kernel_rfl
@[simp] theorem oke175 : okE Try.prog 175 = true := by kernel_rfl
@[simp] theorem okz175 : okZ Try.prog 175 = true := by kernel_rfl
@[simp] theorem bytes175 : Program.bytesOf Try.prog 175 = 0 := by kernel_rfl
@[simp] theorem zero175 : zeroT Try.prog 175 = some [] := by kernel_rfl
@[simp] theorem sz176 : szT Try.prog 176 = 0 := by kernel_rfl
@[simp] theorem szob176 : szOb Try.prog 176 = 0 := by kernel_rfl
@[simp] theorem szbx176 : szBx Try.prog 176 = 0 := by kernel_rfl
@[simp] theorem agg176 : isAggT Try.prog 176 = true := by kernel_rfl
@[simp] theorem ok176 : okT Try.prog 176 = true := by kernel_rfl
@[simp] theorem oke176 : okE Try.prog 176 = true := by kernel_rfl
@[simp] theorem okz176 : okZ Try.prog 176 = true := by kernel_rfl
@[simp] theorem bytes176 : Program.bytesOf Try.prog 176 = 0 := by kernel_rfl
@[simp] theorem zero176 : zeroT Try.prog 176 = some [] := by kernel_rfl
@[simp] theorem sz177 : szT Try.prog 177 = 1 := by kernel_rfl
@[simp] theorem szob177 : szOb Try.prog 177 = 1 := by kernel_rfl
@[simp] theorem szbx177 : szBx Try.prog 177 = 1 := by kernel_rfl
@[simp] theorem agg177 : isAggT Try.prog 177 = false := by kernel_rfl
@[simp] theorem ok177 : okT Try.prog 177 = true := by kernel_rfl
@[simp] theorem oke177 : okE Try.prog 177 = true := by kernel_rfl
@[simp] theorem okz177 : okZ Try.prog 177 = true := by kernel_rfl
@[simp] theorem bytes177 : Program.bytesOf Try.prog 177 = 1 := by kernel_rfl
@[simp] theorem zero177 : zeroT Try.prog 177 = some [M.c (C.v (Value.int IntKind.u8 0))] := by kernel_rfl
@[simp] theorem sz178 : szT Try.prog 178 = 1 := by kernel_rfl
@[simp] theorem szob178 : szOb Try.prog 178 = 1 := by kernel_rfl
@[simp] theorem szbx178 : szBx Try.prog 178 = 1 := by kernel_rfl
@[simp] theorem agg178 : isAggT Try.prog 178 = false := by kernel_rfl
@[simp] theorem ok178 : okT Try.prog 178 = true := by kernel_rfl
@[simp] theorem oke178 : okE Try.prog 178 = true := by kernel_rfl
@[simp] theorem okz178 : okZ Try.prog 178 = true := by kernel_rfl
@[simp] theorem bytes178 : Program.bytesOf Try.prog 178 = 1 := by kernel_rfl
@[simp] theorem zero178 : zeroT Try.prog 178 = some [M.c (C.v (Value.int IntKind.u8 0))] := by kernel_rfl
@[simp] theorem sz179 : szT Try.prog 179 = 1 := by kernel_rfl
@[simp] theorem szob179 : szOb Try.prog 179 = 1 := by kernel_rfl
@[simp] theorem szbx179 : szBx Try.prog 179 = 1 := by kernel_rfl
@[simp] theorem agg179 : isAggT Try.prog 179 = false := by kernel_rfl
@[simp] theorem ok179 : okT Try.prog 179 = true := by kernel_rfl
@[simp] theorem oke179 : okE Try.prog 179 = true := by kernel_rfl
@[simp] theorem okz179 : okZ Try.prog 179 = true := by kernel_rfl
@[simp] theorem bytes179 : Program.bytesOf Try.prog 179 = 8 := by kernel_rfl
@[simp] theorem zero179 : zeroT Try.prog 179 = some [M.c (C.v Value.nilFunc)] := by kernel_rfl
@[simp] theorem sz180 : szT Try.prog 180 = 1 := by kernel_rfl
@[simp] theorem szob180 : szOb Try.prog 180 = 1 := by kernel_rfl
@[simp] theorem szbx180 : szBx Try.prog 180 = 1 := by kernel_rfl
@[simp] theorem agg180 : isAggT Try.prog 180 = false := by kernel_rfl
@[simp] theorem ok180 : okT Try.prog 180 = true := by kernel_rfl
@[simp] theorem oke180 : okE Try.prog 180 = true := by kernel_rfl
@[simp] theorem okz180 : okZ Try.prog 180 = true := by kernel_rfl
@[simp] theorem bytes180 : Program.bytesOf Try.prog 180 = 4 := by kernel_rfl
@[simp] theorem zero180 : zeroT Try.prog 180 = some [M.c (C.v (Value.int IntKind.i32 0))] := by kernel_rfl
@[simp] theorem sz181 : szT Try.prog 181 = 1 := by kernel_rfl
@[simp] theorem szob181 : szOb Try.prog 181 = 1 := by kernel_rfl
@[simp] theorem szbx181 : szBx Try.prog 181 = 1 := by kernel_rfl
@[simp] theorem agg181 : isAggT Try.prog 181 = false := by kernel_rfl
@[simp] theorem ok181 : okT Try.prog 181 = true := by kernel_rfl
@[simp] theorem oke181 : okE Try.prog 181 = true := by kernel_rfl
@[simp] theorem okz181 : okZ Try.prog 181 = true := by kernel_rfl
@[simp] theorem bytes181 : Program.bytesOf Try.prog 181 = 4 := by kernel_rfl
@[simp] theorem zero181 : zeroT Try.prog 181 = some [M.c (C.v (Value.int IntKind.i32 0))] := by kernel_rfl
@[simp] theorem sz182 : szT Try.prog 182 = 11 := by kernel_rfl
@[simp] theorem szob182 : szOb Try.prog 182 = 11 := by kernel_rfl
@[simp] theorem szbx182 : szBx Try.prog 182 = 11 := by kernel_rfl
@[simp] theorem agg182 : isAggT Try.prog 182 = true := by kernel_rfl
@[simp] theorem ok182 : okT Try.prog 182 = true := by kernel_rfl
@[simp] theorem oke182 : okE Try.prog 182 = true := by kernel_rfl
@[simp] theorem okz182 : okZ Try.prog 182 = true := by kernel_rfl
@[simp] theorem bytes182 : Program.bytesOf Try.prog 182 = 48 := by kernel_rfl
@[simp] theorem zero182 : zeroT Try.prog 182 = some [M.c (C.v (Value.int IntKind.u64 0)), M.c (C.v (Value.int IntKind.u64 0)), M.c (C.v (Value.int IntKind.u32 0)), M.c (C.v (Value.int IntKind.u8 0)), M.c (C.v (Value.int IntKind.u8 0)), M.c (C.v (Value.int IntKind.u8 0)), M.c (C.v (Value.int IntKind.u8 0)), M.c (C.v Value.nilFunc), M.c (C.v (Value.pointer none)), M.c (C.v (Value.int IntKind.i32 0)), M.c (C.v (Value.int IntKind.i32 0))] := by kernel_rfl
@[simp] theorem sz183 : szT Try.prog 183 = 11 := by kernel_rfl
@[simp] theorem szob183 : szOb Try.prog 183 = 11 := by kernel_rfl
@[simp] theorem szbx183 : szBx Try.prog 183 = 11 := by kernel_rfl
@[simp] theorem agg183 : isAggT Try.prog 183 = true := by kernel_rfl
@[simp] theorem ok183 : okT Try.prog 183 = true := by kernel_rfl
@[simp] theorem oke183 : okE Try.prog 183 = true := by kernel_rfl
@[simp] theorem okz183 : okZ Try.prog 183 = true := by kernel_rfl
@[simp] theorem bytes183 : Program.bytesOf Try.prog 183 = 48 := by kernel_rfl
@[simp] theorem zero183 : zeroT Try.prog 183 = some [M.c (C.v (Value.int IntKind.u64 0)), M.c (C.v (Value.int IntKind.u64 0)), M.c (C.v (Value.int IntKind.u32 0)), M.c (C.v (Value.int IntKind.u8 0)), M.c (C.v (Value.int IntKind.u8 0)), M.c (C.v (Value.int IntKind.u8 0)), M.c (C.v (Value.int IntKind.u8 0)), M.c (C.v Value.nilFunc), M.c (C.v (Value.pointer none)), M.c (C.v (Value.int IntKind.i32 0)), M.c (C.v (Value.int IntKind.i32 0))] := by kernel_rfl
@[simp] theorem sz184 : szT Try.prog 184 = 1 := by kernel_rfl
@[simp] theorem szob184 : szOb Try.prog 184 = 1 := by kernel_rfl
@[simp] theorem szbx184 : szBx Try.prog 184 = 1 := by kernel_rfl
@[simp] theorem agg184 : isAggT Try.prog 184 = false := by kernel_rfl
@[simp] theorem ok184 : okT Try.prog 184 = true := by kernel_rfl
@[simp] theorem oke184 : okE Try.prog 184 = true := by kernel_rfl
@[simp] theorem okz184 : okZ Try.prog 184 = true := by kernel_rfl
@[simp] theorem bytes184 : Program.bytesOf Try.prog 184 = 8 := by kernel_rfl
@[simp] theorem zero184 : zeroT Try.prog 184 = some [M.c (C.v Value.nilFunc)] := by kernel_rfl
@[simp] theorem sz185 : szT Try.prog 185 = 1 := by kernel_rfl
@[simp] theorem szob185 : szOb Try.prog 185 = 1 := by kernel_rfl
@[simp] theorem szbx185 : szBx Try.prog 185 = 1 := by kernel_rfl
@[simp] theorem agg185 : isAggT Try.prog 185 = false := by kernel_rfl
@[simp] theorem ok185 : okT Try.prog 185 = true := by kernel_rfl
@[simp] theorem oke185 : okE Try.prog 185 = true := by kernel_rfl
@[simp] theorem okz185 : okZ Try.prog 185 = true := by kernel_rfl
@[simp] theorem bytes185 : Program.bytesOf Try.prog 185 = 8 := by kernel_rfl
@[simp] theorem zero185 : zeroT Try.prog 185 = some [M.c (C.v Value.nilFunc)] := by kernel_rfl
theorem mixed : Try.prog.follows .mixedOrders = true := by kernel_rfl
attribute [simp] Try.underlying0
attribute [simp] Try.underlying1
attribute [simp] Try.underlying2
attribute [simp] Try.underlying3
attribute [simp] Try.underlying4
attribute [simp] Try.underlying5
attribute [simp] Try.underlying6
attribute [simp] Try.underlying7
attribute [simp] Try.underlying8
attribute [simp] Try.underlying9
attribute [simp] Try.underlying10
attribute [simp] Try.underlying11
attribute [simp] Try.underlying12
attribute [simp] Try.underlying13
attribute [simp] Try.underlying14
attribute [simp] Try.underlying15
attribute [simp] Try.underlying16
attribute [simp] Try.underlying17
attribute [simp] Try.underlying18
attribute [simp] Try.underlying19
attribute [simp] Try.underlying20
attribute [simp] Try.underlying21
attribute [simp] Try.underlying22
attribute [simp] Try.underlying23
attribute [simp] Try.underlying24
attribute [simp] Try.underlying25
attribute [simp] Try.underlying26
attribute [simp] Try.underlying27
attribute [simp] Try.underlying28
attribute [simp] Try.underlying29
attribute [simp] Try.underlying30
attribute [simp] Try.underlying31
attribute [simp] Try.underlying32
attribute [simp] Try.underlying33
attribute [simp] Try.underlying34
attribute [simp] Try.underlying35
attribute [simp] Try.underlying36
attribute [simp] Try.underlying37
attribute [simp] Try.underlying38
attribute [simp] Try.underlying39
attribute [simp] Try.underlying40
attribute [simp] Try.underlying41
attribute [simp] Try.underlying42
attribute [simp] Try.underlying43
attribute [simp] Try.underlying44
attribute [simp] Try.underlying45
attribute [simp] Try.underlying46
attribute [simp] Try.underlying47
attribute [simp] Try.underlying48
attribute [simp] Try.underlying49
attribute [simp] Try.underlying50
attribute [simp] Try.underlying51
attribute [simp] Try.underlying52
attribute [simp] Try.underlying53
attribute [simp] Try.underlying54
attribute [simp] Try.underlying55
attribute [simp] Try.underlying56
attribute [simp] Try.underlying57
attribute [simp] Try.underlying58
attribute [simp] Try.underlying59
attribute [simp] Try.underlying60
attribute [simp] Try.underlying61
attribute [simp] Try.underlying62
attribute [simp] Try.underlying63
attribute [simp] Try.underlying64
attribute [simp] Try.underlying65
attribute [simp] Try.underlying66
attribute [simp] Try.underlying67
attribute [simp] Try.underlying68
attribute [simp] Try.underlying69
attribute [simp] Try.underlying70
attribute [simp] Try.underlying71
attribute [simp] Try.underlying72
attribute [simp] Try.underlying73
attribute [simp] Try.underlying74
attribute [simp] Try.underlying75
attribute [simp] Try.underlying76
attribute [simp] Try.underlying77
attribute [simp] Try.underlying78
attribute [simp] Try.underlying79
attribute [simp] Try.underlying80
attribute [simp] Try.underlying81
attribute [simp] Try.underlying82
attribute [simp] Try.underlying83
attribute [simp] Try.underlying84
attribute [simp] Try.underlying85
attribute [simp] Try.underlying86
attribute [simp] Try.underlying87
attribute [simp] Try.underlying88
attribute [simp] Try.underlying89
attribute [simp] Try.underlying90
attribute [simp] Try.underlying91
attribute [simp] Try.underlying92
attribute [simp] Try.underlying93
attribute [simp] Try.underlying94
attribute [simp] Try.underlying95
attribute [simp] Try.underlying96
attribute [simp] Try.underlying97
attribute [simp] Try.underlying98
attribute [simp] Try.underlying99
attribute [simp] Try.underlying100
attribute [simp] Try.underlying101
attribute [simp] Try.underlying102
attribute [simp] Try.underlying103
attribute [simp] Try.underlying104
attribute [simp] Try.underlying105
attribute [simp] Try.underlying106
attribute [simp] Try.underlying107
attribute [simp] Try.underlying108
attribute [simp] Try.underlying109
attribute [simp] Try.underlying110
attribute [simp] Try.underlying111
attribute [simp] Try.underlying112
attribute [simp] Try.underlying113
attribute [simp] Try.underlying114
attribute [simp] Try.underlying115
attribute [simp] Try.underlying116
attribute [simp] Try.underlying117
attribute [simp] Try.underlying118
attribute [simp] Try.underlying119
attribute [simp] Try.underlying120
attribute [simp] Try.underlying121
attribute [simp] Try.underlying122
attribute [simp] Try.underlying123
attribute [simp] Try.underlying124
attribute [simp] Try.underlying125
attribute [simp] Try.underlying126
attribute [simp] Try.underlying127
attribute [simp] Try.underlying128
attribute [simp] Try.underlying129
attribute [simp] Try.underlying130
attribute [simp] Try.underlying131
attribute [simp] Try.underlying132
attribute [simp] Try.underlying133
attribute [simp] Try.underlying134
attribute [simp] Try.underlying135
attribute [simp] Try.underlying136
attribute [simp] Try.underlying137
attribute [simp] Try.underlying138
attribute [simp] Try.underlying139
attribute [simp] Try.underlying140
attribute [simp] Try.underlying141
attribute [simp] Try.underlying142
attribute [simp] Try.underlying143
attribute [simp] Try.underlying144
attribute [simp] Try.underlying145
attribute [simp] Try.underlying146
attribute [simp] Try.underlying147
attribute [simp] Try.underlying148
attribute [simp] Try.underlying149
attribute [simp] Try.underlying150
attribute [simp] Try.underlying151
attribute [simp] Try.underlying152
attribute [simp] Try.underlying153
attribute [simp] Try.underlying154
attribute [simp] Try.underlying155
attribute [simp] Try.underlying156
attribute [simp] Try.underlying157
attribute [simp] Try.underlying158
attribute [simp] Try.underlying159
attribute [simp] Try.underlying160
attribute [simp] Try.underlying161
attribute [simp] Try.underlying162
attribute [simp] Try.underlying163
attribute [simp] Try.underlying164
attribute [simp] Try.underlying165
attribute [simp] Try.underlying166
attribute [simp] Try.underlying167
attribute [simp] Try.underlying168
attribute [simp] Try.underlying169
attribute [simp] Try.underlying170
attribute [simp] Try.underlying171
attribute [simp] Try.underlying172
attribute [simp] Try.underlying173
attribute [simp] Try.underlying174
attribute [simp] Try.underlying175
attribute [simp] Try.underlying176
attribute [simp] Try.underlying177
attribute [simp] Try.underlying178
attribute [simp] Try.underlying179
attribute [simp] Try.underlying180
attribute [simp] Try.underlying181
attribute [simp] Try.underlying182
attribute [simp] Try.underlying183
attribute [simp] Try.underlying184
attribute [simp] Try.underlying185
end Go.Proofs.Ytpcnacknlgmmlaa.Tab
