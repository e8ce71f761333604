/- The type table of the program, as facts. Printed by mktab.py. -/
import Derived.Test.YtfdbbkhglohkaaaProg
import Derived.Test.YtfdbbkhglohkaaaAv19
set_option linter.unusedVariables false
namespace Go.Proofs.Ytfdbbkhglohkaaa.Tab
open Go Go.Proofs Go.Av
@[simp] theorem sz0 : szT Try.prog 0 = 1 := by kernel_rfl
@[simp] theorem szob0 : szOb Try.prog 0 = 1 := by kernel_rfl
@[simp] theorem szbx0 : szBx Try.prog 0 = 1 := by kernel_rfl
@[simp] theorem agg0 : isAggT Try.prog 0 = false := by kernel_rfl
@[simp] theorem ok0 : okT Try.prog 0 = true := by kernel_rfl
@[simp] theorem oke0 : okE Try.prog 0 = true := by kernel_rfl
@[simp] theorem okz0 : okZ Try.prog 0 = true := by kernel_rfl
@[simp] theorem bytes0 : Program.bytesOf Try.prog 0 = 0 := by kernel_rfl
@[simp] theorem sz1 : szT Try.prog 1 = 1 := by kernel_rfl
@[simp] theorem szob1 : szOb Try.prog 1 = 1 := by kernel_rfl
@[simp] theorem szbx1 : szBx Try.prog 1 = 1 := by kernel_rfl
@[simp] theorem agg1 : isAggT Try.prog 1 = false := by kernel_rfl
@[simp] theorem ok1 : okT Try.prog 1 = true := by kernel_rfl
@[simp] theorem oke1 : okE Try.prog 1 = true := by kernel_rfl
@[simp] theorem okz1 : okZ Try.prog 1 = true := by kernel_rfl
@[simp] theorem bytes1 : Program.bytesOf Try.prog 1 = 8 := by kernel_rfl
@[simp] theorem zero1 : zeroT Try.prog 1 = some [M.c (C.v Value.nilFunc)] := by kernel_rfl
@[simp] theorem sz2 : szT Try.prog 2 = 1 := by kernel_rfl
@[simp] theorem szob2 : szOb Try.prog 2 = 1 := by kernel_rfl
@[simp] theorem szbx2 : szBx Try.prog 2 = 1 := by kernel_rfl
@[simp] theorem agg2 : isAggT Try.prog 2 = false := by kernel_rfl
@[simp] theorem ok2 : okT Try.prog 2 = true := by kernel_rfl
@[simp] theorem oke2 : okE Try.prog 2 = true := by kernel_rfl
@[simp] theorem okz2 : okZ Try.prog 2 = true := by kernel_rfl
@[simp] theorem bytes2 : Program.bytesOf Try.prog 2 = 8 := by kernel_rfl
@[simp] theorem zero2 : zeroT Try.prog 2 = some [M.c (C.v (Value.int IntKind.i64 0))] := by kernel_rfl
@[simp] theorem sz3 : szT Try.prog 3 = 1 := by kernel_rfl
@[simp] theorem szob3 : szOb Try.prog 3 = 1 := by kernel_rfl
@[simp] theorem szbx3 : szBx Try.prog 3 = 1 := by kernel_rfl
@[simp] theorem agg3 : isAggT Try.prog 3 = false := by kernel_rfl
@[simp] theorem ok3 : okT Try.prog 3 = true := by kernel_rfl
@[simp] theorem oke3 : okE Try.prog 3 = true := by kernel_rfl
@[simp] theorem okz3 : okZ Try.prog 3 = true := by kernel_rfl
@[simp] theorem bytes3 : Program.bytesOf Try.prog 3 = 8 := by kernel_rfl
@[simp] theorem zero3 : zeroT Try.prog 3 = some [M.c (C.v (Value.int IntKind.i64 0))] := by kernel_rfl
@[simp] theorem sz4 : szT Try.prog 4 = 1 := by kernel_rfl
@[simp] theorem szob4 : szOb Try.prog 4 = 1 := by kernel_rfl
@[simp] theorem szbx4 : szBx Try.prog 4 = 1 := by kernel_rfl
@[simp] theorem agg4 : isAggT Try.prog 4 = false := by kernel_rfl
@[simp] theorem ok4 : okT Try.prog 4 = true := by kernel_rfl
@[simp] theorem oke4 : okE Try.prog 4 = true := by kernel_rfl
@[simp] theorem okz4 : okZ Try.prog 4 = true := by kernel_rfl
@[simp] theorem bytes4 : Program.bytesOf Try.prog 4 = 1 := by kernel_rfl
@[simp] theorem zero4 : zeroT Try.prog 4 = some [M.c (C.v (Value.bool false))] := by kernel_rfl
@[simp] theorem sz5 : szT Try.prog 5 = 1 := by kernel_rfl
@[simp] theorem szob5 : szOb Try.prog 5 = 1 := by kernel_rfl
@[simp] theorem szbx5 : szBx Try.prog 5 = 1 := by kernel_rfl
@[simp] theorem agg5 : isAggT Try.prog 5 = false := by kernel_rfl
@[simp] theorem ok5 : okT Try.prog 5 = true := by kernel_rfl
@[simp] theorem oke5 : okE Try.prog 5 = true := by kernel_rfl
@[simp] theorem okz5 : okZ Try.prog 5 = true := by kernel_rfl
@[simp] theorem bytes5 : Program.bytesOf Try.prog 5 = 1 := by kernel_rfl
@[simp] theorem zero5 : zeroT Try.prog 5 = some [M.c (C.v (Value.int IntKind.u8 0))] := by kernel_rfl
@[simp] theorem sz6 : szT Try.prog 6 = 1 := by kernel_rfl
@[simp] theorem szob6 : szOb Try.prog 6 = 1 := by kernel_rfl
@[simp] theorem szbx6 : szBx Try.prog 6 = 1 := by kernel_rfl
@[simp] theorem agg6 : isAggT Try.prog 6 = false := by kernel_rfl
@[simp] theorem ok6 : okT Try.prog 6 = true := by kernel_rfl
@[simp] theorem oke6 : okE Try.prog 6 = true := by kernel_rfl
@[simp] theorem okz6 : okZ Try.prog 6 = true := by kernel_rfl
@[simp] theorem bytes6 : Program.bytesOf Try.prog 6 = 1 := by kernel_rfl
@[simp] theorem zero6 : zeroT Try.prog 6 = some [M.c (C.v (Value.int IntKind.u8 0))] := by kernel_rfl
@[simp] theorem sz7 : szT Try.prog 7 = 4 := by kernel_rfl
@[simp] theorem leaves7 : leavesX Try.prog 7 = some [0, 0, 1, 0] := by kernel_rfl
@[simp] theorem szob7 : szOb Try.prog 7 = 4 := by kernel_rfl
@[simp] theorem szbx7 : szBx Try.prog 7 = 4 := by kernel_rfl
@[simp] theorem agg7 : isAggT Try.prog 7 = true := by kernel_rfl
@[simp] theorem ok7 : okT Try.prog 7 = true := by kernel_rfl
@[simp] theorem oke7 : okE Try.prog 7 = true := by kernel_rfl
@[simp] theorem okz7 : okZ Try.prog 7 = true := by kernel_rfl
@[simp] theorem bytes7 : Program.bytesOf Try.prog 7 = 24 := by kernel_rfl
@[simp] theorem zero7 : zeroT Try.prog 7 = some [M.c (C.v (Value.int IntKind.i64 0)), M.c (C.v (Value.int IntKind.i64 0)), M.c (C.v (Value.bool false)), M.c (C.v (Value.int IntKind.u8 0))] := by kernel_rfl
@[simp] theorem sz8 : szT Try.prog 8 = 4 := by kernel_rfl
@[simp] theorem leaves8 : leavesX Try.prog 8 = some [0, 0, 1, 0] := by kernel_rfl
@[simp] theorem szob8 : szOb Try.prog 8 = 4 := by kernel_rfl
@[simp] theorem szbx8 : szBx Try.prog 8 = 4 := by kernel_rfl
@[simp] theorem agg8 : isAggT Try.prog 8 = true := by kernel_rfl
@[simp] theorem ok8 : okT Try.prog 8 = true := by kernel_rfl
@[simp] theorem oke8 : okE Try.prog 8 = true := by kernel_rfl
@[simp] theorem okz8 : okZ Try.prog 8 = true := by kernel_rfl
@[simp] theorem bytes8 : Program.bytesOf Try.prog 8 = 24 := by kernel_rfl
@[simp] theorem zero8 : zeroT Try.prog 8 = some [M.c (C.v (Value.int IntKind.i64 0)), M.c (C.v (Value.int IntKind.i64 0)), M.c (C.v (Value.bool false)), M.c (C.v (Value.int IntKind.u8 0))] := by kernel_rfl
@[simp] theorem sz9 : szT Try.prog 9 = 1 := by kernel_rfl
@[simp] theorem szob9 : szOb Try.prog 9 = 1 := by kernel_rfl
@[simp] theorem szbx9 : szBx Try.prog 9 = 1 := by kernel_rfl
@[simp] theorem agg9 : isAggT Try.prog 9 = false := by kernel_rfl
@[simp] theorem ok9 : okT Try.prog 9 = true := by kernel_rfl
@[simp] theorem oke9 : okE Try.prog 9 = true := by kernel_rfl
@[simp] theorem okz9 : okZ Try.prog 9 = true := by kernel_rfl
@[simp] theorem bytes9 : Program.bytesOf Try.prog 9 = 16 := by kernel_rfl
@[simp] theorem zero9 : zeroT Try.prog 9 = some [M.c (C.v (Value.string { data := { toList := [] } }))] := by kernel_rfl
@[simp] theorem sz10 : szT Try.prog 10 = 1 := by kernel_rfl
@[simp] theorem szob10 : szOb Try.prog 10 = 1 := by kernel_rfl
@[simp] theorem szbx10 : szBx Try.prog 10 = 1 := by kernel_rfl
@[simp] theorem agg10 : isAggT Try.prog 10 = false := by kernel_rfl
@[simp] theorem ok10 : okT Try.prog 10 = true := by kernel_rfl
@[simp] theorem oke10 : okE Try.prog 10 = true := by kernel_rfl
@[simp] theorem okz10 : okZ Try.prog 10 = true := by kernel_rfl
@[simp] theorem bytes10 : Program.bytesOf Try.prog 10 = 16 := by kernel_rfl
@[simp] theorem zero10 : zeroT Try.prog 10 = some [M.c (C.v (Value.string { data := { toList := [] } }))] := by kernel_rfl
@[simp] theorem sz11 : szT Try.prog 11 = 1 := by kernel_rfl
@[simp] theorem szob11 : szOb Try.prog 11 = 1 := by kernel_rfl
@[simp] theorem szbx11 : szBx Try.prog 11 = 1 := by kernel_rfl
@[simp] theorem agg11 : isAggT Try.prog 11 = false := by kernel_rfl
@[simp] theorem ok11 : okT Try.prog 11 = true := by kernel_rfl
@[simp] theorem oke11 : okE Try.prog 11 = true := by kernel_rfl
@[simp] theorem okz11 : okZ Try.prog 11 = true := by kernel_rfl
@[simp] theorem bytes11 : Program.bytesOf Try.prog 11 = 16 := by kernel_rfl
@[simp] theorem zero11 : zeroT Try.prog 11 = some [M.c (C.v (Value.string { data := { toList := [] } }))] := by kernel_rfl
@[simp] theorem sz12 : szT Try.prog 12 = 1 := by kernel_rfl
@[simp] theorem szob12 : szOb Try.prog 12 = 1 := by kernel_rfl
@[simp] theorem szbx12 : szBx Try.prog 12 = 1 := by kernel_rfl
@[simp] theorem agg12 : isAggT Try.prog 12 = false := by kernel_rfl
@[simp] theorem ok12 : okT Try.prog 12 = true := by kernel_rfl
@[simp] theorem oke12 : okE Try.prog 12 = true := by kernel_rfl
@[simp] theorem okz12 : okZ Try.prog 12 = true := by kernel_rfl
@[simp] theorem bytes12 : Program.bytesOf Try.prog 12 = 8 := by kernel_rfl
@[simp] theorem zero12 : zeroT Try.prog 12 = some [M.c (C.v (Value.int IntKind.u64 0))] := by kernel_rfl
@[simp] theorem sz13 : szT Try.prog 13 = 2 := by kernel_rfl
@[simp] theorem szob13 : szOb Try.prog 13 = 2 := by kernel_rfl
@[simp] theorem szbx13 : szBx Try.prog 13 = 2 := by kernel_rfl
@[simp] theorem agg13 : isAggT Try.prog 13 = true := by kernel_rfl
@[simp] theorem ok13 : okT Try.prog 13 = true := by kernel_rfl
@[simp] theorem oke13 : okE Try.prog 13 = true := by kernel_rfl
@[simp] theorem okz13 : okZ Try.prog 13 = true := by kernel_rfl
@[simp] theorem bytes13 : Program.bytesOf Try.prog 13 = 24 := by kernel_rfl
@[simp] theorem zero13 : zeroT Try.prog 13 = some [M.c (C.v (Value.string { data := { toList := [] } })), M.c (C.v (Value.int IntKind.u64 0))] := by kernel_rfl
@[simp] theorem sz14 : szT Try.prog 14 = 2 := by kernel_rfl
@[simp] theorem szob14 : szOb Try.prog 14 = 2 := by kernel_rfl
@[simp] theorem szbx14 : szBx Try.prog 14 = 2 := by kernel_rfl
@[simp] theorem agg14 : isAggT Try.prog 14 = true := by kernel_rfl
@[simp] theorem ok14 : okT Try.prog 14 = true := by kernel_rfl
@[simp] theorem oke14 : okE Try.prog 14 = true := by kernel_rfl
@[simp] theorem okz14 : okZ Try.prog 14 = true := by kernel_rfl
@[simp] theorem bytes14 : Program.bytesOf Try.prog 14 = 24 := by kernel_rfl
@[simp] theorem zero14 : zeroT Try.prog 14 = some [M.c (C.v (Value.string { data := { toList := [] } })), M.c (C.v (Value.int IntKind.u64 0))] := by kernel_rfl
@[simp] theorem sz15 : szT Try.prog 15 = 1 := by kernel_rfl
@[simp] theorem szob15 : szOb Try.prog 15 = 1 := by kernel_rfl
@[simp] theorem szbx15 : szBx Try.prog 15 = 1 := by kernel_rfl
@[simp] theorem agg15 : isAggT Try.prog 15 = false := by kernel_rfl
@[simp] theorem ok15 : okT Try.prog 15 = true := by kernel_rfl
@[simp] theorem oke15 : okE Try.prog 15 = true := by kernel_rfl
@[simp] theorem okz15 : okZ Try.prog 15 = true := by kernel_rfl
@[simp] theorem bytes15 : Program.bytesOf Try.prog 15 = 8 := by kernel_rfl
@[simp] theorem zero15 : zeroT Try.prog 15 = some [M.c (C.v (Value.pointer none))] := by kernel_rfl
@[simp] theorem sz16 : szT Try.prog 16 = 1 := by kernel_rfl
@[simp] theorem szob16 : szOb Try.prog 16 = 1 := by kernel_rfl
@[simp] theorem szbx16 : szBx Try.prog 16 = 1 := by kernel_rfl
@[simp] theorem agg16 : isAggT Try.prog 16 = false := by kernel_rfl
@[simp] theorem ok16 : okT Try.prog 16 = true := by kernel_rfl
@[simp] theorem oke16 : okE Try.prog 16 = true := by kernel_rfl
@[simp] theorem okz16 : okZ Try.prog 16 = true := by kernel_rfl
@[simp] theorem bytes16 : Program.bytesOf Try.prog 16 = 8 := by kernel_rfl
@[simp] theorem zero16 : zeroT Try.prog 16 = some [M.c (C.v (Value.pointer none))] := by kernel_rfl
@[simp] theorem sz17 : szT Try.prog 17 = 1 := by kernel_rfl
@[simp] theorem szob17 : szOb Try.prog 17 = 1 := by kernel_rfl
@[simp] theorem szbx17 : szBx Try.prog 17 = 1 := by kernel_rfl
@[simp] theorem agg17 : isAggT Try.prog 17 = false := by kernel_rfl
@[simp] theorem ok17 : okT Try.prog 17 = true := by kernel_rfl
@[simp] theorem oke17 : okE Try.prog 17 = true := by kernel_rfl
@[simp] theorem okz17 : okZ Try.prog 17 = true := by kernel_rfl
@[simp] theorem bytes17 : Program.bytesOf Try.prog 17 = 8 := by kernel_rfl
@[simp] theorem zero17 : zeroT Try.prog 17 = some [M.c (C.v (Value.pointer none))] := by kernel_rfl
@[simp] theorem sz18 : szT Try.prog 18 = 1 := by kernel_rfl
@[simp] theorem szob18 : szOb Try.prog 18 = 1 := by kernel_rfl
@[simp] theorem szbx18 : szBx Try.prog 18 = 1 := by kernel_rfl
@[simp] theorem agg18 : isAggT Try.prog 18 = true := by kernel_rfl
@[simp] theorem ok18 : okT Try.prog 18 = true := by kernel_rfl
@[simp] theorem oke18 : okE Try.prog 18 = true := by kernel_rfl
@[simp] theorem okz18 : okZ Try.prog 18 = true := by kernel_rfl
@[simp] theorem bytes18 : Program.bytesOf Try.prog 18 = 8 := by kernel_rfl
@[simp] theorem zero18 : zeroT Try.prog 18 = some [M.c (C.v (Value.pointer none))] := by kernel_rfl
@[simp] theorem sz19 : szT Try.prog 19 = 1 := by kernel_rfl
@[simp] theorem szob19 : szOb Try.prog 19 = 1 := by kernel_rfl
@[simp] theorem szbx19 : szBx Try.prog 19 = 1 := by kernel_rfl
@[simp] theorem agg19 : isAggT Try.prog 19 = true := by kernel_rfl
@[simp] theorem ok19 : okT Try.prog 19 = true := by kernel_rfl
@[simp] theorem oke19 : okE Try.prog 19 = true := by kernel_rfl
@[simp] theorem okz19 : okZ Try.prog 19 = true := by kernel_rfl
@[simp] theorem bytes19 : Program.bytesOf Try.prog 19 = 8 := by kernel_rfl
@[simp] theorem zero19 : zeroT Try.prog 19 = some [M.c (C.v (Value.pointer none))] := by kernel_rfl
@[simp] theorem sz20 : szT Try.prog 20 = 1 := by kernel_rfl
@[simp] theorem szob20 : szOb Try.prog 20 = 1 := by kernel_rfl
@[simp] theorem szbx20 : szBx Try.prog 20 = 1 := by kernel_rfl
@[simp] theorem agg20 : isAggT Try.prog 20 = false := by kernel_rfl
@[simp] theorem ok20 : okT Try.prog 20 = true := by kernel_rfl
@[simp] theorem oke20 : okE Try.prog 20 = true := by kernel_rfl
@[simp] theorem okz20 : okZ Try.prog 20 = true := by kernel_rfl
@[simp] theorem bytes20 : Program.bytesOf Try.prog 20 = 16 := by kernel_rfl
@[simp] theorem zero20 : zeroT Try.prog 20 = some [M.c (C.v Value.nilIface)] := by kernel_rfl
@[simp] theorem sz21 : szT Try.prog 21 = 1 := by kernel_rfl
@[simp] theorem szob21 : szOb Try.prog 21 = 1 := by kernel_rfl
@[simp] theorem szbx21 : szBx Try.prog 21 = 1 := by kernel_rfl
@[simp] theorem agg21 : isAggT Try.prog 21 = false := by kernel_rfl
@[simp] theorem ok21 : okT Try.prog 21 = true := by kernel_rfl
@[simp] theorem oke21 : okE Try.prog 21 = true := by kernel_rfl
@[simp] theorem okz21 : okZ Try.prog 21 = true := by kernel_rfl
@[simp] theorem bytes21 : Program.bytesOf Try.prog 21 = 4 := by kernel_rfl
@[simp] theorem zero21 : zeroT Try.prog 21 = some [M.c (C.v (Value.int IntKind.i32 0))] := by kernel_rfl
@[simp] theorem sz22 : szT Try.prog 22 = 1 := by kernel_rfl
@[simp] theorem szob22 : szOb Try.prog 22 = 1 := by kernel_rfl
@[simp] theorem szbx22 : szBx Try.prog 22 = 1 := by kernel_rfl
@[simp] theorem agg22 : isAggT Try.prog 22 = false := by kernel_rfl
@[simp] theorem ok22 : okT Try.prog 22 = true := by kernel_rfl
@[simp] theorem oke22 : okE Try.prog 22 = true := by kernel_rfl
@[simp] theorem okz22 : okZ Try.prog 22 = true := by kernel_rfl
@[simp] theorem bytes22 : Program.bytesOf Try.prog 22 = 24 := by kernel_rfl
@[simp] theorem zero22 : zeroT Try.prog 22 = some [M.c (C.v (Value.slice none 0 0))] := by kernel_rfl
@[simp] theorem sz23 : szT Try.prog 23 = 1 := by kernel_rfl
@[simp] theorem szob23 : szOb Try.prog 23 = 1 := by kernel_rfl
@[simp] theorem szbx23 : szBx Try.prog 23 = 1 := by kernel_rfl
@[simp] theorem agg23 : isAggT Try.prog 23 = false := by kernel_rfl
@[simp] theorem ok23 : okT Try.prog 23 = true := by kernel_rfl
@[simp] theorem oke23 : okE Try.prog 23 = true := by kernel_rfl
@[simp] theorem okz23 : okZ Try.prog 23 = true := by kernel_rfl
@[simp] theorem bytes23 : Program.bytesOf Try.prog 23 = 24 := by kernel_rfl
@[simp] theorem zero23 : zeroT Try.prog 23 = some [M.c (C.v (Value.slice none 0 0))] := by kernel_rfl
@[simp] theorem sz24 : szT Try.prog 24 = 2 := by kernel_rfl
@[simp] theorem leaves24 : leavesX Try.prog 24 = some [0, 0] := by kernel_rfl
@[simp] theorem szob24 : szOb Try.prog 24 = 1 := by kernel_rfl
@[simp] theorem szbx24 : szBx Try.prog 24 = 1 := by kernel_rfl
@[simp] theorem agg24 : isAggT Try.prog 24 = true := by kernel_rfl
@[simp] theorem ok24 : okT Try.prog 24 = true := by kernel_rfl
@[simp] theorem oke24 : okE Try.prog 24 = true := by kernel_rfl
@[simp] theorem okz24 : okZ Try.prog 24 = true := by kernel_rfl
@[simp] theorem bytes24 : Program.bytesOf Try.prog 24 = 16 := by kernel_rfl
@[simp] theorem zero24 : zeroT Try.prog 24 = some [M.c (C.v (Value.int IntKind.i64 0)), M.c (C.v (Value.int IntKind.i64 0))] := by kernel_rfl
@[simp] theorem sz25 : szT Try.prog 25 = 1 := by kernel_rfl
@[simp] theorem szob25 : szOb Try.prog 25 = 1 := by kernel_rfl
@[simp] theorem szbx25 : szBx Try.prog 25 = 1 := by kernel_rfl
@[simp] theorem agg25 : isAggT Try.prog 25 = false := by kernel_rfl
@[simp] theorem ok25 : okT Try.prog 25 = true := by kernel_rfl
@[simp] theorem oke25 : okE Try.prog 25 = true := by kernel_rfl
@[simp] theorem okz25 : okZ Try.prog 25 = true := by kernel_rfl
@[simp] theorem bytes25 : Program.bytesOf Try.prog 25 = 8 := by kernel_rfl
@[simp] theorem zero25 : zeroT Try.prog 25 = some [M.c (C.v Value.nilFunc)] := by kernel_rfl
@[simp] theorem sz26 : szT Try.prog 26 = 1 := by kernel_rfl
@[simp] theorem szob26 : szOb Try.prog 26 = 1 := by kernel_rfl
@[simp] theorem szbx26 : szBx Try.prog 26 = 1 := by kernel_rfl
@[simp] theorem agg26 : isAggT Try.prog 26 = false := by kernel_rfl
@[simp] theorem ok26 : okT Try.prog 26 = true := by kernel_rfl
@[simp] theorem oke26 : okE Try.prog 26 = true := by kernel_rfl
@[simp] theorem okz26 : okZ Try.prog 26 = true := by kernel_rfl
@[simp] theorem bytes26 : Program.bytesOf Try.prog 26 = 8 := by kernel_rfl
@[simp] theorem zero26 : zeroT Try.prog 26 = some [M.c (C.v Value.nilFunc)] := by kernel_rfl
@[simp] theorem sz27 : szT Try.prog 27 = 1 := by kernel_rfl
@[simp] theorem szob27 : szOb Try.prog 27 = 1 := by kernel_rfl
@[simp] theorem szbx27 : szBx Try.prog 27 = 1 := by kernel_rfl
@[simp] theorem agg27 : isAggT Try.prog 27 = false := by kernel_rfl
@[simp] theorem ok27 : okT Try.prog 27 = true := by kernel_rfl
@[simp] theorem oke27 : okE Try.prog 27 = true := by kernel_rfl
@[simp] theorem okz27 : okZ Try.prog 27 = true := by kernel_rfl
@[simp] theorem bytes27 : Program.bytesOf Try.prog 27 = 8 := by kernel_rfl
@[simp] theorem zero27 : zeroT Try.prog 27 = some [M.c (C.v Value.nilFunc)] := by kernel_rfl
@[simp] theorem sz28 : szT Try.prog 28 = 1 := by kernel_rfl
@[simp] theorem szob28 : szOb Try.prog 28 = 1 := by kernel_rfl
@[simp] theorem szbx28 : szBx Try.prog 28 = 1 := by kernel_rfl
@[simp] theorem agg28 : isAggT Try.prog 28 = false := by kernel_rfl
@[simp] theorem ok28 : okT Try.prog 28 = true := by kernel_rfl
@[simp] theorem oke28 : okE Try.prog 28 = true := by kernel_rfl
@[simp] theorem okz28 : okZ Try.prog 28 = true := by kernel_rfl
@[simp] theorem bytes28 : Program.bytesOf Try.prog 28 = 8 := by kernel_rfl
@[simp] theorem zero28 : zeroT Try.prog 28 = some [M.c (C.v Value.nilFunc)] := by kernel_rfl
@[simp] theorem sz29 : szT Try.prog 29 = 1 := by kernel_rfl
@[simp] theorem szob29 : szOb Try.prog 29 = 1 := by kernel_rfl
@[simp] theorem szbx29 : szBx Try.prog 29 = 1 := by kernel_rfl
@[simp] theorem agg29 : isAggT Try.prog 29 = false := by kernel_rfl
@[simp] theorem ok29 : okT Try.prog 29 = true := by kernel_rfl
@[simp] theorem oke29 : okE Try.prog 29 = true := by kernel_rfl
@[simp] theorem okz29 : okZ Try.prog 29 = true := by kernel_rfl
@[simp] theorem bytes29 : Program.bytesOf Try.prog 29 = 8 := by kernel_rfl
@[simp] theorem zero29 : zeroT Try.prog 29 = some [M.c (C.v Value.nilFunc)] := by kernel_rfl
@[simp] theorem sz30 : szT Try.prog 30 = 1 := by kernel_rfl
@[simp] theorem szob30 : szOb Try.prog 30 = 1 := by kernel_rfl
@[simp] theorem szbx30 : szBx Try.prog 30 = 1 := by kernel_rfl
@[simp] theorem agg30 : isAggT Try.prog 30 = false := by kernel_rfl
@[simp] theorem ok30 : okT Try.prog 30 = true := by kernel_rfl
@[simp] theorem oke30 : okE Try.prog 30 = true := by kernel_rfl
@[simp] theorem okz30 : okZ Try.prog 30 = true := by kernel_rfl
@[simp] theorem bytes30 : Program.bytesOf Try.prog 30 = 8 := by kernel_rfl
@[simp] theorem zero30 : zeroT Try.prog 30 = some [M.c (C.v Value.nilFunc)] := by kernel_rfl
@[simp] theorem sz31 : szT Try.prog 31 = 1 := by kernel_rfl
@[simp] theorem szob31 : szOb Try.prog 31 = 1 := by kernel_rfl
@[simp] theorem szbx31 : szBx Try.prog 31 = 1 := by kernel_rfl
@[simp] theorem agg31 : isAggT Try.prog 31 = false := by kernel_rfl
@[simp] theorem ok31 : okT Try.prog 31 = true := by kernel_rfl
@[simp] theorem oke31 : okE Try.prog 31 = true := by kernel_rfl
@[simp] theorem okz31 : okZ Try.prog 31 = true := by kernel_rfl
@[simp] theorem bytes31 : Program.bytesOf Try.prog 31 = 8 := by kernel_rfl
@[simp] theorem zero31 : zeroT Try.prog 31 = some [M.c (C.v Value.nilFunc)] := by kernel_rfl
@[simp] theorem sz32 : szT Try.prog 32 = 1 := by kernel_rfl
@[simp] theorem szob32 : szOb Try.prog 32 = 1 := by kernel_rfl
@[simp] theorem szbx32 : szBx Try.prog 32 = 1 := by kernel_rfl
@[simp] theorem agg32 : isAggT Try.prog 32 = false := by kernel_rfl
@[simp] theorem ok32 : okT Try.prog 32 = true := by kernel_rfl
@[simp] theorem oke32 : okE Try.prog 32 = true := by kernel_rfl
@[simp] theorem okz32 : okZ Try.prog 32 = true := by kernel_rfl
@[simp] theorem bytes32 : Program.bytesOf Try.prog 32 = 8 := by kernel_rfl
@[simp] theorem zero32 : zeroT Try.prog 32 = some [M.c (C.v Value.nilFunc)] := by kernel_rfl
@[simp] theorem sz33 : szT Try.prog 33 = 1 := by kernel_rfl
@[simp] theorem szob33 : szOb Try.prog 33 = 1 := by kernel_rfl
@[simp] theorem szbx33 : szBx Try.prog 33 = 1 := by kernel_rfl
@[simp] theorem agg33 : isAggT Try.prog 33 = false := by kernel_rfl
@[simp] theorem ok33 : okT Try.prog 33 = true := by kernel_rfl
@[simp] theorem oke33 : okE Try.prog 33 = true := by kernel_rfl
@[simp] theorem okz33 : okZ Try.prog 33 = true := by kernel_rfl
@[simp] theorem bytes33 : Program.bytesOf Try.prog 33 = 8 := by kernel_rfl
@[simp] theorem zero33 : zeroT Try.prog 33 = some [M.c (C.v Value.nilFunc)] := by kernel_rfl
@[simp] theorem sz34 : szT Try.prog 34 = 3 := by kernel_rfl
@[simp] theorem leaves34 : leavesX Try.prog 34 = some [0, 0, 0] := by kernel_rfl
@[simp] theorem szob34 : szOb Try.prog 34 = 1 := by kernel_rfl
@[simp] theorem szbx34 : szBx Try.prog 34 = 1 := by kernel_rfl
@[simp] theorem agg34 : isAggT Try.prog 34 = true := by kernel_rfl
@[simp] theorem ok34 : okT Try.prog 34 = true := by kernel_rfl
@[simp] theorem oke34 : okE Try.prog 34 = true := by kernel_rfl
@[simp] theorem okz34 : okZ Try.prog 34 = true := by kernel_rfl
@[simp] theorem bytes34 : Program.bytesOf Try.prog 34 = 24 := by kernel_rfl
@[simp] theorem zero34 : zeroT Try.prog 34 = some [M.c (C.v (Value.int IntKind.i64 0)), M.c (C.v (Value.int IntKind.i64 0)), M.c (C.v (Value.int IntKind.i64 0))] := by kernel_rfl
@[simp] theorem sz35 : szT Try.prog 35 = 1 := by kernel_rfl
@[simp] theorem szob35 : szOb Try.prog 35 = 1 := by kernel_rfl
@[simp] theorem szbx35 : szBx Try.prog 35 = 1 := by kernel_rfl
@[simp] theorem agg35 : isAggT Try.prog 35 = false := by kernel_rfl
@[simp] theorem ok35 : okT Try.prog 35 = true := by kernel_rfl
@[simp] theorem oke35 : okE Try.prog 35 = true := by kernel_rfl
@[simp] theorem okz35 : okZ Try.prog 35 = true := by kernel_rfl
@[simp] theorem bytes35 : Program.bytesOf Try.prog 35 = 8 := by kernel_rfl
@[simp] theorem zero35 : zeroT Try.prog 35 = some [M.c (C.v Value.nilFunc)] := by kernel_rfl
@[simp] theorem sz36 : szT Try.prog 36 = 1 := by kernel_rfl
@[simp] theorem szob36 : szOb Try.prog 36 = 1 := by kernel_rfl
@[simp] theorem szbx36 : szBx Try.prog 36 = 1 := by kernel_rfl
@[simp] theorem agg36 : isAggT Try.prog 36 = false := by kernel_rfl
@[simp] theorem ok36 : okT Try.prog 36 = true := by kernel_rfl
@[simp] theorem oke36 : okE Try.prog 36 = true := by kernel_rfl
@[simp] theorem okz36 : okZ Try.prog 36 = true := by kernel_rfl
@[simp] theorem bytes36 : Program.bytesOf Try.prog 36 = 8 := by kernel_rfl
@[simp] theorem zero36 : zeroT Try.prog 36 = some [M.c (C.v Value.nilFunc)] := by kernel_rfl
@[simp] theorem sz37 : szT Try.prog 37 = 1 := by kernel_rfl
@[simp] theorem szob37 : szOb Try.prog 37 = 1 := by kernel_rfl
@[simp] theorem szbx37 : szBx Try.prog 37 = 1 := by kernel_rfl
@[simp] theorem agg37 : isAggT Try.prog 37 = false := by kernel_rfl
@[simp] theorem ok37 : okT Try.prog 37 = true := by kernel_rfl
@[simp] theorem oke37 : okE Try.prog 37 = true := by kernel_rfl
@[simp] theorem okz37 : okZ Try.prog 37 = true := by kernel_rfl
@[simp] theorem bytes37 : Program.bytesOf Try.prog 37 = 8 := by kernel_rfl
@[simp] theorem zero37 : zeroT Try.prog 37 = some [M.c (C.v Value.nilFunc)] := by kernel_rfl
@[simp] theorem sz38 : szT Try.prog 38 = 1 := by kernel_rfl
@[simp] theorem szob38 : szOb Try.prog 38 = 1 := by kernel_rfl
@[simp] theorem szbx38 : szBx Try.prog 38 = 1 := by kernel_rfl
@[simp] theorem agg38 : isAggT Try.prog 38 = false := by kernel_rfl
@[simp] theorem ok38 : okT Try.prog 38 = true := by kernel_rfl
@[simp] theorem oke38 : okE Try.prog 38 = true := by kernel_rfl
@[simp] theorem okz38 : okZ Try.prog 38 = true := by kernel_rfl
@[simp] theorem bytes38 : Program.bytesOf Try.prog 38 = 8 := by kernel_rfl
@[simp] theorem zero38 : zeroT Try.prog 38 = some [M.c (C.v Value.nilFunc)] := by kernel_rfl
@[simp] theorem sz39 : szT Try.prog 39 = 1 := by kernel_rfl
@[simp] theorem szob39 : szOb Try.prog 39 = 1 := by kernel_rfl
@[simp] theorem szbx39 : szBx Try.prog 39 = 1 := by kernel_rfl
@[simp] theorem agg39 : isAggT Try.prog 39 = false := by kernel_rfl
@[simp] theorem ok39 : okT Try.prog 39 = true := by kernel_rfl
@[simp] theorem oke39 : okE Try.prog 39 = true := by kernel_rfl
@[simp] theorem okz39 : okZ Try.prog 39 = true := by kernel_rfl
@[simp] theorem bytes39 : Program.bytesOf Try.prog 39 = 8 := by kernel_rfl
@[simp] theorem zero39 : zeroT Try.prog 39 = some [M.c (C.v Value.nilFunc)] := by kernel_rfl
@[simp] theorem sz40 : szT Try.prog 40 = 1 := by kernel_rfl
@[simp] theorem szob40 : szOb Try.prog 40 = 1 := by kernel_rfl
@[simp] theorem szbx40 : szBx Try.prog 40 = 1 := by kernel_rfl
@[simp] theorem agg40 : isAggT Try.prog 40 = false := by kernel_rfl
@[simp] theorem ok40 : okT Try.prog 40 = true := by kernel_rfl
@[simp] theorem oke40 : okE Try.prog 40 = true := by kernel_rfl
@[simp] theorem okz40 : okZ Try.prog 40 = true := by kernel_rfl
@[simp] theorem bytes40 : Program.bytesOf Try.prog 40 = 24 := by kernel_rfl
@[simp] theorem zero40 : zeroT Try.prog 40 = some [M.c (C.v (Value.slice none 0 0))] := by kernel_rfl
@[simp] theorem sz41 : szT Try.prog 41 = 1 := by kernel_rfl
@[simp] theorem szob41 : szOb Try.prog 41 = 1 := by kernel_rfl
@[simp] theorem szbx41 : szBx Try.prog 41 = 1 := by kernel_rfl
@[simp] theorem agg41 : isAggT Try.prog 41 = false := by kernel_rfl
@[simp] theorem ok41 : okT Try.prog 41 = true := by kernel_rfl
@[simp] theorem oke41 : okE Try.prog 41 = true := by kernel_rfl
@[simp] theorem okz41 : okZ Try.prog 41 = true := by kernel_rfl
@[simp] theorem bytes41 : Program.bytesOf Try.prog 41 = 8 := by kernel_rfl
@[simp] theorem zero41 : zeroT Try.prog 41 = some [M.c (C.v Value.nilFunc)] := by kernel_rfl
@[simp] theorem sz42 : szT Try.prog 42 = 1 := by kernel_rfl
@[simp] theorem szob42 : szOb Try.prog 42 = 1 := by kernel_rfl
@[simp] theorem szbx42 : szBx Try.prog 42 = 1 := by kernel_rfl
@[simp] theorem agg42 : isAggT Try.prog 42 = false := by kernel_rfl
@[simp] theorem ok42 : okT Try.prog 42 = true := by kernel_rfl
@[simp] theorem oke42 : okE Try.prog 42 = true := by kernel_rfl
@[simp] theorem okz42 : okZ Try.prog 42 = true := by kernel_rfl
@[simp] theorem bytes42 : Program.bytesOf Try.prog 42 = 8 := by kernel_rfl
@[simp] theorem zero42 : zeroT Try.prog 42 = some [M.c (C.v Value.nilFunc)] := by kernel_rfl
@[simp] theorem sz43 : szT Try.prog 43 = 1 := by kernel_rfl
@[simp] theorem szob43 : szOb Try.prog 43 = 1 := by kernel_rfl
@[simp] theorem szbx43 : szBx Try.prog 43 = 1 := by kernel_rfl
@[simp] theorem agg43 : isAggT Try.prog 43 = false := by kernel_rfl
@[simp] theorem ok43 : okT Try.prog 43 = true := by kernel_rfl
@[simp] theorem oke43 : okE Try.prog 43 = true := by kernel_rfl
@[simp] theorem okz43 : okZ Try.prog 43 = true := by kernel_rfl
@[simp] theorem bytes43 : Program.bytesOf Try.prog 43 = 8 := by kernel_rfl
@[simp] theorem zero43 : zeroT Try.prog 43 = some [M.c (C.v Value.nilFunc)] := by kernel_rfl
@[simp] theorem sz44 : szT Try.prog 44 = 1 := by kernel_rfl
@[simp] theorem szob44 : szOb Try.prog 44 = 1 := by kernel_rfl
@[simp] theorem szbx44 : szBx Try.prog 44 = 1 := by kernel_rfl
@[simp] theorem agg44 : isAggT Try.prog 44 = false := by kernel_rfl
@[simp] theorem ok44 : okT Try.prog 44 = true := by kernel_rfl
@[simp] theorem oke44 : okE Try.prog 44 = true := by kernel_rfl
@[simp] theorem okz44 : okZ Try.prog 44 = true := by kernel_rfl
@[simp] theorem bytes44 : Program.bytesOf Try.prog 44 = 0 := by kernel_rfl
@[simp] theorem sz45 : szT Try.prog 45 = 1 := by kernel_rfl
@[simp] theorem szob45 : szOb Try.prog 45 = 1 := by kernel_rfl
@[simp] theorem szbx45 : szBx Try.prog 45 = 1 := by kernel_rfl
@[simp] theorem agg45 : isAggT Try.prog 45 = false := by kernel_rfl
@[simp] theorem ok45 : okT Try.prog 45 = true := by kernel_rfl
@[simp] theorem oke45 : okE Try.prog 45 = true := by kernel_rfl
@[simp] theorem okz45 : okZ Try.prog 45 = true := by kernel_rfl
@[simp] theorem bytes45 : Program.bytesOf Try.prog 45 = 8 := by kernel_rfl
@[simp] theorem zero45 : zeroT Try.prog 45 = some [M.c (C.v Value.nilFunc)] := by kernel_rfl
@[simp] theorem sz46 : szT Try.prog 46 = 1 := by kernel_rfl
@[simp] theorem szob46 : szOb Try.prog 46 = 1 := by kernel_rfl
@[simp] theorem szbx46 : szBx Try.prog 46 = 1 := by kernel_rfl
@[simp] theorem agg46 : isAggT Try.prog 46 = false := by kernel_rfl
@[simp] theorem ok46 : okT Try.prog 46 = true := by kernel_rfl
@[simp] theorem oke46 : okE Try.prog 46 = true := by kernel_rfl
@[simp] theorem okz46 : okZ Try.prog 46 = true := by kernel_rfl
@[simp] theorem bytes46 : Program.bytesOf Try.prog 46 = 8 := by kernel_rfl
@[simp] theorem zero46 : zeroT Try.prog 46 = some [M.c (C.v (Value.int IntKind.u64 0))] := by kernel_rfl
@[simp] theorem sz47 : szT Try.prog 47 = 1 := by kernel_rfl
@[simp] theorem szob47 : szOb Try.prog 47 = 1 := by kernel_rfl
@[simp] theorem szbx47 : szBx Try.prog 47 = 1 := by kernel_rfl
@[simp] theorem agg47 : isAggT Try.prog 47 = false := by kernel_rfl
@[simp] theorem ok47 : okT Try.prog 47 = true := by kernel_rfl
@[simp] theorem oke47 : okE Try.prog 47 = true := by kernel_rfl
@[simp] theorem okz47 : okZ Try.prog 47 = true := by kernel_rfl
@[simp] theorem bytes47 : Program.bytesOf Try.prog 47 = 8 := by kernel_rfl
@[simp] theorem zero47 : zeroT Try.prog 47 = some [M.c (C.v Value.nilFunc)] := by kernel_rfl
@[simp] theorem sz48 : szT Try.prog 48 = 32 := by kernel_rfl
@[simp] theorem leaves48 : leavesX Try.prog 48 = some (List.replicate 32 0) := by kernel_rfl
@[simp] theorem szob48 : szOb Try.prog 48 = 1 := by kernel_rfl
@[simp] theorem szbx48 : szBx Try.prog 48 = 1 := by kernel_rfl
@[simp] theorem agg48 : isAggT Try.prog 48 = true := by kernel_rfl
@[simp] theorem ok48 : okT Try.prog 48 = true := by kernel_rfl
@[simp] theorem oke48 : okE Try.prog 48 = true := by kernel_rfl
@[simp] theorem okz48 : okZ Try.prog 48 = true := by kernel_rfl
@[simp] theorem bytes48 : Program.bytesOf Try.prog 48 = 32 := by kernel_rfl
@[simp] theorem zero48 : zeroT Try.prog 48 = some (List.replicate 32 (M.c (C.v (Value.int IntKind.u8 0)))) := by kernel_rfl
@[simp] theorem sz49 : szT Try.prog 49 = 32 := by kernel_rfl
@[simp] theorem leaves49 : leavesX Try.prog 49 = some (List.replicate 32 0) := by kernel_rfl
@[simp] theorem szob49 : szOb Try.prog 49 = 1 := by kernel_rfl
@[simp] theorem szbx49 : szBx Try.prog 49 = 1 := by kernel_rfl
@[simp] theorem agg49 : isAggT Try.prog 49 = true := by kernel_rfl
@[simp] theorem ok49 : okT Try.prog 49 = true := by kernel_rfl
@[simp] theorem oke49 : okE Try.prog 49 = true := by kernel_rfl
@[simp] theorem okz49 : okZ Try.prog 49 = true := by kernel_rfl
@[simp] theorem bytes49 : Program.bytesOf Try.prog 49 = 32 := by kernel_rfl
@[simp] theorem zero49 : zeroT Try.prog 49 = some (List.replicate 32 (M.c (C.v (Value.int IntKind.u8 0)))) := by kernel_rfl
@[simp] theorem sz50 : szT Try.prog 50 = 1 := by kernel_rfl
@[simp] theorem szob50 : szOb Try.prog 50 = 1 := by kernel_rfl
@[simp] theorem szbx50 : szBx Try.prog 50 = 1 := by kernel_rfl
@[simp] theorem agg50 : isAggT Try.prog 50 = false := by kernel_rfl
@[simp] theorem ok50 : okT Try.prog 50 = true := by kernel_rfl
@[simp] theorem oke50 : okE Try.prog 50 = true := by kernel_rfl
@[simp] theorem okz50 : okZ Try.prog 50 = true := by kernel_rfl
@[simp] theorem bytes50 : Program.bytesOf Try.prog 50 = 0 := by kernel_rfl
@[simp] theorem sz51 : szT Try.prog 51 = 1 := by kernel_rfl
@[simp] theorem szob51 : szOb Try.prog 51 = 1 := by kernel_rfl
@[simp] theorem szbx51 : szBx Try.prog 51 = 1 := by kernel_rfl
@[simp] theorem agg51 : isAggT Try.prog 51 = false := by kernel_rfl
@[simp] theorem ok51 : okT Try.prog 51 = true := by kernel_rfl
@[simp] theorem oke51 : okE Try.prog 51 = true := by kernel_rfl
@[simp] theorem okz51 : okZ Try.prog 51 = true := by kernel_rfl
@[simp] theorem bytes51 : Program.bytesOf Try.prog 51 = 8 := by kernel_rfl
@[simp] theorem zero51 : zeroT Try.prog 51 = some [M.c (C.v Value.nilFunc)] := by kernel_rfl
@[simp] theorem sz52 : szT Try.prog 52 = 1 := by kernel_rfl
@[simp] theorem szob52 : szOb Try.prog 52 = 1 := by kernel_rfl
@[simp] theorem szbx52 : szBx Try.prog 52 = 1 := by kernel_rfl
@[simp] theorem agg52 : isAggT Try.prog 52 = false := by kernel_rfl
@[simp] theorem ok52 : okT Try.prog 52 = true := by kernel_rfl
@[simp] theorem oke52 : okE Try.prog 52 = true := by kernel_rfl
@[simp] theorem okz52 : okZ Try.prog 52 = true := by kernel_rfl
@[simp] theorem bytes52 : Program.bytesOf Try.prog 52 = 8 := by kernel_rfl
@[simp] theorem zero52 : zeroT Try.prog 52 = some [M.c (C.v Value.nilFunc)] := by kernel_rfl
@[simp] theorem sz53 : szT Try.prog 53 = 64 := by kernel_rfl
@[simp] theorem leaves53 : leavesX Try.prog 53 = some (List.replicate 64 0) := by kernel_rfl
@[simp] theorem szob53 : szOb Try.prog 53 = 32 := by kernel_rfl
@[simp] theorem szbx53 : szBx Try.prog 53 = 32 := by kernel_rfl
@[simp] theorem agg53 : isAggT Try.prog 53 = true := by kernel_rfl
@[simp] theorem ok53 : okT Try.prog 53 = true := by kernel_rfl
@[simp] theorem oke53 : okE Try.prog 53 = true := by kernel_rfl
@[simp] theorem okz53 : okZ Try.prog 53 = true := by kernel_rfl
@[simp] theorem bytes53 : Program.bytesOf Try.prog 53 = 64 := by kernel_rfl
@[simp] theorem zero53 : zeroT Try.prog 53 = some (List.replicate 64 (M.c (C.v (Value.int IntKind.u8 0)))) := by kernel_rfl
@[simp] theorem sz54 : szT Try.prog 54 = 1 := by kernel_rfl
@[simp] theorem szob54 : szOb Try.prog 54 = 1 := by kernel_rfl
@[simp] theorem szbx54 : szBx Try.prog 54 = 1 := by kernel_rfl
@[simp] theorem agg54 : isAggT Try.prog 54 = false := by kernel_rfl
@[simp] theorem ok54 : okT Try.prog 54 = true := by kernel_rfl
@[simp] theorem oke54 : okE Try.prog 54 = true := by kernel_rfl
@[simp] theorem okz54 : okZ Try.prog 54 = true := by kernel_rfl
@[simp] theorem bytes54 : Program.bytesOf Try.prog 54 = 8 := by kernel_rfl
@[simp] theorem zero54 : zeroT Try.prog 54 = some [M.c (C.v (Value.int IntKind.u64 0))] := by kernel_rfl
@[simp] theorem sz55 : szT Try.prog 55 = 1 := by kernel_rfl
@[simp] theorem szob55 : szOb Try.prog 55 = 1 := by kernel_rfl
@[simp] theorem szbx55 : szBx Try.prog 55 = 1 := by kernel_rfl
@[simp] theorem agg55 : isAggT Try.prog 55 = false := by kernel_rfl
@[simp] theorem ok55 : okT Try.prog 55 = true := by kernel_rfl
@[simp] theorem oke55 : okE Try.prog 55 = true := by kernel_rfl
@[simp] theorem okz55 : okZ Try.prog 55 = true := by kernel_rfl
@[simp] theorem bytes55 : Program.bytesOf Try.prog 55 = 8 := by kernel_rfl
@[simp] theorem zero55 : zeroT Try.prog 55 = some [M.c (C.v Value.nilFunc)] := by kernel_rfl
@[simp] theorem sz56 : szT Try.prog 56 = 1 := by kernel_rfl
@[simp] theorem szob56 : szOb Try.prog 56 = 1 := by kernel_rfl
@[simp] theorem szbx56 : szBx Try.prog 56 = 1 := by kernel_rfl
@[simp] theorem agg56 : isAggT Try.prog 56 = false := by kernel_rfl
@[simp] theorem ok56 : okT Try.prog 56 = true := by kernel_rfl
@[simp] theorem oke56 : okE Try.prog 56 = true := by kernel_rfl
@[simp] theorem okz56 : okZ Try.prog 56 = true := by kernel_rfl
@[simp] theorem bytes56 : Program.bytesOf Try.prog 56 = 8 := by kernel_rfl
@[simp] theorem zero56 : zeroT Try.prog 56 = some [M.c (C.v Value.nilFunc)] := by kernel_rfl
@[simp] theorem sz57 : szT Try.prog 57 = 1 := by kernel_rfl
@[simp] theorem szob57 : szOb Try.prog 57 = 1 := by kernel_rfl
@[simp] theorem szbx57 : szBx Try.prog 57 = 1 := by kernel_rfl
@[simp] theorem agg57 : isAggT Try.prog 57 = false := by kernel_rfl
@[simp] theorem ok57 : okT Try.prog 57 = true := by kernel_rfl
@[simp] theorem oke57 : okE Try.prog 57 = true := by kernel_rfl
@[simp] theorem okz57 : okZ Try.prog 57 = true := by kernel_rfl
@[simp] theorem bytes57 : Program.bytesOf Try.prog 57 = 8 := by kernel_rfl
@[simp] theorem zero57 : zeroT Try.prog 57 = some [M.c (C.v Value.nilFunc)] := by kernel_rfl
@[simp] theorem sz58 : szT Try.prog 58 = 1 := by kernel_rfl
@[simp] theorem szob58 : szOb Try.prog 58 = 1 := by kernel_rfl
@[simp] theorem szbx58 : szBx Try.prog 58 = 1 := by kernel_rfl
@[simp] theorem agg58 : isAggT Try.prog 58 = false := by kernel_rfl
@[simp] theorem ok58 : okT Try.prog 58 = true := by kernel_rfl
@[simp] theorem oke58 : okE Try.prog 58 = true := by kernel_rfl
@[simp] theorem okz58 : okZ Try.prog 58 = true := by kernel_rfl
@[simp] theorem bytes58 : Program.bytesOf Try.prog 58 = 24 := by kernel_rfl
@[simp] theorem zero58 : zeroT Try.prog 58 = some [M.c (C.v (Value.slice none 0 0))] := by kernel_rfl
@[simp] theorem sz59 : szT Try.prog 59 = 1 := by kernel_rfl
@[simp] theorem szob59 : szOb Try.prog 59 = 1 := by kernel_rfl
@[simp] theorem szbx59 : szBx Try.prog 59 = 1 := by kernel_rfl
@[simp] theorem agg59 : isAggT Try.prog 59 = false := by kernel_rfl
@[simp] theorem ok59 : okT Try.prog 59 = true := by kernel_rfl
@[simp] theorem oke59 : okE Try.prog 59 = true := by kernel_rfl
@[simp] theorem okz59 : okZ Try.prog 59 = true := by kernel_rfl
@[simp] theorem bytes59 : Program.bytesOf Try.prog 59 = 8 := by kernel_rfl
@[simp] theorem zero59 : zeroT Try.prog 59 = some [M.c (C.v Value.nilFunc)] := by kernel_rfl
@[simp] theorem sz60 : szT Try.prog 60 = 1 := by kernel_rfl
@[simp] theorem szob60 : szOb Try.prog 60 = 1 := by kernel_rfl
@[simp] theorem szbx60 : szBx Try.prog 60 = 1 := by kernel_rfl
@[simp] theorem agg60 : isAggT Try.prog 60 = false := by kernel_rfl
@[simp] theorem ok60 : okT Try.prog 60 = true := by kernel_rfl
@[simp] theorem oke60 : okE Try.prog 60 = true := by kernel_rfl
@[simp] theorem okz60 : okZ Try.prog 60 = true := by kernel_rfl
@[simp] theorem bytes60 : Program.bytesOf Try.prog 60 = 8 := by kernel_rfl
@[simp] theorem zero60 : zeroT Try.prog 60 = some [M.c (C.v Value.nilFunc)] := by kernel_rfl
@[simp] theorem sz61 : szT Try.prog 61 = 1 := by kernel_rfl
@[simp] theorem szob61 : szOb Try.prog 61 = 1 := by kernel_rfl
@[simp] theorem szbx61 : szBx Try.prog 61 = 1 := by kernel_rfl
@[simp] theorem agg61 : isAggT Try.prog 61 = false := by kernel_rfl
@[simp] theorem ok61 : okT Try.prog 61 = true := by kernel_rfl
@[simp] theorem oke61 : okE Try.prog 61 = true := by kernel_rfl
@[simp] theorem okz61 : okZ Try.prog 61 = true := by kernel_rfl
@[simp] theorem bytes61 : Program.bytesOf Try.prog 61 = 8 := by kernel_rfl
@[simp] theorem zero61 : zeroT Try.prog 61 = some [M.c (C.v Value.nilFunc)] := by kernel_rfl
@[simp] theorem sz62 : szT Try.prog 62 = 1 := by kernel_rfl
@[simp] theorem szob62 : szOb Try.prog 62 = 1 := by kernel_rfl
@[simp] theorem szbx62 : szBx Try.prog 62 = 1 := by kernel_rfl
@[simp] theorem agg62 : isAggT Try.prog 62 = false := by kernel_rfl
@[simp] theorem ok62 : okT Try.prog 62 = true := by kernel_rfl
@[simp] theorem oke62 : okE Try.prog 62 = true := by kernel_rfl
@[simp] theorem okz62 : okZ Try.prog 62 = true := by kernel_rfl
@[simp] theorem bytes62 : Program.bytesOf Try.prog 62 = 8 := by kernel_rfl
@[simp] theorem zero62 : zeroT Try.prog 62 = some [M.c (C.v (Value.pointer none))] := by kernel_rfl
@[simp] theorem sz63 : szT Try.prog 63 = 2 := by kernel_rfl
@[simp] theorem szob63 : szOb Try.prog 63 = 2 := by kernel_rfl
@[simp] theorem szbx63 : szBx Try.prog 63 = 2 := by kernel_rfl
@[simp] theorem agg63 : isAggT Try.prog 63 = true := by kernel_rfl
@[simp] theorem ok63 : okT Try.prog 63 = true := by kernel_rfl
@[simp] theorem oke63 : okE Try.prog 63 = true := by kernel_rfl
@[simp] theorem okz63 : okZ Try.prog 63 = true := by kernel_rfl
@[simp] theorem bytes63 : Program.bytesOf Try.prog 63 = 32 := by kernel_rfl
@[simp] theorem zero63 : zeroT Try.prog 63 = some [M.c (C.v (Value.pointer none)), M.c (C.v (Value.slice none 0 0))] := by kernel_rfl
@[simp] theorem sz64 : szT Try.prog 64 = 2 := by kernel_rfl
@[simp] theorem szob64 : szOb Try.prog 64 = 2 := by kernel_rfl
@[simp] theorem szbx64 : szBx Try.prog 64 = 2 := by kernel_rfl
@[simp] theorem agg64 : isAggT Try.prog 64 = true := by kernel_rfl
@[simp] theorem ok64 : okT Try.prog 64 = true := by kernel_rfl
@[simp] theorem oke64 : okE Try.prog 64 = true := by kernel_rfl
@[simp] theorem okz64 : okZ Try.prog 64 = true := by kernel_rfl
@[simp] theorem bytes64 : Program.bytesOf Try.prog 64 = 32 := by kernel_rfl
@[simp] theorem zero64 : zeroT Try.prog 64 = some [M.c (C.v (Value.pointer none)), M.c (C.v (Value.slice none 0 0))] := by kernel_rfl
@[simp] theorem sz65 : szT Try.prog 65 = 1 := by kernel_rfl
@[simp] theorem szob65 : szOb Try.prog 65 = 1 := by kernel_rfl
@[simp] theorem szbx65 : szBx Try.prog 65 = 1 := by kernel_rfl
@[simp] theorem agg65 : isAggT Try.prog 65 = false := by kernel_rfl
@[simp] theorem ok65 : okT Try.prog 65 = true := by kernel_rfl
@[simp] theorem oke65 : okE Try.prog 65 = true := by kernel_rfl
@[simp] theorem okz65 : okZ Try.prog 65 = true := by kernel_rfl
@[simp] theorem bytes65 : Program.bytesOf Try.prog 65 = 16 := by kernel_rfl
@[simp] theorem zero65 : zeroT Try.prog 65 = some [M.c (C.v Value.nilIface)] := by kernel_rfl
@[simp] theorem sz66 : szT Try.prog 66 = 1 := by kernel_rfl
@[simp] theorem szob66 : szOb Try.prog 66 = 1 := by kernel_rfl
@[simp] theorem szbx66 : szBx Try.prog 66 = 1 := by kernel_rfl
@[simp] theorem agg66 : isAggT Try.prog 66 = false := by kernel_rfl
@[simp] theorem ok66 : okT Try.prog 66 = true := by kernel_rfl
@[simp] theorem oke66 : okE Try.prog 66 = true := by kernel_rfl
@[simp] theorem okz66 : okZ Try.prog 66 = true := by kernel_rfl
@[simp] theorem bytes66 : Program.bytesOf Try.prog 66 = 16 := by kernel_rfl
@[simp] theorem zero66 : zeroT Try.prog 66 = some [M.c (C.v Value.nilIface)] := by kernel_rfl
@[simp] theorem sz67 : szT Try.prog 67 = 1 := by kernel_rfl
@[simp] theorem szob67 : szOb Try.prog 67 = 1 := by kernel_rfl
@[simp] theorem szbx67 : szBx Try.prog 67 = 1 := by kernel_rfl
@[simp] theorem agg67 : isAggT Try.prog 67 = false := by kernel_rfl
@[simp] theorem ok67 : okT Try.prog 67 = true := by kernel_rfl
@[simp] theorem oke67 : okE Try.prog 67 = true := by kernel_rfl
@[simp] theorem okz67 : okZ Try.prog 67 = true := by kernel_rfl
@[simp] theorem bytes67 : Program.bytesOf Try.prog 67 = 8 := by kernel_rfl
@[simp] theorem zero67 : zeroT Try.prog 67 = some [M.c (C.v Value.nilFunc)] := by kernel_rfl
@[simp] theorem sz68 : szT Try.prog 68 = 1 := by kernel_rfl
@[simp] theorem szob68 : szOb Try.prog 68 = 1 := by kernel_rfl
@[simp] theorem szbx68 : szBx Try.prog 68 = 1 := by kernel_rfl
@[simp] theorem agg68 : isAggT Try.prog 68 = false := by kernel_rfl
@[simp] theorem ok68 : okT Try.prog 68 = true := by kernel_rfl
@[simp] theorem oke68 : okE Try.prog 68 = true := by kernel_rfl
@[simp] theorem okz68 : okZ Try.prog 68 = true := by kernel_rfl
@[simp] theorem bytes68 : Program.bytesOf Try.prog 68 = 8 := by kernel_rfl
@[simp] theorem zero68 : zeroT Try.prog 68 = some [M.c (C.v Value.nilFunc)] := by kernel_rfl
@[simp] theorem sz69 : szT Try.prog 69 = 1 := by kernel_rfl
@[simp] theorem szob69 : szOb Try.prog 69 = 1 := by kernel_rfl
@[simp] theorem szbx69 : szBx Try.prog 69 = 1 := by kernel_rfl
@[simp] theorem agg69 : isAggT Try.prog 69 = false := by kernel_rfl
@[simp] theorem ok69 : okT Try.prog 69 = true := by kernel_rfl
@[simp] theorem oke69 : okE Try.prog 69 = true := by kernel_rfl
@[simp] theorem okz69 : okZ Try.prog 69 = true := by kernel_rfl
@[simp] theorem bytes69 : Program.bytesOf Try.prog 69 = 8 := by kernel_rfl
@[simp] theorem zero69 : zeroT Try.prog 69 = some [M.c (C.v Value.nilFunc)] := by kernel_rfl
@[simp] theorem sz70 : szT Try.prog 70 = 1 := by kernel_rfl
@[simp] theorem szob70 : szOb Try.prog 70 = 1 := by kernel_rfl
@[simp] theorem szbx70 : szBx Try.prog 70 = 1 := by kernel_rfl
@[simp] theorem agg70 : isAggT Try.prog 70 = false := by kernel_rfl
@[simp] theorem ok70 : okT Try.prog 70 = true := by kernel_rfl
@[simp] theorem oke70 : okE Try.prog 70 = true := by kernel_rfl
@[simp] theorem okz70 : okZ Try.prog 70 = true := by kernel_rfl
@[simp] theorem bytes70 : Program.bytesOf Try.prog 70 = 8 := by kernel_rfl
@[simp] theorem zero70 : zeroT Try.prog 70 = some [M.c (C.v Value.nilFunc)] := by kernel_rfl
@[simp] theorem sz71 : szT Try.prog 71 = 3 := by kernel_rfl
@[simp] theorem leaves71 : leavesX Try.prog 71 = some [0, 0, 0] := by kernel_rfl
@[simp] theorem szob71 : szOb Try.prog 71 = 1 := by kernel_rfl
@[simp] theorem szbx71 : szBx Try.prog 71 = 1 := by kernel_rfl
@[simp] theorem agg71 : isAggT Try.prog 71 = true := by kernel_rfl
@[simp] theorem ok71 : okT Try.prog 71 = true := by kernel_rfl
@[simp] theorem oke71 : okE Try.prog 71 = true := by kernel_rfl
@[simp] theorem okz71 : okZ Try.prog 71 = true := by kernel_rfl
@[simp] theorem bytes71 : Program.bytesOf Try.prog 71 = 24 := by kernel_rfl
@[simp] theorem zero71 : zeroT Try.prog 71 = some [M.c (C.v (Value.int IntKind.i64 0)), M.c (C.v (Value.int IntKind.i64 0)), M.c (C.v (Value.int IntKind.i64 0))] := by kernel_rfl
@[simp] theorem sz72 : szT Try.prog 72 = 1 := by kernel_rfl
@[simp] theorem szob72 : szOb Try.prog 72 = 1 := by kernel_rfl
@[simp] theorem szbx72 : szBx Try.prog 72 = 1 := by kernel_rfl
@[simp] theorem agg72 : isAggT Try.prog 72 = false := by kernel_rfl
@[simp] theorem ok72 : okT Try.prog 72 = true := by kernel_rfl
@[simp] theorem oke72 : okE Try.prog 72 = true := by kernel_rfl
@[simp] theorem okz72 : okZ Try.prog 72 = true := by kernel_rfl
@[simp] theorem bytes72 : Program.bytesOf Try.prog 72 = 0 := by kernel_rfl
@[simp] theorem sz73 : szT Try.prog 73 = 1 := by kernel_rfl
@[simp] theorem szob73 : szOb Try.prog 73 = 1 := by kernel_rfl
@[simp] theorem szbx73 : szBx Try.prog 73 = 1 := by kernel_rfl
@[simp] theorem agg73 : isAggT Try.prog 73 = false := by kernel_rfl
@[simp] theorem ok73 : okT Try.prog 73 = true := by kernel_rfl
@[simp] theorem oke73 : okE Try.prog 73 = true := by kernel_rfl
@[simp] theorem okz73 : okZ Try.prog 73 = true := by kernel_rfl
@[simp] theorem bytes73 : Program.bytesOf Try.prog 73 = 8 := by kernel_rfl
@[simp] theorem zero73 : zeroT Try.prog 73 = some [M.c (C.v Value.nilFunc)] := by kernel_rfl
@[simp] theorem sz74 : szT Try.prog 74 = 1 := by kernel_rfl
@[simp] theorem szob74 : szOb Try.prog 74 = 1 := by kernel_rfl
@[simp] theorem szbx74 : szBx Try.prog 74 = 1 := by kernel_rfl
@[simp] theorem agg74 : isAggT Try.prog 74 = false := by kernel_rfl
@[simp] theorem ok74 : okT Try.prog 74 = true := by kernel_rfl
@[simp] theorem oke74 : okE Try.prog 74 = true := by kernel_rfl
@[simp] theorem okz74 : okZ Try.prog 74 = true := by kernel_rfl
@[simp] theorem bytes74 : Program.bytesOf Try.prog 74 = 24 := by kernel_rfl
@[simp] theorem zero74 : zeroT Try.prog 74 = some [M.c (C.v (Value.slice none 0 0))] := by kernel_rfl
@[simp] theorem sz75 : szT Try.prog 75 = 1 := by kernel_rfl
@[simp] theorem szob75 : szOb Try.prog 75 = 1 := by kernel_rfl
@[simp] theorem szbx75 : szBx Try.prog 75 = 1 := by kernel_rfl
@[simp] theorem agg75 : isAggT Try.prog 75 = false := by kernel_rfl
@[simp] theorem ok75 : okT Try.prog 75 = true := by kernel_rfl
@[simp] theorem oke75 : okE Try.prog 75 = true := by kernel_rfl
@[simp] theorem okz75 : okZ Try.prog 75 = true := by kernel_rfl
@[simp] theorem bytes75 : Program.bytesOf Try.prog 75 = 8 := by kernel_rfl
@[simp] theorem zero75 : zeroT Try.prog 75 = some [M.c (C.v Value.nilFunc)] := by kernel_rfl
@[simp] theorem sz76 : szT Try.prog 76 = 1 := by kernel_rfl
@[simp] theorem szob76 : szOb Try.prog 76 = 1 := by kernel_rfl
@[simp] theorem szbx76 : szBx Try.prog 76 = 1 := by kernel_rfl
@[simp] theorem agg76 : isAggT Try.prog 76 = false := by kernel_rfl
@[simp] theorem ok76 : okT Try.prog 76 = true := by kernel_rfl
@[simp] theorem oke76 : okE Try.prog 76 = true := by kernel_rfl
@[simp] theorem okz76 : okZ Try.prog 76 = true := by kernel_rfl
@[simp] theorem bytes76 : Program.bytesOf Try.prog 76 = 8 := by kernel_rfl
@[simp] theorem zero76 : zeroT Try.prog 76 = some [M.c (C.v Value.nilFunc)] := by kernel_rfl
@[simp] theorem sz77 : szT Try.prog 77 = 1 := by kernel_rfl
@[simp] theorem szob77 : szOb Try.prog 77 = 1 := by kernel_rfl
@[simp] theorem szbx77 : szBx Try.prog 77 = 1 := by kernel_rfl
@[simp] theorem agg77 : isAggT Try.prog 77 = false := by kernel_rfl
@[simp] theorem ok77 : okT Try.prog 77 = true := by kernel_rfl
@[simp] theorem oke77 : okE Try.prog 77 = true := by kernel_rfl
@[simp] theorem okz77 : okZ Try.prog 77 = true := by kernel_rfl
@[simp] theorem bytes77 : Program.bytesOf Try.prog 77 = 8 := by kernel_rfl
@[simp] theorem zero77 : zeroT Try.prog 77 = some [M.c (C.v Value.nilFunc)] := by kernel_rfl
@[simp] theorem sz78 : szT Try.prog 78 = 1 := by kernel_rfl
@[simp] theorem szob78 : szOb Try.prog 78 = 1 := by kernel_rfl
@[simp] theorem szbx78 : szBx Try.prog 78 = 1 := by kernel_rfl
@[simp] theorem agg78 : isAggT Try.prog 78 = false := by kernel_rfl
@[simp] theorem ok78 : okT Try.prog 78 = true := by kernel_rfl
@[simp] theorem oke78 : okE Try.prog 78 = true := by kernel_rfl
@[simp] theorem okz78 : okZ Try.prog 78 = true := by kernel_rfl
@[simp] theorem bytes78 : Program.bytesOf Try.prog 78 = 8 := by kernel_rfl
@[simp] theorem zero78 : zeroT Try.prog 78 = some [M.c (C.v Value.nilFunc)] := by kernel_rfl
@[simp] theorem sz79 : szT Try.prog 79 = 1 := by kernel_rfl
@[simp] theorem szob79 : szOb Try.prog 79 = 1 := by kernel_rfl
@[simp] theorem szbx79 : szBx Try.prog 79 = 1 := by kernel_rfl
@[simp] theorem agg79 : isAggT Try.prog 79 = false := by kernel_rfl
@[simp] theorem ok79 : okT Try.prog 79 = true := by kernel_rfl
@[simp] theorem oke79 : okE Try.prog 79 = true := by kernel_rfl
@[simp] theorem okz79 : okZ Try.prog 79 = true := by kernel_rfl
@[simp] theorem bytes79 : Program.bytesOf Try.prog 79 = 8 := by kernel_rfl
@[simp] theorem zero79 : zeroT Try.prog 79 = some [M.c (C.v Value.nilFunc)] := by kernel_rfl
@[simp] theorem sz80 : szT Try.prog 80 = 1 := by kernel_rfl
@[simp] theorem szob80 : szOb Try.prog 80 = 1 := by kernel_rfl
@[simp] theorem szbx80 : szBx Try.prog 80 = 1 := by kernel_rfl
@[simp] theorem agg80 : isAggT Try.prog 80 = false := by kernel_rfl
@[simp] theorem ok80 : okT Try.prog 80 = true := by kernel_rfl
@[simp] theorem oke80 : okE Try.prog 80 = true := by kernel_rfl
@[simp] theorem okz80 : okZ Try.prog 80 = true := by kernel_rfl
@[simp] theorem bytes80 : Program.bytesOf Try.prog 80 = 8 := by kernel_rfl
@[simp] theorem zero80 : zeroT Try.prog 80 = some [M.c (C.v Value.nilFunc)] := by kernel_rfl
@[simp] theorem sz81 : szT Try.prog 81 = 1 := by kernel_rfl
@[simp] theorem szob81 : szOb Try.prog 81 = 1 := by kernel_rfl
@[simp] theorem szbx81 : szBx Try.prog 81 = 1 := by kernel_rfl
@[simp] theorem agg81 : isAggT Try.prog 81 = false := by kernel_rfl
@[simp] theorem ok81 : okT Try.prog 81 = true := by kernel_rfl
@[simp] theorem oke81 : okE Try.prog 81 = true := by kernel_rfl
@[simp] theorem okz81 : okZ Try.prog 81 = true := by kernel_rfl
@[simp] theorem bytes81 : Program.bytesOf Try.prog 81 = 8 := by kernel_rfl
@[simp] theorem zero81 : zeroT Try.prog 81 = some [M.c (C.v Value.nilFunc)] := by kernel_rfl
@[simp] theorem sz82 : szT Try.prog 82 = 1 := by kernel_rfl
@[simp] theorem szob82 : szOb Try.prog 82 = 1 := by kernel_rfl
@[simp] theorem szbx82 : szBx Try.prog 82 = 1 := by kernel_rfl
@[simp] theorem agg82 : isAggT Try.prog 82 = false := by kernel_rfl
@[simp] theorem ok82 : okT Try.prog 82 = true := by kernel_rfl
@[simp] theorem oke82 : okE Try.prog 82 = true := by kernel_rfl
@[simp] theorem okz82 : okZ Try.prog 82 = true := by kernel_rfl
@[simp] theorem bytes82 : Program.bytesOf Try.prog 82 = 8 := by kernel_rfl
@[simp] theorem zero82 : zeroT Try.prog 82 = some [M.c (C.v Value.nilFunc)] := by kernel_rfl
@[simp] theorem sz83 : szT Try.prog 83 = 1 := by kernel_rfl
@[simp] theorem szob83 : szOb Try.prog 83 = 1 := by kernel_rfl
@[simp] theorem szbx83 : szBx Try.prog 83 = 1 := by kernel_rfl
@[simp] theorem agg83 : isAggT Try.prog 83 = false := by kernel_rfl
@[simp] theorem ok83 : okT Try.prog 83 = true := by kernel_rfl
@[simp] theorem oke83 : okE Try.prog 83 = true := by kernel_rfl
@[simp] theorem okz83 : okZ Try.prog 83 = true := by kernel_rfl
@[simp] theorem bytes83 : Program.bytesOf Try.prog 83 = 8 := by kernel_rfl
@[simp] theorem zero83 : zeroT Try.prog 83 = some [M.c (C.v (Value.pointer none))] := by kernel_rfl
@[simp] theorem sz84 : szT Try.prog 84 = 1 := by kernel_rfl
@[simp] theorem szob84 : szOb Try.prog 84 = 1 := by kernel_rfl
@[simp] theorem szbx84 : szBx Try.prog 84 = 1 := by kernel_rfl
@[simp] theorem agg84 : isAggT Try.prog 84 = false := by kernel_rfl
@[simp] theorem ok84 : okT Try.prog 84 = true := by kernel_rfl
@[simp] theorem oke84 : okE Try.prog 84 = true := by kernel_rfl
@[simp] theorem okz84 : okZ Try.prog 84 = true := by kernel_rfl
@[simp] theorem bytes84 : Program.bytesOf Try.prog 84 = 8 := by kernel_rfl
@[simp] theorem zero84 : zeroT Try.prog 84 = some [M.c (C.v Value.nilFunc)] := by kernel_rfl
@[simp] theorem sz85 : szT Try.prog 85 = 1 := by kernel_rfl
@[simp] theorem szob85 : szOb Try.prog 85 = 1 := by kernel_rfl
@[simp] theorem szbx85 : szBx Try.prog 85 = 1 := by kernel_rfl
@[simp] theorem agg85 : isAggT Try.prog 85 = false := by kernel_rfl
@[simp] theorem ok85 : okT Try.prog 85 = true := by kernel_rfl
@[simp] theorem oke85 : okE Try.prog 85 = true := by kernel_rfl
@[simp] theorem okz85 : okZ Try.prog 85 = true := by kernel_rfl
@[simp] theorem bytes85 : Program.bytesOf Try.prog 85 = 8 := by kernel_rfl
@[simp] theorem zero85 : zeroT Try.prog 85 = some [M.c (C.v Value.nilFunc)] := by kernel_rfl
@[simp] theorem sz86 : szT Try.prog 86 = 1 := by kernel_rfl
@[simp] theorem szob86 : szOb Try.prog 86 = 1 := by kernel_rfl
@[simp] theorem szbx86 : szBx Try.prog 86 = 1 := by kernel_rfl
@[simp] theorem agg86 : isAggT Try.prog 86 = false := by kernel_rfl
@[simp] theorem ok86 : okT Try.prog 86 = true := by kernel_rfl
@[simp] theorem oke86 : okE Try.prog 86 = true := by kernel_rfl
@[simp] theorem okz86 : okZ Try.prog 86 = true := by kernel_rfl
@[simp] theorem bytes86 : Program.bytesOf Try.prog 86 = 0 := by kernel_rfl
@[simp] theorem sz87 : szT Try.prog 87 = 1 := by kernel_rfl
@[simp] theorem szob87 : szOb Try.prog 87 = 1 := by kernel_rfl
@[simp] theorem szbx87 : szBx Try.prog 87 = 1 := by kernel_rfl
@[simp] theorem agg87 : isAggT Try.prog 87 = false := by kernel_rfl
@[simp] theorem ok87 : okT Try.prog 87 = true := by kernel_rfl
@[simp] theorem oke87 : okE Try.prog 87 = true := by kernel_rfl
@[simp] theorem okz87 : okZ Try.prog 87 = true := by kernel_rfl
@[simp] theorem bytes87 : Program.bytesOf Try.prog 87 = 8 := by kernel_rfl
@[simp] theorem zero87 : zeroT Try.prog 87 = some [M.c (C.v Value.nilFunc)] := by kernel_rfl
@[simp] theorem sz88 : szT Try.prog 88 = 1 := by kernel_rfl
@[simp] theorem szob88 : szOb Try.prog 88 = 1 := by kernel_rfl
@[simp] theorem szbx88 : szBx Try.prog 88 = 1 := by kernel_rfl
@[simp] theorem agg88 : isAggT Try.prog 88 = false := by kernel_rfl
@[simp] theorem ok88 : okT Try.prog 88 = true := by kernel_rfl
@[simp] theorem oke88 : okE Try.prog 88 = true := by kernel_rfl
@[simp] theorem okz88 : okZ Try.prog 88 = true := by kernel_rfl
@[simp] theorem bytes88 : Program.bytesOf Try.prog 88 = 8 := by kernel_rfl
@[simp] theorem zero88 : zeroT Try.prog 88 = some [M.c (C.v (Value.pointer none))] := by kernel_rfl
@[simp] theorem sz89 : szT Try.prog 89 = 1 := by kernel_rfl
@[simp] theorem szob89 : szOb Try.prog 89 = 1 := by kernel_rfl
@[simp] theorem szbx89 : szBx Try.prog 89 = 1 := by kernel_rfl
@[simp] theorem agg89 : isAggT Try.prog 89 = false := by kernel_rfl
@[simp] theorem ok89 : okT Try.prog 89 = true := by kernel_rfl
@[simp] theorem oke89 : okE Try.prog 89 = true := by kernel_rfl
@[simp] theorem okz89 : okZ Try.prog 89 = true := by kernel_rfl
@[simp] theorem bytes89 : Program.bytesOf Try.prog 89 = 8 := by kernel_rfl
@[simp] theorem zero89 : zeroT Try.prog 89 = some [M.c (C.v Value.nilFunc)] := by kernel_rfl
@[simp] theorem sz90 : szT Try.prog 90 = 1 := by kernel_rfl
@[simp] theorem szob90 : szOb Try.prog 90 = 1 := by kernel_rfl
@[simp] theorem szbx90 : szBx Try.prog 90 = 1 := by kernel_rfl
@[simp] theorem agg90 : isAggT Try.prog 90 = false := by kernel_rfl
@[simp] theorem ok90 : okT Try.prog 90 = true := by kernel_rfl
@[simp] theorem oke90 : okE Try.prog 90 = true := by kernel_rfl
@[simp] theorem okz90 : okZ Try.prog 90 = true := by kernel_rfl
@[simp] theorem bytes90 : Program.bytesOf Try.prog 90 = 8 := by kernel_rfl
@[simp] theorem zero90 : zeroT Try.prog 90 = some [M.c (C.v Value.nilFunc)] := by kernel_rfl
@[simp] theorem sz91 : szT Try.prog 91 = 4 := by kernel_rfl
@[simp] theorem szob91 : szOb Try.prog 91 = 4 := by kernel_rfl
@[simp] theorem szbx91 : szBx Try.prog 91 = 4 := by kernel_rfl
@[simp] theorem agg91 : isAggT Try.prog 91 = true := by kernel_rfl
@[simp] theorem ok91 : okT Try.prog 91 = true := by kernel_rfl
@[simp] theorem oke91 : okE Try.prog 91 = true := by kernel_rfl
@[simp] theorem okz91 : okZ Try.prog 91 = true := by kernel_rfl
@[simp] theorem bytes91 : Program.bytesOf Try.prog 91 = 40 := by kernel_rfl
@[simp] theorem zero91 : zeroT Try.prog 91 = some [M.c (C.v (Value.pointer none)), M.c (C.v (Value.pointer none)), M.c (C.v (Value.pointer none)), M.c (C.v (Value.string { data := { toList := [] } }))] := by kernel_rfl
@[simp] theorem sz92 : szT Try.prog 92 = 4 := by kernel_rfl
@[simp] theorem szob92 : szOb Try.prog 92 = 4 := by kernel_rfl
@[simp] theorem szbx92 : szBx Try.prog 92 = 4 := by kernel_rfl
@[simp] theorem agg92 : isAggT Try.prog 92 = true := by kernel_rfl
@[simp] theorem ok92 : okT Try.prog 92 = true := by kernel_rfl
@[simp] theorem oke92 : okE Try.prog 92 = true := by kernel_rfl
@[simp] theorem okz92 : okZ Try.prog 92 = true := by kernel_rfl
@[simp] theorem bytes92 : Program.bytesOf Try.prog 92 = 40 := by kernel_rfl
@[simp] theorem zero92 : zeroT Try.prog 92 = some [M.c (C.v (Value.pointer none)), M.c (C.v (Value.pointer none)), M.c (C.v (Value.pointer none)), M.c (C.v (Value.string { data := { toList := [] } }))] := by kernel_rfl
@[simp] theorem sz93 : szT Try.prog 93 = 0 := by kernel_rfl
@[simp] theorem szob93 : szOb Try.prog 93 = 1 := by kernel_rfl
@[simp] theorem szbx93 : szBx Try.prog 93 = 1 := by kernel_rfl
@[simp] theorem agg93 : isAggT Try.prog 93 = true := by kernel_rfl
@[simp] theorem ok93 : okT Try.prog 93 = true := by kernel_rfl
@[simp] theorem oke93 : okE Try.prog 93 = true := by kernel_rfl
@[simp] theorem okz93 : okZ Try.prog 93 = true := by kernel_rfl
@[simp] theorem bytes93 : Program.bytesOf Try.prog 93 = 0 := by kernel_rfl
@[simp] theorem zero93 : zeroT Try.prog 93 = some [] := by kernel_rfl
@[simp] theorem sz94 : szT Try.prog 94 = 0 := by kernel_rfl
@[simp] theorem szob94 : szOb Try.prog 94 = 0 := by kernel_rfl
@[simp] theorem szbx94 : szBx Try.prog 94 = 0 := by kernel_rfl
@[simp] theorem agg94 : isAggT Try.prog 94 = true := by kernel_rfl
@[simp] theorem ok94 : okT Try.prog 94 = true := by kernel_rfl
@[simp] theorem oke94 : okE Try.prog 94 = true := by kernel_rfl
@[simp] theorem okz94 : okZ Try.prog 94 = true := by kernel_rfl
@[simp] theorem bytes94 : Program.bytesOf Try.prog 94 = 0 := by kernel_rfl
@[simp] theorem zero94 : zeroT Try.prog 94 = some [] := by kernel_rfl
@[simp] theorem sz95 : szT Try.prog 95 = 0 := by kernel_rfl
@[simp] theorem szob95 : szOb Try.prog 95 = 0 := by kernel_rfl
@[simp] theorem szbx95 : szBx Try.prog 95 = 0 := by kernel_rfl
@[simp] theorem agg95 : isAggT Try.prog 95 = true := by kernel_rfl
@[simp] theorem ok95 : okT Try.prog 95 = true := by kernel_rfl
@[simp] theorem oke95 : okE Try.prog 95 = true := by kernel_rfl
@[simp] theorem okz95 : okZ Try.prog 95 = true := by kernel_rfl
@[simp] theorem bytes95 : Program.bytesOf Try.prog 95 = 0 := by kernel_rfl
@[simp] theorem zero95 : zeroT Try.prog 95 = some [] := by kernel_rfl
@[simp] theorem sz96 : szT Try.prog 96 = 1 := by kernel_rfl
@[simp] theorem szob96 : szOb Try.prog 96 = 1 := by kernel_rfl
@[simp] theorem szbx96 : szBx Try.prog 96 = 1 := by kernel_rfl
@[simp] theorem agg96 : isAggT Try.prog 96 = false := by kernel_rfl
@[simp] theorem ok96 : okT Try.prog 96 = true := by kernel_rfl
@[simp] theorem oke96 : okE Try.prog 96 = true := by kernel_rfl
@[simp] theorem okz96 : okZ Try.prog 96 = true := by kernel_rfl
@[simp] theorem bytes96 : Program.bytesOf Try.prog 96 = 8 := by kernel_rfl
@[simp] theorem zero96 : zeroT Try.prog 96 = some [M.c (C.v Value.nilFunc)] := by kernel_rfl
@[simp] theorem sz97 : szT Try.prog 97 = 1 := by kernel_rfl
@[simp] theorem szob97 : szOb Try.prog 97 = 1 := by kernel_rfl
@[simp] theorem szbx97 : szBx Try.prog 97 = 1 := by kernel_rfl
@[simp] theorem agg97 : isAggT Try.prog 97 = false := by kernel_rfl
@[simp] theorem ok97 : okT Try.prog 97 = true := by kernel_rfl
@[simp] theorem oke97 : okE Try.prog 97 = true := by kernel_rfl
@[simp] theorem okz97 : okZ Try.prog 97 = true := by kernel_rfl
@[simp] theorem bytes97 : Program.bytesOf Try.prog 97 = 4 := by kernel_rfl
@[simp] theorem zero97 : zeroT Try.prog 97 = some [M.c (C.v (Value.int IntKind.u32 0))] := by kernel_rfl
@[simp] theorem sz98 : szT Try.prog 98 = 1 := by kernel_rfl
@[simp] theorem szob98 : szOb Try.prog 98 = 1 := by kernel_rfl
@[simp] theorem szbx98 : szBx Try.prog 98 = 1 := by kernel_rfl
@[simp] theorem agg98 : isAggT Try.prog 98 = false := by kernel_rfl
@[simp] theorem ok98 : okT Try.prog 98 = true := by kernel_rfl
@[simp] theorem oke98 : okE Try.prog 98 = true := by kernel_rfl
@[simp] theorem okz98 : okZ Try.prog 98 = true := by kernel_rfl
@[simp] theorem bytes98 : Program.bytesOf Try.prog 98 = 1 := by kernel_rfl
@[simp] theorem zero98 : zeroT Try.prog 98 = some [M.c (C.v (Value.int IntKind.u8 0))] := by kernel_rfl
@[simp] theorem sz99 : szT Try.prog 99 = 1 := by kernel_rfl
@[simp] theorem szob99 : szOb Try.prog 99 = 1 := by kernel_rfl
@[simp] theorem szbx99 : szBx Try.prog 99 = 1 := by kernel_rfl
@[simp] theorem agg99 : isAggT Try.prog 99 = false := by kernel_rfl
@[simp] theorem ok99 : okT Try.prog 99 = true := by kernel_rfl
@[simp] theorem oke99 : okE Try.prog 99 = true := by kernel_rfl
@[simp] theorem okz99 : okZ Try.prog 99 = true := by kernel_rfl
@[simp] theorem bytes99 : Program.bytesOf Try.prog 99 = 1 := by kernel_rfl
@[simp] theorem zero99 : zeroT Try.prog 99 = some [M.c (C.v (Value.int IntKind.u8 0))] := by kernel_rfl
@[simp] theorem sz100 : szT Try.prog 100 = 1 := by kernel_rfl
@[simp] theorem szob100 : szOb Try.prog 100 = 1 := by kernel_rfl
@[simp] theorem szbx100 : szBx Try.prog 100 = 1 := by kernel_rfl
@[simp] theorem agg100 : isAggT Try.prog 100 = false := by kernel_rfl
@[simp] theorem ok100 : okT Try.prog 100 = true := by kernel_rfl
@[simp] theorem oke100 : okE Try.prog 100 = true := by kernel_rfl
@[simp] theorem okz100 : okZ Try.prog 100 = true := by kernel_rfl
@[simp] theorem bytes100 : Program.bytesOf Try.prog 100 = 8 := by kernel_rfl
@[simp] theorem zero100 : zeroT Try.prog 100 = some [M.c (C.v Value.nilFunc)] := by kernel_rfl
@[simp] theorem sz101 : szT Try.prog 101 = 1 := by kernel_rfl
@[simp] theorem szob101 : szOb Try.prog 101 = 1 := by kernel_rfl
@[simp] theorem szbx101 : szBx Try.prog 101 = 1 := by kernel_rfl
@[simp] theorem agg101 : isAggT Try.prog 101 = false := by kernel_rfl
@[simp] theorem ok101 : okT Try.prog 101 = true := by kernel_rfl
@[simp] theorem oke101 : okE Try.prog 101 = true := by kernel_rfl
@[simp] theorem okz101 : okZ Try.prog 101 = true := by kernel_rfl
@[simp] theorem bytes101 : Program.bytesOf Try.prog 101 = 4 := by kernel_rfl
@[simp] theorem zero101 : zeroT Try.prog 101 = some [M.c (C.v (Value.int IntKind.i32 0))] := by kernel_rfl
@[simp] theorem sz102 : szT Try.prog 102 = 1 := by kernel_rfl
@[simp] theorem szob102 : szOb Try.prog 102 = 1 := by kernel_rfl
@[simp] theorem szbx102 : szBx Try.prog 102 = 1 := by kernel_rfl
@[simp] theorem agg102 : isAggT Try.prog 102 = false := by kernel_rfl
@[simp] theorem ok102 : okT Try.prog 102 = true := by kernel_rfl
@[simp] theorem oke102 : okE Try.prog 102 = true := by kernel_rfl
@[simp] theorem okz102 : okZ Try.prog 102 = true := by kernel_rfl
@[simp] theorem bytes102 : Program.bytesOf Try.prog 102 = 4 := by kernel_rfl
@[simp] theorem zero102 : zeroT Try.prog 102 = some [M.c (C.v (Value.int IntKind.i32 0))] := by kernel_rfl
@[simp] theorem sz103 : szT Try.prog 103 = 11 := by kernel_rfl
@[simp] theorem szob103 : szOb Try.prog 103 = 11 := by kernel_rfl
@[simp] theorem szbx103 : szBx Try.prog 103 = 11 := by kernel_rfl
@[simp] theorem agg103 : isAggT Try.prog 103 = true := by kernel_rfl
@[simp] theorem ok103 : okT Try.prog 103 = true := by kernel_rfl
@[simp] theorem oke103 : okE Try.prog 103 = true := by kernel_rfl
@[simp] theorem okz103 : okZ Try.prog 103 = true := by kernel_rfl
@[simp] theorem bytes103 : Program.bytesOf Try.prog 103 = 48 := by kernel_rfl
@[simp] theorem zero103 : zeroT Try.prog 103 = some [M.c (C.v (Value.int IntKind.u64 0)), M.c (C.v (Value.int IntKind.u64 0)), M.c (C.v (Value.int IntKind.u32 0)), M.c (C.v (Value.int IntKind.u8 0)), M.c (C.v (Value.int IntKind.u8 0)), M.c (C.v (Value.int IntKind.u8 0)), M.c (C.v (Value.int IntKind.u8 0)), M.c (C.v Value.nilFunc), M.c (C.v (Value.pointer none)), M.c (C.v (Value.int IntKind.i32 0)), M.c (C.v (Value.int IntKind.i32 0))] := by kernel_rfl
@[simp] theorem sz104 : szT Try.prog 104 = 11 := by kernel_rfl
@[simp] theorem szob104 : szOb Try.prog 104 = 11 := by kernel_rfl
@[simp] theorem szbx104 : szBx Try.prog 104 = 11 := by kernel_rfl
@[simp] theorem agg104 : isAggT Try.prog 104 = true := by kernel_rfl
@[simp] theorem ok104 : okT Try.prog 104 = true := by kernel_rfl
@[simp] theorem oke104 : okE Try.prog 104 = true := by kernel_rfl
@[simp] theorem okz104 : okZ Try.prog 104 = true := by kernel_rfl
@[simp] theorem bytes104 : Program.bytesOf Try.prog 104 = 48 := by kernel_rfl
@[simp] theorem zero104 : zeroT Try.prog 104 = some [M.c (C.v (Value.int IntKind.u64 0)), M.c (C.v (Value.int IntKind.u64 0)), M.c (C.v (Value.int IntKind.u32 0)), M.c (C.v (Value.int IntKind.u8 0)), M.c (C.v (Value.int IntKind.u8 0)), M.c (C.v (Value.int IntKind.u8 0)), M.c (C.v (Value.int IntKind.u8 0)), M.c (C.v Value.nilFunc), M.c (C.v (Value.pointer none)), M.c (C.v (Value.int IntKind.i32 0)), M.c (C.v (Value.int IntKind.i32 0))] := by kernel_rfl
theorem mixed : Try.prog.follows .mixedOrders = true := by kernel_rfl
attribute [simp] Try.underlying0
attribute [simp] Try.underlying1
attribute [simp] Try.underlying2
attribute [simp] Try.underlying3
attribute [simp] Try.underlying4
attribute [simp] Try.underlying5
attribute [simp] Try.underlying6
attribute [simp] Try.underlying7
attribute [simp] Try.underlying8
attribute [simp] Try.underlying9
attribute [simp] Try.underlying10
attribute [simp] Try.underlying11
attribute [simp] Try.underlying12
attribute [simp] Try.underlying13
attribute [simp] Try.underlying14
attribute [simp] Try.underlying15
attribute [simp] Try.underlying16
attribute [simp] Try.underlying17
attribute [simp] Try.underlying18
attribute [simp] Try.underlying19
attribute [simp] Try.underlying20
attribute [simp] Try.underlying21
attribute [simp] Try.underlying22
attribute [simp] Try.underlying23
attribute [simp] Try.underlying24
attribute [simp] Try.underlying25
attribute [simp] Try.underlying26
attribute [simp] Try.underlying27
attribute [simp] Try.underlying28
attribute [simp] Try.underlying29
attribute [simp] Try.underlying30
attribute [simp] Try.underlying31
attribute [simp] Try.underlying32
attribute [simp] Try.underlying33
attribute [simp] Try.underlying34
attribute [simp] Try.underlying35
attribute [simp] Try.underlying36
attribute [simp] Try.underlying37
attribute [simp] Try.underlying38
attribute [simp] Try.underlying39
attribute [simp] Try.underlying40
attribute [simp] Try.underlying41
attribute [simp] Try.underlying42
attribute [simp] Try.underlying43
attribute [simp] Try.underlying44
attribute [simp] Try.underlying45
attribute [simp] Try.underlying46
attribute [simp] Try.underlying47
attribute [simp] Try.underlying48
attribute [simp] Try.underlying49
attribute [simp] Try.underlying50
attribute [simp] Try.underlying51
attribute [simp] Try.underlying52
attribute [simp] Try.underlying53
attribute [simp] Try.underlying54
attribute [simp] Try.underlying55
attribute [simp] Try.underlying56
attribute [simp] Try.underlying57
attribute [simp] Try.underlying58
attribute [simp] Try.underlying59
attribute [simp] Try.underlying60
attribute [simp] Try.underlying61
attribute [simp] Try.underlying62
attribute [simp] Try.underlying63
attribute [simp] Try.underlying64
attribute [simp] Try.underlying65
attribute [simp] Try.underlying66
attribute [simp] Try.underlying67
attribute [simp] Try.underlying68
attribute [simp] Try.underlying69
attribute [simp] Try.underlying70
attribute [simp] Try.underlying71
attribute [simp] Try.underlying72
attribute [simp] Try.underlying73
attribute [simp] Try.underlying74
attribute [simp] Try.underlying75
attribute [simp] Try.underlying76
attribute [simp] Try.underlying77
attribute [simp] Try.underlying78
attribute [simp] Try.underlying79
attribute [simp] Try.underlying80
attribute [simp] Try.underlying81
attribute [simp] Try.underlying82
attribute [simp] Try.underlying83
attribute [simp] Try.underlying84
attribute [simp] Try.underlying85
attribute [simp] Try.underlying86
attribute [simp] Try.underlying87
attribute [simp] Try.underlying88
attribute [simp] Try.underlying89
attribute [simp] Try.underlying90
attribute [simp] Try.underlying91
attribute [simp] Try.underlying92
attribute [simp] Try.underlying93
attribute [simp] Try.underlying94
attribute [simp] Try.underlying95
attribute [simp] Try.underlying96
attribute [simp] Try.underlying97
attribute [simp] Try.underlying98
attribute [simp] Try.underlying99
attribute [simp] Try.underlying100
attribute [simp] Try.underlying101
attribute [simp] Try.underlying102
attribute [simp] Try.underlying103
attribute [simp] Try.underlying104
end Go.Proofs.Ytfdbbkhglohkaaa.Tab
