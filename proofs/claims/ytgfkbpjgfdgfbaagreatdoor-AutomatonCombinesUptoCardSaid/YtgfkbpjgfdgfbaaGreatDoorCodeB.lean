/- The abstract code of the functions, printed by program. -/
import Derived.Test.YtgfkbpjgfdgfbaaGreatDoorCode
set_option linter.unusedSimpArgs false
set_option linter.unusedVariables false
set_option maxRecDepth 100000
namespace Ago
/-- datakit/datakitlaw16.AutomatonCombines -/
def ac311:AFn:=
 { nt:=83, res:=[.tmp 4], body:=
 (.seq (.ops [Zx 2 0 1,Zx 3 1 1,Zc 4 (.bool false)])
 (.seq (.seq (.ops [Zf 9 2 1,
 ⟨some 10, .pcall 317, [.t 9, .c (.int .i64 40)], none⟩,Zr 11 10,Za 12 11,Zg 13 3 1 12 false,
 ⟨some 14, .pcall 317, [.t 13, .c (.int .i64 40)], some (12, false)⟩,Zs 15 14 12 false,Zw 16 12 15 true])
 (.cond (.t 16)
 (.seq (.ops [⟨some 17, .pcall 318, [], none⟩,Za 4 17])
 .ret)
 .skip))
 (.seq (.ops [Zf 19 2 1,Zf 20 3 1,Zz 21 319 19 20,Za 18 21,Zt 22 18 0,Zt 23 18 1,
 ⟨some 5, .new (.new 1 [.agg [.snil 2]]), [], none⟩,Zu 5 22 1,Za 6 23])
 (.seq (.ops [Zf 25 2 1,Zf 26 3 1,Zz 27 320 25 26,Za 24 27,Zt 28 24 0,Zt 29 24 1,
 ⟨some 7, .new (.new 1 [.agg [.snil 2]]), [], none⟩,Zu 7 28 1,Za 8 29])
 (.seq (.seq (.ops [Zf 30 5 1,Zf 31 7 1,Zz 32 321 30 31,Zr 33 32,Za 34 33,Zb 35 6 34 false,Zb 36 8 34 false,Zm 37 35 36 .neq 34 false,Zw 38 34 37 true])
 (.cond (.t 38)
 (.seq (.ops [Zc 4 (.bool false)])
 .ret)
 .skip))
 (.seq (.ops [Zf 40 2 1,Zf 41 3 1,Zz 42 322 40 41,Za 39 42,Zt 43 39 0,Zt 44 39 1,Zu 5 43 1,Za 6 44])
 (.seq (.ops [Zf 46 2 1,Zf 47 3 1,Zz 48 323 46 47,Za 45 48,Zt 49 45 0,Zt 50 45 1,Zu 7 49 1,Za 8 50])
 (.seq (.seq (.ops [Zf 51 5 1,Zf 52 7 1,Zz 53 321 51 52,Zr 54 53,Za 55 54,Zb 56 6 55 false,Zb 57 8 55 false,Zm 58 56 57 .neq 55 false,Zw 59 55 58 true])
 (.cond (.t 59)
 (.seq (.ops [Zc 4 (.bool false)])
 .ret)
 .skip))
 (.seq (.ops [Zf 61 2 1,Zf 62 3 1,Zz 63 324 61 62,Za 60 63,Zt 64 60 0,Zt 65 60 1,Zu 5 64 1,Za 6 65])
 (.seq (.ops [Zf 67 2 1,Zf 68 3 1,Zz 69 325 67 68,Za 66 69,Zt 70 66 0,Zt 71 66 1,Zu 7 70 1,Za 8 71])
 (.seq (.ops [Zf 72 5 1,Zf 73 7 1,Zz 74 321 72 73,Za 75 74,Zb 76 6 75 true,Zb 77 8 75 true,Zm 78 76 77 .eql 75 true,Zv 79 75 78 false,Za 80 79,
 ⟨some 81, .pcall 318, [], some (80, true)⟩,Zv 82 80 81 false,Za 4 82])
 .ret))))))))))) }
/-- datakit/datakitlaw16.few -/
def ac317:AFn:=
 { nt:=26, res:=[.tmp 4], body:=
 (.seq (.ops [Zx 2 0 1,Zc 4 (.bool false)])
 (.seq (.seq (.ops [Zh 6 2 0,Zd 7 6,Zp 8 7,Za 9 1,Zl 10 8 9 .gtr])
 (.cond (.t 10)
 (.seq (.ops [Zc 4 (.bool false)])
 .ret)
 .skip))
 (.seq (.seq (.ops [Zc 5 (.int .i64 0)])
 (.block 0
 (.loop [2, 5]
 (.seq (.seq (.ops [Za 11 5,Zh 12 2 0,Zd 13 12,Zp 14 13,Zl 15 11 14 .lss])
 (.cond (.t 15)
 .skip
 (.exit 0)))
 (.seq (.block 1
 (.seq (.ops [Zh 18 2 0,Zd 19 18,Za 20 5,Zj 21 19 20 2,Zh 22 21 1,Zd 23 22,Zp 24 23,Zn 25 24 20 .gtr])
 (.cond (.t 25)
 (.seq (.ops [Zc 4 (.bool false)])
 .ret)
 .skip)))
 (.ops [Za 16 5,Zn 17 16 1 .add,Za 5 17]))))))
 (.seq (.ops [Zc 4 (.bool true)])
 .ret)))) }
/-- datakit/datakitref16.And -/
def ac320:AFn:=
 { nt:=11, res:=[.cell 4 (some 1), .tmp 5], body:=
 (.seq (.ops [Zx 2 0 1,Zx 3 1 1,
 ⟨some 4, .new (.new 1 [.agg [.snil 2]]), [], none⟩,Zc 5 (.int .i64 0)])
 (.seq (.ops [Zf 6 2 1,Zf 7 3 1,
 ⟨some 8, .pcall 347, [.c (.int .i64 1), .t 6, .t 7], none⟩,Zt 9 8 0,Zt 10 8 1,Zu 4 9 1,Za 5 10])
 .ret)) }
/-- datakit/datakitref16.Or -/
def ac323:AFn:=
 { nt:=11, res:=[.cell 4 (some 1), .tmp 5], body:=
 (.seq (.ops [Zx 2 0 1,Zx 3 1 1,
 ⟨some 4, .new (.new 1 [.agg [.snil 2]]), [], none⟩,Zc 5 (.int .i64 0)])
 (.seq (.ops [Zf 6 2 1,Zf 7 3 1,
 ⟨some 8, .pcall 347, [.c (.int .i64 2), .t 6, .t 7], none⟩,Zt 9 8 0,Zt 10 8 1,Zu 4 9 1,Za 5 10])
 .ret)) }
/-- datakit/automaton.Minus -/
def ac324:AFn:=
 { nt:=11, res:=[.cell 4 (some 1), .tmp 5], body:=
 (.seq (.ops [Zx 2 0 1,Zx 3 1 1,
 ⟨some 4, .new (.new 1 [.agg [.snil 2]]), [], none⟩,Zc 5 (.int .i64 0)])
 (.seq (.ops [Zf 6 2 1,Zf 7 3 1,
 ⟨some 8, .pcall 345, [.t 6, .t 7, .c (.fn 349 [])], none⟩,Zt 9 8 0,Zt 10 8 1,Zu 4 9 1,Za 5 10])
 .ret)) }
/-- datakit/datakitref16.Minus -/
def ac325:AFn:=
 { nt:=11, res:=[.cell 4 (some 1), .tmp 5], body:=
 (.seq (.ops [Zx 2 0 1,Zx 3 1 1,
 ⟨some 4, .new (.new 1 [.agg [.snil 2]]), [], none⟩,Zc 5 (.int .i64 0)])
 (.seq (.ops [Zf 6 2 1,Zf 7 3 1,
 ⟨some 8, .pcall 347, [.c (.int .i64 3), .t 6, .t 7], none⟩,Zt 9 8 0,Zt 10 8 1,Zu 4 9 1,Za 5 10])
 .ret)) }
/-- datakit/datakitref16.Valid -/
def ac326:AFn:=
 { nt:=31, res:=[.tmp 2], body:=
 (.seq (.ops [Zx 1 0 1,Zc 2 (.bool false)])
 (.seq (.seq (.ops [Zc 3 (.int .i64 0)])
 (.block 0
 (.loop [1, 3]
 (.seq (.seq (.ops [Za 4 3,Zh 5 1 0,Zd 6 5,Zp 7 6,Zl 8 4 7 .lss])
 (.cond (.t 8)
 .skip
 (.exit 0)))
 (.seq (.block 1
 (.seq (.ops [Zh 11 1 0,Zd 12 11,Za 13 3,Zj 14 12 13 2,Zf 15 14 2,Zh 16 1 0,Zd 17 16,Zp 18 17,Zz 19 350 15 18,Zr 20 19])
 (.cond (.t 20)
 (.seq (.ops [Zc 2 (.bool false)])
 .ret)
 .skip)))
 (.ops [Za 9 3,Zn 10 9 1 .add,Za 3 10]))))))
 (.seq (.ops [Zh 21 1 0,Zd 22 21,Zp 23 22,Zn 24 23 1 .geq,Za 25 24,Zi 26 1 0 25 true,Ze 27 26 25 true,Zq 28 27 25 true,Zo 29 28 1024 .leq 25 true,Zv 30 25 29 false,Za 2 30])
 .ret))) }
/-- datakit/datakitref16.combine -/
def ac347:AFn:=
 { nt:=23, res:=[.cell 6 (some 1), .tmp 7], body:=
 (.seq (.ops [Zx 4 1 1,Zx 5 2 1,
 ⟨some 6, .new (.new 1 [.agg [.snil 2]]), [], none⟩,Zc 7 (.int .i64 0)])
 (.seq (.seq (.ops [Zf 8 4 1,Zy 9 326 8,Zr 10 9,Za 11 10,Zg 12 5 1 11 false,ZB 13 326 12 11 false,Zs 14 13 11 false,Zw 15 11 14 true])
 (.cond (.t 15)
 (.seq (.ops [⟨some 16, .pure (.build [.snil 2] []), [], none⟩,Zu 6 16 1,Zc 7 (.int .i64 1)])
 .ret)
 .skip))
 (.seq (.ops [Za 17 0,Zf 18 4 1,Zf 19 5 1,ZA 20 368 17 18 19,Zt 21 20 0,Zt 22 20 1,Zu 6 21 1,Za 7 22])
 .ret))) }
/-- datakit/automaton.Minus$1 -/
def ac349:AFn:=
 { nt:=10, res:=[.tmp 4], body:=
 (.seq (.ops [Zc 4 (.bool false)])
 (.seq (.ops [Za 5 0,Za 6 5,Zb 7 1 6 true,Zs 8 7 6 true,Zv 9 6 8 false,Za 4 9])
 .ret)) }
/-- datakit/datakitref16.state -/
def ac350:AFn:=
 { nt:=52, res:=[.tmp 4], body:=
 (.seq (.ops [Zx 2 0 2,Zc 4 (.bool false)])
 (.seq (.ops [Zc 5 (.int .i64 0)])
 (.seq (.seq (.ops [Zc 6 (.int .i64 0)])
 (.block 0
 (.loop [1, 2, 5, 6]
 (.seq (.seq (.ops [Za 8 6,Zh 9 2 1,Zd 10 9,Zp 11 10,Zl 12 8 11 .lss])
 (.cond (.t 12)
 .skip
 (.exit 0)))
 (.seq (.block 1
 (.seq (.ops [Zh 15 2 1,Zd 16 15,Za 17 6,Zj 18 16 17 3,Zf 19 18 3,
 ⟨some 7, .new (.new 3 [.agg [.int .i64 0, .int .i64 0, .int .i64 0]]), [], none⟩,Zu 7 19 3])
 (.seq (.seq (.ops [Zh 20 7 0,Zd 21 20,Za 22 5,Zl 23 21 22 .neq,Za 24 23,Zi 25 7 1 24 false,Ze 26 25 24 false,Zi 27 7 0 24 false,Ze 28 27 24 false,Zm 29 26 28 .lss 24 false,Zw 30 24 29 true,Za 31 30,Zi 32 7 1 31 false,Ze 33 32 31 false,Zo 34 33 255 .gtr 31 false,Zw 35 31 34 true,Za 36 35,Zi 37 7 2 36 false,Ze 38 37 36 false,Zo 39 38 0 .lss 36 false,Zw 40 36 39 true,Za 41 40,Zi 42 7 2 41 false,Ze 43 42 41 false,Zb 44 1 41 false,Zm 45 43 44 .geq 41 false,Zw 46 41 45 true])
 (.cond (.t 46)
 (.seq (.ops [Zc 4 (.bool false)])
 .ret)
 .skip))
 (.ops [Zh 47 7 1,Zd 48 47,Zn 49 48 1 .add,Za 5 49]))))
 (.ops [Za 13 6,Zn 14 13 1 .add,Za 6 14]))))))
 (.seq (.ops [Za 50 5,Zn 51 50 256 .eql,Za 4 51])
 .ret)))) }
/-- datakit/datakitref16.Next -/
def ac351:AFn:=
 { nt:=41, res:=[.tmp 6], body:=
 (.seq (.ops [Zx 3 0 1,Zc 6 (.int .i64 0)])
 (.seq (.seq (.ops [Zc 7 (.int .i64 0)])
 (.block 0
 (.loop [1, 2, 3, 7]
 (.seq (.seq (.ops [Za 9 7,Zh 10 3 0,Zd 11 10,Za 12 1,Zj 13 11 12 2,Zh 14 13 1,Zd 15 14,Zp 16 15,Zl 17 9 16 .lss])
 (.cond (.t 17)
 .skip
 (.exit 0)))
 (.seq (.block 1
 (.seq (.ops [Zh 20 3 0,Zd 21 20,Za 22 1,Zj 23 21 22 2,Zh 24 23 1,Zd 25 24,Za 26 7,Zj 27 25 26 3,Zf 28 27 3,
 ⟨some 8, .new (.new 3 [.agg [.int .i64 0, .int .i64 0, .int .i64 0]]), [], none⟩,Zu 8 28 3])
 (.seq (.ops [Za 29 2,Zh 30 8 0,Zd 31 30,Zl 32 29 31 .geq,Za 33 32,Zb 34 2 33 true,Zi 35 8 1 33 true,Ze 36 35 33 true,Zm 37 34 36 .leq 33 true,Zv 38 33 37 false])
 (.cond (.t 38)
 (.seq (.ops [Zh 39 8 2,Zd 40 39,Za 6 40])
 .ret)
 .skip))))
 (.ops [Za 18 7,Zn 19 18 1 .add,Za 7 19]))))))
 (.seq (.ops [Zc 6 (.int .i64 0)])
 .ret))) }
/-- datakit/datakitref16.least -/
def ac356:AFn:=
 { nt:=90, res:=[.cell 2 (some 1)], body:=
 (.seq (.ops [Zx 1 0 1,
 ⟨some 2, .new (.new 1 [.agg [.snil 2]]), [], none⟩])
 (.seq (.ops [Zf 13 1 1,Zy 14 373 13,Za 3 14])
 (.seq (.ops [Zf 15 1 1,
 ⟨some 16, .new (.buildSlice 1 [.agg [.snil 2]] [0]), [.t 15], none⟩,Zy 17 374 16,Za 4 17])
 (.seq (.ops [⟨some 18, .new (.buildSlice 1 [.int .i64 0] [0]), [.c (.int .i64 0)], none⟩,Za 5 18])
 (.seq (.ops [⟨some 6, .new (.new 1 [.agg [.snil 2]]), [], none⟩])
 (.seq (.seq (.ops [Zc 7 (.int .i64 0)])
 (.block 0
 (.loop [1, 2, 3, 4, 5, 6, 7]
 (.seq (.seq (.ops [Za 19 7,Za 20 5,Zp 21 20,Zl 22 19 21 .lss])
 (.cond (.t 22)
 .skip
 (.exit 0)))
 (.seq (.block 1
 (.seq (.ops [Za 25 5,Za 26 7,Zj 27 25 26 1,Zd 28 27,Za 8 28])
 (.seq (.ops [Zc 9 (.snil 1)])
 (.seq (.seq (.ops [Zc 10 (.int .i64 0)])
 (.block 2
 (.loop [1, 2, 3, 4, 5, 6, 7, 8, 9, 10]
 (.seq (.seq (.ops [Za 29 10,Za 30 4,Zp 31 30,Zl 32 29 31 .lss])
 (.cond (.t 32)
 .skip
 (.exit 2)))
 (.seq (.block 3
 (.seq (.ops [Zf 35 1 1,Za 36 8,Za 37 4,Za 38 10,Zj 39 37 38 1,Zd 40 39,ZA 41 351 35 36 40,Za 11 41])
 (.seq (.ops [Zc 12 (.int .i64 0)])
 (.seq (.block 4
 (.loop [1, 2, 3, 4, 5, 6, 7, 8, 9, 10, 11, 12]
 (.seq (.seq (.ops [Za 42 12,Za 43 5,Zp 44 43,Zl 45 42 44 .lss,Za 46 45,Zb 47 3 46 true,Zb 48 5 46 true,Zb 49 12 46 true,Zk 50 48 49 1 46 true,Ze 51 50 46 true,Zk 52 47 51 1 46 true,Ze 53 52 46 true,Zb 54 3 46 true,Zb 55 11 46 true,Zk 56 54 55 1 46 true,Ze 57 56 46 true,Zm 58 53 57 .neq 46 true,Zv 59 46 58 false])
 (.cond (.t 59)
 .skip
 (.exit 4)))
 (.block 5
 (.ops [Za 60 12,Zn 61 60 1 .add,Za 12 61])))))
 (.seq (.seq (.ops [Za 62 12,Za 63 5,Zp 64 63,Zl 65 62 64 .eql])
 (.cond (.t 65)
 (.ops [Za 66 5,Za 67 11,
 ⟨some 68, .new (.buildSlice 1 [.int .i64 0] [0]), [.t 67], none⟩,
 ⟨some 69, .eff (.append 1 8), [.t 66, .t 68], none⟩,Za 5 69])
 .skip))
 (.ops [Za 70 9,Za 71 12,
 ⟨some 72, .new (.buildSlice 1 [.int .i64 0] [0]), [.t 71], none⟩,
 ⟨some 73, .eff (.append 1 8), [.t 70, .t 72], none⟩,Za 9 73]))))))
 (.ops [Za 33 10,Zn 34 33 1 .add,Za 10 34]))))))
 (.draw 1 [[Zh 74 6 0,Zd 75 74,Zh 76 1 0,Zd 77 76,Za 78 8,Zj 79 77 78 2,Zh 80 79 0,Zd 81 80,Za 82 4,Za 83 9,Zz 84 375 82 83,
 ⟨some 85, .pure (.build [.bool false, .snil 3] [(0, 1), (1, 1)]), [.t 81, .t 84], none⟩,
 ⟨some 86, .newAt 0 (.buildSlice 2 [.agg [.bool false, .snil 3]] [0]), [.t 85], none⟩,
 ⟨some 87, .eff (.append 2 32), [.t 75, .t 86], none⟩,Zh 88 6 0,Zu 88 87 1]])))))
 (.ops [Za 23 7,Zn 24 23 1 .add,Za 7 24]))))))
 (.seq (.ops [Zf 89 6 1,Zu 2 89 1])
 .ret))))))) }
/-- datakit/datakitref16.pairs -/
def ac368:AFn:=
 { nt:=107, res:=[.cell 6 (some 1), .tmp 7], body:=
 (.seq (.ops [Zx 4 1 1,Zx 5 2 1,
 ⟨some 6, .new (.new 1 [.agg [.snil 2]]), [], none⟩,Zc 7 (.int .i64 0)])
 (.seq (.ops [Zf 18 4 1,Zf 19 5 1,
 ⟨some 20, .new (.buildSlice 1 [.agg [.snil 2], .agg [.snil 2]] [0, 1]), [.t 18, .t 19], none⟩,Zy 21 374 20,Za 8 21])
 (.seq (.ops [⟨some 22, .new (.buildSlice 1 [.int .i64 0, .int .i64 0] [0, 1]), [.c (.int .i64 0), .c (.int .i64 0)], none⟩,
 ⟨some 23, .new (.buildSlice 1 [.snil 1] [0]), [.t 22], none⟩,Za 9 23])
 (.seq (.ops [⟨some 10, .new (.new 1 [.agg [.snil 2]]), [], none⟩])
 (.seq (.seq (.ops [Zc 11 (.int .i64 0)])
 (.block 0
 (.loop [0, 4, 5, 6, 8, 9, 10, 11, 2009]
 (.seq (.seq (.ops [Za 24 11,Za 25 9,Zp 26 25,Zl 27 24 26 .lss])
 (.cond (.t 27)
 .skip
 (.exit 0)))
 (.seq (.block 1
 (.seq (.ops [Za 30 9,Za 31 11,Zj 32 30 31 1,Zd 33 32,
 ⟨some 34, .pure (.iaddrS 1), [.t 33, .c (.int .i64 0)], none⟩,Zd 35 34,Za 36 9,Za 37 11,Zj 38 36 37 1,Zd 39 38,
 ⟨some 40, .pure (.iaddrS 1), [.t 39, .c (.int .i64 1)], none⟩,Zd 41 40,Za 12 35,Za 13 41])
 (.seq (.ops [Zc 14 (.snil 1)])
 (.seq (.seq (.ops [Zc 15 (.int .i64 0)])
 (.block 2
 (.loop [0, 4, 5, 6, 8, 9, 10, 11, 12, 13, 14, 15, 2009]
 (.seq (.seq (.ops [Za 42 15,Za 43 8,Zp 44 43,Zl 45 42 44 .lss])
 (.cond (.t 45)
 .skip
 (.exit 2)))
 (.seq (.block 3
 (.seq (.draw 1 [[Zf 48 4 1,Za 49 12,Za 50 8,Za 51 15,Zj 52 50 51 1,Zd 53 52,ZA 54 351 48 49 53,Zf 55 5 1,Za 56 13,Za 57 8,Za 58 15,Zj 59 57 58 1,Zd 60 59,ZA 61 351 55 56 60,
 ⟨some 62, .newAt 0 (.buildSlice 1 [.int .i64 0, .int .i64 0] [0, 1]), [.t 54, .t 61], none⟩,Za 16 62]])
 (.seq (.ops [Za 63 9,Za 64 16,Zz 65 392 63 64,Za 17 65])
 (.seq (.seq (.ops [Za 66 17,Zn 67 66 0 .lss])
 (.cond (.t 67)
 (.seq (.ops [Za 68 9,Zp 69 68,Za 17 69])
 (.ops [Za 70 9,Za 71 16,
 ⟨some 72, .new (.buildSlice 1 [.snil 1] [0]), [.t 71], none⟩,
 ⟨some 73, .eff (.append 1 24), [.t 70, .t 72], none⟩,Za 9 73]))
 .skip))
 (.ops [Za 74 14,Za 75 17,
 ⟨some 76, .new (.buildSlice 1 [.int .i64 0] [0]), [.t 75], none⟩,
 ⟨some 77, .eff (.append 1 8), [.t 74, .t 76], none⟩,Za 14 77])))))
 (.ops [Za 46 15,Zn 47 46 1 .add,Za 15 47]))))))
 (.seq (.seq (.ops [Za 78 9,Zp 79 78,Zn 80 79 1024 .gtr])
 (.cond (.t 80)
 (.seq (.ops [⟨some 81, .pure (.build [.snil 2] []), [], none⟩,Zu 6 81 1,Zc 7 (.int .i64 32)])
 .ret)
 .skip))
 (.draw 1 [[Zh 82 10 0,Zd 83 82,Za 84 0,Zh 85 4 0,Zd 86 85,Za 87 12,Zj 88 86 87 2,Zh 89 88 0,Zd 90 89,Zh 91 5 0,Zd 92 91,Za 93 13,Zj 94 92 93 2,Zh 95 94 0,Zd 96 95,ZA 97 393 84 90 96,Za 98 8,Za 99 14,Zz 100 375 98 99,
 ⟨some 101, .pure (.build [.bool false, .snil 3] [(0, 1), (1, 1)]), [.t 97, .t 100], none⟩,
 ⟨some 102, .newAt 0 (.buildSlice 2 [.agg [.bool false, .snil 3]] [0]), [.t 101], none⟩,
 ⟨some 103, .eff (.append 2 32), [.t 83, .t 102], none⟩,Zh 104 10 0,Zu 104 103 1]]))))))
 (.ops [Za 28 11,Zn 29 28 1 .add,Za 11 29]))))))
 (.seq (.ops [Zf 105 10 1,Zy 106 356 105,Zu 6 106 1,Zc 7 (.int .i64 0)])
 .ret)))))) }
/-- datakit/datakitref16.classes -/
def ac373:AFn:=
 { nt:=91, res:=[.tmp 2], body:=
 (.seq (.ops [Zx 1 0 1,Zc 2 (.snil 1)])
 (.seq (.ops [Zf 13 1 1,
 ⟨some 14, .new (.buildSlice 1 [.agg [.snil 2]] [0]), [.t 13], none⟩,Zy 15 374 14,Za 3 15])
 (.seq (.ops [Zh 16 1 0,Zd 17 16,Zp 18 17,
 ⟨some 19, .new (.mkSlice 1 8 (.int .i64 0)), [.t 18, .t 18], none⟩,Za 4 19])
 (.seq (.seq (.ops [Zc 5 (.int .i64 0)])
 (.block 0
 (.loop [1, 3, 4, 5]
 (.seq (.seq (.ops [Za 20 5,Za 21 4,Zp 22 21,Zl 23 20 22 .lss])
 (.cond (.t 23)
 .skip
 (.exit 0)))
 (.seq (.block 1
 (.seq (.ops [Zh 26 1 0,Zd 27 26,Za 28 5,Zj 29 27 28 2,Zh 30 29 0,Zd 31 30])
 (.cond (.t 31)
 (.ops [Za 32 4,Za 33 5,Zj 34 32 33 1,
 ⟨none, .eff (.store 1), [.t 34, .c (.int .i64 1)], none⟩])
 .skip)))
 (.ops [Za 24 5,Zn 25 24 1 .add,Za 5 25]))))))
 (.seq (.ops [Zc 6 (.int .i64 0)])
 (.block 2
 (.loop [1, 3, 4, 6]
 (.block 3
 (.seq (.ops [Zc 7 (.snil 1)])
 (.seq (.ops [Za 35 4,Zp 36 35,
 ⟨some 37, .new (.mkSlice 1 8 (.int .i64 0)), [.t 36, .t 36], none⟩,Za 8 37])
 (.seq (.seq (.ops [Zc 9 (.int .i64 0)])
 (.block 4
 (.loop [1, 3, 4, 6, 7, 8, 9, 2007]
 (.seq (.seq (.ops [Za 38 9,Za 39 4,Zp 40 39,Zl 41 38 40 .lss])
 (.cond (.t 41)
 .skip
 (.exit 4)))
 (.seq (.block 5
 (.seq (.ops [Za 44 4,Za 45 9,Zj 46 44 45 1,Zd 47 46,
 ⟨some 48, .new (.buildSlice 1 [.int .i64 0] [0]), [.t 47], none⟩,Za 10 48])
 (.seq (.seq (.ops [Zc 11 (.int .i64 0)])
 (.block 6
 (.loop [1, 3, 4, 6, 7, 8, 9, 10, 11]
 (.seq (.seq (.ops [Za 49 11,Za 50 3,Zp 51 50,Zl 52 49 51 .lss])
 (.cond (.t 52)
 .skip
 (.exit 6)))
 (.seq (.block 7
 (.draw 1 [[Za 55 10,Za 56 4,Zf 57 1 1,Za 58 9,Za 59 3,Za 60 11,Zj 61 59 60 1,Zd 62 61,ZA 63 351 57 58 62,Zj 64 56 63 1,Zd 65 64,
 ⟨some 66, .newAt 0 (.buildSlice 1 [.int .i64 0] [0]), [.t 65], none⟩,
 ⟨some 67, .eff (.append 1 8), [.t 55, .t 66], none⟩,Za 10 67]]))
 (.ops [Za 53 11,Zn 54 53 1 .add,Za 11 54]))))))
 (.seq (.ops [Za 68 7,Za 69 10,Zz 70 392 68 69,Za 12 70])
 (.seq (.seq (.ops [Za 71 12,Zn 72 71 0 .lss])
 (.cond (.t 72)
 (.seq (.ops [Za 73 7,Zp 74 73,Za 12 74])
 (.ops [Za 75 7,Za 76 10,
 ⟨some 77, .new (.buildSlice 1 [.snil 1] [0]), [.t 76], none⟩,
 ⟨some 78, .eff (.append 1 24), [.t 75, .t 77], none⟩,Za 7 78]))
 .skip))
 (.ops [Za 79 8,Za 80 9,Za 81 12,Zj 82 79 80 1,Zu 82 81 1]))))))
 (.ops [Za 42 9,Zn 43 42 1 .add,Za 9 43]))))))
 (.seq (.ops [Za 83 8,Za 4 83])
 (.seq (.seq (.ops [Za 84 7,Zp 85 84,Za 86 6,Zl 87 85 86 .eql])
 (.cond (.t 87)
 (.seq (.ops [Za 88 4,Za 2 88])
 .ret)
 .skip))
 (.ops [Za 89 7,Zp 90 89,Za 6 90])))))))))))))) }
/-- datakit/datakitref16.cuts -/
def ac374:AFn:=
 { nt:=65, res:=[.tmp 2], body:=
 (.seq (.ops [Zc 2 (.snil 1)])
 (.seq (.ops [⟨some 3, .new (.new 1 [.bool false, .bool false, .bool false, .bool false, .bool false, .bool false, .bool false, .bool false, .bool false, .bool false, .bool false, .bool false, .bool false, .bool false, .bool false, .bool false, .bool false, .bool false, .bool false, .bool false, .bool false, .bool false, .bool false, .bool false, .bool false, .bool false, .bool false, .bool false, .bool false, .bool false, .bool false, .bool false, .bool false, .bool false, .bool false, .bool false, .bool false, .bool false, .bool false, .bool false, .bool false, .bool false, .bool false, .bool false, .bool false, .bool false, .bool false, .bool false, .bool false, .bool false, .bool false, .bool false, .bool false, .bool false, .bool false, .bool false, .bool false, .bool false, .bool false, .bool false, .bool false, .bool false, .bool false, .bool false, .bool false, .bool false, .bool false, .bool false, .bool false, .bool false, .bool false, .bool false, .bool false, .bool false, .bool false, .bool false, .bool false, .bool false, .bool false, .bool false, .bool false, .bool false, .bool false, .bool false, .bool false, .bool false, .bool false, .bool false, .bool false, .bool false, .bool false, .bool false, .bool false, .bool false, .bool false, .bool false, .bool false, .bool false, .bool false, .bool false, .bool false, .bool false, .bool false, .bool false, .bool false, .bool false, .bool false, .bool false, .bool false, .bool false, .bool false, .bool false, .bool false, .bool false, .bool false, .bool false, .bool false, .bool false, .bool false, .bool false, .bool false, .bool false, .bool false, .bool false, .bool false, .bool false, .bool false, .bool false, .bool false, .bool false, .bool false, .bool false, .bool false, .bool false, .bool false, .bool false, .bool false, .bool false, .bool false, .bool false, .bool false, .bool false, .bool false, .bool false, .bool false, .bool false, .bool false, .bool false, .bool false, .bool false, .bool false, .bool false, .bool false, .bool false, .bool false, .bool false, .bool false, .bool false, .bool false, .bool false, .bool false, .bool false, .bool false, .bool false, .bool false, .bool false, .bool false, .bool false, .bool false, .bool false, .bool false, .bool false, .bool false, .bool false, .bool false, .bool false, .bool false, .bool false, .bool false, .bool false, .bool false, .bool false, .bool false, .bool false, .bool false, .bool false, .bool false, .bool false, .bool false, .bool false, .bool false, .bool false, .bool false, .bool false, .bool false, .bool false, .bool false, .bool false, .bool false, .bool false, .bool false, .bool false, .bool false, .bool false, .bool false, .bool false, .bool false, .bool false, .bool false, .bool false, .bool false, .bool false, .bool false, .bool false, .bool false, .bool false, .bool false, .bool false, .bool false, .bool false, .bool false, .bool false, .bool false, .bool false, .bool false, .bool false, .bool false, .bool false, .bool false, .bool false, .bool false, .bool false, .bool false, .bool false, .bool false, .bool false, .bool false, .bool false, .bool false, .bool false, .bool false, .bool false, .bool false, .bool false, .bool false, .bool false, .bool false, .bool false, .bool false, .bool false, .bool false, .bool false, .bool false, .bool false, .bool false, .bool false, .bool false]), [], none⟩])
 (.seq (.seq (.ops [Zc 4 (.int .i64 0)])
 (.block 0
 (.loop [0, 3, 4]
 (.seq (.seq (.ops [Za 9 4,Za 10 0,Zp 11 10,Zl 12 9 11 .lss])
 (.cond (.t 12)
 .skip
 (.exit 0)))
 (.seq (.block 1
 (.seq (.ops [Zc 5 (.int .i64 0)])
 (.block 2
 (.loop [0, 3, 4, 5]
 (.seq (.seq (.ops [Za 15 5,Za 16 0,Za 17 4,Zj 18 16 17 1,Zh 19 18 0,Zd 20 19,Zp 21 20,Zl 22 15 21 .lss])
 (.cond (.t 22)
 .skip
 (.exit 2)))
 (.seq (.block 3
 (.seq (.ops [Zc 6 (.int .i64 0)])
 (.block 4
 (.loop [0, 3, 4, 5, 6]
 (.seq (.seq (.ops [Za 25 6,Za 26 0,Za 27 4,Zj 28 26 27 1,Zh 29 28 0,Zd 30 29,Za 31 5,Zj 32 30 31 2,Zh 33 32 1,Zd 34 33,Zp 35 34,Zl 36 25 35 .lss])
 (.cond (.t 36)
 .skip
 (.exit 4)))
 (.seq (.block 5
 (.ops [Za 39 0,Za 40 4,Zj 41 39 40 1,Zh 42 41 0,Zd 43 42,Za 44 5,Zj 45 43 44 2,Zh 46 45 1,Zd 47 46,Za 48 6,Zj 49 47 48 3,Zh 50 49 0,Zd 51 50,
 ⟨some 52, .pure (.iaddrA 257 1), [.t 3, .t 51], none⟩,
 ⟨none, .eff (.store 1), [.t 52, .c (.bool true)], none⟩]))
 (.ops [Za 37 6,Zn 38 37 1 .add,Za 6 38])))))))
 (.ops [Za 23 5,Zn 24 23 1 .add,Za 5 24])))))))
 (.ops [Za 13 4,Zn 14 13 1 .add,Za 4 14]))))))
 (.seq (.ops [Zc 7 (.snil 1)])
 (.seq (.seq (.ops [Zc 8 (.int .i64 0)])
 (.block 6
 (.loop [3, 7, 8]
 (.seq (.seq (.ops [Za 53 8,Zn 54 53 256 .lss])
 (.cond (.t 54)
 .skip
 (.exit 6)))
 (.seq (.block 7
 (.seq (.ops [Za 57 8,
 ⟨some 58, .pure (.iaddrA 257 1), [.t 3, .t 57], none⟩,Zd 59 58])
 (.cond (.t 59)
 (.ops [Za 60 7,Za 61 8,
 ⟨some 62, .new (.buildSlice 1 [.int .i64 0] [0]), [.t 61], none⟩,
 ⟨some 63, .eff (.append 1 8), [.t 60, .t 62], none⟩,Za 7 63])
 .skip)))
 (.ops [Za 55 8,Zn 56 55 1 .add,Za 8 56]))))))
 (.seq (.ops [Za 64 7,Za 2 64])
 .ret)))))) }
/-- datakit/datakitref16.arcs -/
def ac375:AFn:=
 { nt:=63, res:=[.tmp 4], body:=
 (.seq (.ops [Zc 4 (.snil 3)])
 (.seq (.ops [Zc 5 (.snil 3)])
 (.seq (.seq (.ops [Zc 6 (.int .i64 0)])
 (.block 0
 (.loop [0, 1, 5, 6]
 (.seq (.seq (.ops [Za 9 6,Za 10 0,Zp 11 10,Zl 12 9 11 .lss])
 (.cond (.t 12)
 .skip
 (.exit 0)))
 (.seq (.block 1
 (.seq (.ops [Zc 7 (.int .i64 255)])
 (.seq (.seq (.ops [Za 15 6,Zn 16 15 1 .add,Za 17 0,Zp 18 17,Zl 19 16 18 .lss])
 (.cond (.t 19)
 (.ops [Za 20 0,Za 21 6,Zn 22 21 1 .add,Zj 23 20 22 1,Zd 24 23,Zn 25 24 1 .sub,Za 7 25])
 .skip))
 (.seq (.ops [Za 26 5,Zp 27 26,Za 8 27])
 (.seq (.ops [Za 28 8,Zn 29 28 0 .gtr,Za 30 29,Zb 31 5 30 true,Zb 32 8 30 true,Zo 33 32 1 .sub 30 true,Zk 34 31 33 3 30 true,Zi 35 34 2 30 true,Ze 36 35 30 true,Zb 37 1 30 true,Zb 38 6 30 true,Zk 39 37 38 1 30 true,Ze 40 39 30 true,Zm 41 36 40 .eql 30 true,Zv 42 30 41 false])
 (.cond (.t 42)
 (.ops [Za 43 5,Za 44 8,Zn 45 44 1 .sub,Za 46 7,Zj 47 43 45 3,Zh 48 47 1,Zu 48 46 1])
 (.draw 1 [[Za 49 5,Za 50 0,Za 51 6,Zj 52 50 51 1,Zd 53 52,Za 54 7,Za 55 1,Za 56 6,Zj 57 55 56 1,Zd 58 57,
 ⟨some 59, .pure (.build [.int .i64 0, .int .i64 0, .int .i64 0] [(0, 1), (1, 1), (2, 1)]), [.t 53, .t 54, .t 58], none⟩,
 ⟨some 60, .newAt 0 (.buildSlice 3 [.agg [.int .i64 0, .int .i64 0, .int .i64 0]] [0]), [.t 59], none⟩,
 ⟨some 61, .eff (.append 3 24), [.t 49, .t 60], none⟩,Za 5 61]])))))))
 (.ops [Za 13 6,Zn 14 13 1 .add,Za 6 14]))))))
 (.seq (.ops [Za 62 5,Za 4 62])
 .ret)))) }
/-- datakit/datakitref16.find -/
def ac392:AFn:=
 { nt:=19, res:=[.tmp 4], body:=
 (.seq (.ops [Zc 4 (.int .i64 0)])
 (.seq (.seq (.ops [Zc 5 (.int .i64 0)])
 (.block 0
 (.loop [0, 1, 5]
 (.seq (.seq (.ops [Za 6 5,Za 7 0,Zp 8 7,Zl 9 6 8 .lss])
 (.cond (.t 9)
 .skip
 (.exit 0)))
 (.seq (.block 1
 (.seq (.ops [Za 12 0,Za 13 5,Zj 14 12 13 1,Zd 15 14,Za 16 1,Zz 17 403 15 16])
 (.cond (.t 17)
 (.seq (.ops [Za 18 5,Za 4 18])
 .ret)
 .skip)))
 (.ops [Za 10 5,Zn 11 10 1 .add,Za 5 11]))))))
 (.seq (.ops [Zc 4 (.int .i64 (-1))])
 .ret))) }
/-- datakit/datakitref16.both -/
def ac393:AFn:=
 { nt:=25, res:=[.tmp 6], body:=
 (.seq (.ops [Zc 6 (.bool false)])
 (.seq (.seq (.ops [Za 7 0])
 (.block 0
 (.seq (.ops [Zn 9 7 1 .eql,Za 8 9])
 (.cond (.t 8)
 (.seq (.ops [Za 10 1,Za 11 10,Zb 12 2 11 true,Zv 13 11 12 false,Za 6 13])
 .ret)
 (.seq (.ops [Zn 15 7 2 .eql,Za 14 15])
 (.cond (.t 14)
 (.seq (.ops [Za 16 1,Za 17 16,Zb 18 2 17 false,Zw 19 17 18 true,Za 6 19])
 .ret)
 .skip))))))
 (.seq (.ops [Za 20 1,Za 21 20,Zb 22 2 21 true,Zs 23 22 21 true,Zv 24 21 23 false,Za 6 24])
 .ret))) }
/-- datakit/datakitref16.equal -/
def ac403:AFn:=
 { nt:=26, res:=[.tmp 4], body:=
 (.seq (.ops [Zc 4 (.bool false)])
 (.seq (.seq (.ops [Za 6 0,Zp 7 6,Za 8 1,Zp 9 8,Zl 10 7 9 .neq])
 (.cond (.t 10)
 (.seq (.ops [Zc 4 (.bool false)])
 .ret)
 .skip))
 (.seq (.seq (.ops [Zc 5 (.int .i64 0)])
 (.block 0
 (.loop [0, 1, 5]
 (.seq (.seq (.ops [Za 11 5,Za 12 0,Zp 13 12,Zl 14 11 13 .lss])
 (.cond (.t 14)
 .skip
 (.exit 0)))
 (.seq (.block 1
 (.seq (.ops [Za 17 0,Za 18 5,Zj 19 17 18 1,Zd 20 19,Za 21 1,Za 22 5,Zj 23 21 22 1,Zd 24 23,Zl 25 20 24 .neq])
 (.cond (.t 25)
 (.seq (.ops [Zc 4 (.bool false)])
 .ret)
 .skip)))
 (.ops [Za 15 5,Zn 16 15 1 .add,Za 5 16]))))))
 (.seq (.ops [Zc 4 (.bool true)])
 .ret)))) }
def codeB1:Nat→Option AFn
 | 311=>some ac311
 | 317=>some ac317
 | 320=>some ac320
 | 323=>some ac323
 | 324=>some ac324
 | 325=>some ac325
 | 326=>some ac326
 | 347=>some ac347
 | 349=>some ac349
 | 350=>some ac350
 | 351=>some ac351
 | 356=>some ac356
 | 368=>some ac368
 | 373=>some ac373
 | 374=>some ac374
 | 375=>some ac375
 | 392=>some ac392
 | 393=>some ac393
 | 403=>some ac403
 | _=>none
def codeB (f:Nat):Option AFn:=match codeA f with
 | some a=>some a
 | none=>codeB1 f
def clRB:Nat→Option (Nat × Nat)
 | _=>none
def clPB:Nat→Option (Nat × Nat)
 | 217=>some (3, 24)
 | _=>none
def CB:Ctx:=funCtx (mkCtx codeB clRB clPB) ppA
end Ago
