/- The abstract code of the functions, printed by program. -/
import Derived.Test.YtgfkbpjgfdgfbaaGreatDoorCodeA
import Derived.Test.YtgfkbpjgfdgfbaaGreatDoorMachH
set_option linter.unusedSimpArgs false
set_option linter.unusedVariables false
set_option maxRecDepth 100000
namespace Ago
/-- datakit/automaton.starts -/
def ac370:AFn:=
 { nt:=51, res:=[.tmp 2], body:=
 (.seq (.ops [Zc 2 (.snil 1)])
 (.seq (.ops [⟨some 3, .new (.new 1 [.bool false, .bool false, .bool false, .bool false, .bool false, .bool false, .bool false, .bool false, .bool false, .bool false, .bool false, .bool false, .bool false, .bool false, .bool false, .bool false, .bool false, .bool false, .bool false, .bool false, .bool false, .bool false, .bool false, .bool false, .bool false, .bool false, .bool false, .bool false, .bool false, .bool false, .bool false, .bool false, .bool false, .bool false, .bool false, .bool false, .bool false, .bool false, .bool false, .bool false, .bool false, .bool false, .bool false, .bool false, .bool false, .bool false, .bool false, .bool false, .bool false, .bool false, .bool false, .bool false, .bool false, .bool false, .bool false, .bool false, .bool false, .bool false, .bool false, .bool false, .bool false, .bool false, .bool false, .bool false, .bool false, .bool false, .bool false, .bool false, .bool false, .bool false, .bool false, .bool false, .bool false, .bool false, .bool false, .bool false, .bool false, .bool false, .bool false, .bool false, .bool false, .bool false, .bool false, .bool false, .bool false, .bool false, .bool false, .bool false, .bool false, .bool false, .bool false, .bool false, .bool false, .bool false, .bool false, .bool false, .bool false, .bool false, .bool false, .bool false, .bool false, .bool false, .bool false, .bool false, .bool false, .bool false, .bool false, .bool false, .bool false, .bool false, .bool false, .bool false, .bool false, .bool false, .bool false, .bool false, .bool false, .bool false, .bool false, .bool false, .bool false, .bool false, .bool false, .bool false, .bool false, .bool false, .bool false, .bool false, .bool false, .bool false, .bool false, .bool false, .bool false, .bool false, .bool false, .bool false, .bool false, .bool false, .bool false, .bool false, .bool false, .bool false, .bool false, .bool false, .bool false, .bool false, .bool false, .bool false, .bool false, .bool false, .bool false, .bool false, .bool false, .bool false, .bool false, .bool false, .bool false, .bool false, .bool false, .bool false, .bool false, .bool false, .bool false, .bool false, .bool false, .bool false, .bool false, .bool false, .bool false, .bool false, .bool false, .bool false, .bool false, .bool false, .bool false, .bool false, .bool false, .bool false, .bool false, .bool false, .bool false, .bool false, .bool false, .bool false, .bool false, .bool false, .bool false, .bool false, .bool false, .bool false, .bool false, .bool false, .bool false, .bool false, .bool false, .bool false, .bool false, .bool false, .bool false, .bool false, .bool false, .bool false, .bool false, .bool false, .bool false, .bool false, .bool false, .bool false, .bool false, .bool false, .bool false, .bool false, .bool false, .bool false, .bool false, .bool false, .bool false, .bool false, .bool false, .bool false, .bool false, .bool false, .bool false, .bool false, .bool false, .bool false, .bool false, .bool false, .bool false, .bool false, .bool false, .bool false, .bool false, .bool false, .bool false, .bool false, .bool false, .bool false, .bool false, .bool false, .bool false, .bool false, .bool false, .bool false, .bool false, .bool false, .bool false, .bool false, .bool false, .bool false, .bool false, .bool false, .bool false, .bool false, .bool false, .bool false]), [], none⟩])
 (.seq (.seq (.ops [Za 13 0,Zp 14 13,Zc 15 (.int .i64 0)])
 (.block 0
 (.loop [3, 13, 14, 15]
 (.seq (.ops [Zl 16 15 14 .lss])
 (.seq (.cond (.t 16)
 .skip
 (.exit 0))
 (.seq (.block 1
 (.seq (.ops [Zj 17 13 15 1,Zf 18 17 1,
 ⟨some 5, .new (.new 1 [.agg [.snil 2]]), [], none⟩,Zu 5 18 1])
 (.seq (.ops [Zh 19 5 0,Zd 20 19,Zp 21 20,Zc 22 (.int .i64 0)])
 (.block 2
 (.loop [3, 13, 14, 15, 20, 21, 22]
 (.seq (.ops [Zl 23 22 21 .lss])
 (.seq (.cond (.t 23)
 .skip
 (.exit 2))
 (.seq (.block 3
 (.seq (.ops [Zj 24 20 22 2,Zf 25 24 2,
 ⟨some 7, .new (.new 2 [.agg [.bool false, .snil 3]]), [], none⟩,Zu 7 25 2])
 (.seq (.ops [Zh 26 7 1,Zd 27 26,Zp 28 27,Zc 29 (.int .i64 0)])
 (.block 4
 (.loop [3, 13, 14, 15, 20, 21, 22, 27, 28, 29]
 (.seq (.ops [Zl 30 29 28 .lss])
 (.seq (.cond (.t 30)
 .skip
 (.exit 4))
 (.seq (.block 5
 (.seq (.ops [Zj 31 27 29 3,Zf 32 31 3,
 ⟨some 9, .new (.new 3 [.agg [.int .i64 0, .int .i64 0, .int .i64 0]]), [], none⟩,Zu 9 32 3])
 (.ops [Zh 33 9 0,Zd 34 33,
 ⟨some 35, .pure (.iaddrA 256 1), [.t 3, .t 34], none⟩,
 ⟨none, .eff (.store 1), [.t 35, .c (.bool true)], none⟩])))
 (.ops [Zn 36 29 1 .add,Za 29 36])))))))))
 (.ops [Zn 37 22 1 .add,Za 22 37])))))))))
 (.ops [Zn 38 15 1 .add,Za 15 38])))))))
 (.seq (.ops [Zc 10 (.snil 1)])
 (.seq (.seq (.ops [Zf 39 3 256,Zc 40 (.int .i64 0)])
 (.block 6
 (.loop [10, 39, 40]
 (.seq (.ops [Zn 41 40 256 .lss])
 (.seq (.cond (.t 41)
 .skip
 (.exit 6))
 (.seq (.block 7
 (.seq (.ops [Za 42 40,
 ⟨some 43, .pure (.idxArr 256 1 false), [.t 39, .t 40], none⟩,Za 11 42,Za 12 43])
 (.seq (.ops [Za 44 12])
 (.cond (.t 44)
 (.ops [Za 45 10,Za 46 11,
 ⟨some 47, .new (.buildSlice 1 [.int .i64 0] [0]), [.t 46], none⟩,
 ⟨some 48, .eff (.append 1 8), [.t 45, .t 47], none⟩,Za 10 48])
 .skip))))
 (.ops [Zn 49 40 1 .add,Za 40 49])))))))
 (.seq (.ops [Za 50 10,Za 2 50])
 .ret)))))) }
/-- datakit/automaton.numbered -/
def ac372:AFn:=
 { nt:=95, res:=[.cell 8 (some 1)], body:=
 (.seq (.ops [Zx 4 0 1,
 ⟨some 8, .new (.new 1 [.agg [.snil 2]]), [], none⟩])
 (.seq (.ops [⟨some 19, .new .mkMap, [], none⟩,Za 20 3,
 ⟨some 21, .pure (.iaddrS 1), [.t 20, .c (.int .i64 0)], none⟩,Zd 22 21,
 ⟨none, .eff (.mapSet (.one .int)), [.t 19, .t 22, .c (.int .i64 0)], none⟩,Za 23 19,Za 9 23])
 (.seq (.ops [⟨some 24, .new (.buildSlice 1 [.int .i64 0] [0]), [.c (.int .i64 0)], none⟩,Za 10 24])
 (.seq (.ops [⟨some 11, .new (.new 1 [.agg [.snil 2]]), [], none⟩])
 (.seq (.seq (.ops [Zc 12 (.int .i64 0)])
 (.block 0
 (.loop [1, 2, 3, 4, 8, 9, 10, 11, 12, 3011]
 (.seq (.seq (.ops [Za 25 12,Za 26 10,Zp 27 26,Zl 28 25 27 .lss])
 (.cond (.t 28)
 .skip
 (.exit 0)))
 (.seq (.block 1
 (.seq (.ops [Za 31 10,Za 32 12,Zj 33 31 32 1,Zd 34 33,Za 13 34])
 (.seq (.ops [Zh 35 4 0,Zd 36 35,Za 37 13,Zj 38 36 37 2,Zh 39 38 0,Zd 40 39,
 ⟨some 41, .pure (.build [.bool false, .snil 3] [(0, 1)]), [.t 40], none⟩,
 ⟨some 14, .new (.new 2 [.agg [.bool false, .snil 3]]), [], none⟩,Zu 14 41 2])
 (.seq (.seq (.ops [Za 42 2,Za 43 13,Zj 44 42 43 1,Zd 45 44,Zp 46 45,Zc 47 (.int .i64 0)])
 (.block 2
 (.loop [1, 2, 3, 4, 8, 9, 10, 11, 12, 14, 45, 46, 47]
 (.seq (.ops [Zl 48 47 46 .lss])
 (.seq (.cond (.t 48)
 .skip
 (.exit 2))
 (.seq (.block 3
 (.seq (.ops [Za 49 47,Zj 50 45 47 1,Zd 51 50,Za 15 49,Za 16 51])
 (.seq (.ops [Za 53 9,Za 54 3,Za 55 16,Zj 56 54 55 1,Zd 57 56,
 ⟨some 58, .read (.lookup (.one .int) (.int .i64 0) true), [.t 53, .t 57], none⟩,Za 52 58,Zt 59 52 0,Zt 60 52 1,Za 17 59,Za 18 60])
 (.seq (.seq (.ops [Za 61 18,Zr 62 61])
 (.cond (.t 62)
 (.seq (.ops [Za 63 10,Zp 64 63,Za 17 64])
 (.seq (.ops [Za 65 9,Za 66 3,Za 67 16,Zj 68 66 67 1,Zd 69 68,Za 70 17,
 ⟨none, .eff (.mapSet (.one .int)), [.t 65, .t 69, .t 70], none⟩])
 (.ops [Za 71 10,Za 72 16,
 ⟨some 73, .new (.buildSlice 1 [.int .i64 0] [0]), [.t 72], none⟩,
 ⟨some 74, .eff (.append 1 8), [.t 71, .t 73], none⟩,Za 10 74])))
 .skip))
 (.ops [Zh 75 14 1,Zd 76 75,Za 77 1,Za 78 15,Zj 79 77 78 1,Zd 80 79,Za 81 1,Za 82 15,Zz 83 391 81 82,Za 84 17,
 ⟨some 85, .call 390, [.t 76, .t 80, .t 83, .t 84], none⟩,Zh 86 14 1,Zu 86 85 1])))))
 (.ops [Zn 87 47 1 .add,Za 47 87])))))))
 (.ops [Zh 88 11 0,Zd 89 88,Zf 90 14 2,
 ⟨some 91, .new (.buildSlice 2 [.agg [.bool false, .snil 3]] [0]), [.t 90], none⟩,
 ⟨some 92, .eff (.append 2 32), [.t 89, .t 91], none⟩,Zh 93 11 0,Zu 93 92 1])))))
 (.ops [Za 29 12,Zn 30 29 1 .add,Za 12 30]))))))
 (.seq (.ops [Zf 94 11 1,Zu 8 94 1])
 .ret)))))) }
/-- datakit/datakitref15.count -/
def ac376:AFn:=
 { nt:=27, res:=[.tmp 4], body:=
 (.seq (.ops [Zx 2 0 6,Zc 4 (.int .i64 0)])
 (.seq (.seq (.ops [Za 7 1,Zn 8 7 1 .lss])
 (.cond (.t 8)
 (.seq (.ops [Zc 4 (.int .i64 0)])
 .ret)
 .skip))
 (.seq (.ops [Zc 5 (.int .i64 1)])
 (.seq (.seq (.ops [Zc 6 (.int .i64 0)])
 (.block 0
 (.loop [1, 2, 5, 6]
 (.seq (.seq (.ops [Za 9 6,Zh 10 2 5,Zd 11 10,Zp 12 11,Zl 13 9 12 .lss])
 (.cond (.t 13)
 .skip
 (.exit 0)))
 (.seq (.block 1
 (.ops [Za 16 5,Zh 17 2 5,Zd 18 17,Za 19 6,Zj 20 18 19 6,Zf 21 20 6,Za 22 1,Zn 23 22 1 .sub,Zz 24 376 21 23,Zl 25 16 24 .add,Za 5 25]))
 (.ops [Za 14 6,Zn 15 14 1 .add,Za 6 15]))))))
 (.seq (.ops [Za 26 5,Za 4 26])
 .ret))))) }
/-- datakit/regex.sound -/
def ac377:AFn:=
 { nt:=27, res:=[.tmp 4], body:=
 (.seq (.ops [Zx 2 0 6,Zc 4 (.bool false)])
 (.seq (.seq (.ops [Za 7 1,Zn 8 7 1 .lss,Za 9 8,Zg 10 2 6 9 false,ZB 11 396 10 9 false,Zs 12 11 9 false,Zw 13 9 12 true])
 (.cond (.t 13)
 (.seq (.ops [Zc 4 (.bool false)])
 .ret)
 .skip))
 (.seq (.seq (.ops [Zh 14 2 5,Zd 15 14,Zp 16 15,Zc 17 (.int .i64 0)])
 (.block 0
 (.loop [1, 15, 16, 17]
 (.seq (.ops [Zl 18 17 16 .lss])
 (.seq (.cond (.t 18)
 .skip
 (.exit 0))
 (.seq (.block 1
 (.seq (.ops [Zj 19 15 17 6,Zf 20 19 6,
 ⟨some 6, .new (.new 6 [.agg [.int .i64 0, .int .i64 0, .int .i64 0, .int .i64 0, .int .i64 0, .snil 6]]), [], none⟩,Zu 6 20 6])
 (.seq (.ops [Zf 21 6 6,Za 22 1,Zn 23 22 1 .sub,Zz 24 377 21 23,Zr 25 24])
 (.cond (.t 25)
 (.seq (.ops [Zc 4 (.bool false)])
 .ret)
 .skip))))
 (.ops [Zn 26 17 1 .add,Za 17 26])))))))
 (.seq (.ops [Zc 4 (.bool true)])
 .ret)))) }
/-- datakit/regex.size -/
def ac378:AFn:=
 { nt:=25, res:=[.tmp 4], body:=
 (.seq (.ops [Zx 2 0 6,Zc 4 (.int .i64 0)])
 (.seq (.seq (.ops [Za 8 1,Zn 9 8 1 .lss])
 (.cond (.t 9)
 (.seq (.ops [Zc 4 (.int .i64 0)])
 .ret)
 .skip))
 (.seq (.ops [Zc 5 (.int .i64 1)])
 (.seq (.seq (.ops [Zh 10 2 5,Zd 11 10,Zp 12 11,Zc 13 (.int .i64 0)])
 (.block 0
 (.loop [1, 5, 11, 12, 13]
 (.seq (.ops [Zl 14 13 12 .lss])
 (.seq (.cond (.t 14)
 .skip
 (.exit 0))
 (.seq (.block 1
 (.seq (.ops [Zj 15 11 13 6,Zf 16 15 6,
 ⟨some 7, .new (.new 6 [.agg [.int .i64 0, .int .i64 0, .int .i64 0, .int .i64 0, .int .i64 0, .snil 6]]), [], none⟩,Zu 7 16 6])
 (.ops [Za 17 5,Zf 18 7 6,Za 19 1,Zn 20 19 1 .sub,Zz 21 378 18 20,Zl 22 17 21 .add,Za 5 22])))
 (.ops [Zn 23 13 1 .add,Za 13 23])))))))
 (.seq (.ops [Za 24 5,Za 4 24])
 .ret))))) }
/-- datakit/automaton.epsilon -/
def ac379:AFn:=
 { nt:=5, res:=[.cell 0 (some 1)], body:=
 (.seq (.ops [⟨some 0, .new (.new 1 [.agg [.snil 2]]), [], none⟩])
 (.seq (.ops [⟨some 1, .pcall 383, [.c (.bool true), .c (.int .i64 1)], none⟩,
 ⟨some 2, .pcall 383, [.c (.bool false), .c (.int .i64 1)], none⟩,
 ⟨some 3, .new (.buildSlice 2 [.agg [.bool false, .snil 3], .agg [.bool false, .snil 3]] [0, 1]), [.t 1, .t 2], none⟩,
 ⟨some 4, .pure (.build [.snil 2] [(0, 1)]), [.t 3], none⟩,Zu 0 4 1])
 .ret)) }
/-- datakit/automaton.bytesOf -/
def ac380:AFn:=
 { nt:=41, res:=[.cell 4 (some 1)], body:=
 (.seq (.ops [⟨some 4, .new (.new 1 [.agg [.snil 2]]), [], none⟩])
 (.seq (.ops [⟨some 6, .pure (.build [.bool false, .snil 3] []), [], none⟩,
 ⟨some 5, .new (.new 2 [.agg [.bool false, .snil 3]]), [], none⟩,Zu 5 6 2])
 (.seq (.seq (.ops [Za 7 0,Zn 8 7 0 .gtr])
 (.cond (.t 8)
 (.ops [Zh 9 5 1,Zd 10 9,Za 11 0,Zn 12 11 1 .sub,
 ⟨some 13, .pure (.build [.int .i64 0, .int .i64 0, .int .i64 0] [(0, 1), (1, 1), (2, 1)]), [.c (.int .i64 0), .t 12, .c (.int .i64 2)], none⟩,
 ⟨some 14, .new (.buildSlice 3 [.agg [.int .i64 0, .int .i64 0, .int .i64 0]] [0]), [.t 13], none⟩,
 ⟨some 15, .eff (.append 3 24), [.t 10, .t 14], none⟩,Zh 16 5 1,Zu 16 15 1])
 .skip))
 (.seq (.ops [Zh 17 5 1,Zd 18 17,Za 19 0,Za 20 1,
 ⟨some 21, .pure (.build [.int .i64 0, .int .i64 0, .int .i64 0] [(0, 1), (1, 1), (2, 1)]), [.t 19, .t 20, .c (.int .i64 1)], none⟩,
 ⟨some 22, .new (.buildSlice 3 [.agg [.int .i64 0, .int .i64 0, .int .i64 0]] [0]), [.t 21], none⟩,
 ⟨some 23, .eff (.append 3 24), [.t 18, .t 22], none⟩,Zh 24 5 1,Zu 24 23 1])
 (.seq (.seq (.ops [Za 25 1,Zn 26 25 255 .lss])
 (.cond (.t 26)
 (.ops [Zh 27 5 1,Zd 28 27,Za 29 1,Zn 30 29 1 .add,
 ⟨some 31, .pure (.build [.int .i64 0, .int .i64 0, .int .i64 0] [(0, 1), (1, 1), (2, 1)]), [.t 30, .c (.int .i64 255), .c (.int .i64 2)], none⟩,
 ⟨some 32, .new (.buildSlice 3 [.agg [.int .i64 0, .int .i64 0, .int .i64 0]] [0]), [.t 31], none⟩,
 ⟨some 33, .eff (.append 3 24), [.t 28, .t 32], none⟩,Zh 34 5 1,Zu 34 33 1])
 .skip))
 (.seq (.draw 1 [[Zf 35 5 2,
 ⟨some 36, .pcall 383, [.c (.bool true), .c (.int .i64 2)], none⟩,
 ⟨some 37, .pcall 383, [.c (.bool false), .c (.int .i64 2)], none⟩,
 ⟨some 38, .newAt 0 (.buildSlice 2 [.agg [.bool false, .snil 3], .agg [.bool false, .snil 3], .agg [.bool false, .snil 3]] [0, 1, 2]), [.t 35, .t 36, .t 37], none⟩,
 ⟨some 39, .pure (.build [.snil 2] [(0, 1)]), [.t 38], none⟩,Zy 40 355 39,Zu 4 40 1]])
 .ret)))))) }
/-- datakit/automaton.repeat -/
def ac381:AFn:=
 { nt:=72, res:=[.cell 6 (some 1), .tmp 7], body:=
 (.seq (.ops [Zx 3 0 1,
 ⟨some 6, .new (.new 1 [.agg [.snil 2]]), [], none⟩,Zc 7 (.bool false)])
 (.seq (.ops [⟨some 14, .pcall 379, [], none⟩,
 ⟨some 8, .new (.new 1 [.agg [.snil 2]]), [], none⟩,Zu 8 14 1,Zc 9 (.bool true)])
 (.seq (.seq (.ops [Za 15 1,Zc 16 (.int .i64 0)])
 (.block 0
 (.loop [1, 2, 3, 6, 8, 15, 16]
 (.seq (.ops [Zl 17 16 15 .lss])
 (.seq (.cond (.t 17)
 .skip
 (.exit 0))
 (.seq (.block 1
 (.seq (.ops [Zf 19 8 1,Zf 20 3 1,Zz 21 397 19 20,Za 18 21,Zt 22 18 0,Zt 23 18 1,Zu 8 22 1,Za 9 23])
 (.seq (.ops [Za 24 9,Zr 25 24])
 (.cond (.t 25)
 (.seq (.ops [⟨some 26, .pure (.build [.snil 2] []), [], none⟩,Zu 6 26 1,Zc 7 (.bool false)])
 .ret)
 .skip))))
 (.ops [Zn 27 16 1 .add,Za 16 27])))))))
 (.seq (.seq (.ops [Za 28 2,Zn 29 28 0 .lss])
 (.cond (.t 29)
 (.seq (.ops [Zf 31 3 1,Zy 32 398 31,Za 30 32,Zt 33 30 0,Zt 34 30 1,
 ⟨some 10, .new (.new 1 [.agg [.snil 2]]), [], none⟩,Zu 10 33 1,Za 11 34])
 (.seq (.seq (.ops [Za 35 11,Zr 36 35])
 (.cond (.t 36)
 (.seq (.ops [⟨some 37, .pure (.build [.snil 2] []), [], none⟩,Zu 6 37 1,Zc 7 (.bool false)])
 .ret)
 .skip))
 (.seq (.ops [Zf 38 8 1,Zf 39 10 1,Zz 40 397 38 39,Zt 41 40 0,Zt 42 40 1,Zu 6 41 1,Za 7 42])
 .ret)))
 .skip))
 (.seq (.seq (.ops [Za 43 2,Za 44 1,Zl 45 43 44 .eql])
 (.cond (.t 45)
 (.seq (.ops [Zf 46 8 1,Zu 6 46 1,Zc 7 (.bool true)])
 .ret)
 .skip))
 (.seq (.draw 1 [[Zf 48 3 1,
 ⟨some 49, .pcall 379, [], none⟩,Zz 50 322 48 49,Za 47 50,Zt 51 47 0,Zt 52 47 1,
 ⟨some 12, .newAt 0 (.new 1 [.agg [.snil 2]]), [], none⟩,Zu 12 51 1,Za 13 52]])
 (.seq (.seq (.ops [Za 53 13,Zn 54 53 0 .neq])
 (.cond (.t 54)
 (.seq (.ops [⟨some 55, .pure (.build [.snil 2] []), [], none⟩,Zu 6 55 1,Zc 7 (.bool false)])
 .ret)
 .skip))
 (.seq (.seq (.ops [Za 56 2,Za 57 1,Zl 58 56 57 .sub,Zc 59 (.int .i64 0)])
 (.block 2
 (.loop [6, 8, 12, 58, 59]
 (.seq (.ops [Zl 60 59 58 .lss])
 (.seq (.cond (.t 60)
 .skip
 (.exit 2))
 (.seq (.block 3
 (.seq (.ops [Zf 62 8 1,Zf 63 12 1,Zz 64 397 62 63,Za 61 64,Zt 65 61 0,Zt 66 61 1,Zu 8 65 1,Za 9 66])
 (.seq (.ops [Za 67 9,Zr 68 67])
 (.cond (.t 68)
 (.seq (.ops [⟨some 69, .pure (.build [.snil 2] []), [], none⟩,Zu 6 69 1,Zc 7 (.bool false)])
 .ret)
 .skip))))
 (.ops [Zn 70 59 1 .add,Za 59 70])))))))
 (.seq (.ops [Zf 71 8 1,Zu 6 71 1,Zc 7 (.bool true)])
 .ret))))))))) }
/-- datakit/automaton.join -/
def ac382:AFn:=
 { nt:=34, res:=[.cell 6 (some 1), .tmp 7], body:=
 (.seq (.ops [Zx 4 1 1,Zx 5 2 1,
 ⟨some 6, .new (.new 1 [.agg [.snil 2]]), [], none⟩,Zc 7 (.bool false)])
 (.seq (.seq (.ops [Za 10 0,Zn 11 10 3 .eql])
 (.cond (.t 11)
 (.seq (.ops [Zf 12 4 1,Zf 13 5 1,Zz 14 397 12 13,Zt 15 14 0,Zt 16 14 1,Zu 6 15 1,Za 7 16])
 .ret)
 .skip))
 (.seq (.ops [Zf 18 4 1,Zf 19 5 1,Zz 20 319 18 19,Za 17 20,Zt 21 17 0,Zt 22 17 1,
 ⟨some 8, .new (.new 1 [.agg [.snil 2]]), [], none⟩,Zu 8 21 1,Za 9 22])
 (.seq (.seq (.ops [Za 23 0,Zn 24 23 4 .eql])
 (.cond (.t 24)
 (.ops [Zf 26 4 1,Zf 27 5 1,Zz 28 322 26 27,Za 25 28,Zt 29 25 0,Zt 30 25 1,Zu 8 29 1,Za 9 30])
 .skip))
 (.seq (.ops [Zf 31 8 1,Za 32 9,Zn 33 32 0 .eql,Zu 6 31 1,Za 7 33])
 .ret))))) }
/-- datakit/automaton.all -/
def ac383:AFn:=
 { nt:=10, res:=[.cell 4 (some 2)], body:=
 (.seq (.ops [⟨some 4, .new (.new 2 [.agg [.bool false, .snil 3]]), [], none⟩])
 (.seq (.ops [Za 5 0,Za 6 1,
 ⟨some 7, .pure (.build [.int .i64 0, .int .i64 0, .int .i64 0] [(0, 1), (1, 1), (2, 1)]), [.c (.int .i64 0), .c (.int .i64 255), .t 6], none⟩,
 ⟨some 8, .new (.buildSlice 3 [.agg [.int .i64 0, .int .i64 0, .int .i64 0]] [0]), [.t 7], none⟩,
 ⟨some 9, .pure (.build [.bool false, .snil 3] [(0, 1), (1, 1)]), [.t 5, .t 8], none⟩,Zu 4 9 2])
 .ret)) }
/-- datakit/datakitref15.node -/
def ac384:AFn:=
 { nt:=156, res:=[.tmp 2], body:=
 (.seq (.ops [Zx 1 0 6,Zc 2 (.bool false)])
 (.seq (.ops [Zh 4 1 5,Zd 5 4,Zp 6 5,Za 3 6])
 (.seq (.seq (.ops [Zh 7 1 0,Zd 8 7])
 (.block 0
 (.seq (.seq (.ops [Zn 10 8 0 .eql,Za 9 10])
 (.cond (.t 9)
 .skip
 (.ops [Zn 11 8 1 .eql,Za 9 11])))
 (.cond (.t 9)
 (.seq (.ops [Za 12 3,Zn 13 12 0 .eql,Za 14 13,Zi 15 1 1 14 true,Ze 16 15 14 true,Zo 17 16 0 .eql 14 true,Zv 18 14 17 false,Za 19 18,Zi 20 1 2 19 true,Ze 21 20 19 true,Zo 22 21 0 .eql 19 true,Zv 23 19 22 false,Za 24 23,Zi 25 1 3 24 true,Ze 26 25 24 true,Zo 27 26 0 .eql 24 true,Zv 28 24 27 false,Za 29 28,Zi 30 1 4 29 true,Ze 31 30 29 true,Zo 32 31 0 .eql 29 true,Zv 33 29 32 false,Za 2 33])
 .ret)
 (.seq (.ops [Zn 35 8 2 .eql,Za 34 35])
 (.cond (.t 34)
 (.seq (.ops [Za 36 3,Zn 37 36 0 .eql,Za 38 37,Zi 39 1 1 38 true,Ze 40 39 38 true,Zo 41 40 0 .geq 38 true,Zv 42 38 41 false,Za 43 42,Zi 44 1 1 43 true,Ze 45 44 43 true,Zi 46 1 2 43 true,Ze 47 46 43 true,Zm 48 45 47 .leq 43 true,Zv 49 43 48 false,Za 50 49,Zi 51 1 2 50 true,Ze 52 51 50 true,Zo 53 52 255 .leq 50 true,Zv 54 50 53 false,Za 55 54,Zi 56 1 3 55 true,Ze 57 56 55 true,Zo 58 57 0 .eql 55 true,Zv 59 55 58 false,Za 60 59,Zi 61 1 4 60 true,Ze 62 61 60 true,Zo 63 62 0 .eql 60 true,Zv 64 60 63 false,Za 2 64])
 .ret)
 (.seq (.seq (.ops [Zn 66 8 3 .eql,Za 65 66])
 (.cond (.t 65)
 .skip
 (.seq (.ops [Zn 67 8 4 .eql,Za 65 67])
 (.cond (.t 65)
 .skip
 (.ops [Zn 68 8 6 .eql,Za 65 68])))))
 (.cond (.t 65)
 (.seq (.ops [Za 69 3,Zn 70 69 2 .geq,Za 71 70,Zi 72 1 1 71 true,Ze 73 72 71 true,Zo 74 73 0 .eql 71 true,Zv 75 71 74 false,Za 76 75,Zi 77 1 2 76 true,Ze 78 77 76 true,Zo 79 78 0 .eql 76 true,Zv 80 76 79 false,Za 81 80,Zi 82 1 3 81 true,Ze 83 82 81 true,Zo 84 83 0 .eql 81 true,Zv 85 81 84 false,Za 86 85,Zi 87 1 4 86 true,Ze 88 87 86 true,Zo 89 88 0 .eql 86 true,Zv 90 86 89 false,Za 2 90])
 .ret)
 (.seq (.ops [Zn 92 8 5 .eql,Za 91 92])
 (.cond (.t 91)
 (.seq (.ops [Za 93 3,Zn 94 93 1 .eql,Za 95 94,Zi 96 1 1 95 true,Ze 97 96 95 true,Zo 98 97 0 .eql 95 true,Zv 99 95 98 false,Za 100 99,Zi 101 1 2 100 true,Ze 102 101 100 true,Zo 103 102 0 .eql 100 true,Zv 104 100 103 false,Za 105 104,Zi 106 1 3 105 true,Ze 107 106 105 true,Zo 108 107 0 .geq 105 true,Zv 109 105 108 false,Za 110 109,Zi 111 1 3 110 true,Ze 112 111 110 true,Zo 113 112 64 .leq 110 true,Zv 114 110 113 false,Za 115 114,Zi 116 1 4 115 true,Ze 117 116 115 true,Zo 118 117 (-1) .eql 115 true,Zb 119 118 115 true,Zi 120 1 4 119 false,Ze 121 120 119 false,Zi 122 1 3 119 false,Ze 123 122 119 false,Zm 124 121 123 .geq 119 false,Zb 125 124 119 false,Zi 126 1 4 125 true,Ze 127 126 125 true,Zo 128 127 64 .leq 125 true,
 ⟨some 129, .pure .pick, [.t 125, .t 128, .c (.bool false)], some (119, false)⟩,
 ⟨some 130, .pure .pick, [.t 119, .c (.bool true), .t 129], some (115, true)⟩,Zv 131 115 130 false,Za 2 131])
 .ret)
 (.seq (.ops [Zn 133 8 7 .eql,Za 132 133])
 (.cond (.t 132)
 (.seq (.ops [Za 134 3,Zn 135 134 1 .eql,Za 136 135,Zi 137 1 1 136 true,Ze 138 137 136 true,Zo 139 138 0 .eql 136 true,Zv 140 136 139 false,Za 141 140,Zi 142 1 2 141 true,Ze 143 142 141 true,Zo 144 143 0 .eql 141 true,Zv 145 141 144 false,Za 146 145,Zi 147 1 3 146 true,Ze 148 147 146 true,Zo 149 148 0 .eql 146 true,Zv 150 146 149 false,Za 151 150,Zi 152 1 4 151 true,Ze 153 152 151 true,Zo 154 153 0 .eql 151 true,Zv 155 151 154 false,Za 2 155])
 .ret)
 .skip))))))))))))
 (.seq (.ops [Zc 2 (.bool false)])
 .ret)))) }
/-- datakit/datakitref15.alt -/
def ac388:AFn:=
 { nt:=47, res:=[.cell 6 (some 6), .tmp 7, .tmp 8], body:=
 (.seq (.ops [⟨some 6, .new (.new 6 [.agg [.int .i64 0, .int .i64 0, .int .i64 0, .int .i64 0, .int .i64 0, .snil 6]]), [], none⟩,Zc 7 (.int .i64 0),Zc 8 (.bool false)])
 (.seq (.ops [Za 14 0,Za 15 1,Za 16 2,ZA 17 399 14 15 16,Za 13 17,Zt 18 13 0,Zt 19 13 1,Zt 20 13 2,
 ⟨some 9, .new (.new 6 [.agg [.int .i64 0, .int .i64 0, .int .i64 0, .int .i64 0, .int .i64 0, .snil 6]]), [], none⟩,Zu 9 18 6,Za 10 19,Za 11 20])
 (.seq (.ops [Zf 21 9 6,
 ⟨some 22, .new (.buildSlice 6 [.agg [.int .i64 0, .int .i64 0, .int .i64 0, .int .i64 0, .int .i64 0, .snil 6]] [0]), [.t 21], none⟩,Za 12 22])
 (.seq (.block 0
 (.loop [0, 2, 6, 9, 10, 11, 12]
 (.seq (.seq (.ops [Za 23 11,Za 24 23,Zb 25 0 24 true,Zb 26 10 24 true,ZC 27 400 25 26 24 true,Zo 28 27 124 .eql 24 true,Zv 29 24 28 false])
 (.cond (.t 29)
 .skip
 (.exit 0)))
 (.block 1
 (.seq (.ops [Za 31 0,Za 32 10,Zn 33 32 1 .add,Za 34 2,ZA 35 399 31 33 34,Za 30 35,Zt 36 30 0,Zt 37 30 1,Zt 38 30 2,Zu 9 36 6,Za 10 37,Za 11 38])
 (.ops [Za 39 12,Zf 40 9 6,
 ⟨some 41, .new (.buildSlice 6 [.agg [.int .i64 0, .int .i64 0, .int .i64 0, .int .i64 0, .int .i64 0, .snil 6]] [0]), [.t 40], none⟩,
 ⟨some 42, .eff (.append 6 64), [.t 39, .t 41], none⟩,Za 12 42]))))))
 (.seq (.ops [Za 43 12,
 ⟨some 44, .pcall 401, [.c (.int .i64 4), .t 43], none⟩,Za 45 10,Za 46 11,Zu 6 44 6,Za 7 45,Za 8 46])
 .ret))))) }
/-- datakit/datakitref15.Text -/
def ac389:AFn:=
 { nt:=8, res:=[.tmp 2], body:=
 (.seq (.ops [Zx 1 0 6,Zc 2 (.str [])])
 (.seq (.seq (.ops [Zf 3 1 6,Zy 4 340 3,Zr 5 4])
 (.cond (.t 5)
 (.seq (.ops [Zc 2 (.str [])])
 .ret)
 .skip))
 (.seq (.ops [Zf 6 1 6,Zy 7 402 6,Za 2 7])
 .ret))) }
/-- datakit/automaton.addArc -/
def ac390:AFn:=
 { nt:=38, res:=[.tmp 8], body:=
 (.seq (.ops [Zc 8 (.snil 3)])
 (.seq (.seq (.ops [Za 10 0,Zp 11 10,Za 9 11])
 (.seq (.ops [Za 12 9,Zn 13 12 0 .gtr,Za 14 13,Zb 15 0 14 true,Zb 16 9 14 true,Zo 17 16 1 .sub 14 true,Zk 18 15 17 3 14 true,Zi 19 18 2 14 true,Ze 20 19 14 true,Zb 21 3 14 true,Zm 22 20 21 .eql 14 true,Zv 23 14 22 false])
 (.cond (.t 23)
 (.seq (.ops [Za 24 0,Za 25 9,Zn 26 25 1 .sub,Za 27 2,Zj 28 24 26 3,Zh 29 28 1,Zu 29 27 1])
 (.seq (.ops [Za 30 0,Za 8 30])
 .ret))
 .skip)))
 (.seq (.ops [Za 31 0,Za 32 1,Za 33 2,Za 34 3,
 ⟨some 35, .pure (.build [.int .i64 0, .int .i64 0, .int .i64 0] [(0, 1), (1, 1), (2, 1)]), [.t 32, .t 33, .t 34], none⟩,
 ⟨some 36, .new (.buildSlice 3 [.agg [.int .i64 0, .int .i64 0, .int .i64 0]] [0]), [.t 35], none⟩,
 ⟨some 37, .eff (.append 3 24), [.t 31, .t 36], none⟩,Za 8 37])
 .ret))) }
/-- datakit/automaton.hiOf -/
def ac391:AFn:=
 { nt:=16, res:=[.tmp 4], body:=
 (.seq (.ops [Zc 4 (.int .i64 0)])
 (.seq (.seq (.ops [Za 5 1,Zn 6 5 1 .add,Za 7 0,Zp 8 7,Zl 9 6 8 .lss])
 (.cond (.t 9)
 (.seq (.ops [Za 10 0,Za 11 1,Zn 12 11 1 .add,Zj 13 10 12 1,Zd 14 13,Zn 15 14 1 .sub,Za 4 15])
 .ret)
 .skip))
 (.seq (.ops [Zc 4 (.int .i64 255)])
 .ret))) }
/-- datakit/regex.form -/
def ac396:AFn:=
 { nt:=104, res:=[.tmp 2], body:=
 (.seq (.ops [Zx 1 0 6,Zc 2 (.bool false)])
 (.seq (.ops [Zh 4 1 5,Zd 5 4,Zp 6 5,Za 3 6])
 (.seq (.seq (.ops [Zh 7 1 0,Zd 8 7,Zn 9 8 2 .neq,Za 10 9,Zi 11 1 1 10 true,Ze 12 11 10 true,Zo 13 12 0 .neq 10 true,Zb 14 13 10 true,Zi 15 1 2 14 false,Ze 16 15 14 false,Zo 17 16 0 .neq 14 false,
 ⟨some 18, .pure .pick, [.t 14, .c (.bool true), .t 17], some (10, true)⟩,Zv 19 10 18 false,Za 20 19,Zi 21 1 0 20 false,Ze 22 21 20 false,Zo 23 22 5 .neq 20 false,Zb 24 23 20 false,Zi 25 1 3 24 true,Ze 26 25 24 true,Zo 27 26 0 .neq 24 true,Zb 28 27 24 true,Zi 29 1 4 28 false,Ze 30 29 28 false,Zo 31 30 0 .neq 28 false,
 ⟨some 32, .pure .pick, [.t 28, .c (.bool true), .t 31], some (24, true)⟩,
 ⟨some 33, .pure .pick, [.t 24, .t 32, .c (.bool false)], some (20, false)⟩,Zw 34 20 33 true])
 (.cond (.t 34)
 (.seq (.ops [Zc 2 (.bool false)])
 .ret)
 .skip))
 (.seq (.seq (.ops [Zh 35 1 0,Zd 36 35])
 (.block 0
 (.seq (.seq (.ops [Zn 38 36 0 .eql,Za 37 38])
 (.cond (.t 37)
 .skip
 (.ops [Zn 39 36 1 .eql,Za 37 39])))
 (.cond (.t 37)
 (.seq (.ops [Za 40 3,Zn 41 40 0 .eql,Za 2 41])
 .ret)
 (.seq (.ops [Zn 43 36 2 .eql,Za 42 43])
 (.cond (.t 42)
 (.seq (.ops [Za 44 3,Zn 45 44 0 .eql,Za 46 45,Zi 47 1 1 46 true,Ze 48 47 46 true,Zo 49 48 0 .geq 46 true,Zv 50 46 49 false,Za 51 50,Zi 52 1 1 51 true,Ze 53 52 51 true,Zi 54 1 2 51 true,Ze 55 54 51 true,Zm 56 53 55 .leq 51 true,Zv 57 51 56 false,Za 58 57,Zi 59 1 2 58 true,Ze 60 59 58 true,Zo 61 60 255 .leq 58 true,Zv 62 58 61 false,Za 2 62])
 .ret)
 (.seq (.seq (.ops [Zn 64 36 3 .eql,Za 63 64])
 (.cond (.t 63)
 .skip
 (.seq (.ops [Zn 65 36 4 .eql,Za 63 65])
 (.cond (.t 63)
 .skip
 (.ops [Zn 66 36 6 .eql,Za 63 66])))))
 (.cond (.t 63)
 (.seq (.ops [Za 67 3,Zn 68 67 2 .geq,Za 2 68])
 .ret)
 (.seq (.ops [Zn 70 36 7 .eql,Za 69 70])
 (.cond (.t 69)
 (.seq (.ops [Za 71 3,Zn 72 71 1 .eql,Za 2 72])
 .ret)
 (.seq (.ops [Zn 74 36 5 .eql,Za 73 74])
 (.cond (.t 73)
 (.seq (.ops [Za 75 3,Zn 76 75 1 .eql,Za 77 76,Zi 78 1 3 77 true,Ze 79 78 77 true,Zo 80 79 0 .geq 77 true,Zv 81 77 80 false,Za 82 81,Zi 83 1 3 82 true,Ze 84 83 82 true,Zo 85 84 64 .leq 82 true,Zv 86 82 85 false,Za 87 86,Zi 88 1 4 87 true,Ze 89 88 87 true,Zo 90 89 (-1) .eql 87 true,Zb 91 90 87 true,Zi 92 1 4 91 false,Ze 93 92 91 false,Zi 94 1 3 91 false,Ze 95 94 91 false,Zm 96 93 95 .geq 91 false,Zb 97 96 91 false,Zi 98 1 4 97 true,Ze 99 98 97 true,Zo 100 99 64 .leq 97 true,
 ⟨some 101, .pure .pick, [.t 97, .t 100, .c (.bool false)], some (91, false)⟩,
 ⟨some 102, .pure .pick, [.t 91, .c (.bool true), .t 101], some (87, true)⟩,Zv 103 87 102 false,Za 2 103])
 .ret)
 .skip))))))))))))
 (.seq (.ops [Zc 2 (.bool false)])
 .ret))))) }
/-- datakit/automaton.followed -/
def ac397:AFn:=
 { nt:=21, res:=[.cell 4 (some 1), .tmp 5], body:=
 (.seq (.ops [Zx 2 0 1,Zx 3 1 1,
 ⟨some 4, .new (.new 1 [.agg [.snil 2]]), [], none⟩,Zc 5 (.bool false)])
 (.seq (.ops [⟨some 8, .pure (.mkfn 405), [.t 2], none⟩,
 ⟨some 6, .new (.new 1 [.nilf]), [], none⟩,Zu 6 8 1])
 (.seq (.ops [⟨some 9, .pure (.mkfn 407), [.t 6, .t 2, .t 3], none⟩,Za 7 9])
 (.seq (.draw 1 [[Zd 10 6,Za 16 7,
 ⟨some 17, .pure (.mkfn 410), [.t 3], none⟩,
 ⟨some 11, .callv, [.t 10, .c (.int .i64 0), .c (.snil 0)], none⟩,Zf 12 2 1,Zf 13 3 1,
 ⟨some 14, .newAt 0 (.buildSlice 1 [.agg [.snil 2], .agg [.snil 2]] [0, 1]), [.t 12, .t 13], none⟩,Zy 15 370 14,
 ⟨some 18, .pcall 409, [.t 11, .t 15, .t 16, .t 17], none⟩,Zt 19 18 0,Zt 20 18 1,Zu 4 19 1,Za 5 20],
 [Zd 10 6,Za 16 7,
 ⟨some 17, .pure (.mkfn 410), [.t 3], none⟩,Zf 12 2 1,
 ⟨some 11, .callv, [.t 10, .c (.int .i64 0), .c (.snil 0)], none⟩,Zf 13 3 1,
 ⟨some 14, .newAt 0 (.buildSlice 1 [.agg [.snil 2], .agg [.snil 2]] [0, 1]), [.t 12, .t 13], none⟩,Zy 15 370 14,
 ⟨some 18, .pcall 409, [.t 11, .t 15, .t 16, .t 17], none⟩,Zt 19 18 0,Zt 20 18 1,Zu 4 19 1,Za 5 20],
 [Zd 10 6,Za 16 7,
 ⟨some 17, .pure (.mkfn 410), [.t 3], none⟩,Zf 12 2 1,Zf 13 3 1,
 ⟨some 11, .callv, [.t 10, .c (.int .i64 0), .c (.snil 0)], none⟩,
 ⟨some 14, .newAt 0 (.buildSlice 1 [.agg [.snil 2], .agg [.snil 2]] [0, 1]), [.t 12, .t 13], none⟩,Zy 15 370 14,
 ⟨some 18, .pcall 409, [.t 11, .t 15, .t 16, .t 17], none⟩,Zt 19 18 0,Zt 20 18 1,Zu 4 19 1,Za 5 20],
 [Zd 10 6,Za 16 7,
 ⟨some 17, .pure (.mkfn 410), [.t 3], none⟩,Zf 12 2 1,Zf 13 3 1,
 ⟨some 14, .newAt 0 (.buildSlice 1 [.agg [.snil 2], .agg [.snil 2]] [0, 1]), [.t 12, .t 13], none⟩,
 ⟨some 11, .callv, [.t 10, .c (.int .i64 0), .c (.snil 0)], none⟩,Zy 15 370 14,
 ⟨some 18, .pcall 409, [.t 11, .t 15, .t 16, .t 17], none⟩,Zt 19 18 0,Zt 20 18 1,Zu 4 19 1,Za 5 20],
 [Zd 10 6,Za 16 7,
 ⟨some 17, .pure (.mkfn 410), [.t 3], none⟩,Zf 13 3 1,
 ⟨some 11, .callv, [.t 10, .c (.int .i64 0), .c (.snil 0)], none⟩,Zf 12 2 1,
 ⟨some 14, .newAt 0 (.buildSlice 1 [.agg [.snil 2], .agg [.snil 2]] [0, 1]), [.t 12, .t 13], none⟩,Zy 15 370 14,
 ⟨some 18, .pcall 409, [.t 11, .t 15, .t 16, .t 17], none⟩,Zt 19 18 0,Zt 20 18 1,Zu 4 19 1,Za 5 20],
 [Zd 10 6,Za 16 7,
 ⟨some 17, .pure (.mkfn 410), [.t 3], none⟩,Zf 13 3 1,Zf 12 2 1,
 ⟨some 11, .callv, [.t 10, .c (.int .i64 0), .c (.snil 0)], none⟩,
 ⟨some 14, .newAt 0 (.buildSlice 1 [.agg [.snil 2], .agg [.snil 2]] [0, 1]), [.t 12, .t 13], none⟩,Zy 15 370 14,
 ⟨some 18, .pcall 409, [.t 11, .t 15, .t 16, .t 17], none⟩,Zt 19 18 0,Zt 20 18 1,Zu 4 19 1,Za 5 20],
 [Zd 10 6,Za 16 7,
 ⟨some 17, .pure (.mkfn 410), [.t 3], none⟩,Zf 13 3 1,Zf 12 2 1,
 ⟨some 14, .newAt 0 (.buildSlice 1 [.agg [.snil 2], .agg [.snil 2]] [0, 1]), [.t 12, .t 13], none⟩,
 ⟨some 11, .callv, [.t 10, .c (.int .i64 0), .c (.snil 0)], none⟩,Zy 15 370 14,
 ⟨some 18, .pcall 409, [.t 11, .t 15, .t 16, .t 17], none⟩,Zt 19 18 0,Zt 20 18 1,Zu 4 19 1,Za 5 20]])
 .ret)))) }
/-- datakit/automaton.starred -/
def ac398:AFn:=
 { nt:=16, res:=[.cell 2 (some 1), .tmp 3], body:=
 (.seq (.ops [Zx 1 0 1,
 ⟨some 2, .new (.new 1 [.agg [.snil 2]]), [], none⟩,Zc 3 (.bool false)])
 (.seq (.ops [⟨some 5, .pure (.mkfn 412), [.t 1], none⟩,Za 4 5])
 (.seq (.ops [⟨some 6, .new (.buildSlice 1 [.int .i64 0] [0]), [.c (.int .i64 0)], none⟩,
 ⟨some 7, .pure (.build [.bool false, .int .i64 0, .snil 1] [(0, 1), (2, 1)]), [.c (.bool true), .t 6], none⟩,Zf 8 1 1,
 ⟨some 9, .new (.buildSlice 1 [.agg [.snil 2]] [0]), [.t 8], none⟩,Zy 10 370 9,Za 11 4,
 ⟨some 12, .pure (.mkfn 413), [.t 1], none⟩,
 ⟨some 13, .pcall 409, [.t 7, .t 10, .t 11, .t 12], none⟩,Zt 14 13 0,Zt 15 13 1,Zu 2 14 1,Za 3 15])
 .ret))) }
/-- datakit/datakitref15.and -/
def ac399:AFn:=
 { nt:=47, res:=[.cell 6 (some 6), .tmp 7, .tmp 8], body:=
 (.seq (.ops [⟨some 6, .new (.new 6 [.agg [.int .i64 0, .int .i64 0, .int .i64 0, .int .i64 0, .int .i64 0, .snil 6]]), [], none⟩,Zc 7 (.int .i64 0),Zc 8 (.bool false)])
 (.seq (.ops [Za 14 0,Za 15 1,Za 16 2,ZA 17 414 14 15 16,Za 13 17,Zt 18 13 0,Zt 19 13 1,Zt 20 13 2,
 ⟨some 9, .new (.new 6 [.agg [.int .i64 0, .int .i64 0, .int .i64 0, .int .i64 0, .int .i64 0, .snil 6]]), [], none⟩,Zu 9 18 6,Za 10 19,Za 11 20])
 (.seq (.ops [Zf 21 9 6,
 ⟨some 22, .new (.buildSlice 6 [.agg [.int .i64 0, .int .i64 0, .int .i64 0, .int .i64 0, .int .i64 0, .snil 6]] [0]), [.t 21], none⟩,Za 12 22])
 (.seq (.block 0
 (.loop [0, 2, 6, 9, 10, 11, 12]
 (.seq (.seq (.ops [Za 23 11,Za 24 23,Zb 25 0 24 true,Zb 26 10 24 true,ZC 27 400 25 26 24 true,Zo 28 27 38 .eql 24 true,Zv 29 24 28 false])
 (.cond (.t 29)
 .skip
 (.exit 0)))
 (.block 1
 (.seq (.ops [Za 31 0,Za 32 10,Zn 33 32 1 .add,Za 34 2,ZA 35 414 31 33 34,Za 30 35,Zt 36 30 0,Zt 37 30 1,Zt 38 30 2,Zu 9 36 6,Za 10 37,Za 11 38])
 (.ops [Za 39 12,Zf 40 9 6,
 ⟨some 41, .new (.buildSlice 6 [.agg [.int .i64 0, .int .i64 0, .int .i64 0, .int .i64 0, .int .i64 0, .snil 6]] [0]), [.t 40], none⟩,
 ⟨some 42, .eff (.append 6 64), [.t 39, .t 41], none⟩,Za 12 42]))))))
 (.seq (.ops [Za 43 12,
 ⟨some 44, .pcall 401, [.c (.int .i64 6), .t 43], none⟩,Za 45 10,Za 46 11,Zu 6 44 6,Za 7 45,Za 8 46])
 .ret))))) }
/-- datakit/datakitref15.at -/
def ac400:AFn:=
 { nt:=17, res:=[.tmp 4], body:=
 (.seq (.ops [Zc 4 (.int .i64 0)])
 (.seq (.seq (.ops [Za 5 1,Zn 6 5 0 .lss,Za 7 6,Zb 8 1 7 false,Zb 9 0 7 false,
 ⟨some 10, .pure .lenS, [.t 9], some (7, false)⟩,Zm 11 8 10 .geq 7 false,Zw 12 7 11 true])
 (.cond (.t 12)
 (.seq (.ops [Zc 4 (.int .i64 (-1))])
 .ret)
 .skip))
 (.seq (.ops [Za 13 0,Za 14 1,
 ⟨some 15, .pure .idxStr, [.t 13, .t 14], none⟩,
 ⟨some 16, .pure (.conv .i64), [.t 15], none⟩,Za 4 16])
 .ret))) }
/-- datakit/datakitref15.joined -/
def ac401:AFn:=
 { nt:=14, res:=[.cell 4 (some 6)], body:=
 (.seq (.ops [⟨some 4, .new (.new 6 [.agg [.int .i64 0, .int .i64 0, .int .i64 0, .int .i64 0, .int .i64 0, .snil 6]]), [], none⟩])
 (.seq (.seq (.ops [Za 5 1,Zp 6 5,Zn 7 6 1 .eql])
 (.cond (.t 7)
 (.seq (.ops [Za 8 1,
 ⟨some 9, .pure (.iaddrS 6), [.t 8, .c (.int .i64 0)], none⟩,Zf 10 9 6,Zu 4 10 6])
 .ret)
 .skip))
 (.seq (.ops [Za 11 0,Za 12 1,
 ⟨some 13, .pure (.build [.int .i64 0, .int .i64 0, .int .i64 0, .int .i64 0, .int .i64 0, .snil 6] [(0, 1), (5, 1)]), [.t 11, .t 12], none⟩,Zu 4 13 6])
 .ret))) }
/-- datakit/datakitref15.show -/
def ac402:AFn:=
 { nt:=71, res:=[.tmp 2], body:=
 (.seq (.ops [Zx 1 0 6,Zc 2 (.str [])])
 (.seq (.seq (.ops [Zh 3 1 0,Zd 4 3])
 (.block 0
 (.seq (.ops [Zn 6 4 1 .eql,Za 5 6])
 (.cond (.t 5)
 (.seq (.ops [Zc 2 (.str [40, 41])])
 .ret)
 (.seq (.ops [Zn 8 4 2 .eql,Za 7 8])
 (.cond (.t 7)
 (.seq (.seq (.ops [Zh 9 1 1,Zd 10 9,Zh 11 1 2,Zd 12 11,Zl 13 10 12 .eql])
 (.cond (.t 13)
 (.seq (.ops [Zh 14 1 1,Zd 15 14,Zy 16 415 15,Za 2 16])
 .ret)
 .skip))
 (.seq (.seq (.ops [Zh 17 1 1,Zd 18 17,Zn 19 18 0 .eql,Za 20 19,Zi 21 1 2 20 true,Ze 22 21 20 true,Zo 23 22 255 .eql 20 true,Zv 24 20 23 false])
 (.cond (.t 24)
 (.seq (.ops [Zc 2 (.str [46])])
 .ret)
 .skip))
 (.seq (.ops [Zh 25 1 1,Zd 26 25,Zy 27 415 26,
 ⟨some 28, .pure (.bin .add), [.c (.str [91]), .t 27], none⟩,
 ⟨some 29, .pure (.bin .add), [.t 28, .c (.str [45])], none⟩,Zh 30 1 2,Zd 31 30,Zy 32 415 31,Zl 33 29 32 .add,
 ⟨some 34, .pure (.bin .add), [.t 33, .c (.str [93])], none⟩,Za 2 34])
 .ret)))
 (.seq (.ops [Zn 36 4 4 .eql,Za 35 36])
 (.cond (.t 35)
 (.seq (.ops [Zh 37 1 5,Zd 38 37,
 ⟨some 39, .pcall 416, [.t 38, .c (.str [124]), .c (.int .i64 2)], none⟩,Za 2 39])
 .ret)
 (.seq (.ops [Zn 41 4 6 .eql,Za 40 41])
 (.cond (.t 40)
 (.seq (.ops [Zh 42 1 5,Zd 43 42,
 ⟨some 44, .pcall 416, [.t 43, .c (.str [38]), .c (.int .i64 3)], none⟩,Za 2 44])
 .ret)
 (.seq (.ops [Zn 46 4 3 .eql,Za 45 46])
 (.cond (.t 45)
 (.seq (.ops [Zh 47 1 5,Zd 48 47,
 ⟨some 49, .pcall 416, [.t 48, .c (.str []), .c (.int .i64 4)], none⟩,Za 2 49])
 .ret)
 (.seq (.ops [Zn 51 4 7 .eql,Za 50 51])
 (.cond (.t 50)
 (.seq (.ops [Zh 52 1 5,Zd 53 52,
 ⟨some 54, .pure (.iaddrS 6), [.t 53, .c (.int .i64 0)], none⟩,Zf 55 54 6,
 ⟨some 56, .pcall 417, [.t 55, .c (.int .i64 4)], none⟩,
 ⟨some 57, .pure (.bin .add), [.c (.str [33]), .t 56], none⟩,Za 2 57])
 .ret)
 (.seq (.ops [Zn 59 4 5 .eql,Za 58 59])
 (.cond (.t 58)
 (.seq (.ops [Zh 60 1 5,Zd 61 60,
 ⟨some 62, .pure (.iaddrS 6), [.t 61, .c (.int .i64 0)], none⟩,Zf 63 62 6,
 ⟨some 64, .pcall 417, [.t 63, .c (.int .i64 5)], none⟩,Zh 65 1 3,Zd 66 65,Zh 67 1 4,Zd 68 67,Zz 69 418 66 68,Zl 70 64 69 .add,Za 2 70])
 .ret)
 .skip))))))))))))))))
 (.seq (.ops [Zc 2 (.str [91, 93])])
 .ret))) }
/-- datakit/automaton.followed$1 -/
def ac405:AFn:=
 { nt:=19, res:=[.cell 5 (some 3)], body:=
 (.seq (.ops [⟨some 5, .new (.new 3 [.agg [.bool false, .int .i64 0, .snil 1]]), [], none⟩])
 (.seq (.seq (.ops [Zh 6 2 0,Zd 7 6,Za 8 0,Zj 9 7 8 2,Zh 10 9 0,Zd 11 10])
 (.cond (.t 11)
 (.ops [Za 12 1,
 ⟨some 13, .new (.buildSlice 1 [.int .i64 0] [0]), [.c (.int .i64 0)], none⟩,
 ⟨some 14, .eff (.append 1 8), [.t 12, .t 13], none⟩,
 ⟨some 15, .call 406, [.t 14], none⟩,Za 1 15])
 .skip))
 (.seq (.ops [Za 16 0,Za 17 1,
 ⟨some 18, .pure (.build [.bool false, .int .i64 0, .snil 1] [(1, 1), (2, 1)]), [.t 16, .t 17], none⟩,Zu 5 18 3])
 .ret))) }
/-- datakit/automaton.sorted -/
def ac406:AFn:=
 { nt:=7, res:=[.tmp 2], body:=
 (.seq (.ops [Zc 2 (.snil 1)])
 (.seq (.ops [Za 3 0,
 ⟨some 4, .call 199, [.t 3], none⟩])
 (.seq (.ops [Za 5 0,
 ⟨some 6, .call 200, [.t 5], none⟩,Za 2 6])
 .ret))) }
/-- datakit/automaton.followed$2 -/
def ac407:AFn:=
 { nt:=20, res:=[.cell 7 (some 3)], body:=
 (.seq (.ops [Zx 5 0 3,
 ⟨some 7, .new (.new 3 [.agg [.bool false, .int .i64 0, .snil 1]]), [], none⟩])
 (.seq (.draw 0 [[Zf 9 3 1,Zh 10 5 1,Zd 11 10,Za 12 1,ZA 13 252 9 11 12,Zf 14 4 1,Zh 15 5 2,Zd 16 15,Za 17 1,Zd 8 2,
 ⟨some 18, .call 408, [.t 14, .t 16, .t 17], none⟩,
 ⟨some 19, .callv, [.t 8, .t 13, .t 18], none⟩,Zu 7 19 3],
 [Zf 9 3 1,Zh 10 5 1,Zd 11 10,Za 12 1,ZA 13 252 9 11 12,Zf 14 4 1,Zh 15 5 2,Zd 16 15,Za 17 1,
 ⟨some 18, .call 408, [.t 14, .t 16, .t 17], none⟩,Zd 8 2,
 ⟨some 19, .callv, [.t 8, .t 13, .t 18], none⟩,Zu 7 19 3]])
 .ret)) }
/-- datakit/automaton.after -/
def ac408:AFn:=
 { nt:=26, res:=[.tmp 6], body:=
 (.seq (.ops [Zx 3 0 1,Zc 6 (.snil 1)])
 (.seq (.ops [Zc 7 (.snil 1)])
 (.seq (.seq (.ops [Za 10 1,Zp 11 10,Zc 12 (.int .i64 0)])
 (.block 0
 (.loop [2, 3, 7, 10, 11, 12]
 (.seq (.ops [Zl 13 12 11 .lss])
 (.seq (.cond (.t 13)
 .skip
 (.exit 0))
 (.seq (.block 1
 (.seq (.ops [Zj 14 10 12 1,Zd 15 14,Za 9 15])
 (.ops [Za 16 7,Zf 17 3 1,Za 18 9,Za 19 2,ZA 20 252 17 18 19,
 ⟨some 21, .new (.buildSlice 1 [.int .i64 0] [0]), [.t 20], none⟩,
 ⟨some 22, .eff (.append 1 8), [.t 16, .t 21], none⟩,Za 7 22])))
 (.ops [Zn 23 12 1 .add,Za 12 23])))))))
 (.seq (.ops [Za 24 7,
 ⟨some 25, .call 406, [.t 24], none⟩,Za 6 25])
 .ret)))) }
/-- datakit/automaton.reach -/
def ac409:AFn:=
 { nt:=94, res:=[.cell 8 (some 1), .tmp 9], body:=
 (.seq (.ops [Zx 4 0 3,
 ⟨some 8, .new (.new 1 [.agg [.snil 2]]), [], none⟩,Zc 9 (.bool false)])
 (.seq (.ops [⟨some 20, .new .mkMap, [], none⟩,Zf 21 4 3,Zy 22 423 21,
 ⟨none, .eff (.mapSet (.one .str)), [.t 20, .t 22, .c (.int .i64 0)], none⟩,Za 23 20,Za 10 23])
 (.seq (.ops [Zf 24 4 3,
 ⟨some 25, .new (.buildSlice 3 [.agg [.bool false, .int .i64 0, .snil 1]] [0]), [.t 24], none⟩,Za 11 25])
 (.seq (.ops [⟨some 12, .new (.new 1 [.agg [.snil 2]]), [], none⟩])
 (.seq (.seq (.ops [Zc 13 (.int .i64 0)])
 (.block 0
 (.loop [1, 2, 3, 8, 10, 11, 12, 13]
 (.seq (.seq (.ops [Za 26 13,Za 27 11,Zp 28 27,Zl 29 26 28 .lss])
 (.cond (.t 29)
 .skip
 (.exit 0)))
 (.seq (.block 1
 (.seq (.ops [Za 32 3,Za 33 11,Za 34 13,Zj 35 33 34 3,Zf 36 35 3,
 ⟨some 37, .callv, [.t 32, .t 36], none⟩,
 ⟨some 38, .pure (.build [.bool false, .snil 3] [(0, 1)]), [.t 37], none⟩,
 ⟨some 14, .new (.new 2 [.agg [.bool false, .snil 3]]), [], none⟩,Zu 14 38 2])
 (.seq (.seq (.ops [Za 39 1,Zp 40 39,Zc 41 (.int .i64 0)])
 (.block 2
 (.loop [1, 2, 3, 8, 10, 11, 12, 13, 14, 39, 40, 41]
 (.seq (.ops [Zl 42 41 40 .lss])
 (.seq (.cond (.t 42)
 .skip
 (.exit 2))
 (.seq (.block 3
 (.seq (.ops [Za 43 41,Zj 44 39 41 1,Zd 45 44,Za 15 43,Za 16 45])
 (.seq (.ops [Za 46 2,Za 47 11,Za 48 13,Zj 49 47 48 3,Zf 50 49 3,Za 51 16,
 ⟨some 52, .callv, [.t 46, .t 50, .t 51], none⟩,
 ⟨some 17, .new (.new 3 [.agg [.bool false, .int .i64 0, .snil 1]]), [], none⟩,Zu 17 52 3])
 (.seq (.ops [Za 54 10,Zf 55 17 3,Zy 56 423 55,
 ⟨some 57, .read (.lookup (.one .str) (.int .i64 0) true), [.t 54, .t 56], none⟩,Za 53 57,Zt 58 53 0,Zt 59 53 1,Za 18 58,Za 19 59])
 (.seq (.seq (.ops [Za 60 19,Zr 61 60])
 (.cond (.t 61)
 (.seq (.seq (.ops [Za 62 11,Zp 63 62,Zn 64 63 1024 .geq])
 (.cond (.t 64)
 (.seq (.ops [⟨some 65, .pure (.build [.snil 2] []), [], none⟩,Zu 8 65 1,Zc 9 (.bool false)])
 .ret)
 .skip))
 (.seq (.ops [Za 66 11,Zp 67 66,Za 18 67])
 (.seq (.ops [Za 68 10,Zf 69 17 3,Zy 70 423 69,Za 71 18,
 ⟨none, .eff (.mapSet (.one .str)), [.t 68, .t 70, .t 71], none⟩])
 (.ops [Za 72 11,Zf 73 17 3,
 ⟨some 74, .new (.buildSlice 3 [.agg [.bool false, .int .i64 0, .snil 1]] [0]), [.t 73], none⟩,
 ⟨some 75, .eff (.append 3 40), [.t 72, .t 74], none⟩,Za 11 75]))))
 .skip))
 (.ops [Zh 76 14 1,Zd 77 76,Za 78 16,Za 79 1,Za 80 15,Zz 81 391 79 80,Za 82 18,
 ⟨some 83, .call 390, [.t 77, .t 78, .t 81, .t 82], none⟩,Zh 84 14 1,Zu 84 83 1]))))))
 (.ops [Zn 85 41 1 .add,Za 41 85])))))))
 (.ops [Zh 86 12 0,Zd 87 86,Zf 88 14 2,
 ⟨some 89, .new (.buildSlice 2 [.agg [.bool false, .snil 3]] [0]), [.t 88], none⟩,
 ⟨some 90, .eff (.append 2 32), [.t 87, .t 89], none⟩,Zh 91 12 0,Zu 91 90 1]))))
 (.ops [Za 30 13,Zn 31 30 1 .add,Za 13 31]))))))
 (.seq (.ops [Zf 92 12 1,Zy 93 355 92,Zu 8 93 1,Zc 9 (.bool true)])
 .ret)))))) }
/-- datakit/automaton.followed$3 -/
def ac410:AFn:=
 { nt:=8, res:=[.tmp 3], body:=
 (.seq (.ops [Zx 2 0 3,Zc 3 (.bool false)])
 (.seq (.ops [Zf 4 1 1,Zh 5 2 2,Zd 6 5,Zz 7 411 4 6,Za 3 7])
 .ret)) }
/-- datakit/automaton.some -/
def ac411:AFn:=
 { nt:=8, res:=[.tmp 4], body:=
 (.seq (.ops [Zx 2 0 1,Zc 4 (.bool false)])
 (.seq (.ops [Za 5 1,
 ⟨some 6, .pure (.mkfn 424), [.t 2], none⟩,
 ⟨some 7, .call 201, [.t 5, .t 6], none⟩,Za 4 7])
 .ret)) }
/-- datakit/automaton.starred$1 -/
def ac412:AFn:=
 { nt:=21, res:=[.cell 5 (some 3)], body:=
 (.seq (.ops [Zx 3 0 3,
 ⟨some 5, .new (.new 3 [.agg [.bool false, .int .i64 0, .snil 1]]), [], none⟩])
 (.seq (.ops [Zf 7 2 1,Zh 8 3 2,Zd 9 8,Za 10 1,
 ⟨some 11, .call 408, [.t 7, .t 9, .t 10], none⟩,Za 6 11])
 (.seq (.seq (.ops [Zf 12 2 1,Za 13 6,Zz 14 411 12 13])
 (.cond (.t 14)
 (.ops [Za 15 6,
 ⟨some 16, .new (.buildSlice 1 [.int .i64 0] [0]), [.c (.int .i64 0)], none⟩,
 ⟨some 17, .eff (.append 1 8), [.t 15, .t 16], none⟩,
 ⟨some 18, .call 406, [.t 17], none⟩,Za 6 18])
 .skip))
 (.seq (.ops [Za 19 6,
 ⟨some 20, .pure (.build [.bool false, .int .i64 0, .snil 1] [(2, 1)]), [.t 19], none⟩,Zu 5 20 3])
 .ret)))) }
/-- datakit/automaton.starred$2 -/
def ac413:AFn:=
 { nt:=12, res:=[.tmp 3], body:=
 (.seq (.ops [Zx 2 0 3,Zc 3 (.bool false)])
 (.seq (.ops [Zh 4 2 0,Zd 5 4,Za 6 5,Zg 7 1 1 6 false,Zi 8 2 2 6 false,Ze 9 8 6 false,ZC 10 411 7 9 6 false,Zw 11 6 10 true,Za 3 11])
 .ret)) }
/-- datakit/datakitref15.cat -/
def ac414:AFn:=
 { nt:=49, res:=[.cell 6 (some 6), .tmp 7, .tmp 8], body:=
 (.seq (.ops [⟨some 6, .new (.new 6 [.agg [.int .i64 0, .int .i64 0, .int .i64 0, .int .i64 0, .int .i64 0, .snil 6]]), [], none⟩,Zc 7 (.int .i64 0),Zc 8 (.bool false)])
 (.seq (.ops [Zc 9 (.snil 6)])
 (.seq (.ops [Za 14 1,Za 10 14,Zc 11 (.bool true)])
 (.seq (.block 0
 (.loop [0, 2, 6, 9, 10, 11]
 (.seq (.seq (.ops [Za 15 11])
 (.cond (.t 15)
 .skip
 (.exit 0)))
 (.block 1
 (.seq (.ops [⟨some 12, .new (.new 6 [.agg [.int .i64 0, .int .i64 0, .int .i64 0, .int .i64 0, .int .i64 0, .snil 6]]), [], none⟩])
 (.seq (.ops [Za 17 0,Za 18 10,Za 19 2,ZA 20 425 17 18 19,Za 16 20,Zt 21 16 0,Zt 22 16 1,Zt 23 16 2,Zu 12 21 6,Za 10 22,Za 11 23])
 (.seq (.ops [Za 24 9,Zf 25 12 6,
 ⟨some 26, .new (.buildSlice 6 [.agg [.int .i64 0, .int .i64 0, .int .i64 0, .int .i64 0, .int .i64 0, .snil 6]] [0]), [.t 25], none⟩,
 ⟨some 27, .eff (.append 6 64), [.t 24, .t 26], none⟩,Za 9 27])
 (.seq (.ops [Za 28 0,Za 29 10,Zz 30 400 28 29,Za 13 30])
 (.seq (.ops [Za 31 13,Zn 32 31 (-1) .eql,Za 33 32,Zb 34 13 33 false,Zo 35 34 124 .eql 33 false,Zw 36 33 35 true,Za 37 36,Zb 38 13 37 false,Zo 39 38 38 .eql 37 false,Zw 40 37 39 true,Za 41 40,Zb 42 13 41 false,Zo 43 42 41 .eql 41 false,Zw 44 41 43 true])
 (.cond (.t 44)
 (.exit 0)
 .skip))))))))))
 (.seq (.ops [Za 45 9,
 ⟨some 46, .pcall 401, [.c (.int .i64 3), .t 45], none⟩,Za 47 10,Za 48 11,Zu 6 46 6,Za 7 47,Za 8 48])
 .ret))))) }
/-- datakit/datakitref15.byteText -/
def ac415:AFn:=
 { nt:=51, res:=[.tmp 2], body:=
 (.seq (.ops [Zc 2 (.str [])])
 (.seq (.seq (.ops [Za 4 0,Zn 5 4 33 .lss,Za 6 5,Zb 7 0 6 false,Zo 8 7 126 .gtr 6 false,Zw 9 6 8 true])
 (.cond (.t 9)
 (.seq (.ops [Za 10 0,Zn 11 10 16 .quo,Za 12 0,Zn 13 12 16 .quo,Zn 14 13 1 .add,
 ⟨some 15, .pure (.sliceS true true), [.c (.str [48, 49, 50, 51, 52, 53, 54, 55, 56, 57, 97, 98, 99, 100, 101, 102]), .t 11, .t 14], none⟩,
 ⟨some 16, .pure (.bin .add), [.c (.str [92, 120]), .t 15], none⟩,Za 17 0,Zn 18 17 16 .rem,Za 19 0,Zn 20 19 16 .rem,Zn 21 20 1 .add,
 ⟨some 22, .pure (.sliceS true true), [.c (.str [48, 49, 50, 51, 52, 53, 54, 55, 56, 57, 97, 98, 99, 100, 101, 102]), .t 18, .t 21], none⟩,Zl 23 16 22 .add,Za 2 23])
 .ret)
 .skip))
 (.seq (.seq (.ops [Zc 3 (.int .i64 0)])
 (.block 0
 (.loop [0, 3]
 (.seq (.seq (.ops [Za 24 3,Zn 25 24 14 .lss])
 (.cond (.t 25)
 .skip
 (.exit 0)))
 (.seq (.block 1
 (.seq (.ops [Za 28 3,
 ⟨some 29, .pure .idxStr, [.c (.str [124, 38, 33, 42, 43, 63, 123, 125, 40, 41, 91, 93, 46, 92]), .t 28], none⟩,
 ⟨some 30, .pure (.conv .i64), [.t 29], none⟩,Za 31 0,Zl 32 30 31 .eql])
 (.cond (.t 32)
 (.seq (.ops [Za 33 0,Zn 34 33 16 .quo,Za 35 0,Zn 36 35 16 .quo,Zn 37 36 1 .add,
 ⟨some 38, .pure (.sliceS true true), [.c (.str [48, 49, 50, 51, 52, 53, 54, 55, 56, 57, 97, 98, 99, 100, 101, 102]), .t 34, .t 37], none⟩,
 ⟨some 39, .pure (.bin .add), [.c (.str [92, 120]), .t 38], none⟩,Za 40 0,Zn 41 40 16 .rem,Za 42 0,Zn 43 42 16 .rem,Zn 44 43 1 .add,
 ⟨some 45, .pure (.sliceS true true), [.c (.str [48, 49, 50, 51, 52, 53, 54, 55, 56, 57, 97, 98, 99, 100, 101, 102]), .t 41, .t 44], none⟩,Zl 46 39 45 .add,Za 2 46])
 .ret)
 .skip)))
 (.ops [Za 26 3,Zn 27 26 1 .add,Za 3 27]))))))
 (.seq (.ops [Za 47 0,
 ⟨some 48, .pure (.conv .u8), [.t 47], none⟩,
 ⟨some 49, .new (.buildSlice 1 [.int .u8 0] [0]), [.t 48], none⟩,
 ⟨some 50, .read .bytesStr, [.t 49], none⟩,Za 2 50])
 .ret)))) }
/-- datakit/datakitref15.list -/
def ac416:AFn:=
 { nt:=29, res:=[.tmp 6], body:=
 (.seq (.ops [Zc 6 (.str [])])
 (.seq (.ops [Zc 7 (.str [])])
 (.seq (.seq (.ops [Zc 8 (.int .i64 0)])
 (.block 0
 (.loop [0, 1, 2, 7, 8]
 (.seq (.seq (.ops [Za 9 8,Za 10 0,Zp 11 10,Zl 12 9 11 .lss])
 (.cond (.t 12)
 .skip
 (.exit 0)))
 (.seq (.block 1
 (.seq (.seq (.ops [Za 15 8,Zn 16 15 0 .gtr])
 (.cond (.t 16)
 (.ops [Za 17 7,Za 18 1,Zl 19 17 18 .add,Za 7 19])
 .skip))
 (.ops [Za 20 7,Za 21 0,Za 22 8,Zj 23 21 22 6,Zf 24 23 6,Za 25 2,Zz 26 417 24 25,Zl 27 20 26 .add,Za 7 27])))
 (.ops [Za 13 8,Zn 14 13 1 .add,Za 8 14]))))))
 (.seq (.ops [Za 28 7,Za 6 28])
 .ret)))) }
/-- datakit/datakitref15.arg -/
def ac417:AFn:=
 { nt:=16, res:=[.tmp 4], body:=
 (.seq (.ops [Zx 2 0 6,Zc 4 (.str [])])
 (.seq (.seq (.ops [Zh 5 2 0,Zd 6 5,Zy 7 426 6,Za 8 1,Zl 9 7 8 .lss])
 (.cond (.t 9)
 (.seq (.ops [Zf 10 2 6,Zy 11 402 10,
 ⟨some 12, .pure (.bin .add), [.c (.str [40]), .t 11], none⟩,
 ⟨some 13, .pure (.bin .add), [.t 12, .c (.str [41])], none⟩,Za 4 13])
 .ret)
 .skip))
 (.seq (.ops [Zf 14 2 6,Zy 15 402 14,Za 4 15])
 .ret))) }
/-- datakit/datakitref15.bounds -/
def ac418:AFn:=
 { nt:=41, res:=[.tmp 4], body:=
 (.seq (.ops [Zc 4 (.str [])])
 (.seq (.block 0
 (.seq (.ops [Za 6 0,Zn 7 6 0 .eql,Za 8 7,Zb 9 1 8 true,Zo 10 9 (-1) .eql 8 true,Zv 11 8 10 false,Za 5 11])
 (.cond (.t 5)
 (.seq (.ops [Zc 4 (.str [42])])
 .ret)
 (.seq (.ops [Za 13 0,Zn 14 13 1 .eql,Za 15 14,Zb 16 1 15 true,Zo 17 16 (-1) .eql 15 true,Zv 18 15 17 false,Za 12 18])
 (.cond (.t 12)
 (.seq (.ops [Zc 4 (.str [43])])
 .ret)
 (.seq (.ops [Za 20 0,Zn 21 20 0 .eql,Za 22 21,Zb 23 1 22 true,Zo 24 23 1 .eql 22 true,Zv 25 22 24 false,Za 19 25])
 (.cond (.t 19)
 (.seq (.ops [Zc 4 (.str [63])])
 .ret)
 (.seq (.ops [Za 27 1,Zn 28 27 (-1) .eql,Za 26 28])
 (.cond (.t 26)
 (.seq (.ops [Za 29 0,Zy 30 427 29,
 ⟨some 31, .pure (.bin .add), [.c (.str [123]), .t 30], none⟩,
 ⟨some 32, .pure (.bin .add), [.t 31, .c (.str [44, 125])], none⟩,Za 4 32])
 .ret)
 .skip)))))))))
 (.seq (.ops [Za 33 0,Zy 34 427 33,
 ⟨some 35, .pure (.bin .add), [.c (.str [123]), .t 34], none⟩,
 ⟨some 36, .pure (.bin .add), [.t 35, .c (.str [44])], none⟩,Za 37 1,Zy 38 427 37,Zl 39 36 38 .add,
 ⟨some 40, .pure (.bin .add), [.t 39, .c (.str [125])], none⟩,Za 4 40])
 .ret))) }
/-- (datakit/automaton.combo).key -/
def ac423:AFn:=
 { nt:=25, res:=[.tmp 2], body:=
 (.seq (.ops [Zx 1 0 3,Zc 2 (.str [])])
 (.seq (.ops [Zh 6 1 1,Zd 7 6,Zy 8 371 7,Za 3 8])
 (.seq (.seq (.ops [Zh 9 1 0,Zd 10 9])
 (.cond (.t 10)
 (.ops [Zc 3 (.str [102, 105, 114, 115, 116])])
 .skip))
 (.seq (.seq (.ops [Zh 11 1 2,Zd 12 11,Zp 13 12,Zc 14 (.int .i64 0)])
 (.block 0
 (.loop [3, 12, 13, 14]
 (.seq (.ops [Zl 15 14 13 .lss])
 (.seq (.cond (.t 15)
 .skip
 (.exit 0))
 (.seq (.block 1
 (.seq (.ops [Zj 16 12 14 1,Zd 17 16,Za 5 17])
 (.ops [Za 18 3,Za 19 5,Zy 20 371 19,
 ⟨some 21, .pure (.bin .add), [.c (.str [44]), .t 20], none⟩,Zl 22 18 21 .add,Za 3 22])))
 (.ops [Zn 23 14 1 .add,Za 14 23])))))))
 (.seq (.ops [Za 24 3,Za 2 24])
 .ret))))) }
/-- datakit/automaton.some$1 -/
def ac424:AFn:=
 { nt:=10, res:=[.tmp 3], body:=
 (.seq (.ops [Zc 3 (.bool false)])
 (.seq (.ops [Zh 4 1 0,Zd 5 4,Za 6 0,Zj 7 5 6 2,Zh 8 7 0,Zd 9 8,Za 3 9])
 .ret)) }
/-- datakit/datakitref15.not -/
def ac425:AFn:=
 { nt:=72, res:=[.cell 6 (some 6), .tmp 7, .tmp 8], body:=
 (.seq (.ops [⟨some 6, .new (.new 6 [.agg [.int .i64 0, .int .i64 0, .int .i64 0, .int .i64 0, .int .i64 0, .snil 6]]), [], none⟩,Zc 7 (.int .i64 0),Zc 8 (.bool false)])
 (.seq (.seq (.ops [Za 19 2,Zn 20 19 0 .lss])
 (.cond (.t 20)
 (.seq (.ops [⟨some 21, .pure (.build [.int .i64 0, .int .i64 0, .int .i64 0, .int .i64 0, .int .i64 0, .snil 6] []), [], none⟩,Za 22 1,Zu 6 21 6,Za 7 22,Zc 8 (.bool false)])
 .ret)
 .skip))
 (.seq (.seq (.ops [Za 23 0,Za 24 1,Zz 25 400 23 24,Zn 26 25 33 .eql])
 (.cond (.t 26)
 (.seq (.ops [Za 28 0,Za 29 1,Zn 30 29 1 .add,Za 31 2,Zn 32 31 1 .sub,ZA 33 425 28 30 32,Za 27 33,Zt 34 27 0,Zt 35 27 1,Zt 36 27 2,
 ⟨some 9, .new (.new 6 [.agg [.int .i64 0, .int .i64 0, .int .i64 0, .int .i64 0, .int .i64 0, .snil 6]]), [], none⟩,Zu 9 34 6,Za 10 35,Za 11 36])
 (.seq (.ops [Zf 37 9 6,
 ⟨some 38, .new (.buildSlice 6 [.agg [.int .i64 0, .int .i64 0, .int .i64 0, .int .i64 0, .int .i64 0, .snil 6]] [0]), [.t 37], none⟩,
 ⟨some 39, .pure (.build [.int .i64 0, .int .i64 0, .int .i64 0, .int .i64 0, .int .i64 0, .snil 6] [(0, 1), (5, 1)]), [.c (.int .i64 7), .t 38], none⟩,Za 40 10,Za 41 11,Zu 6 39 6,Za 7 40,Za 8 41])
 .ret))
 .skip))
 (.seq (.ops [Za 43 0,Za 44 1,Za 45 2,ZA 46 432 43 44 45,Za 42 46,Zt 47 42 0,Zt 48 42 1,Zt 49 42 2,
 ⟨some 12, .new (.new 6 [.agg [.int .i64 0, .int .i64 0, .int .i64 0, .int .i64 0, .int .i64 0, .snil 6]]), [], none⟩,Zu 12 47 6,Za 13 48,Za 14 49])
 (.seq (.seq (.ops [Zc 15 (.int .i64 0)])
 (.block 0
 (.loop [0, 6, 12, 13, 14, 15]
 (.seq (.seq (.ops [Za 50 14,Za 51 50,Zb 52 15 51 true,Zo 53 52 48 .leq 51 true,Zv 54 51 53 false])
 (.cond (.t 54)
 .skip
 (.exit 0)))
 (.seq (.block 1
 (.seq (.ops [Zf 58 12 6,Za 59 0,Za 60 13,ZA 61 433 58 59 60,Za 57 61,Zt 62 57 0,Zt 63 57 1,Zt 64 57 2,
 ⟨some 16, .new (.new 6 [.agg [.int .i64 0, .int .i64 0, .int .i64 0, .int .i64 0, .int .i64 0, .snil 6]]), [], none⟩,Zu 16 62 6,Za 17 63,Za 18 64])
 (.seq (.seq (.ops [Za 65 18,Zr 66 65])
 (.cond (.t 66)
 (.exit 0)
 .skip))
 (.ops [Zf 67 16 6,Za 68 17,Zu 12 67 6,Za 13 68]))))
 (.ops [Za 55 15,Zn 56 55 1 .add,Za 15 56]))))))
 (.seq (.ops [Zf 69 12 6,Za 70 13,Za 71 14,Zu 6 69 6,Za 7 70,Za 8 71])
 .ret)))))) }
/-- datakit/datakitref15.level -/
def ac426:AFn:=
 { nt:=14, res:=[.tmp 2], body:=
 (.seq (.ops [Zc 2 (.int .i64 0)])
 (.seq (.seq (.ops [Za 3 0])
 (.block 0
 (.seq (.ops [Zn 5 3 4 .eql,Za 4 5])
 (.cond (.t 4)
 (.seq (.ops [Zc 2 (.int .i64 1)])
 .ret)
 (.seq (.ops [Zn 7 3 6 .eql,Za 6 7])
 (.cond (.t 6)
 (.seq (.ops [Zc 2 (.int .i64 2)])
 .ret)
 (.seq (.ops [Zn 9 3 3 .eql,Za 8 9])
 (.cond (.t 8)
 (.seq (.ops [Zc 2 (.int .i64 3)])
 .ret)
 (.seq (.ops [Zn 11 3 7 .eql,Za 10 11])
 (.cond (.t 10)
 (.seq (.ops [Zc 2 (.int .i64 4)])
 .ret)
 (.seq (.ops [Zn 13 3 5 .eql,Za 12 13])
 (.cond (.t 12)
 (.seq (.ops [Zc 2 (.int .i64 5)])
 .ret)
 .skip))))))))))))
 (.seq (.ops [Zc 2 (.int .i64 6)])
 .ret))) }
/-- datakit/datakitref15.number -/
def ac427:AFn:=
 { nt:=17, res:=[.tmp 2], body:=
 (.seq (.ops [Zc 2 (.str [])])
 (.seq (.seq (.ops [Za 3 0,Zn 4 3 10 .lss])
 (.cond (.t 4)
 (.seq (.ops [Za 5 0,
 ⟨some 6, .pure (.bin .add), [.c (.int .i64 48), .t 5], none⟩,
 ⟨some 7, .pure (.conv .u8), [.t 6], none⟩,
 ⟨some 8, .new (.buildSlice 1 [.int .u8 0] [0]), [.t 7], none⟩,
 ⟨some 9, .read .bytesStr, [.t 8], none⟩,Za 2 9])
 .ret)
 .skip))
 (.seq (.ops [Za 10 0,Zn 11 10 10 .quo,Zy 12 427 11,Za 13 0,Zn 14 13 10 .rem,Zy 15 427 14,Zl 16 12 15 .add,Za 2 16])
 .ret))) }
/-- datakit/datakitref15.atom -/
def ac432:AFn:=
 { nt:=114, res:=[.cell 6 (some 6), .tmp 7, .tmp 8], body:=
 (.seq (.ops [⟨some 6, .new (.new 6 [.agg [.int .i64 0, .int .i64 0, .int .i64 0, .int .i64 0, .int .i64 0, .snil 6]]), [], none⟩,Zc 7 (.int .i64 0),Zc 8 (.bool false)])
 (.seq (.seq (.ops [Za 17 0,Za 18 1,Zz 19 400 17 18])
 (.block 0
 (.seq (.ops [Zn 21 19 40 .eql,Za 20 21])
 (.cond (.t 20)
 (.seq (.seq (.ops [Za 22 0,Za 23 1,Zn 24 23 1 .add,Zz 25 400 22 24,Zn 26 25 41 .eql])
 (.cond (.t 26)
 (.seq (.ops [⟨some 27, .pure (.build [.int .i64 0, .int .i64 0, .int .i64 0, .int .i64 0, .int .i64 0, .snil 6] [(0, 1)]), [.c (.int .i64 1)], none⟩,Za 28 1,Zn 29 28 2 .add,Zu 6 27 6,Za 7 29,Zc 8 (.bool true)])
 .ret)
 .skip))
 (.seq (.ops [Za 31 0,Za 32 1,Zn 33 32 1 .add,Za 34 2,Zn 35 34 1 .sub,ZA 36 388 31 33 35,Za 30 36,Zt 37 30 0,Zt 38 30 1,Zt 39 30 2,
 ⟨some 9, .new (.new 6 [.agg [.int .i64 0, .int .i64 0, .int .i64 0, .int .i64 0, .int .i64 0, .snil 6]]), [], none⟩,Zu 9 37 6,Za 10 38,Za 11 39])
 (.seq (.ops [Zf 40 9 6,Za 41 10,Zn 42 41 1 .add,Za 43 11,Za 44 43,Zb 45 0 44 true,Zb 46 10 44 true,ZC 47 400 45 46 44 true,Zo 48 47 41 .eql 44 true,Zv 49 44 48 false,Zu 6 40 6,Za 7 42,Za 8 49])
 .ret)))
 (.seq (.ops [Zn 51 19 91 .eql,Za 50 51])
 (.cond (.t 50)
 (.seq (.seq (.ops [Za 52 0,Za 53 1,Zn 54 53 1 .add,Zz 55 400 52 54,Zn 56 55 93 .eql])
 (.cond (.t 56)
 (.seq (.ops [⟨some 57, .pure (.build [.int .i64 0, .int .i64 0, .int .i64 0, .int .i64 0, .int .i64 0, .snil 6] []), [], none⟩,Za 58 1,Zn 59 58 2 .add,Zu 6 57 6,Za 7 59,Zc 8 (.bool true)])
 .ret)
 .skip))
 (.seq (.ops [Za 61 0,Za 62 1,Zn 63 62 1 .add,Zz 64 436 61 63,Za 60 64,Zt 65 60 0,Zt 66 60 1,Za 12 65,Za 13 66])
 (.seq (.seq (.ops [Za 67 12,Zn 68 67 0 .lss,Za 69 68,Zb 70 0 69 false,Zb 71 13 69 false,ZC 72 400 70 71 69 false,Zo 73 72 45 .neq 69 false,Zw 74 69 73 true])
 (.cond (.t 74)
 (.seq (.ops [⟨some 75, .pure (.build [.int .i64 0, .int .i64 0, .int .i64 0, .int .i64 0, .int .i64 0, .snil 6] []), [], none⟩,Za 76 1,Zu 6 75 6,Za 7 76,Zc 8 (.bool false)])
 .ret)
 .skip))
 (.seq (.ops [Za 78 0,Za 79 13,Zn 80 79 1 .add,Zz 81 436 78 80,Za 77 81,Zt 82 77 0,Zt 83 77 1,Za 14 82,Za 13 83])
 (.seq (.ops [Za 84 12,Za 85 14,
 ⟨some 86, .pure (.build [.int .i64 0, .int .i64 0, .int .i64 0, .int .i64 0, .int .i64 0, .snil 6] [(0, 1), (1, 1), (2, 1)]), [.c (.int .i64 2), .t 84, .t 85], none⟩,Za 87 13,Zn 88 87 1 .add,Za 89 14,Zn 90 89 0 .geq,Za 91 90,Zb 92 0 91 true,Zb 93 13 91 true,ZC 94 400 92 93 91 true,Zo 95 94 93 .eql 91 true,Zv 96 91 95 false,Zu 6 86 6,Za 7 88,Za 8 96])
 .ret)))))
 (.seq (.ops [Zn 98 19 46 .eql,Za 97 98])
 (.cond (.t 97)
 (.seq (.ops [⟨some 99, .pure (.build [.int .i64 0, .int .i64 0, .int .i64 0, .int .i64 0, .int .i64 0, .snil 6] [(0, 1), (2, 1)]), [.c (.int .i64 2), .c (.int .i64 255)], none⟩,Za 100 1,Zn 101 100 1 .add,Zu 6 99 6,Za 7 101,Zc 8 (.bool true)])
 .ret)
 .skip))))))))
 (.seq (.ops [Za 103 0,Za 104 1,Zz 105 436 103 104,Za 102 105,Zt 106 102 0,Zt 107 102 1,Za 15 106,Za 16 107])
 (.seq (.ops [Za 108 15,Za 109 15,
 ⟨some 110, .pure (.build [.int .i64 0, .int .i64 0, .int .i64 0, .int .i64 0, .int .i64 0, .snil 6] [(0, 1), (1, 1), (2, 1)]), [.c (.int .i64 2), .t 108, .t 109], none⟩,Za 111 16,Za 112 15,Zn 113 112 0 .geq,Zu 6 110 6,Za 7 111,Za 8 113])
 .ret)))) }
/-- datakit/datakitref15.repeated -/
def ac433:AFn:=
 { nt:=88, res:=[.cell 6 (some 6), .tmp 7, .tmp 8], body:=
 (.seq (.ops [Zx 3 0 6,
 ⟨some 6, .new (.new 6 [.agg [.int .i64 0, .int .i64 0, .int .i64 0, .int .i64 0, .int .i64 0, .snil 6]]), [], none⟩,Zc 7 (.int .i64 0),Zc 8 (.bool false)])
 (.seq (.ops [Zf 13 3 6,
 ⟨some 14, .new (.buildSlice 6 [.agg [.int .i64 0, .int .i64 0, .int .i64 0, .int .i64 0, .int .i64 0, .snil 6]] [0]), [.t 13], none⟩,Za 9 14])
 (.seq (.seq (.ops [Za 15 1,Za 16 2,Zz 17 400 15 16])
 (.block 0
 (.seq (.ops [Zn 19 17 42 .eql,Za 18 19])
 (.cond (.t 18)
 (.seq (.ops [Za 20 9,
 ⟨some 21, .pure (.build [.int .i64 0, .int .i64 0, .int .i64 0, .int .i64 0, .int .i64 0, .snil 6] [(0, 1), (4, 1), (5, 1)]), [.c (.int .i64 5), .c (.int .i64 (-1)), .t 20], none⟩,Za 22 2,Zn 23 22 1 .add,Zu 6 21 6,Za 7 23,Zc 8 (.bool true)])
 .ret)
 (.seq (.ops [Zn 25 17 43 .eql,Za 24 25])
 (.cond (.t 24)
 (.seq (.ops [Za 26 9,
 ⟨some 27, .pure (.build [.int .i64 0, .int .i64 0, .int .i64 0, .int .i64 0, .int .i64 0, .snil 6] [(0, 1), (3, 1), (4, 1), (5, 1)]), [.c (.int .i64 5), .c (.int .i64 1), .c (.int .i64 (-1)), .t 26], none⟩,Za 28 2,Zn 29 28 1 .add,Zu 6 27 6,Za 7 29,Zc 8 (.bool true)])
 .ret)
 (.seq (.ops [Zn 31 17 63 .eql,Za 30 31])
 (.cond (.t 30)
 (.seq (.ops [Za 32 9,
 ⟨some 33, .pure (.build [.int .i64 0, .int .i64 0, .int .i64 0, .int .i64 0, .int .i64 0, .snil 6] [(0, 1), (4, 1), (5, 1)]), [.c (.int .i64 5), .c (.int .i64 1), .t 32], none⟩,Za 34 2,Zn 35 34 1 .add,Zu 6 33 6,Za 7 35,Zc 8 (.bool true)])
 .ret)
 (.seq (.ops [Zn 37 17 123 .eql,Za 36 37])
 (.cond (.t 36)
 (.seq (.ops [Za 39 1,Za 40 2,Zn 41 40 1 .add,Zz 42 437 39 41,Za 38 42,Zt 43 38 0,Zt 44 38 1,Za 10 43,Za 11 44])
 (.seq (.seq (.ops [Za 45 10,Zn 46 45 0 .lss,Za 47 46,Zb 48 1 47 false,Zb 49 11 47 false,ZC 50 400 48 49 47 false,Zo 51 50 44 .neq 47 false,Zw 52 47 51 true])
 (.cond (.t 52)
 (.seq (.ops [Zf 53 3 6,Za 54 2,Zu 6 53 6,Za 7 54,Zc 8 (.bool false)])
 .ret)
 .skip))
 (.seq (.seq (.ops [Za 55 1,Za 56 11,Zn 57 56 1 .add,Zz 58 400 55 57,Zn 59 58 125 .eql])
 (.cond (.t 59)
 (.seq (.ops [Za 60 10,Za 61 9,
 ⟨some 62, .pure (.build [.int .i64 0, .int .i64 0, .int .i64 0, .int .i64 0, .int .i64 0, .snil 6] [(0, 1), (3, 1), (4, 1), (5, 1)]), [.c (.int .i64 5), .t 60, .c (.int .i64 (-1)), .t 61], none⟩,Za 63 11,Zn 64 63 2 .add,Zu 6 62 6,Za 7 64,Zc 8 (.bool true)])
 .ret)
 .skip))
 (.seq (.ops [Za 66 1,Za 67 11,Zn 68 67 1 .add,Zz 69 437 66 68,Za 65 69,Zt 70 65 0,Zt 71 65 1,Za 12 70,Za 11 71])
 (.seq (.ops [Za 72 10,Za 73 12,Za 74 9,
 ⟨some 75, .pure (.build [.int .i64 0, .int .i64 0, .int .i64 0, .int .i64 0, .int .i64 0, .snil 6] [(0, 1), (3, 1), (4, 1), (5, 1)]), [.c (.int .i64 5), .t 72, .t 73, .t 74], none⟩,Za 76 11,Zn 77 76 1 .add,Za 78 12,Zn 79 78 0 .geq,Za 80 79,Zb 81 1 80 true,Zb 82 11 80 true,ZC 83 400 81 82 80 true,Zo 84 83 125 .eql 80 true,Zv 85 80 84 false,Zu 6 75 6,Za 7 77,Za 8 85])
 .ret)))))
 .skip))))))))))
 (.seq (.ops [Zf 86 3 6,Za 87 2,Zu 6 86 6,Za 7 87,Zc 8 (.bool false)])
 .ret)))) }
/-- datakit/datakitref15.letter -/
def ac436:AFn:=
 { nt:=59, res:=[.tmp 4, .tmp 5], body:=
 (.seq (.ops [Zc 4 (.int .i64 0),Zc 5 (.int .i64 0)])
 (.seq (.ops [Za 9 0,Za 10 1,Zz 11 400 9 10,Za 6 11])
 (.seq (.seq (.ops [Za 12 6,Zn 13 12 92 .neq])
 (.cond (.t 13)
 (.seq (.seq (.draw 1 [[Za 14 6,Zn 15 14 0 .geq,Za 16 15,Zb 17 6 16 true,ZB 18 415 17 16 true,Zb 19 6 16 true,
 ⟨some 20, .pure (.conv .u8), [.t 19], some (16, true)⟩,
 ⟨some 21, .newAt 0 (.buildSlice 1 [.int .u8 0] [0]), [.t 20], some (16, true)⟩,
 ⟨some 22, .read .bytesStr, [.t 21], some (16, true)⟩,Zm 23 18 22 .eql 16 true,Zv 24 16 23 false]])
 (.cond (.t 24)
 (.seq (.ops [Za 25 6,Za 26 1,Zn 27 26 1 .add,Za 4 25,Za 5 27])
 .ret)
 .skip))
 (.seq (.ops [Za 28 1,Zc 4 (.int .i64 (-1)),Za 5 28])
 .ret))
 .skip))
 (.seq (.ops [Za 29 0,Za 30 1,Zn 31 30 2 .add,Zz 32 400 29 31,Zy 33 438 32,Za 34 0,Za 35 1,Zn 36 35 3 .add,Zz 37 400 34 36,Zy 38 438 37,Za 7 33,Za 8 38])
 (.seq (.seq (.ops [Za 39 0,Za 40 1,Zn 41 40 1 .add,Zz 42 400 39 41,Zn 43 42 120 .neq,Za 44 43,Zb 45 7 44 false,Zo 46 45 0 .lss 44 false,Zw 47 44 46 true,Za 48 47,Zb 49 8 48 false,Zo 50 49 0 .lss 48 false,Zw 51 48 50 true])
 (.cond (.t 51)
 (.seq (.ops [Za 52 1,Zc 4 (.int .i64 (-1)),Za 5 52])
 .ret)
 .skip))
 (.seq (.ops [Za 53 7,Zn 54 53 16 .mul,Za 55 8,Zl 56 54 55 .add,Za 57 1,Zn 58 57 4 .add,Za 4 56,Za 5 58])
 .ret)))))) }
/-- datakit/datakitref15.digits -/
def ac437:AFn:=
 { nt:=40, res:=[.tmp 4, .tmp 5], body:=
 (.seq (.ops [Zc 4 (.int .i64 0),Zc 5 (.int .i64 0)])
 (.seq (.ops [Za 8 1,Zc 6 (.int .i64 0),Za 7 8])
 (.seq (.block 0
 (.loop [0, 1, 6, 7]
 (.seq (.seq (.ops [Za 9 7,Za 10 1,Zn 11 10 3 .add,Zl 12 9 11 .lss,Za 13 12,Zb 14 0 13 true,Zb 15 7 13 true,ZC 16 400 14 15 13 true,Zo 17 16 48 .geq 13 true,Zv 18 13 17 false,Za 19 18,Zb 20 0 19 true,Zb 21 7 19 true,ZC 22 400 20 21 19 true,Zo 23 22 57 .leq 19 true,Zv 24 19 23 false])
 (.cond (.t 24)
 .skip
 (.exit 0)))
 (.block 1
 (.seq (.ops [Za 25 6,Zn 26 25 10 .mul,Za 27 0,Za 28 7,Zz 29 400 27 28,Zl 30 26 29 .add,Zn 31 30 48 .sub,Za 6 31])
 (.ops [Za 32 7,Zn 33 32 1 .add,Za 7 33]))))))
 (.seq (.seq (.ops [Za 34 7,Za 35 1,Zl 36 34 35 .eql])
 (.cond (.t 36)
 (.seq (.ops [Za 37 1,Zc 4 (.int .i64 (-1)),Za 5 37])
 .ret)
 .skip))
 (.seq (.ops [Za 38 6,Za 39 7,Za 4 38,Za 5 39])
 .ret))))) }
/-- datakit/datakitref15.hex -/
def ac438:AFn:=
 { nt:=20, res:=[.tmp 2], body:=
 (.seq (.ops [Zc 2 (.int .i64 0)])
 (.seq (.seq (.ops [Za 3 0,Zn 4 3 48 .geq,Za 5 4,Zb 6 0 5 true,Zo 7 6 57 .leq 5 true,Zv 8 5 7 false])
 (.cond (.t 8)
 (.seq (.ops [Za 9 0,Zn 10 9 48 .sub,Za 2 10])
 .ret)
 .skip))
 (.seq (.seq (.ops [Za 11 0,Zn 12 11 97 .geq,Za 13 12,Zb 14 0 13 true,Zo 15 14 102 .leq 13 true,Zv 16 13 15 false])
 (.cond (.t 16)
 (.seq (.ops [Za 17 0,Zn 18 17 97 .sub,Zn 19 18 10 .add,Za 2 19])
 .ret)
 .skip))
 (.seq (.ops [Zc 2 (.int .i64 (-1))])
 .ret)))) }
def codeA:Nat→Option AFn
 | 49=>some ac49
 | 72=>some ac72
 | 73=>some ac73
 | 74=>some ac74
 | 86=>some ac86
 | 87=>some ac87
 | 199=>some ac199
 | 200=>some ac200
 | 201=>some ac201
 | 208=>some ac208
 | 209=>some ac209
 | 219=>some ac219
 | 220=>some ac220
 | 221=>some ac221
 | 222=>some ac222
 | 223=>some ac223
 | 224=>some ac224
 | 225=>some ac225
 | 226=>some ac226
 | 227=>some ac227
 | 231=>some ac231
 | 247=>some ac247
 | 248=>some ac248
 | 249=>some ac249
 | 252=>some ac252
 | 261=>some ac261
 | 318=>some ac318
 | 319=>some ac319
 | 321=>some ac321
 | 322=>some ac322
 | 328=>some ac328
 | 339=>some ac339
 | 340=>some ac340
 | 344=>some ac344
 | 345=>some ac345
 | 346=>some ac346
 | 348=>some ac348
 | 352=>some ac352
 | 354=>some ac354
 | 355=>some ac355
 | 357=>some ac357
 | 358=>some ac358
 | 359=>some ac359
 | 360=>some ac360
 | 366=>some ac366
 | 367=>some ac367
 | 370=>some ac370
 | 372=>some ac372
 | 376=>some ac376
 | 377=>some ac377
 | 378=>some ac378
 | 379=>some ac379
 | 380=>some ac380
 | 381=>some ac381
 | 382=>some ac382
 | 383=>some ac383
 | 384=>some ac384
 | 388=>some ac388
 | 389=>some ac389
 | 390=>some ac390
 | 391=>some ac391
 | 396=>some ac396
 | 397=>some ac397
 | 398=>some ac398
 | 399=>some ac399
 | 400=>some ac400
 | 401=>some ac401
 | 402=>some ac402
 | 405=>some ac405
 | 406=>some ac406
 | 407=>some ac407
 | 408=>some ac408
 | 409=>some ac409
 | 410=>some ac410
 | 411=>some ac411
 | 412=>some ac412
 | 413=>some ac413
 | 414=>some ac414
 | 415=>some ac415
 | 416=>some ac416
 | 417=>some ac417
 | 418=>some ac418
 | 423=>some ac423
 | 424=>some ac424
 | 425=>some ac425
 | 426=>some ac426
 | 427=>some ac427
 | 432=>some ac432
 | 433=>some ac433
 | 436=>some ac436
 | 437=>some ac437
 | 438=>some ac438
 | _=>none
def clRA:Nat→Option (Nat × Nat)
 | _=>none
def clPA:Nat→Option (Nat × Nat)
 | 217=>some (3, 24)
 | _=>none
def ppA:Nat→Option (List AV→Option AV)
 | 371=>some itoaF
 | _=>none
def CA:Ctx:=funCtx (mkCtx codeA clRA clPA) ppA
theorem fitsA:Fits CA codeA clRA clPA:=fits_fun (fits_mk _ _ _)
end Ago
