/- The abstract code of the functions, printed by program. -/
import Derived.Test.YtaaolmjbpebclaaGreatDoorCodeA
import Derived.Test.YtaaolmjbpebclaaGreatDoorMachH
set_option linter.unusedSimpArgs false
set_option linter.unusedVariables false
set_option maxRecDepth 100000
namespace Ago
/-- datakit/schema.size -/
def ac509 : AFn :=
 { nt := 25, res := [.tmp 4], body :=
 (.seq (.ops [⟨some 2, .new (.box 15), [.t 0], none⟩,
 ⟨some 4, .pure .move, [.c (.int .i64 0)], none⟩])
 (.seq (.seq (.ops [⟨some 8, .pure .move, [.t 1], none⟩,
 ⟨some 9, .pure (.bin .lss), [.t 8, .c (.int .i64 1)], none⟩])
 (.cond (.t 9)
 (.seq (.ops [⟨some 4, .pure .move, [.c (.int .i64 0)], none⟩])
 .ret)
 .skip))
 (.seq (.ops [⟨some 5, .pure .move, [.c (.int .i64 1)], none⟩])
 (.seq (.seq (.ops [⟨some 10, .read (.load (some 15)), [.t 2], none⟩,
 ⟨some 11, .pcall 514, [.t 10], none⟩,
 ⟨some 12, .pure .lenL, [.t 11], none⟩,
 ⟨some 13, .pure .move, [.c (.int .i64 0)], none⟩])
 (.block 0
 (.loop [1, 5, 11, 12, 13]
 (.seq (.ops [⟨some 14, .pure (.bin .lss), [.t 13, .t 12], none⟩])
 (.seq (.cond (.t 14)
 .skip
 (.exit 0))
 (.seq (.block 1
 (.seq (.ops [⟨some 15, .pure (.iaddrS 15), [.t 11, .t 13], none⟩,
 ⟨some 16, .read (.load (some 15)), [.t 15], none⟩,
 ⟨some 7, .new (.new 15 [.agg [.int .i64 0, .int .i64 0, .int .i64 0, .int .i64 0, .str [], .snil 11, .int .i64 0, .int .i64 0, .int .i64 0, .int .i64 0, .int .i64 0, .snil 6, .snil 13, .snil 17, .snil 15]]), [], none⟩,
 ⟨none, .eff (.store 15), [.t 7, .t 16], none⟩])
 (.ops [⟨some 17, .pure .move, [.t 5], none⟩,
 ⟨some 18, .read (.load (some 15)), [.t 7], none⟩,
 ⟨some 19, .pure .move, [.t 1], none⟩,
 ⟨some 20, .pure (.bin .sub), [.t 19, .c (.int .i64 1)], none⟩,
 ⟨some 21, .pcall 509, [.t 18, .t 20], none⟩,
 ⟨some 22, .pure (.bin .add), [.t 17, .t 21], none⟩,
 ⟨some 5, .pure .move, [.t 22], none⟩])))
 (.ops [⟨some 23, .pure (.bin .add), [.t 13, .c (.int .i64 1)], none⟩,
 ⟨some 13, .pure .move, [.t 23], none⟩])))))))
 (.seq (.ops [⟨some 24, .pure .move, [.t 5], none⟩,
 ⟨some 4, .pure .move, [.t 24], none⟩])
 .ret))))) }
/-- slices.Compact[[]string,string] -/
def ac511 : AFn :=
 { nt := 61, res := [.tmp 2], body :=
 (.seq (.ops [⟨some 2, .pure .move, [.c (.snil 1)], none⟩])
 (.seq (.seq (.ops [⟨some 6, .pure .move, [.t 0], none⟩,
 ⟨some 7, .pure .lenL, [.t 6], none⟩,
 ⟨some 8, .pure (.bin .lss), [.t 7, .c (.int .i64 2)], none⟩])
 (.cond (.t 8)
 (.seq (.ops [⟨some 9, .pure .move, [.t 0], none⟩,
 ⟨some 2, .pure .move, [.t 9], none⟩])
 .ret)
 .skip))
 (.seq (.seq (.ops [⟨some 3, .pure .move, [.c (.int .i64 1)], none⟩])
 (.block 0
 (.loop [0, 3]
 (.seq (.seq (.ops [⟨some 10, .pure .move, [.t 3], none⟩,
 ⟨some 11, .pure .move, [.t 0], none⟩,
 ⟨some 12, .pure .lenL, [.t 11], none⟩,
 ⟨some 13, .pure (.bin .lss), [.t 10, .t 12], none⟩])
 (.cond (.t 13)
 .skip
 (.exit 0)))
 (.seq (.block 1
 (.seq (.ops [⟨some 16, .pure .move, [.t 0], none⟩,
 ⟨some 17, .pure .move, [.t 3], none⟩,
 ⟨some 18, .pure (.iaddrS 1), [.t 16, .t 17], none⟩,
 ⟨some 19, .read (.load none), [.t 18], none⟩,
 ⟨some 20, .pure .move, [.t 0], none⟩,
 ⟨some 21, .pure .move, [.t 3], none⟩,
 ⟨some 22, .pure (.bin .sub), [.t 21, .c (.int .i64 1)], none⟩,
 ⟨some 23, .pure (.iaddrS 1), [.t 20, .t 22], none⟩,
 ⟨some 24, .read (.load none), [.t 23], none⟩,
 ⟨some 25, .pure (.bin .eql), [.t 19, .t 24], none⟩])
 (.cond (.t 25)
 (.seq (.ops [⟨some 26, .pure .move, [.t 0], none⟩,
 ⟨some 27, .pure .move, [.t 3], none⟩,
 ⟨some 28, .pure (.sliceL 1 true false false), [.t 26, .t 27], none⟩,
 ⟨some 4, .pure .move, [.t 28], none⟩])
 (.seq (.seq (.ops [⟨some 5, .pure .move, [.c (.int .i64 1)], none⟩])
 (.block 2
 (.loop [0, 3, 4, 5]
 (.seq (.seq (.ops [⟨some 29, .pure .move, [.t 5], none⟩,
 ⟨some 30, .pure .move, [.t 4], none⟩,
 ⟨some 31, .pure .lenL, [.t 30], none⟩,
 ⟨some 32, .pure (.bin .lss), [.t 29, .t 31], none⟩])
 (.cond (.t 32)
 .skip
 (.exit 2)))
 (.seq (.block 3
 (.seq (.ops [⟨some 35, .pure .move, [.t 4], none⟩,
 ⟨some 36, .pure .move, [.t 5], none⟩,
 ⟨some 37, .pure (.iaddrS 1), [.t 35, .t 36], none⟩,
 ⟨some 38, .read (.load none), [.t 37], none⟩,
 ⟨some 39, .pure .move, [.t 4], none⟩,
 ⟨some 40, .pure .move, [.t 5], none⟩,
 ⟨some 41, .pure (.bin .sub), [.t 40, .c (.int .i64 1)], none⟩,
 ⟨some 42, .pure (.iaddrS 1), [.t 39, .t 41], none⟩,
 ⟨some 43, .read (.load none), [.t 42], none⟩,
 ⟨some 44, .pure (.bin .neq), [.t 38, .t 43], none⟩])
 (.cond (.t 44)
 (.seq (.ops [⟨some 45, .pure .move, [.t 0], none⟩,
 ⟨some 46, .pure .move, [.t 3], none⟩,
 ⟨some 47, .pure .move, [.t 4], none⟩,
 ⟨some 48, .pure .move, [.t 5], none⟩,
 ⟨some 49, .pure (.iaddrS 1), [.t 47, .t 48], none⟩,
 ⟨some 50, .read (.load none), [.t 49], none⟩,
 ⟨some 51, .pure (.iaddrS 1), [.t 45, .t 46], none⟩,
 ⟨none, .eff (.store 1), [.t 51, .t 50], none⟩])
 (.ops [⟨some 52, .pure .move, [.t 3], none⟩,
 ⟨some 53, .pure (.bin .add), [.t 52, .c (.int .i64 1)], none⟩,
 ⟨some 3, .pure .move, [.t 53], none⟩]))
 .skip)))
 (.ops [⟨some 33, .pure .move, [.t 5], none⟩,
 ⟨some 34, .pure (.bin .add), [.t 33, .c (.int .i64 1)], none⟩,
 ⟨some 5, .pure .move, [.t 34], none⟩]))))))
 (.seq (.ops [⟨some 54, .pure .move, [.t 0], none⟩,
 ⟨some 55, .pure .move, [.t 3], none⟩,
 ⟨some 56, .pure (.sliceL 1 true false false), [.t 54, .t 55], none⟩,
 ⟨none, .eff (.clearS (.str [])), [.t 56], none⟩])
 (.seq (.ops [⟨some 57, .pure .move, [.t 0], none⟩,
 ⟨some 58, .pure .move, [.t 3], none⟩,
 ⟨some 59, .pure (.sliceL 1 false true false), [.t 57, .t 58], none⟩,
 ⟨some 2, .pure .move, [.t 59], none⟩])
 .ret))))
 .skip)))
 (.ops [⟨some 14, .pure .move, [.t 3], none⟩,
 ⟨some 15, .pure (.bin .add), [.t 14, .c (.int .i64 1)], none⟩,
 ⟨some 3, .pure .move, [.t 15], none⟩]))))))
 (.seq (.ops [⟨some 60, .pure .move, [.t 0], none⟩,
 ⟨some 2, .pure .move, [.t 60], none⟩])
 .ret)))) }
/-- datakit/datakitref45.names -/
def ac512 : AFn :=
 { nt := 63, res := [.tmp 6], body :=
 (.seq (.ops [⟨some 3, .new (.box 15), [.t 0], none⟩,
 ⟨some 6, .pure .move, [.c (.snil 1)], none⟩])
 (.seq (.ops [⟨some 7, .pure .move, [.c (.snil 1)], none⟩])
 (.seq (.seq (.ops [⟨some 12, .pure .move, [.t 1], none⟩,
 ⟨some 13, .pure (.bin .lss), [.t 12, .c (.int .i64 1)], none⟩])
 (.cond (.t 13)
 (.seq (.ops [⟨some 14, .pure .move, [.t 7], none⟩,
 ⟨some 6, .pure .move, [.t 14], none⟩])
 .ret)
 .skip))
 (.seq (.seq (.ops [⟨some 15, .pure (.faddr 0), [.t 3], none⟩,
 ⟨some 16, .read (.load none), [.t 15], none⟩,
 ⟨some 17, .pure (.bin .eql), [.t 16, .c (.int .i64 14)], none⟩])
 (.cond (.t 17)
 (.ops [⟨some 18, .pure .move, [.t 7], none⟩,
 ⟨some 19, .pure (.faddr 4), [.t 3], none⟩,
 ⟨some 20, .read (.load none), [.t 19], none⟩,
 ⟨some 21, .pcall 521, [.t 18, .t 20], none⟩,
 ⟨some 7, .pure .move, [.t 21], none⟩])
 .skip))
 (.seq (.seq (.ops [⟨some 22, .pure .move, [.t 2], none⟩,
 ⟨some 23, .pure .move, [.t 22], none⟩,
 ⟨some 24, .pure (.faddr 0), [.t 3], some (23, true)⟩,
 ⟨some 25, .read (.load none), [.t 24], some (23, true)⟩,
 ⟨some 26, .pure (.bin .eql), [.t 25, .c (.int .i64 9)], some (23, true)⟩,
 ⟨some 27, .pure .move, [.t 26], some (23, true)⟩,
 ⟨some 28, .pure (.faddr 0), [.t 3], some (27, false)⟩,
 ⟨some 29, .read (.load none), [.t 28], some (27, false)⟩,
 ⟨some 30, .pure (.bin .eql), [.t 29, .c (.int .i64 10)], some (27, false)⟩,
 ⟨some 31, .pure .pick, [.t 27, .c (.bool true), .t 30], some (23, true)⟩,
 ⟨some 32, .pure .pick, [.t 23, .t 31, .c (.bool false)], none⟩])
 (.cond (.t 32)
 (.seq (.ops [⟨some 33, .pure .move, [.t 7], none⟩,
 ⟨some 6, .pure .move, [.t 33], none⟩])
 .ret)
 .skip))
 (.seq (.ops [⟨some 34, .read (.load (some 15)), [.t 3], none⟩,
 ⟨some 35, .pcall 515, [.t 34], none⟩,
 ⟨some 8, .pure .move, [.t 35], none⟩])
 (.seq (.seq (.ops [⟨some 9, .pure .move, [.c (.int .i64 0)], none⟩])
 (.block 0
 (.loop [1, 2, 7, 8, 9]
 (.seq (.seq (.ops [⟨some 36, .pure .move, [.t 9], none⟩,
 ⟨some 37, .pure .move, [.t 8], none⟩,
 ⟨some 38, .pure .lenL, [.t 37], none⟩,
 ⟨some 39, .pure (.bin .lss), [.t 36, .t 38], none⟩])
 (.cond (.t 39)
 .skip
 (.exit 0)))
 (.seq (.block 1
 (.seq (.ops [⟨some 42, .pure .move, [.t 8], none⟩,
 ⟨some 43, .pure .move, [.t 9], none⟩,
 ⟨some 44, .pure (.iaddrS 15), [.t 42, .t 43], none⟩,
 ⟨some 45, .read (.load (some 15)), [.t 44], none⟩,
 ⟨some 46, .pure .move, [.t 1], none⟩,
 ⟨some 47, .pure (.bin .sub), [.t 46, .c (.int .i64 1)], none⟩,
 ⟨some 48, .pure .move, [.t 2], none⟩,
 ⟨some 49, .pcall 512, [.t 45, .t 47, .t 48], none⟩,
 ⟨some 10, .pure .move, [.t 49], none⟩])
 (.seq (.ops [⟨some 11, .pure .move, [.c (.int .i64 0)], none⟩])
 (.block 2
 (.loop [1, 2, 7, 8, 9, 10, 11]
 (.seq (.seq (.ops [⟨some 50, .pure .move, [.t 11], none⟩,
 ⟨some 51, .pure .move, [.t 10], none⟩,
 ⟨some 52, .pure .lenL, [.t 51], none⟩,
 ⟨some 53, .pure (.bin .lss), [.t 50, .t 52], none⟩])
 (.cond (.t 53)
 .skip
 (.exit 2)))
 (.seq (.block 3
 (.ops [⟨some 56, .pure .move, [.t 7], none⟩,
 ⟨some 57, .pure .move, [.t 10], none⟩,
 ⟨some 58, .pure .move, [.t 11], none⟩,
 ⟨some 59, .pure (.iaddrS 1), [.t 57, .t 58], none⟩,
 ⟨some 60, .read (.load none), [.t 59], none⟩,
 ⟨some 61, .pcall 521, [.t 56, .t 60], none⟩,
 ⟨some 7, .pure .move, [.t 61], none⟩]))
 (.ops [⟨some 54, .pure .move, [.t 11], none⟩,
 ⟨some 55, .pure (.bin .add), [.t 54, .c (.int .i64 1)], none⟩,
 ⟨some 11, .pure .move, [.t 55], none⟩]))))))))
 (.ops [⟨some 40, .pure .move, [.t 9], none⟩,
 ⟨some 41, .pure (.bin .add), [.t 40, .c (.int .i64 1)], none⟩,
 ⟨some 9, .pure .move, [.t 41], none⟩]))))))
 (.seq (.ops [⟨some 62, .pure .move, [.t 7], none⟩,
 ⟨some 6, .pure .move, [.t 62], none⟩])
 .ret)))))))) }
/-- datakit/schema.node -/
def ac513 : AFn :=
 { nt := 55, res := [.tmp 4], body :=
 (.seq (.ops [⟨some 2, .new (.box 16), [.t 0], none⟩,
 ⟨some 3, .new (.box 15), [.t 1], none⟩,
 ⟨some 4, .pure .move, [.c (.int .i64 0)], none⟩])
 (.seq (.seq (.ops [⟨some 10, .read (.load (some 15)), [.t 3], none⟩,
 ⟨some 11, .pcall 562, [.t 10], none⟩,
 ⟨some 12, .pure (.un .not), [.t 11], none⟩])
 (.cond (.t 12)
 (.seq (.ops [⟨some 4, .pure .move, [.c (.int .i64 1)], none⟩])
 .ret)
 .skip))
 (.seq (.seq (.ops [⟨some 13, .pure (.faddr 0), [.t 3], none⟩,
 ⟨some 14, .read (.load none), [.t 13], none⟩,
 ⟨some 15, .pure (.bin .eql), [.t 14, .c (.int .i64 7)], none⟩,
 ⟨some 16, .pure .move, [.t 15], none⟩,
 ⟨some 17, .pure (.faddr 4), [.t 3], some (16, true)⟩,
 ⟨some 18, .read (.load none), [.t 17], some (16, true)⟩,
 ⟨some 19, .pcall 563, [.t 18], some (16, true)⟩,
 ⟨some 20, .pure (.un .not), [.t 19], some (16, true)⟩,
 ⟨some 21, .pure .pick, [.t 16, .t 20, .c (.bool false)], none⟩])
 (.cond (.t 21)
 (.seq (.ops [⟨some 4, .pure .move, [.c (.int .i64 7)], none⟩])
 .ret)
 .skip))
 (.seq (.seq (.ops [⟨some 23, .read (.load (some 16)), [.t 2], none⟩,
 ⟨some 24, .pure (.faddr 4), [.t 3], none⟩,
 ⟨some 25, .read (.load none), [.t 24], none⟩,
 ⟨some 26, .pcall 457, [.t 23, .t 25], none⟩,
 ⟨some 22, .pure .move, [.t 26], none⟩,
 ⟨some 27, .pure (.ext 0), [.t 22], none⟩,
 ⟨some 28, .pure (.ext 1), [.t 22], none⟩,
 ⟨some 5, .new (.new 15 [.agg [.int .i64 0, .int .i64 0, .int .i64 0, .int .i64 0, .str [], .snil 11, .int .i64 0, .int .i64 0, .int .i64 0, .int .i64 0, .int .i64 0, .snil 6, .snil 13, .snil 17, .snil 15]]), [], none⟩,
 ⟨none, .eff (.store 15), [.t 5, .t 27], none⟩,
 ⟨some 6, .pure .move, [.t 28], none⟩])
 (.seq (.ops [⟨some 29, .pure (.faddr 0), [.t 3], none⟩,
 ⟨some 30, .read (.load none), [.t 29], none⟩,
 ⟨some 31, .pure (.bin .eql), [.t 30, .c (.int .i64 14)], none⟩,
 ⟨some 32, .pure .move, [.t 31], none⟩,
 ⟨some 33, .pure .move, [.t 6], some (32, true)⟩,
 ⟨some 34, .pure (.un .not), [.t 33], some (32, true)⟩,
 ⟨some 35, .pure .pick, [.t 32, .t 34, .c (.bool false)], none⟩])
 (.cond (.t 35)
 (.seq (.ops [⟨some 4, .pure .move, [.c (.int .i64 7)], none⟩])
 .ret)
 .skip)))
 (.seq (.ops [⟨some 36, .new .mkMap, [], none⟩,
 ⟨some 7, .pure .move, [.t 36], none⟩])
 (.seq (.seq (.ops [⟨some 37, .pure (.faddr 13), [.t 3], none⟩,
 ⟨some 38, .read (.load none), [.t 37], none⟩,
 ⟨some 39, .pure .lenL, [.t 38], none⟩,
 ⟨some 40, .pure .move, [.c (.int .i64 0)], none⟩])
 (.block 0
 (.loop [7, 38, 39, 40]
 (.seq (.ops [⟨some 41, .pure (.bin .lss), [.t 40, .t 39], none⟩])
 (.seq (.cond (.t 41)
 .skip
 (.exit 0))
 (.seq (.block 1
 (.seq (.ops [⟨some 42, .pure (.iaddrS 17), [.t 38, .t 40], none⟩,
 ⟨some 43, .read (.load (some 17)), [.t 42], none⟩,
 ⟨some 9, .new (.new 17 [.agg [.str [], .bool false, .int .i64 0, .int .i64 0, .int .i64 0, .int .i64 0, .str [], .snil 11, .int .i64 0, .int .i64 0, .int .i64 0, .int .i64 0, .int .i64 0, .snil 6, .snil 13, .snil 17, .snil 15]]), [], none⟩,
 ⟨none, .eff (.store 17), [.t 9, .t 43], none⟩])
 (.seq (.ops [⟨some 44, .pure .move, [.t 7], none⟩,
 ⟨some 45, .pure (.faddr 0), [.t 9], none⟩,
 ⟨some 46, .read (.load none), [.t 45], none⟩,
 ⟨some 47, .read (.lookup (.one .str) (.int .i64 0) false), [.t 44, .t 46], none⟩,
 ⟨some 48, .pure (.bin .add), [.t 47, .c (.int .i64 1)], none⟩,
 ⟨none, .eff (.mapSet (.one .str)), [.t 44, .t 46, .t 48], none⟩])
 (.seq (.ops [⟨some 49, .pure .move, [.t 7], none⟩,
 ⟨some 50, .pure (.faddr 0), [.t 9], none⟩,
 ⟨some 51, .read (.load none), [.t 50], none⟩,
 ⟨some 52, .read (.lookup (.one .str) (.int .i64 0) false), [.t 49, .t 51], none⟩,
 ⟨some 53, .pure (.bin .gtr), [.t 52, .c (.int .i64 1)], none⟩])
 (.cond (.t 53)
 (.seq (.ops [⟨some 4, .pure .move, [.c (.int .i64 8)], none⟩])
 .ret)
 .skip)))))
 (.ops [⟨some 54, .pure (.bin .add), [.t 40, .c (.int .i64 1)], none⟩,
 ⟨some 40, .pure .move, [.t 54], none⟩])))))))
 (.seq (.ops [⟨some 4, .pure .move, [.c (.int .i64 0)], none⟩])
 .ret))))))) }
/-- datakit/schema.parts -/
def ac514 : AFn :=
 { nt := 23, res := [.tmp 2], body :=
 (.seq (.ops [⟨some 1, .new (.box 15), [.t 0], none⟩,
 ⟨some 2, .pure .move, [.c (.snil 15)], none⟩])
 (.seq (.ops [⟨some 3, .pure .move, [.c (.snil 15)], none⟩])
 (.seq (.seq (.ops [⟨some 6, .pure (.faddr 13), [.t 1], none⟩,
 ⟨some 7, .read (.load none), [.t 6], none⟩,
 ⟨some 8, .pure .lenL, [.t 7], none⟩,
 ⟨some 9, .pure .move, [.c (.int .i64 0)], none⟩])
 (.block 0
 (.loop [1, 3, 7, 8, 9]
 (.seq (.ops [⟨some 10, .pure (.bin .lss), [.t 9, .t 8], none⟩])
 (.seq (.cond (.t 10)
 .skip
 (.exit 0))
 (.seq (.block 1
 (.seq (.ops [⟨some 11, .pure (.iaddrS 17), [.t 7, .t 9], none⟩,
 ⟨some 12, .read (.load (some 17)), [.t 11], none⟩,
 ⟨some 5, .new (.new 17 [.agg [.str [], .bool false, .int .i64 0, .int .i64 0, .int .i64 0, .int .i64 0, .str [], .snil 11, .int .i64 0, .int .i64 0, .int .i64 0, .int .i64 0, .int .i64 0, .snil 6, .snil 13, .snil 17, .snil 15]]), [], none⟩,
 ⟨none, .eff (.store 17), [.t 5, .t 12], none⟩])
 (.ops [⟨some 13, .pure .move, [.t 3], none⟩,
 ⟨some 14, .pure (.faddr 2), [.t 5], none⟩,
 ⟨some 15, .read (.load (some 15)), [.t 14], none⟩,
 ⟨some 16, .new (.buildSlice 15 [.agg [.int .i64 0, .int .i64 0, .int .i64 0, .int .i64 0, .str [], .snil 11, .int .i64 0, .int .i64 0, .int .i64 0, .int .i64 0, .int .i64 0, .snil 6, .snil 13, .snil 17, .snil 15]] [0]), [.t 15], none⟩,
 ⟨some 17, .eff (.append 15 208), [.t 13, .t 16], none⟩,
 ⟨some 3, .pure .move, [.t 17], none⟩])))
 (.ops [⟨some 18, .pure (.bin .add), [.t 9, .c (.int .i64 1)], none⟩,
 ⟨some 9, .pure .move, [.t 18], none⟩])))))))
 (.seq (.ops [⟨some 19, .pure .move, [.t 3], none⟩,
 ⟨some 20, .pure (.faddr 14), [.t 1], none⟩,
 ⟨some 21, .read (.load none), [.t 20], none⟩,
 ⟨some 22, .eff (.append 15 208), [.t 19, .t 21], none⟩,
 ⟨some 2, .pure .move, [.t 22], none⟩])
 .ret)))) }
/-- datakit/datakitref45.Parts -/
def ac515 : AFn :=
 { nt := 25, res := [.tmp 2], body :=
 (.seq (.ops [⟨some 1, .new (.box 15), [.t 0], none⟩,
 ⟨some 2, .pure .move, [.c (.snil 15)], none⟩])
 (.seq (.ops [⟨some 3, .pure .move, [.c (.snil 15)], none⟩])
 (.seq (.seq (.ops [⟨some 4, .pure .move, [.c (.int .i64 0)], none⟩])
 (.block 0
 (.loop [1, 3, 4]
 (.seq (.seq (.ops [⟨some 5, .pure .move, [.t 4], none⟩,
 ⟨some 6, .pure (.faddr 13), [.t 1], none⟩,
 ⟨some 7, .read (.load none), [.t 6], none⟩,
 ⟨some 8, .pure .lenL, [.t 7], none⟩,
 ⟨some 9, .pure (.bin .lss), [.t 5, .t 8], none⟩])
 (.cond (.t 9)
 .skip
 (.exit 0)))
 (.seq (.block 1
 (.ops [⟨some 12, .pure .move, [.t 3], none⟩,
 ⟨some 13, .pure (.faddr 13), [.t 1], none⟩,
 ⟨some 14, .read (.load none), [.t 13], none⟩,
 ⟨some 15, .pure .move, [.t 4], none⟩,
 ⟨some 16, .pure (.iaddrS 17), [.t 14, .t 15], none⟩,
 ⟨some 17, .pure (.faddr 2), [.t 16], none⟩,
 ⟨some 18, .read (.load (some 15)), [.t 17], none⟩,
 ⟨some 19, .new (.buildSlice 15 [.agg [.int .i64 0, .int .i64 0, .int .i64 0, .int .i64 0, .str [], .snil 11, .int .i64 0, .int .i64 0, .int .i64 0, .int .i64 0, .int .i64 0, .snil 6, .snil 13, .snil 17, .snil 15]] [0]), [.t 18], none⟩,
 ⟨some 20, .eff (.append 15 208), [.t 12, .t 19], none⟩,
 ⟨some 3, .pure .move, [.t 20], none⟩]))
 (.ops [⟨some 10, .pure .move, [.t 4], none⟩,
 ⟨some 11, .pure (.bin .add), [.t 10, .c (.int .i64 1)], none⟩,
 ⟨some 4, .pure .move, [.t 11], none⟩]))))))
 (.seq (.ops [⟨some 21, .pure .move, [.t 3], none⟩,
 ⟨some 22, .pure (.faddr 14), [.t 1], none⟩,
 ⟨some 23, .read (.load none), [.t 22], none⟩,
 ⟨some 24, .eff (.append 15 208), [.t 21, .t 23], none⟩,
 ⟨some 2, .pure .move, [.t 24], none⟩])
 .ret)))) }
/-- datakit/schema.clonePattern -/
def ac517 : AFn :=
 { nt := 26, res := [.cell 2 (some 6)], body :=
 (.seq (.ops [⟨some 1, .new (.box 6), [.t 0], none⟩,
 ⟨some 2, .new (.new 6 [.agg [.int .i64 0, .int .i64 0, .int .i64 0, .int .i64 0, .int .i64 0, .snil 6]]), [], none⟩])
 (.seq (.ops [⟨some 4, .pure (.faddr 5), [.t 1], none⟩,
 ⟨some 5, .read (.load none), [.t 4], none⟩,
 ⟨some 6, .call 566, [.t 5], none⟩,
 ⟨some 7, .pure (.faddr 5), [.t 1], none⟩,
 ⟨none, .eff (.store 1), [.t 7, .t 6], none⟩])
 (.seq (.seq (.ops [⟨some 8, .pure (.faddr 5), [.t 1], none⟩,
 ⟨some 9, .read (.load none), [.t 8], none⟩,
 ⟨some 10, .pure .lenL, [.t 9], none⟩,
 ⟨some 11, .pure .move, [.c (.int .i64 0)], none⟩])
 (.block 0
 (.loop [1, 2, 10, 11]
 (.seq (.ops [⟨some 12, .pure (.bin .lss), [.t 11, .t 10], none⟩])
 (.seq (.cond (.t 12)
 .skip
 (.exit 0))
 (.seq (.block 1
 (.seq (.ops [⟨some 13, .pure .move, [.t 11], none⟩,
 ⟨some 3, .pure .move, [.t 13], none⟩])
 (.ops [⟨some 14, .pure (.faddr 5), [.t 1], none⟩,
 ⟨some 15, .read (.load none), [.t 14], none⟩,
 ⟨some 16, .pure .move, [.t 3], none⟩,
 ⟨some 17, .pure (.faddr 5), [.t 1], none⟩,
 ⟨some 18, .read (.load none), [.t 17], none⟩,
 ⟨some 19, .pure .move, [.t 3], none⟩,
 ⟨some 20, .pure (.iaddrS 6), [.t 18, .t 19], none⟩,
 ⟨some 21, .read (.load (some 6)), [.t 20], none⟩,
 ⟨some 22, .pcall 517, [.t 21], none⟩,
 ⟨some 23, .pure (.iaddrS 6), [.t 15, .t 16], none⟩,
 ⟨none, .eff (.store 6), [.t 23, .t 22], none⟩])))
 (.ops [⟨some 24, .pure (.bin .add), [.t 11, .c (.int .i64 1)], none⟩,
 ⟨some 11, .pure .move, [.t 24], none⟩])))))))
 (.seq (.ops [⟨some 25, .read (.load (some 6)), [.t 1], none⟩,
 ⟨none, .eff (.store 6), [.t 2, .t 25], none⟩])
 .ret)))) }
/-- datakit/datakitref45.with -/
def ac521 : AFn :=
 { nt := 52, res := [.tmp 4], body :=
 (.seq (.ops [⟨some 4, .pure .move, [.c (.snil 1)], none⟩])
 (.seq (.ops [⟨some 5, .pure .move, [.c (.snil 1)], none⟩])
 (.seq (.ops [⟨some 6, .pure .move, [.c (.int .i64 0)], none⟩])
 (.seq (.block 0
 (.loop [0, 1, 5, 6]
 (.seq (.seq (.ops [⟨some 7, .pure .move, [.t 6], none⟩,
 ⟨some 8, .pure .move, [.t 0], none⟩,
 ⟨some 9, .pure .lenL, [.t 8], none⟩,
 ⟨some 10, .pure (.bin .lss), [.t 7, .t 9], none⟩,
 ⟨some 11, .pure .move, [.t 10], none⟩,
 ⟨some 12, .pure .move, [.t 0], some (11, true)⟩,
 ⟨some 13, .pure .move, [.t 6], some (11, true)⟩,
 ⟨some 14, .pure (.iaddrS 1), [.t 12, .t 13], some (11, true)⟩,
 ⟨some 15, .read (.load none), [.t 14], some (11, true)⟩,
 ⟨some 16, .pure .move, [.t 1], some (11, true)⟩,
 ⟨some 17, .pure (.bin .lss), [.t 15, .t 16], some (11, true)⟩,
 ⟨some 18, .pure .pick, [.t 11, .t 17, .c (.bool false)], none⟩])
 (.cond (.t 18)
 .skip
 (.exit 0)))
 (.block 1
 (.seq (.ops [⟨some 19, .pure .move, [.t 5], none⟩,
 ⟨some 20, .pure .move, [.t 0], none⟩,
 ⟨some 21, .pure .move, [.t 6], none⟩,
 ⟨some 22, .pure (.iaddrS 1), [.t 20, .t 21], none⟩,
 ⟨some 23, .read (.load none), [.t 22], none⟩,
 ⟨some 24, .new (.buildSlice 1 [.str []] [0]), [.t 23], none⟩,
 ⟨some 25, .eff (.append 1 16), [.t 19, .t 24], none⟩,
 ⟨some 5, .pure .move, [.t 25], none⟩])
 (.ops [⟨some 26, .pure .move, [.t 6], none⟩,
 ⟨some 27, .pure (.bin .add), [.t 26, .c (.int .i64 1)], none⟩,
 ⟨some 6, .pure .move, [.t 27], none⟩]))))))
 (.seq (.ops [⟨some 28, .pure .move, [.t 5], none⟩,
 ⟨some 29, .pure .move, [.t 1], none⟩,
 ⟨some 30, .new (.buildSlice 1 [.str []] [0]), [.t 29], none⟩,
 ⟨some 31, .eff (.append 1 16), [.t 28, .t 30], none⟩,
 ⟨some 5, .pure .move, [.t 31], none⟩])
 (.seq (.block 2
 (.loop [0, 1, 5, 6]
 (.seq (.seq (.ops [⟨some 32, .pure .move, [.t 6], none⟩,
 ⟨some 33, .pure .move, [.t 0], none⟩,
 ⟨some 34, .pure .lenL, [.t 33], none⟩,
 ⟨some 35, .pure (.bin .lss), [.t 32, .t 34], none⟩])
 (.cond (.t 35)
 .skip
 (.exit 2)))
 (.seq (.block 3
 (.seq (.ops [⟨some 38, .pure .move, [.t 0], none⟩,
 ⟨some 39, .pure .move, [.t 6], none⟩,
 ⟨some 40, .pure (.iaddrS 1), [.t 38, .t 39], none⟩,
 ⟨some 41, .read (.load none), [.t 40], none⟩,
 ⟨some 42, .pure .move, [.t 1], none⟩,
 ⟨some 43, .pure (.bin .neq), [.t 41, .t 42], none⟩])
 (.cond (.t 43)
 (.ops [⟨some 44, .pure .move, [.t 5], none⟩,
 ⟨some 45, .pure .move, [.t 0], none⟩,
 ⟨some 46, .pure .move, [.t 6], none⟩,
 ⟨some 47, .pure (.iaddrS 1), [.t 45, .t 46], none⟩,
 ⟨some 48, .read (.load none), [.t 47], none⟩,
 ⟨some 49, .new (.buildSlice 1 [.str []] [0]), [.t 48], none⟩,
 ⟨some 50, .eff (.append 1 16), [.t 44, .t 49], none⟩,
 ⟨some 5, .pure .move, [.t 50], none⟩])
 .skip)))
 (.ops [⟨some 36, .pure .move, [.t 6], none⟩,
 ⟨some 37, .pure (.bin .add), [.t 36, .c (.int .i64 1)], none⟩,
 ⟨some 6, .pure .move, [.t 37], none⟩])))))
 (.seq (.ops [⟨some 51, .pure .move, [.t 5], none⟩,
 ⟨some 4, .pure .move, [.t 51], none⟩])
 .ret))))))) }
/-- datakit/datakitref18.Same -/
def ac522 : AFn :=
 { nt := 31, res := [.tmp 4], body :=
 (.seq (.ops [⟨some 2, .new (.box 1), [.t 0], none⟩,
 ⟨some 3, .new (.box 1), [.t 1], none⟩,
 ⟨some 4, .pure .move, [.c (.bool false)], none⟩])
 (.seq (.seq (.ops [⟨some 6, .pure (.faddr 0), [.t 2], none⟩,
 ⟨some 7, .read (.load none), [.t 6], none⟩,
 ⟨some 8, .pure .lenL, [.t 7], none⟩,
 ⟨some 9, .pure (.faddr 0), [.t 3], none⟩,
 ⟨some 10, .read (.load none), [.t 9], none⟩,
 ⟨some 11, .pure .lenL, [.t 10], none⟩,
 ⟨some 12, .pure (.bin .neq), [.t 8, .t 11], none⟩])
 (.cond (.t 12)
 (.seq (.ops [⟨some 4, .pure .move, [.c (.bool false)], none⟩])
 .ret)
 .skip))
 (.seq (.seq (.ops [⟨some 5, .pure .move, [.c (.int .i64 0)], none⟩])
 (.block 0
 (.loop [2, 3, 5]
 (.seq (.seq (.ops [⟨some 13, .pure .move, [.t 5], none⟩,
 ⟨some 14, .pure (.faddr 0), [.t 2], none⟩,
 ⟨some 15, .read (.load none), [.t 14], none⟩,
 ⟨some 16, .pure .lenL, [.t 15], none⟩,
 ⟨some 17, .pure (.bin .lss), [.t 13, .t 16], none⟩])
 (.cond (.t 17)
 .skip
 (.exit 0)))
 (.seq (.block 1
 (.seq (.ops [⟨some 20, .pure (.faddr 0), [.t 2], none⟩,
 ⟨some 21, .read (.load none), [.t 20], none⟩,
 ⟨some 22, .pure .move, [.t 5], none⟩,
 ⟨some 23, .pure (.iaddrS 11), [.t 21, .t 22], none⟩,
 ⟨some 24, .read (.load (some 11)), [.t 23], none⟩,
 ⟨some 25, .pure (.faddr 0), [.t 3], none⟩,
 ⟨some 26, .read (.load none), [.t 25], none⟩,
 ⟨some 27, .pure .move, [.t 5], none⟩,
 ⟨some 28, .pure (.iaddrS 11), [.t 26, .t 27], none⟩,
 ⟨some 29, .read (.load (some 11)), [.t 28], none⟩,
 ⟨some 30, .pure (.eqF [.bool, .bool, .str, .int, .bool, .bool, .bool, .str, .int, .bool, .int] true), [.t 24, .t 29], none⟩])
 (.cond (.t 30)
 (.seq (.ops [⟨some 4, .pure .move, [.c (.bool false)], none⟩])
 .ret)
 .skip)))
 (.ops [⟨some 18, .pure .move, [.t 5], none⟩,
 ⟨some 19, .pure (.bin .add), [.t 18, .c (.int .i64 1)], none⟩,
 ⟨some 5, .pure .move, [.t 19], none⟩]))))))
 (.seq (.ops [⟨some 4, .pure .move, [.c (.bool true)], none⟩])
 .ret)))) }
/-- datakit/datakitref15.Same -/
def ac523 : AFn :=
 { nt := 8, res := [.tmp 4], body :=
 (.seq (.ops [⟨some 2, .new (.box 6), [.t 0], none⟩,
 ⟨some 3, .new (.box 6), [.t 1], none⟩,
 ⟨some 4, .pure .move, [.c (.bool false)], none⟩])
 (.seq (.ops [⟨some 5, .read (.load (some 6)), [.t 2], none⟩,
 ⟨some 6, .read (.load (some 6)), [.t 3], none⟩,
 ⟨some 7, .pcall 567, [.t 5, .t 6, .c (.int .i64 48)], none⟩,
 ⟨some 4, .pure .move, [.t 7], none⟩])
 .ret)) }
/-- datakit/datakitref07.SameAll -/
def ac524 : AFn :=
 { nt := 10, res := [.tmp 4], body :=
 (.seq (.ops [⟨some 4, .pure .move, [.c (.bool false)], none⟩])
 (.seq (.ops [⟨some 5, .pure .move, [.t 0], none⟩,
 ⟨some 6, .pcall 529, [.t 5], none⟩,
 ⟨some 7, .pure .move, [.t 1], none⟩,
 ⟨some 8, .pcall 529, [.t 7], none⟩,
 ⟨some 9, .pcall 29, [.t 6, .t 8], none⟩,
 ⟨some 4, .pure .move, [.t 9], none⟩])
 .ret)) }
/-- datakit/schema.of -/
def ac525 : AFn :=
 { nt := 194, res := [.cell 2 (some 13)], body :=
 (.seq (.ops [⟨some 1, .new (.box 15), [.t 0], none⟩,
 ⟨some 2, .new (.new 13 [.agg [.int .i64 0, .bool false, .bool false, .str [], .int .i64 0, .int .i64 0, .int .i64 0, .int .i64 0, .int .i64 0, .str [], .snil 1, .snil 13, .snil 14]]), [], none⟩])
 (.seq (.ops [⟨some 12, .pure (.build [.int .i64 0, .bool false, .bool false, .str [], .int .i64 0, .int .i64 0, .int .i64 0, .int .i64 0, .int .i64 0, .str [], .snil 1, .snil 13, .snil 14] [(0, 1)]), [.c (.int .i64 6)], none⟩,
 ⟨some 3, .new (.new 13 [.agg [.int .i64 0, .bool false, .bool false, .str [], .int .i64 0, .int .i64 0, .int .i64 0, .int .i64 0, .int .i64 0, .str [], .snil 1, .snil 13, .snil 14]]), [], none⟩,
 ⟨none, .eff (.store 13), [.t 3, .t 12], none⟩])
 (.seq (.ops [⟨some 13, .pure (.mkfn 568), [.t 3], none⟩,
 ⟨some 4, .pure .move, [.t 13], none⟩])
 (.seq (.seq (.ops [⟨some 14, .pure (.faddr 0), [.t 1], none⟩,
 ⟨some 15, .read (.load none), [.t 14], none⟩])
 (.block 0
 (.seq (.seq (.ops [⟨some 17, .pure (.bin .eql), [.t 15, .c (.int .i64 1)], none⟩,
 ⟨some 16, .pure .move, [.t 17], none⟩])
 (.cond (.t 16)
 .skip
 (.ops [⟨some 18, .pure (.bin .eql), [.t 15, .c (.int .i64 2)], none⟩,
 ⟨some 16, .pure .move, [.t 18], none⟩])))
 (.cond (.t 16)
 (.seq (.ops [⟨some 19, .pure (.faddr 0), [.t 1], none⟩,
 ⟨some 20, .read (.load none), [.t 19], none⟩,
 ⟨some 21, .pure (.bin .eql), [.t 20, .c (.int .i64 1)], none⟩,
 ⟨some 22, .pcall 569, [.t 21], none⟩,
 ⟨none, .eff (.store 13), [.t 2, .t 22], none⟩])
 .ret)
 (.seq (.ops [⟨some 24, .pure (.bin .eql), [.t 15, .c (.int .i64 3)], none⟩,
 ⟨some 23, .pure .move, [.t 24], none⟩])
 (.cond (.t 23)
 (.seq (.seq (.ops [⟨some 25, .pure .move, [.c (.int .i64 0)], none⟩])
 (.block 1
 (.loop [1, 2, 3, 25]
 (.seq (.ops [⟨some 26, .pure (.bin .lss), [.t 25, .c (.int .i64 8)], none⟩])
 (.seq (.cond (.t 26)
 .skip
 (.exit 1))
 (.seq (.block 2
 (.seq (.ops [⟨some 27, .pure .move, [.t 25], none⟩,
 ⟨some 5, .pure .move, [.t 27], none⟩])
 (.seq (.ops [⟨some 28, .pure (.faddr 1), [.t 1], none⟩,
 ⟨some 29, .read (.load none), [.t 28], none⟩,
 ⟨some 30, .pure .move, [.t 5], none⟩,
 ⟨some 31, .pure (.conv .u64), [.t 30], none⟩,
 ⟨some 32, .pure (.bin .shr), [.t 29, .t 31], none⟩,
 ⟨some 33, .pure (.bin .and), [.t 32, .c (.int .i64 1)], none⟩,
 ⟨some 34, .pure (.bin .eql), [.t 33, .c (.int .i64 1)], none⟩])
 (.cond (.t 34)
 (.draw 1 [[⟨some 35, .pure (.faddr 11), [.t 3], none⟩,
 ⟨some 36, .read (.load none), [.t 35], none⟩,
 ⟨some 37, .pure .move, [.t 5], none⟩,
 ⟨some 38, .pcall 534, [.t 37], none⟩,
 ⟨some 39, .pcall 124, [.t 38], none⟩,
 ⟨some 40, .pure .lenL, [.t 36], none⟩,
 ⟨some 41, .newAt 0 (.buildSlice 13 [.agg [.int .i64 0, .bool false, .bool false, .str [], .int .i64 0, .int .i64 0, .int .i64 0, .int .i64 0, .int .i64 0, .str [], .snil 1, .snil 13, .snil 14]] [0]), [.c (.agg [.int .i64 0, .bool false, .bool false, .str [], .int .i64 0, .int .i64 0, .int .i64 0, .int .i64 0, .int .i64 0, .str [], .snil 1, .snil 13, .snil 14])], none⟩,
 ⟨some 42, .eff (.append 13 168), [.t 36, .t 41], none⟩,
 ⟨some 43, .pure (.iaddrS 13), [.t 42, .t 40], none⟩,
 ⟨some 44, .pure (.faddr 11), [.t 3], none⟩,
 ⟨none, .eff (.store 13), [.t 43, .t 39], none⟩,
 ⟨none, .eff (.store 1), [.t 44, .t 42], none⟩],
 [⟨some 35, .pure (.faddr 11), [.t 3], none⟩,
 ⟨some 36, .read (.load none), [.t 35], none⟩,
 ⟨some 37, .pure .move, [.t 5], none⟩,
 ⟨some 38, .pcall 534, [.t 37], none⟩,
 ⟨some 39, .pcall 124, [.t 38], none⟩,
 ⟨some 40, .pure .lenL, [.t 36], none⟩,
 ⟨some 41, .newAt 0 (.buildSlice 13 [.agg [.int .i64 0, .bool false, .bool false, .str [], .int .i64 0, .int .i64 0, .int .i64 0, .int .i64 0, .int .i64 0, .str [], .snil 1, .snil 13, .snil 14]] [0]), [.c (.agg [.int .i64 0, .bool false, .bool false, .str [], .int .i64 0, .int .i64 0, .int .i64 0, .int .i64 0, .int .i64 0, .str [], .snil 1, .snil 13, .snil 14])], none⟩,
 ⟨some 42, .eff (.append 13 168), [.t 36, .t 41], none⟩,
 ⟨some 43, .pure (.iaddrS 13), [.t 42, .t 40], none⟩,
 ⟨some 44, .pure (.faddr 11), [.t 3], none⟩,
 ⟨none, .eff (.store 1), [.t 44, .t 42], none⟩,
 ⟨none, .eff (.store 13), [.t 43, .t 39], none⟩]])
 .skip))))
 (.ops [⟨some 45, .pure (.bin .add), [.t 25, .c (.int .i64 1)], none⟩,
 ⟨some 25, .pure .move, [.t 45], none⟩])))))))
 (.seq (.ops [⟨some 46, .read (.load (some 13)), [.t 3], none⟩,
 ⟨some 47, .pcall 570, [.c (.str [107, 105, 110, 100, 115]), .t 46], none⟩,
 ⟨none, .eff (.store 13), [.t 2, .t 47], none⟩])
 .ret))
 (.seq (.ops [⟨some 49, .pure (.bin .eql), [.t 15, .c (.int .i64 4)], none⟩,
 ⟨some 48, .pure .move, [.t 49], none⟩])
 (.cond (.t 48)
 (.seq (.seq (.ops [⟨some 50, .pure (.faddr 5), [.t 1], none⟩,
 ⟨some 51, .pure (.faddr 0), [.t 50], none⟩,
 ⟨some 52, .read (.load none), [.t 51], none⟩,
 ⟨some 53, .pure .lenL, [.t 52], none⟩,
 ⟨some 54, .pure .move, [.c (.int .i64 0)], none⟩])
 (.block 3
 (.loop [2, 3, 52, 53, 54]
 (.seq (.ops [⟨some 55, .pure (.bin .lss), [.t 54, .t 53], none⟩])
 (.seq (.cond (.t 55)
 .skip
 (.exit 3))
 (.seq (.block 4
 (.seq (.ops [⟨some 56, .pure (.iaddrS 11), [.t 52, .t 54], none⟩,
 ⟨some 57, .read (.load (some 11)), [.t 56], none⟩,
 ⟨some 7, .new (.new 11 [.agg [.bool false, .bool false, .str [], .int .i64 0, .bool false, .bool false, .bool false, .str [], .int .i64 0, .bool false, .int .i64 0]]), [], none⟩,
 ⟨none, .eff (.store 11), [.t 7, .t 57], none⟩])
 (.draw 1 [[⟨some 58, .pure (.faddr 11), [.t 3], none⟩,
 ⟨some 59, .read (.load none), [.t 58], none⟩,
 ⟨some 60, .read (.load (some 11)), [.t 7], none⟩,
 ⟨some 61, .pcall 571, [.t 60], none⟩,
 ⟨some 62, .pure .lenL, [.t 59], none⟩,
 ⟨some 63, .newAt 0 (.buildSlice 13 [.agg [.int .i64 0, .bool false, .bool false, .str [], .int .i64 0, .int .i64 0, .int .i64 0, .int .i64 0, .int .i64 0, .str [], .snil 1, .snil 13, .snil 14]] [0]), [.c (.agg [.int .i64 0, .bool false, .bool false, .str [], .int .i64 0, .int .i64 0, .int .i64 0, .int .i64 0, .int .i64 0, .str [], .snil 1, .snil 13, .snil 14])], none⟩,
 ⟨some 64, .eff (.append 13 168), [.t 59, .t 63], none⟩,
 ⟨some 65, .pure (.iaddrS 13), [.t 64, .t 62], none⟩,
 ⟨some 66, .pure (.faddr 11), [.t 3], none⟩,
 ⟨none, .eff (.store 13), [.t 65, .t 61], none⟩,
 ⟨none, .eff (.store 1), [.t 66, .t 64], none⟩],
 [⟨some 58, .pure (.faddr 11), [.t 3], none⟩,
 ⟨some 59, .read (.load none), [.t 58], none⟩,
 ⟨some 60, .read (.load (some 11)), [.t 7], none⟩,
 ⟨some 61, .pcall 571, [.t 60], none⟩,
 ⟨some 62, .pure .lenL, [.t 59], none⟩,
 ⟨some 63, .newAt 0 (.buildSlice 13 [.agg [.int .i64 0, .bool false, .bool false, .str [], .int .i64 0, .int .i64 0, .int .i64 0, .int .i64 0, .int .i64 0, .str [], .snil 1, .snil 13, .snil 14]] [0]), [.c (.agg [.int .i64 0, .bool false, .bool false, .str [], .int .i64 0, .int .i64 0, .int .i64 0, .int .i64 0, .int .i64 0, .str [], .snil 1, .snil 13, .snil 14])], none⟩,
 ⟨some 64, .eff (.append 13 168), [.t 59, .t 63], none⟩,
 ⟨some 65, .pure (.iaddrS 13), [.t 64, .t 62], none⟩,
 ⟨some 66, .pure (.faddr 11), [.t 3], none⟩,
 ⟨none, .eff (.store 1), [.t 66, .t 64], none⟩,
 ⟨none, .eff (.store 13), [.t 65, .t 61], none⟩]])))
 (.ops [⟨some 67, .pure (.bin .add), [.t 54, .c (.int .i64 1)], none⟩,
 ⟨some 54, .pure .move, [.t 67], none⟩])))))))
 (.seq (.ops [⟨some 68, .read (.load (some 13)), [.t 3], none⟩,
 ⟨some 69, .pcall 570, [.c (.str [110, 117, 109, 98, 101, 114]), .t 68], none⟩,
 ⟨none, .eff (.store 13), [.t 2, .t 69], none⟩])
 .ret))
 (.seq (.ops [⟨some 71, .pure (.bin .eql), [.t 15, .c (.int .i64 5)], none⟩,
 ⟨some 70, .pure .move, [.t 71], none⟩])
 (.cond (.t 70)
 (.seq (.draw 1 [[⟨some 72, .pure (.faddr 2), [.t 1], none⟩,
 ⟨some 73, .read (.load none), [.t 72], none⟩,
 ⟨some 74, .pcall 123, [.t 73], none⟩,
 ⟨some 75, .pure (.faddr 3), [.t 1], none⟩,
 ⟨some 76, .read (.load none), [.t 75], none⟩,
 ⟨some 77, .pcall 573, [.t 76], none⟩,
 ⟨some 78, .newAt 0 (.buildSlice 13 [.agg [.int .i64 0, .bool false, .bool false, .str [], .int .i64 0, .int .i64 0, .int .i64 0, .int .i64 0, .int .i64 0, .str [], .snil 1, .snil 13, .snil 14], .agg [.int .i64 0, .bool false, .bool false, .str [], .int .i64 0, .int .i64 0, .int .i64 0, .int .i64 0, .int .i64 0, .str [], .snil 1, .snil 13, .snil 14]] [0, 1]), [.t 74, .t 77], none⟩,
 ⟨some 79, .pcall 572, [.t 78], none⟩,
 ⟨some 80, .pcall 570, [.c (.str [116, 101, 120, 116]), .t 79], none⟩,
 ⟨none, .eff (.store 13), [.t 2, .t 80], none⟩]])
 .ret)
 (.seq (.ops [⟨some 82, .pure (.bin .eql), [.t 15, .c (.int .i64 6)], none⟩,
 ⟨some 81, .pure .move, [.t 82], none⟩])
 (.cond (.t 81)
 (.seq (.ops [⟨some 83, .pure (.faddr 6), [.t 1], none⟩,
 ⟨some 84, .read (.load (some 6)), [.t 83], none⟩,
 ⟨some 85, .pcall 574, [.t 84], none⟩,
 ⟨some 86, .pcall 124, [.t 85], none⟩,
 ⟨some 87, .pcall 570, [.c (.str [109, 97, 116, 99, 104]), .t 86], none⟩,
 ⟨none, .eff (.store 13), [.t 2, .t 87], none⟩])
 .ret)
 (.seq (.ops [⟨some 89, .pure (.bin .eql), [.t 15, .c (.int .i64 7)], none⟩,
 ⟨some 88, .pure .move, [.t 89], none⟩])
 (.cond (.t 88)
 (.seq (.ops [⟨some 90, .pure (.faddr 4), [.t 1], none⟩,
 ⟨some 91, .read (.load none), [.t 90], none⟩,
 ⟨some 92, .pcall 124, [.t 91], none⟩,
 ⟨some 93, .pcall 570, [.c (.str [102, 111, 114, 109, 97, 116]), .t 92], none⟩,
 ⟨none, .eff (.store 13), [.t 2, .t 93], none⟩])
 .ret)
 (.seq (.ops [⟨some 95, .pure (.bin .eql), [.t 15, .c (.int .i64 8)], none⟩,
 ⟨some 94, .pure .move, [.t 95], none⟩])
 (.cond (.t 94)
 (.seq (.seq (.ops [⟨some 96, .pure (.faddr 12), [.t 1], none⟩,
 ⟨some 97, .read (.load none), [.t 96], none⟩,
 ⟨some 98, .pure .lenL, [.t 97], none⟩,
 ⟨some 99, .pure .move, [.c (.int .i64 0)], none⟩])
 (.block 5
 (.loop [2, 3, 97, 98, 99]
 (.seq (.ops [⟨some 100, .pure (.bin .lss), [.t 99, .t 98], none⟩])
 (.seq (.cond (.t 100)
 .skip
 (.exit 5))
 (.seq (.block 6
 (.seq (.ops [⟨some 101, .pure (.iaddrS 13), [.t 97, .t 99], none⟩,
 ⟨some 102, .read (.load (some 13)), [.t 101], none⟩,
 ⟨some 9, .new (.new 13 [.agg [.int .i64 0, .bool false, .bool false, .str [], .int .i64 0, .int .i64 0, .int .i64 0, .int .i64 0, .int .i64 0, .str [], .snil 1, .snil 13, .snil 14]]), [], none⟩,
 ⟨none, .eff (.store 13), [.t 9, .t 102], none⟩])
 (.draw 1 [[⟨some 103, .pure (.faddr 11), [.t 3], none⟩,
 ⟨some 104, .read (.load none), [.t 103], none⟩,
 ⟨some 105, .read (.load (some 13)), [.t 9], none⟩,
 ⟨some 106, .pcall 26, [.t 105], none⟩,
 ⟨some 107, .pure .lenL, [.t 104], none⟩,
 ⟨some 108, .newAt 0 (.buildSlice 13 [.agg [.int .i64 0, .bool false, .bool false, .str [], .int .i64 0, .int .i64 0, .int .i64 0, .int .i64 0, .int .i64 0, .str [], .snil 1, .snil 13, .snil 14]] [0]), [.c (.agg [.int .i64 0, .bool false, .bool false, .str [], .int .i64 0, .int .i64 0, .int .i64 0, .int .i64 0, .int .i64 0, .str [], .snil 1, .snil 13, .snil 14])], none⟩,
 ⟨some 109, .eff (.append 13 168), [.t 104, .t 108], none⟩,
 ⟨some 110, .pure (.iaddrS 13), [.t 109, .t 107], none⟩,
 ⟨some 111, .pure (.faddr 11), [.t 3], none⟩,
 ⟨none, .eff (.store 13), [.t 110, .t 106], none⟩,
 ⟨none, .eff (.store 1), [.t 111, .t 109], none⟩],
 [⟨some 103, .pure (.faddr 11), [.t 3], none⟩,
 ⟨some 104, .read (.load none), [.t 103], none⟩,
 ⟨some 105, .read (.load (some 13)), [.t 9], none⟩,
 ⟨some 106, .pcall 26, [.t 105], none⟩,
 ⟨some 107, .pure .lenL, [.t 104], none⟩,
 ⟨some 108, .newAt 0 (.buildSlice 13 [.agg [.int .i64 0, .bool false, .bool false, .str [], .int .i64 0, .int .i64 0, .int .i64 0, .int .i64 0, .int .i64 0, .str [], .snil 1, .snil 13, .snil 14]] [0]), [.c (.agg [.int .i64 0, .bool false, .bool false, .str [], .int .i64 0, .int .i64 0, .int .i64 0, .int .i64 0, .int .i64 0, .str [], .snil 1, .snil 13, .snil 14])], none⟩,
 ⟨some 109, .eff (.append 13 168), [.t 104, .t 108], none⟩,
 ⟨some 110, .pure (.iaddrS 13), [.t 109, .t 107], none⟩,
 ⟨some 111, .pure (.faddr 11), [.t 3], none⟩,
 ⟨none, .eff (.store 1), [.t 111, .t 109], none⟩,
 ⟨none, .eff (.store 13), [.t 110, .t 106], none⟩]])))
 (.ops [⟨some 112, .pure (.bin .add), [.t 99, .c (.int .i64 1)], none⟩,
 ⟨some 99, .pure .move, [.t 112], none⟩])))))))
 (.seq (.ops [⟨some 113, .read (.load (some 13)), [.t 3], none⟩,
 ⟨some 114, .pcall 570, [.c (.str [118, 97, 108, 117, 101, 115]), .t 113], none⟩,
 ⟨none, .eff (.store 13), [.t 2, .t 114], none⟩])
 .ret))
 (.seq (.ops [⟨some 116, .pure (.bin .eql), [.t 15, .c (.int .i64 9)], none⟩,
 ⟨some 115, .pure .move, [.t 116], none⟩])
 (.cond (.t 115)
 (.seq (.draw 1 [[⟨some 117, .pure (.faddr 2), [.t 1], none⟩,
 ⟨some 118, .read (.load none), [.t 117], none⟩,
 ⟨some 119, .pcall 123, [.t 118], none⟩,
 ⟨some 120, .pure (.faddr 3), [.t 1], none⟩,
 ⟨some 121, .read (.load none), [.t 120], none⟩,
 ⟨some 122, .pcall 573, [.t 121], none⟩,
 ⟨some 123, .pure (.faddr 14), [.t 1], none⟩,
 ⟨some 124, .read (.load none), [.t 123], none⟩,
 ⟨some 125, .pure (.iaddrS 15), [.t 124, .c (.int .i64 0)], none⟩,
 ⟨some 126, .read (.load (some 15)), [.t 125], none⟩,
 ⟨some 127, .pcall 525, [.t 126], none⟩,
 ⟨some 128, .newAt 0 (.buildSlice 13 [.agg [.int .i64 0, .bool false, .bool false, .str [], .int .i64 0, .int .i64 0, .int .i64 0, .int .i64 0, .int .i64 0, .str [], .snil 1, .snil 13, .snil 14], .agg [.int .i64 0, .bool false, .bool false, .str [], .int .i64 0, .int .i64 0, .int .i64 0, .int .i64 0, .int .i64 0, .str [], .snil 1, .snil 13, .snil 14], .agg [.int .i64 0, .bool false, .bool false, .str [], .int .i64 0, .int .i64 0, .int .i64 0, .int .i64 0, .int .i64 0, .str [], .snil 1, .snil 13, .snil 14]] [0, 1, 2]), [.t 119, .t 122, .t 127], none⟩,
 ⟨some 129, .pcall 572, [.t 128], none⟩,
 ⟨some 130, .pcall 570, [.c (.str [108, 105, 115, 116]), .t 129], none⟩,
 ⟨none, .eff (.store 13), [.t 2, .t 130], none⟩]])
 .ret)
 (.seq (.ops [⟨some 132, .pure (.bin .eql), [.t 15, .c (.int .i64 10)], none⟩,
 ⟨some 131, .pure .move, [.t 132], none⟩])
 (.cond (.t 131)
 (.seq (.seq (.ops [⟨some 133, .pure (.faddr 13), [.t 1], none⟩,
 ⟨some 134, .read (.load none), [.t 133], none⟩,
 ⟨some 135, .pure .lenL, [.t 134], none⟩,
 ⟨some 136, .pure .move, [.c (.int .i64 0)], none⟩])
 (.block 7
 (.loop [1, 2, 3, 134, 135, 136]
 (.seq (.ops [⟨some 137, .pure (.bin .lss), [.t 136, .t 135], none⟩])
 (.seq (.cond (.t 137)
 .skip
 (.exit 7))
 (.seq (.block 8
 (.seq (.ops [⟨some 138, .pure (.iaddrS 17), [.t 134, .t 136], none⟩,
 ⟨some 139, .read (.load (some 17)), [.t 138], none⟩,
 ⟨some 11, .new (.new 17 [.agg [.str [], .bool false, .int .i64 0, .int .i64 0, .int .i64 0, .int .i64 0, .str [], .snil 11, .int .i64 0, .int .i64 0, .int .i64 0, .int .i64 0, .int .i64 0, .snil 6, .snil 13, .snil 17, .snil 15]]), [], none⟩,
 ⟨none, .eff (.store 17), [.t 11, .t 139], none⟩])
 (.draw 2 [[⟨some 140, .pure (.faddr 11), [.t 3], none⟩,
 ⟨some 141, .read (.load none), [.t 140], none⟩,
 ⟨some 142, .pure (.faddr 0), [.t 11], none⟩,
 ⟨some 143, .read (.load none), [.t 142], none⟩,
 ⟨some 144, .pcall 124, [.t 143], none⟩,
 ⟨some 145, .pure (.faddr 1), [.t 11], none⟩,
 ⟨some 146, .read (.load none), [.t 145], none⟩,
 ⟨some 147, .pcall 569, [.t 146], none⟩,
 ⟨some 148, .pure (.faddr 2), [.t 11], none⟩,
 ⟨some 149, .read (.load (some 15)), [.t 148], none⟩,
 ⟨some 150, .pcall 525, [.t 149], none⟩,
 ⟨some 151, .newAt 0 (.buildSlice 13 [.agg [.int .i64 0, .bool false, .bool false, .str [], .int .i64 0, .int .i64 0, .int .i64 0, .int .i64 0, .int .i64 0, .str [], .snil 1, .snil 13, .snil 14], .agg [.int .i64 0, .bool false, .bool false, .str [], .int .i64 0, .int .i64 0, .int .i64 0, .int .i64 0, .int .i64 0, .str [], .snil 1, .snil 13, .snil 14], .agg [.int .i64 0, .bool false, .bool false, .str [], .int .i64 0, .int .i64 0, .int .i64 0, .int .i64 0, .int .i64 0, .str [], .snil 1, .snil 13, .snil 14]] [0, 1, 2]), [.t 144, .t 147, .t 150], none⟩,
 ⟨some 152, .pcall 572, [.t 151], none⟩,
 ⟨some 153, .pure .lenL, [.t 141], none⟩,
 ⟨some 154, .newAt 1 (.buildSlice 13 [.agg [.int .i64 0, .bool false, .bool false, .str [], .int .i64 0, .int .i64 0, .int .i64 0, .int .i64 0, .int .i64 0, .str [], .snil 1, .snil 13, .snil 14]] [0]), [.c (.agg [.int .i64 0, .bool false, .bool false, .str [], .int .i64 0, .int .i64 0, .int .i64 0, .int .i64 0, .int .i64 0, .str [], .snil 1, .snil 13, .snil 14])], none⟩,
 ⟨some 155, .eff (.append 13 168), [.t 141, .t 154], none⟩,
 ⟨some 156, .pure (.iaddrS 13), [.t 155, .t 153], none⟩,
 ⟨some 157, .pure (.faddr 11), [.t 3], none⟩,
 ⟨none, .eff (.store 13), [.t 156, .t 152], none⟩,
 ⟨none, .eff (.store 1), [.t 157, .t 155], none⟩],
 [⟨some 140, .pure (.faddr 11), [.t 3], none⟩,
 ⟨some 141, .read (.load none), [.t 140], none⟩,
 ⟨some 142, .pure (.faddr 0), [.t 11], none⟩,
 ⟨some 143, .read (.load none), [.t 142], none⟩,
 ⟨some 144, .pcall 124, [.t 143], none⟩,
 ⟨some 145, .pure (.faddr 1), [.t 11], none⟩,
 ⟨some 146, .read (.load none), [.t 145], none⟩,
 ⟨some 147, .pcall 569, [.t 146], none⟩,
 ⟨some 148, .pure (.faddr 2), [.t 11], none⟩,
 ⟨some 149, .read (.load (some 15)), [.t 148], none⟩,
 ⟨some 150, .pcall 525, [.t 149], none⟩,
 ⟨some 151, .newAt 0 (.buildSlice 13 [.agg [.int .i64 0, .bool false, .bool false, .str [], .int .i64 0, .int .i64 0, .int .i64 0, .int .i64 0, .int .i64 0, .str [], .snil 1, .snil 13, .snil 14], .agg [.int .i64 0, .bool false, .bool false, .str [], .int .i64 0, .int .i64 0, .int .i64 0, .int .i64 0, .int .i64 0, .str [], .snil 1, .snil 13, .snil 14], .agg [.int .i64 0, .bool false, .bool false, .str [], .int .i64 0, .int .i64 0, .int .i64 0, .int .i64 0, .int .i64 0, .str [], .snil 1, .snil 13, .snil 14]] [0, 1, 2]), [.t 144, .t 147, .t 150], none⟩,
 ⟨some 152, .pcall 572, [.t 151], none⟩,
 ⟨some 153, .pure .lenL, [.t 141], none⟩,
 ⟨some 154, .newAt 1 (.buildSlice 13 [.agg [.int .i64 0, .bool false, .bool false, .str [], .int .i64 0, .int .i64 0, .int .i64 0, .int .i64 0, .int .i64 0, .str [], .snil 1, .snil 13, .snil 14]] [0]), [.c (.agg [.int .i64 0, .bool false, .bool false, .str [], .int .i64 0, .int .i64 0, .int .i64 0, .int .i64 0, .int .i64 0, .str [], .snil 1, .snil 13, .snil 14])], none⟩,
 ⟨some 155, .eff (.append 13 168), [.t 141, .t 154], none⟩,
 ⟨some 156, .pure (.iaddrS 13), [.t 155, .t 153], none⟩,
 ⟨some 157, .pure (.faddr 11), [.t 3], none⟩,
 ⟨none, .eff (.store 1), [.t 157, .t 155], none⟩,
 ⟨none, .eff (.store 13), [.t 156, .t 152], none⟩]])))
 (.ops [⟨some 158, .pure (.bin .add), [.t 136, .c (.int .i64 1)], none⟩,
 ⟨some 136, .pure .move, [.t 158], none⟩])))))))
 (.seq (.draw 1 [[⟨some 159, .read (.load (some 13)), [.t 3], none⟩,
 ⟨some 160, .pure (.faddr 14), [.t 1], none⟩,
 ⟨some 161, .read (.load none), [.t 160], none⟩,
 ⟨some 162, .pure (.iaddrS 15), [.t 161, .c (.int .i64 0)], none⟩,
 ⟨some 163, .read (.load (some 15)), [.t 162], none⟩,
 ⟨some 164, .pcall 525, [.t 163], none⟩,
 ⟨some 165, .newAt 0 (.buildSlice 13 [.agg [.int .i64 0, .bool false, .bool false, .str [], .int .i64 0, .int .i64 0, .int .i64 0, .int .i64 0, .int .i64 0, .str [], .snil 1, .snil 13, .snil 14], .agg [.int .i64 0, .bool false, .bool false, .str [], .int .i64 0, .int .i64 0, .int .i64 0, .int .i64 0, .int .i64 0, .str [], .snil 1, .snil 13, .snil 14]] [0, 1]), [.t 159, .t 164], none⟩,
 ⟨some 166, .pcall 572, [.t 165], none⟩,
 ⟨some 167, .pcall 570, [.c (.str [109, 97, 112]), .t 166], none⟩,
 ⟨none, .eff (.store 13), [.t 2, .t 167], none⟩]])
 .ret))
 (.seq (.ops [⟨some 169, .pure (.bin .eql), [.t 15, .c (.int .i64 11)], none⟩,
 ⟨some 168, .pure .move, [.t 169], none⟩])
 (.cond (.t 168)
 (.seq (.ops [⟨some 170, .pure .move, [.t 4], none⟩,
 ⟨some 171, .pure (.faddr 14), [.t 1], none⟩,
 ⟨some 172, .read (.load none), [.t 171], none⟩,
 ⟨some 173, .callv, [.t 170, .t 172], none⟩,
 ⟨some 174, .pcall 570, [.c (.str [97, 108, 108]), .t 173], none⟩,
 ⟨none, .eff (.store 13), [.t 2, .t 174], none⟩])
 .ret)
 (.seq (.ops [⟨some 176, .pure (.bin .eql), [.t 15, .c (.int .i64 12)], none⟩,
 ⟨some 175, .pure .move, [.t 176], none⟩])
 (.cond (.t 175)
 (.seq (.ops [⟨some 177, .pure .move, [.t 4], none⟩,
 ⟨some 178, .pure (.faddr 14), [.t 1], none⟩,
 ⟨some 179, .read (.load none), [.t 178], none⟩,
 ⟨some 180, .callv, [.t 177, .t 179], none⟩,
 ⟨some 181, .pcall 570, [.c (.str [97, 110, 121]), .t 180], none⟩,
 ⟨none, .eff (.store 13), [.t 2, .t 181], none⟩])
 .ret)
 (.seq (.ops [⟨some 183, .pure (.bin .eql), [.t 15, .c (.int .i64 13)], none⟩,
 ⟨some 182, .pure .move, [.t 183], none⟩])
 (.cond (.t 182)
 (.seq (.ops [⟨some 184, .pure (.faddr 14), [.t 1], none⟩,
 ⟨some 185, .read (.load none), [.t 184], none⟩,
 ⟨some 186, .pure (.iaddrS 15), [.t 185, .c (.int .i64 0)], none⟩,
 ⟨some 187, .read (.load (some 15)), [.t 186], none⟩,
 ⟨some 188, .pcall 525, [.t 187], none⟩,
 ⟨some 189, .pcall 570, [.c (.str [110, 111, 116]), .t 188], none⟩,
 ⟨none, .eff (.store 13), [.t 2, .t 189], none⟩])
 .ret)
 .skip))))))))))))))))))))))))))
 (.seq (.ops [⟨some 190, .pure (.faddr 4), [.t 1], none⟩,
 ⟨some 191, .read (.load none), [.t 190], none⟩,
 ⟨some 192, .pcall 124, [.t 191], none⟩,
 ⟨some 193, .pcall 570, [.c (.str [114, 101, 102]), .t 192], none⟩,
 ⟨none, .eff (.store 13), [.t 2, .t 193], none⟩])
 .ret))))) }
/-- datakit/datakitref07.List -/
def ac529 : AFn :=
 { nt := 5, res := [.cell 2 (some 13)], body :=
 (.seq (.ops [⟨some 2, .new (.new 13 [.agg [.int .i64 0, .bool false, .bool false, .str [], .int .i64 0, .int .i64 0, .int .i64 0, .int .i64 0, .int .i64 0, .str [], .snil 1, .snil 13, .snil 14]]), [], none⟩])
 (.seq (.ops [⟨some 3, .pure .move, [.t 0], none⟩,
 ⟨some 4, .pure (.build [.int .i64 0, .bool false, .bool false, .str [], .int .i64 0, .int .i64 0, .int .i64 0, .int .i64 0, .int .i64 0, .str [], .snil 1, .snil 13, .snil 14] [(0, 1), (11, 1)]), [.c (.int .i64 6), .t 3], none⟩,
 ⟨none, .eff (.store 13), [.t 2, .t 4], none⟩])
 .ret)) }
/-- datakit/schema.read$1 -/
def ac533 : AFn :=
 { nt := 25, res := [.cell 3 (some 15)], body :=
 (.seq (.ops [⟨some 3, .new (.new 15 [.agg [.int .i64 0, .int .i64 0, .int .i64 0, .int .i64 0, .str [], .snil 11, .int .i64 0, .int .i64 0, .int .i64 0, .int .i64 0, .int .i64 0, .snil 6, .snil 13, .snil 17, .snil 15]]), [], none⟩])
 (.seq (.ops [⟨some 7, .pure .move, [.t 0], none⟩,
 ⟨some 8, .pure (.build [.int .i64 0, .int .i64 0, .int .i64 0, .int .i64 0, .str [], .snil 11, .int .i64 0, .int .i64 0, .int .i64 0, .int .i64 0, .int .i64 0, .snil 6, .snil 13, .snil 17, .snil 15] [(0, 1)]), [.t 7], none⟩,
 ⟨some 4, .new (.new 15 [.agg [.int .i64 0, .int .i64 0, .int .i64 0, .int .i64 0, .str [], .snil 11, .int .i64 0, .int .i64 0, .int .i64 0, .int .i64 0, .int .i64 0, .snil 6, .snil 13, .snil 17, .snil 15]]), [], none⟩,
 ⟨none, .eff (.store 15), [.t 4, .t 8], none⟩])
 (.seq (.seq (.ops [⟨some 9, .pure (.faddr 11), [.t 1], none⟩,
 ⟨some 10, .read (.load none), [.t 9], none⟩,
 ⟨some 11, .pure .lenL, [.t 10], none⟩,
 ⟨some 12, .pure .move, [.c (.int .i64 0)], none⟩])
 (.block 0
 (.loop [3, 4, 10, 11, 12]
 (.seq (.ops [⟨some 13, .pure (.bin .lss), [.t 12, .t 11], none⟩])
 (.seq (.cond (.t 13)
 .skip
 (.exit 0))
 (.seq (.block 1
 (.seq (.ops [⟨some 14, .pure (.iaddrS 13), [.t 10, .t 12], none⟩,
 ⟨some 15, .read (.load (some 13)), [.t 14], none⟩,
 ⟨some 6, .new (.new 13 [.agg [.int .i64 0, .bool false, .bool false, .str [], .int .i64 0, .int .i64 0, .int .i64 0, .int .i64 0, .int .i64 0, .str [], .snil 1, .snil 13, .snil 14]]), [], none⟩,
 ⟨none, .eff (.store 13), [.t 6, .t 15], none⟩])
 (.draw 1 [[⟨some 16, .pure (.faddr 14), [.t 4], none⟩,
 ⟨some 17, .read (.load none), [.t 16], none⟩,
 ⟨some 18, .read (.load (some 13)), [.t 6], none⟩,
 ⟨some 19, .pcall 497, [.t 18], none⟩,
 ⟨some 20, .newAt 0 (.buildSlice 15 [.agg [.int .i64 0, .int .i64 0, .int .i64 0, .int .i64 0, .str [], .snil 11, .int .i64 0, .int .i64 0, .int .i64 0, .int .i64 0, .int .i64 0, .snil 6, .snil 13, .snil 17, .snil 15]] [0]), [.t 19], none⟩,
 ⟨some 21, .eff (.append 15 208), [.t 17, .t 20], none⟩,
 ⟨some 22, .pure (.faddr 14), [.t 4], none⟩,
 ⟨none, .eff (.store 1), [.t 22, .t 21], none⟩]])))
 (.ops [⟨some 23, .pure (.bin .add), [.t 12, .c (.int .i64 1)], none⟩,
 ⟨some 12, .pure .move, [.t 23], none⟩])))))))
 (.seq (.ops [⟨some 24, .read (.load (some 15)), [.t 4], none⟩,
 ⟨none, .eff (.store 15), [.t 3, .t 24], none⟩])
 .ret)))) }
/-- datakit/value.Name -/
def ac534 : AFn :=
 { nt := 14, res := [.tmp 2], body :=
 (.seq (.ops [⟨some 2, .pure .move, [.c (.str [])], none⟩])
 (.seq (.ops [⟨some 4, .pure (.build [.str [], .str [], .str [], .str [], .str [], .str [], .str [], .str []] [(0, 1), (1, 1), (2, 1), (3, 1), (4, 1), (5, 1), (6, 1), (7, 1)]), [.c (.str [110, 117, 108, 108]), .c (.str [98, 111, 111, 108]), .c (.str [110, 117, 109, 98, 101, 114]), .c (.str [116, 105, 109, 101]), .c (.str [115, 116, 114, 105, 110, 103]), .c (.str [98, 105, 110, 97, 114, 121]), .c (.str [108, 105, 115, 116]), .c (.str [109, 97, 112])], none⟩,
 ⟨some 3, .new (.new 1 [.str [], .str [], .str [], .str [], .str [], .str [], .str [], .str []]), [], none⟩,
 ⟨none, .eff (.store 8), [.t 3, .t 4], none⟩])
 (.seq (.seq (.ops [⟨some 5, .pure .move, [.t 0], none⟩,
 ⟨some 6, .pure (.bin .lss), [.t 5, .c (.int .i64 0)], none⟩,
 ⟨some 7, .pure .move, [.t 6], none⟩,
 ⟨some 8, .pure .move, [.t 0], some (7, false)⟩,
 ⟨some 9, .pure (.bin .geq), [.t 8, .c (.int .i64 8)], some (7, false)⟩,
 ⟨some 10, .pure .pick, [.t 7, .c (.bool true), .t 9], none⟩])
 (.cond (.t 10)
 (.seq (.ops [⟨some 2, .pure .move, [.c (.str [])], none⟩])
 .ret)
 .skip))
 (.seq (.ops [⟨some 11, .pure .move, [.t 0], none⟩,
 ⟨some 12, .pure (.iaddrA 8 1), [.t 3, .t 11], none⟩,
 ⟨some 13, .read (.load none), [.t 12], none⟩,
 ⟨some 2, .pure .move, [.t 13], none⟩])
 .ret)))) }
/-- datakit/schema.readPart -/
def ac535 : AFn :=
 { nt := 48, res := [.cell 2 (some 11)], body :=
 (.seq (.ops [⟨some 1, .new (.box 13), [.t 0], none⟩,
 ⟨some 2, .new (.new 11 [.agg [.bool false, .bool false, .str [], .int .i64 0, .bool false, .bool false, .bool false, .str [], .int .i64 0, .bool false, .int .i64 0]]), [], none⟩])
 (.seq (.ops [⟨some 3, .new (.new 11 [.agg [.bool false, .bool false, .str [], .int .i64 0, .bool false, .bool false, .bool false, .str [], .int .i64 0, .bool false, .int .i64 0]]), [], none⟩])
 (.seq (.seq (.ops [⟨some 7, .pure (.faddr 12), [.t 1], none⟩,
 ⟨some 8, .read (.load none), [.t 7], none⟩,
 ⟨some 9, .pure .lenL, [.t 8], none⟩,
 ⟨some 10, .pure .move, [.c (.int .i64 0)], none⟩])
 (.block 0
 (.loop [2, 3, 8, 9, 10]
 (.seq (.ops [⟨some 11, .pure (.bin .lss), [.t 10, .t 9], none⟩])
 (.seq (.cond (.t 11)
 .skip
 (.exit 0))
 (.seq (.block 1
 (.seq (.ops [⟨some 12, .pure (.iaddrS 14), [.t 8, .t 10], none⟩,
 ⟨some 13, .read (.load (some 14)), [.t 12], none⟩,
 ⟨some 5, .new (.new 14 [.agg [.str [], .int .i64 0, .bool false, .bool false, .str [], .int .i64 0, .int .i64 0, .int .i64 0, .int .i64 0, .int .i64 0, .str [], .snil 1, .snil 13, .snil 14]]), [], none⟩,
 ⟨none, .eff (.store 14), [.t 5, .t 13], none⟩])
 (.seq (.ops [⟨some 14, .pure (.faddr 1), [.t 5], none⟩,
 ⟨some 15, .pure (.faddr 2), [.t 14], none⟩,
 ⟨some 16, .read (.load (some 3)), [.t 15], none⟩,
 ⟨some 17, .pure (.faddr 0), [.t 5], none⟩,
 ⟨some 18, .read (.load none), [.t 17], none⟩,
 ⟨some 19, .pure (.bin .eql), [.t 18, .c (.str [97, 98, 111, 118, 101])], none⟩,
 ⟨some 20, .pure .move, [.t 19], none⟩,
 ⟨some 21, .pure (.faddr 0), [.t 5], some (20, false)⟩,
 ⟨some 22, .read (.load none), [.t 21], some (20, false)⟩,
 ⟨some 23, .pure (.bin .eql), [.t 22, .c (.str [98, 101, 108, 111, 119])], some (20, false)⟩,
 ⟨some 24, .pure .pick, [.t 20, .c (.bool true), .t 23], none⟩,
 ⟨some 25, .pure (.build [.bool false, .bool false, .str [], .int .i64 0, .bool false] [(0, 1), (1, 3), (4, 1)]), [.c (.bool true), .t 16, .t 24], none⟩,
 ⟨some 6, .new (.new 5 [.agg [.bool false, .bool false, .str [], .int .i64 0, .bool false]]), [], none⟩,
 ⟨none, .eff (.store 5), [.t 6, .t 25], none⟩])
 (.seq (.ops [⟨some 26, .pure (.faddr 0), [.t 5], none⟩,
 ⟨some 27, .read (.load none), [.t 26], none⟩])
 (.block 2
 (.seq (.seq (.ops [⟨some 29, .pure (.bin .eql), [.t 27, .c (.str [102, 114, 111, 109])], none⟩,
 ⟨some 28, .pure .move, [.t 29], none⟩])
 (.cond (.t 28)
 .skip
 (.ops [⟨some 30, .pure (.bin .eql), [.t 27, .c (.str [97, 98, 111, 118, 101])], none⟩,
 ⟨some 28, .pure .move, [.t 30], none⟩])))
 (.cond (.t 28)
 (.ops [⟨some 31, .read (.load (some 5)), [.t 6], none⟩,
 ⟨some 32, .pure (.faddr 0), [.t 3], none⟩,
 ⟨none, .eff (.store 5), [.t 32, .t 31], none⟩])
 (.seq (.seq (.ops [⟨some 34, .pure (.bin .eql), [.t 27, .c (.str [116, 111])], none⟩,
 ⟨some 33, .pure .move, [.t 34], none⟩])
 (.cond (.t 33)
 .skip
 (.ops [⟨some 35, .pure (.bin .eql), [.t 27, .c (.str [98, 101, 108, 111, 119])], none⟩,
 ⟨some 33, .pure .move, [.t 35], none⟩])))
 (.cond (.t 33)
 (.ops [⟨some 36, .read (.load (some 5)), [.t 6], none⟩,
 ⟨some 37, .pure (.faddr 5), [.t 3], none⟩,
 ⟨none, .eff (.store 5), [.t 37, .t 36], none⟩])
 (.seq (.ops [⟨some 39, .pure (.bin .eql), [.t 27, .c (.str [115, 111, 114, 116])], none⟩,
 ⟨some 38, .pure .move, [.t 39], none⟩])
 (.cond (.t 38)
 (.seq (.ops [⟨some 40, .pure (.faddr 10), [.t 3], none⟩,
 ⟨none, .eff (.store 1), [.t 40, .c (.int .i64 1)], none⟩])
 (.seq (.ops [⟨some 41, .pure (.faddr 1), [.t 5], none⟩,
 ⟨some 42, .pure (.faddr 9), [.t 41], none⟩,
 ⟨some 43, .read (.load none), [.t 42], none⟩,
 ⟨some 44, .pure (.bin .eql), [.t 43, .c (.str [102, 114, 97, 99, 116, 105, 111, 110])], none⟩])
 (.cond (.t 44)
 (.ops [⟨some 45, .pure (.faddr 10), [.t 3], none⟩,
 ⟨none, .eff (.store 1), [.t 45, .c (.int .i64 2)], none⟩])
 .skip)))
 .skip)))))))))))
 (.ops [⟨some 46, .pure (.bin .add), [.t 10, .c (.int .i64 1)], none⟩,
 ⟨some 10, .pure .move, [.t 46], none⟩])))))))
 (.seq (.ops [⟨some 47, .read (.load (some 11)), [.t 3], none⟩,
 ⟨none, .eff (.store 11), [.t 2, .t 47], none⟩])
 .ret)))) }
/-- datakit/schema.number -/
def ac536 : AFn :=
 { nt := 53, res := [.tmp 2], body :=
 (.seq (.ops [⟨some 1, .new (.box 13), [.t 0], none⟩,
 ⟨some 2, .pure .move, [.c (.int .i64 0)], none⟩])
 (.seq (.ops [⟨some 6, .pure (.faddr 2), [.t 1], none⟩,
 ⟨some 7, .read (.load (some 3)), [.t 6], none⟩,
 ⟨some 3, .new (.new 3 [.agg [.bool false, .str [], .int .i64 0]]), [], none⟩,
 ⟨none, .eff (.store 3), [.t 3, .t 7], none⟩])
 (.seq (.seq (.ops [⟨some 8, .pure (.faddr 0), [.t 1], none⟩,
 ⟨some 9, .read (.load none), [.t 8], none⟩,
 ⟨some 10, .pure (.bin .neq), [.t 9, .c (.int .i64 2)], none⟩,
 ⟨some 11, .pure .move, [.t 10], none⟩,
 ⟨some 12, .pure (.faddr 0), [.t 3], some (11, false)⟩,
 ⟨some 13, .read (.load none), [.t 12], some (11, false)⟩,
 ⟨some 14, .pure .pick, [.t 11, .c (.bool true), .t 13], none⟩,
 ⟨some 15, .pure .move, [.t 14], none⟩,
 ⟨some 16, .pure (.faddr 2), [.t 3], some (15, false)⟩,
 ⟨some 17, .read (.load none), [.t 16], some (15, false)⟩,
 ⟨some 18, .pure (.bin .lss), [.t 17, .c (.int .i64 0)], some (15, false)⟩,
 ⟨some 19, .pure .pick, [.t 15, .c (.bool true), .t 18], none⟩,
 ⟨some 20, .pure .move, [.t 19], none⟩,
 ⟨some 21, .pure (.faddr 2), [.t 3], some (20, false)⟩,
 ⟨some 22, .read (.load none), [.t 21], some (20, false)⟩,
 ⟨some 23, .pure (.faddr 1), [.t 3], some (20, false)⟩,
 ⟨some 24, .read (.load none), [.t 23], some (20, false)⟩,
 ⟨some 25, .pure .lenS, [.t 24], some (20, false)⟩,
 ⟨some 26, .pure (.bin .add), [.t 22, .t 25], some (20, false)⟩,
 ⟨some 27, .pure (.bin .gtr), [.t 26, .c (.int .i64 9)], some (20, false)⟩,
 ⟨some 28, .pure .pick, [.t 20, .c (.bool true), .t 27], none⟩])
 (.cond (.t 28)
 (.seq (.ops [⟨some 2, .pure .move, [.c (.int .i64 (-1))], none⟩])
 .ret)
 .skip))
 (.seq (.ops [⟨some 4, .pure .move, [.c (.int .i64 0)], none⟩])
 (.seq (.seq (.ops [⟨some 29, .pure (.faddr 1), [.t 3], none⟩,
 ⟨some 30, .read (.load none), [.t 29], none⟩,
 ⟨some 31, .pure .lenS, [.t 30], none⟩,
 ⟨some 32, .pure .move, [.c (.int .i64 0)], none⟩])
 (.block 0
 (.loop [3, 4, 31, 32]
 (.seq (.ops [⟨some 33, .pure (.bin .lss), [.t 32, .t 31], none⟩])
 (.seq (.cond (.t 33)
 .skip
 (.exit 0))
 (.seq (.block 1
 (.seq (.ops [⟨some 34, .pure .move, [.t 32], none⟩,
 ⟨some 5, .pure .move, [.t 34], none⟩])
 (.ops [⟨some 35, .pure .move, [.t 4], none⟩,
 ⟨some 36, .pure (.bin .mul), [.t 35, .c (.int .i64 10)], none⟩,
 ⟨some 37, .pure (.faddr 1), [.t 3], none⟩,
 ⟨some 38, .read (.load none), [.t 37], none⟩,
 ⟨some 39, .pure .move, [.t 5], none⟩,
 ⟨some 40, .pure .idxStr, [.t 38, .t 39], none⟩,
 ⟨some 41, .pure (.bin .sub), [.t 40, .c (.int .u8 48)], none⟩,
 ⟨some 42, .pure (.conv .i64), [.t 41], none⟩,
 ⟨some 43, .pure (.bin .add), [.t 36, .t 42], none⟩,
 ⟨some 4, .pure .move, [.t 43], none⟩])))
 (.ops [⟨some 44, .pure (.bin .add), [.t 32, .c (.int .i64 1)], none⟩,
 ⟨some 32, .pure .move, [.t 44], none⟩])))))))
 (.seq (.seq (.ops [⟨some 45, .pure (.faddr 2), [.t 3], none⟩,
 ⟨some 46, .read (.load none), [.t 45], none⟩,
 ⟨some 47, .pure .move, [.c (.int .i64 0)], none⟩])
 (.block 2
 (.loop [4, 46, 47]
 (.seq (.ops [⟨some 48, .pure (.bin .lss), [.t 47, .t 46], none⟩])
 (.seq (.cond (.t 48)
 .skip
 (.exit 2))
 (.seq (.block 3
 (.ops [⟨some 49, .pure .move, [.t 4], none⟩,
 ⟨some 50, .pure (.bin .mul), [.t 49, .c (.int .i64 10)], none⟩,
 ⟨some 4, .pure .move, [.t 50], none⟩]))
 (.ops [⟨some 51, .pure (.bin .add), [.t 47, .c (.int .i64 1)], none⟩,
 ⟨some 47, .pure .move, [.t 51], none⟩])))))))
 (.seq (.ops [⟨some 52, .pure .move, [.t 4], none⟩,
 ⟨some 2, .pure .move, [.t 52], none⟩])
 .ret))))))) }
/-- datakit/schema.at -/
def ac537 : AFn :=
 { nt := 16, res := [.cell 4 (some 13)], body :=
 (.seq (.ops [⟨some 2, .new (.box 13), [.t 0], none⟩,
 ⟨some 4, .new (.new 13 [.agg [.int .i64 0, .bool false, .bool false, .str [], .int .i64 0, .int .i64 0, .int .i64 0, .int .i64 0, .int .i64 0, .str [], .snil 1, .snil 13, .snil 14]]), [], none⟩])
 (.seq (.seq (.ops [⟨some 5, .pure .move, [.t 1], none⟩,
 ⟨some 6, .pure (.faddr 11), [.t 2], none⟩,
 ⟨some 7, .read (.load none), [.t 6], none⟩,
 ⟨some 8, .pure .lenL, [.t 7], none⟩,
 ⟨some 9, .pure (.bin .geq), [.t 5, .t 8], none⟩])
 (.cond (.t 9)
 (.seq (.ops [⟨some 10, .pure (.build [.int .i64 0, .bool false, .bool false, .str [], .int .i64 0, .int .i64 0, .int .i64 0, .int .i64 0, .int .i64 0, .str [], .snil 1, .snil 13, .snil 14] []), [], none⟩,
 ⟨none, .eff (.store 13), [.t 4, .t 10], none⟩])
 .ret)
 .skip))
 (.seq (.ops [⟨some 11, .pure (.faddr 11), [.t 2], none⟩,
 ⟨some 12, .read (.load none), [.t 11], none⟩,
 ⟨some 13, .pure .move, [.t 1], none⟩,
 ⟨some 14, .pure (.iaddrS 13), [.t 12, .t 13], none⟩,
 ⟨some 15, .read (.load (some 13)), [.t 14], none⟩,
 ⟨none, .eff (.store 13), [.t 4, .t 15], none⟩])
 .ret))) }
/-- datakit/regex.Parse -/
def ac538 : AFn :=
 { nt := 31, res := [.cell 2 (some 6), .cell 3 none], body :=
 (.seq (.ops [⟨some 2, .new (.new 6 [.agg [.int .i64 0, .int .i64 0, .int .i64 0, .int .i64 0, .int .i64 0, .snil 6]]), [], none⟩,
 ⟨some 3, .new (.new 1 [.int .i64 0]), [], none⟩])
 (.seq (.ops [⟨some 5, .pure (.mkfn 575), [.t 2, .t 3], none⟩,
 ⟨none, .bad, [], none⟩])
 (.seq (.ops [⟨some 6, .pure .move, [.t 0], none⟩,
 ⟨some 7, .pure (.build [.str [], .int .i64 0, .int .i64 0] [(0, 1)]), [.t 6], none⟩,
 ⟨some 8, .new (.box 3), [.t 7], none⟩,
 ⟨some 4, .pure .move, [.t 8], none⟩])
 (.seq (.ops [⟨some 9, .pure .move, [.t 4], none⟩,
 ⟨some 10, .call 576, [.t 9, .c (.int .i64 1)], none⟩,
 ⟨none, .eff (.store 6), [.t 2, .t 10], none⟩])
 (.seq (.seq (.ops [⟨some 11, .pure .move, [.t 4], none⟩,
 ⟨some 12, .pure .chk, [.t 11], none⟩,
 ⟨some 13, .pure (.faddr 1), [.t 12], none⟩,
 ⟨some 14, .read (.load none), [.t 13], none⟩,
 ⟨some 15, .pure .move, [.t 0], none⟩,
 ⟨some 16, .pure .lenS, [.t 15], none⟩,
 ⟨some 17, .pure (.bin .lss), [.t 14, .t 16], none⟩,
 ⟨some 18, .pure .move, [.t 17], none⟩,
 ⟨some 19, .read (.load (some 6)), [.t 2], some (18, false)⟩,
 ⟨some 20, .pcall 574, [.t 19], some (18, false)⟩,
 ⟨some 21, .pure .move, [.t 0], some (18, false)⟩,
 ⟨some 22, .pure (.bin .neq), [.t 20, .t 21], some (18, false)⟩,
 ⟨some 23, .pure .pick, [.t 18, .c (.bool true), .t 22], none⟩,
 ⟨some 24, .pure .move, [.t 23], none⟩,
 ⟨some 25, .pure .move, [.t 0], some (24, false)⟩,
 ⟨some 26, .pure (.bin .eql), [.t 25, .c (.str [])], some (24, false)⟩,
 ⟨some 27, .pure .pick, [.t 24, .c (.bool true), .t 26], none⟩])
 (.cond (.t 27)
 (.ops [⟨some 28, .pure (.build [] []), [], none⟩,
 ⟨some 29, .pure (.mkifc 149), [.t 28], none⟩,
 ⟨none, .bad, [], none⟩])
 .skip))
 (.seq (.ops [⟨some 30, .read (.load (some 6)), [.t 2], none⟩,
 ⟨none, .eff (.store 6), [.t 2, .t 30], none⟩,
 ⟨none, .eff (.store 1), [.t 3, .c (.int .i64 0)], none⟩])
 .ret)))))) }
/-- datakit/datakitlaw45.node -/
def ac560 : AFn :=
 { nt := 47, res := [.tmp 2], body :=
 (.seq (.ops [⟨some 1, .new (.box 15), [.t 0], none⟩,
 ⟨some 2, .pure .move, [.c (.bool false)], none⟩])
 (.seq (.seq (.ops [⟨some 4, .pure (.faddr 12), [.t 1], none⟩,
 ⟨some 5, .read (.load none), [.t 4], none⟩,
 ⟨some 6, .pure .lenL, [.t 5], none⟩,
 ⟨some 7, .pure (.bin .gtr), [.t 6, .c (.int .i64 300)], none⟩,
 ⟨some 8, .pure .move, [.t 7], none⟩,
 ⟨some 9, .pure (.faddr 13), [.t 1], some (8, false)⟩,
 ⟨some 10, .read (.load none), [.t 9], some (8, false)⟩,
 ⟨some 11, .pure .lenL, [.t 10], some (8, false)⟩,
 ⟨some 12, .pure (.bin .gtr), [.t 11, .c (.int .i64 300)], some (8, false)⟩,
 ⟨some 13, .pure .pick, [.t 8, .c (.bool true), .t 12], none⟩,
 ⟨some 14, .pure .move, [.t 13], none⟩,
 ⟨some 15, .pure (.faddr 14), [.t 1], some (14, false)⟩,
 ⟨some 16, .read (.load none), [.t 15], some (14, false)⟩,
 ⟨some 17, .pure .lenL, [.t 16], some (14, false)⟩,
 ⟨some 18, .pure (.bin .gtr), [.t 17, .c (.int .i64 300)], some (14, false)⟩,
 ⟨some 19, .pure .pick, [.t 14, .c (.bool true), .t 18], none⟩,
 ⟨some 20, .pure .move, [.t 19], none⟩,
 ⟨some 21, .pure (.faddr 5), [.t 1], some (20, false)⟩,
 ⟨some 22, .pure (.faddr 0), [.t 21], some (20, false)⟩,
 ⟨some 23, .read (.load none), [.t 22], some (20, false)⟩,
 ⟨some 24, .pure .lenL, [.t 23], some (20, false)⟩,
 ⟨some 25, .pure (.bin .gtr), [.t 24, .c (.int .i64 300)], some (20, false)⟩,
 ⟨some 26, .pure .pick, [.t 20, .c (.bool true), .t 25], none⟩,
 ⟨some 27, .pure .move, [.t 26], none⟩,
 ⟨some 28, .pure (.faddr 6), [.t 1], some (27, false)⟩,
 ⟨some 29, .read (.load (some 6)), [.t 28], some (27, false)⟩,
 ⟨some 30, .pcall 357, [.t 29], some (27, false)⟩,
 ⟨some 31, .pure (.bin .gtr), [.t 30, .c (.int .i64 600)], some (27, false)⟩,
 ⟨some 32, .pure .pick, [.t 27, .c (.bool true), .t 31], none⟩])
 (.cond (.t 32)
 (.seq (.ops [⟨some 2, .pure .move, [.c (.bool false)], none⟩])
 .ret)
 .skip))
 (.seq (.seq (.ops [⟨some 3, .pure .move, [.c (.int .i64 0)], none⟩])
 (.block 0
 (.loop [1, 3]
 (.seq (.seq (.ops [⟨some 33, .pure .move, [.t 3], none⟩,
 ⟨some 34, .pure (.faddr 12), [.t 1], none⟩,
 ⟨some 35, .read (.load none), [.t 34], none⟩,
 ⟨some 36, .pure .lenL, [.t 35], none⟩,
 ⟨some 37, .pure (.bin .lss), [.t 33, .t 36], none⟩])
 (.cond (.t 37)
 .skip
 (.exit 0)))
 (.seq (.block 1
 (.seq (.ops [⟨some 40, .pure (.faddr 12), [.t 1], none⟩,
 ⟨some 41, .read (.load none), [.t 40], none⟩,
 ⟨some 42, .pure .move, [.t 3], none⟩,
 ⟨some 43, .pure (.iaddrS 13), [.t 41, .t 42], none⟩,
 ⟨some 44, .read (.load (some 13)), [.t 43], none⟩,
 ⟨some 45, .pcall 18, [.t 44, .c (.int .i64 20), .c (.int .i64 5)], none⟩,
 ⟨some 46, .pure (.un .not), [.t 45], none⟩])
 (.cond (.t 46)
 (.seq (.ops [⟨some 2, .pure .move, [.c (.bool false)], none⟩])
 .ret)
 .skip)))
 (.ops [⟨some 38, .pure .move, [.t 3], none⟩,
 ⟨some 39, .pure (.bin .add), [.t 38, .c (.int .i64 1)], none⟩,
 ⟨some 3, .pure .move, [.t 39], none⟩]))))))
 (.seq (.ops [⟨some 2, .pure .move, [.c (.bool true)], none⟩])
 .ret)))) }
/-- datakit/schema.form -/
def ac562 : AFn :=
 { nt := 165, res := [.tmp 2], body :=
 (.seq (.ops [⟨some 1, .new (.box 15), [.t 0], none⟩,
 ⟨some 2, .pure .move, [.c (.bool false)], none⟩])
 (.seq (.ops [⟨some 9, .read (.load (some 15)), [.t 1], none⟩,
 ⟨some 3, .new (.new 15 [.agg [.int .i64 0, .int .i64 0, .int .i64 0, .int .i64 0, .str [], .snil 11, .int .i64 0, .int .i64 0, .int .i64 0, .int .i64 0, .int .i64 0, .snil 6, .snil 13, .snil 17, .snil 15]]), [], none⟩,
 ⟨none, .eff (.store 15), [.t 3, .t 9], none⟩])
 (.seq (.ops [⟨some 10, .pure (.faddr 0), [.t 3], none⟩,
 ⟨none, .eff (.store 1), [.t 10, .c (.int .i64 0)], none⟩])
 (.seq (.seq (.ops [⟨some 11, .pure (.faddr 0), [.t 1], none⟩,
 ⟨some 12, .read (.load none), [.t 11], none⟩])
 (.block 0
 (.seq (.seq (.ops [⟨some 14, .pure (.bin .eql), [.t 12, .c (.int .i64 1)], none⟩,
 ⟨some 13, .pure .move, [.t 14], none⟩])
 (.cond (.t 13)
 .skip
 (.ops [⟨some 15, .pure (.bin .eql), [.t 12, .c (.int .i64 2)], none⟩,
 ⟨some 13, .pure .move, [.t 15], none⟩])))
 (.cond (.t 13)
 .skip
 (.seq (.ops [⟨some 17, .pure (.bin .eql), [.t 12, .c (.int .i64 3)], none⟩,
 ⟨some 16, .pure .move, [.t 17], none⟩])
 (.cond (.t 16)
 (.seq (.ops [⟨some 18, .pure (.faddr 1), [.t 3], none⟩,
 ⟨none, .eff (.store 1), [.t 18, .c (.int .i64 0)], none⟩])
 (.seq (.ops [⟨some 19, .pure (.faddr 1), [.t 1], none⟩,
 ⟨some 20, .read (.load none), [.t 19], none⟩,
 ⟨some 21, .pure (.bin .lss), [.t 20, .c (.int .i64 0)], none⟩,
 ⟨some 22, .pure .move, [.t 21], none⟩,
 ⟨some 23, .pure (.faddr 1), [.t 1], some (22, false)⟩,
 ⟨some 24, .read (.load none), [.t 23], some (22, false)⟩,
 ⟨some 25, .pure (.bin .gtr), [.t 24, .c (.int .i64 255)], some (22, false)⟩,
 ⟨some 26, .pure .pick, [.t 22, .c (.bool true), .t 25], none⟩])
 (.cond (.t 26)
 (.seq (.ops [⟨some 2, .pure .move, [.c (.bool false)], none⟩])
 .ret)
 .skip)))
 (.seq (.ops [⟨some 28, .pure (.bin .eql), [.t 12, .c (.int .i64 4)], none⟩,
 ⟨some 27, .pure .move, [.t 28], none⟩])
 (.cond (.t 27)
 (.seq (.ops [⟨some 29, .pure (.build [.snil 11] []), [], none⟩,
 ⟨some 30, .pure (.faddr 5), [.t 3], none⟩,
 ⟨none, .eff (.store 1), [.t 30, .t 29], none⟩])
 (.seq (.ops [⟨some 31, .pure (.faddr 5), [.t 1], none⟩,
 ⟨some 32, .read (.load (some 1)), [.t 31], none⟩,
 ⟨some 33, .pcall 229, [.t 32], none⟩,
 ⟨some 34, .pure (.un .not), [.t 33], none⟩])
 (.cond (.t 34)
 (.seq (.ops [⟨some 2, .pure .move, [.c (.bool false)], none⟩])
 .ret)
 .skip)))
 (.seq (.seq (.ops [⟨some 36, .pure (.bin .eql), [.t 12, .c (.int .i64 5)], none⟩,
 ⟨some 35, .pure .move, [.t 36], none⟩])
 (.cond (.t 35)
 .skip
 (.ops [⟨some 37, .pure (.bin .eql), [.t 12, .c (.int .i64 9)], none⟩,
 ⟨some 35, .pure .move, [.t 37], none⟩])))
 (.cond (.t 35)
 (.seq (.ops [⟨some 38, .pure (.faddr 2), [.t 3], none⟩,
 ⟨none, .eff (.store 1), [.t 38, .c (.int .i64 0)], none⟩,
 ⟨some 39, .pure (.faddr 3), [.t 3], none⟩,
 ⟨none, .eff (.store 1), [.t 39, .c (.int .i64 0)], none⟩])
 (.seq (.ops [⟨some 4, .pure .move, [.c (.int .i64 65536)], none⟩])
 (.seq (.seq (.ops [⟨some 40, .pure (.faddr 0), [.t 1], none⟩,
 ⟨some 41, .read (.load none), [.t 40], none⟩,
 ⟨some 42, .pure (.bin .eql), [.t 41, .c (.int .i64 9)], none⟩])
 (.cond (.t 42)
 (.seq (.ops [⟨some 43, .pure (.faddr 14), [.t 3], none⟩,
 ⟨none, .eff (.store 1), [.t 43, .c (.snil 15)], none⟩])
 (.ops [⟨some 4, .pure .move, [.c (.int .i64 65536)], none⟩]))
 .skip))
 (.seq (.ops [⟨some 44, .pure (.faddr 2), [.t 1], none⟩,
 ⟨some 45, .read (.load none), [.t 44], none⟩,
 ⟨some 46, .pure (.bin .lss), [.t 45, .c (.int .i64 0)], none⟩,
 ⟨some 47, .pure .move, [.t 46], none⟩,
 ⟨some 48, .pure (.faddr 2), [.t 1], some (47, false)⟩,
 ⟨some 49, .read (.load none), [.t 48], some (47, false)⟩,
 ⟨some 50, .pure .move, [.t 4], some (47, false)⟩,
 ⟨some 51, .pure (.bin .gtr), [.t 49, .t 50], some (47, false)⟩,
 ⟨some 52, .pure .pick, [.t 47, .c (.bool true), .t 51], none⟩,
 ⟨some 53, .pure .move, [.t 52], none⟩,
 ⟨some 54, .pure (.faddr 3), [.t 1], some (53, false)⟩,
 ⟨some 55, .read (.load none), [.t 54], some (53, false)⟩,
 ⟨some 56, .pure (.bin .neq), [.t 55, .c (.int .i64 (-1))], some (53, false)⟩,
 ⟨some 57, .pure .move, [.t 56], some (53, false)⟩,
 ⟨some 58, .pure (.faddr 3), [.t 1], some (57, true)⟩,
 ⟨some 59, .read (.load none), [.t 58], some (57, true)⟩,
 ⟨some 60, .pure (.faddr 2), [.t 1], some (57, true)⟩,
 ⟨some 61, .read (.load none), [.t 60], some (57, true)⟩,
 ⟨some 62, .pure (.bin .lss), [.t 59, .t 61], some (57, true)⟩,
 ⟨some 63, .pure .move, [.t 62], some (57, true)⟩,
 ⟨some 64, .pure (.faddr 3), [.t 1], some (63, false)⟩,
 ⟨some 65, .read (.load none), [.t 64], some (63, false)⟩,
 ⟨some 66, .pure .move, [.t 4], some (63, false)⟩,
 ⟨some 67, .pure (.bin .gtr), [.t 65, .t 66], some (63, false)⟩,
 ⟨some 68, .pure .pick, [.t 63, .c (.bool true), .t 67], some (57, true)⟩,
 ⟨some 69, .pure .pick, [.t 57, .t 68, .c (.bool false)], some (53, false)⟩,
 ⟨some 70, .pure .pick, [.t 53, .c (.bool true), .t 69], none⟩,
 ⟨some 71, .pure .move, [.t 70], none⟩,
 ⟨some 72, .pure (.faddr 0), [.t 1], some (71, false)⟩,
 ⟨some 73, .read (.load none), [.t 72], some (71, false)⟩,
 ⟨some 74, .pure (.bin .eql), [.t 73, .c (.int .i64 9)], some (71, false)⟩,
 ⟨some 75, .pure .move, [.t 74], some (71, false)⟩,
 ⟨some 76, .pure (.faddr 14), [.t 1], some (75, true)⟩,
 ⟨some 77, .read (.load none), [.t 76], some (75, true)⟩,
 ⟨some 78, .pure .lenL, [.t 77], some (75, true)⟩,
 ⟨some 79, .pure (.bin .neq), [.t 78, .c (.int .i64 1)], some (75, true)⟩,
 ⟨some 80, .pure .pick, [.t 75, .t 79, .c (.bool false)], some (71, false)⟩,
 ⟨some 81, .pure .pick, [.t 71, .c (.bool true), .t 80], none⟩])
 (.cond (.t 81)
 (.seq (.ops [⟨some 2, .pure .move, [.c (.bool false)], none⟩])
 .ret)
 .skip)))))
 (.seq (.ops [⟨some 83, .pure (.bin .eql), [.t 12, .c (.int .i64 6)], none⟩,
 ⟨some 82, .pure .move, [.t 83], none⟩])
 (.cond (.t 82)
 (.seq (.ops [⟨some 84, .pure (.build [.int .i64 0, .int .i64 0, .int .i64 0, .int .i64 0, .int .i64 0, .snil 6] []), [], none⟩,
 ⟨some 85, .pure (.faddr 6), [.t 3], none⟩,
 ⟨none, .eff (.store 6), [.t 85, .t 84], none⟩])
 (.seq (.ops [⟨some 86, .pure (.faddr 6), [.t 1], none⟩,
 ⟨some 87, .read (.load (some 6)), [.t 86], none⟩,
 ⟨some 88, .pcall 358, [.t 87], none⟩,
 ⟨some 89, .pure (.un .not), [.t 88], none⟩])
 (.cond (.t 89)
 (.seq (.ops [⟨some 2, .pure .move, [.c (.bool false)], none⟩])
 .ret)
 .skip)))
 (.seq (.seq (.ops [⟨some 91, .pure (.bin .eql), [.t 12, .c (.int .i64 7)], none⟩,
 ⟨some 90, .pure .move, [.t 91], none⟩])
 (.cond (.t 90)
 .skip
 (.ops [⟨some 92, .pure (.bin .eql), [.t 12, .c (.int .i64 14)], none⟩,
 ⟨some 90, .pure .move, [.t 92], none⟩])))
 (.cond (.t 90)
 (.ops [⟨some 93, .pure (.faddr 4), [.t 3], none⟩,
 ⟨none, .eff (.store 1), [.t 93, .c (.str [])], none⟩])
 (.seq (.ops [⟨some 95, .pure (.bin .eql), [.t 12, .c (.int .i64 8)], none⟩,
 ⟨some 94, .pure .move, [.t 95], none⟩])
 (.cond (.t 94)
 (.seq (.ops [⟨some 96, .pure (.faddr 12), [.t 3], none⟩,
 ⟨none, .eff (.store 1), [.t 96, .c (.snil 13)], none⟩])
 (.seq (.seq (.ops [⟨some 97, .pure (.faddr 12), [.t 1], none⟩,
 ⟨some 98, .read (.load none), [.t 97], none⟩,
 ⟨some 99, .pure .lenL, [.t 98], none⟩,
 ⟨some 100, .pure (.bin .gtr), [.t 99, .c (.int .i64 256)], none⟩])
 (.cond (.t 100)
 (.seq (.ops [⟨some 2, .pure .move, [.c (.bool false)], none⟩])
 .ret)
 .skip))
 (.seq (.ops [⟨some 101, .pure (.faddr 12), [.t 1], none⟩,
 ⟨some 102, .read (.load none), [.t 101], none⟩,
 ⟨some 103, .pure .lenL, [.t 102], none⟩,
 ⟨some 104, .pure .move, [.c (.int .i64 0)], none⟩])
 (.block 1
 (.loop [3, 102, 103, 104]
 (.seq (.ops [⟨some 105, .pure (.bin .lss), [.t 104, .t 103], none⟩])
 (.seq (.cond (.t 105)
 .skip
 (.exit 1))
 (.seq (.block 2
 (.seq (.ops [⟨some 106, .pure (.iaddrS 13), [.t 102, .t 104], none⟩,
 ⟨some 107, .read (.load (some 13)), [.t 106], none⟩,
 ⟨some 6, .new (.new 13 [.agg [.int .i64 0, .bool false, .bool false, .str [], .int .i64 0, .int .i64 0, .int .i64 0, .int .i64 0, .int .i64 0, .str [], .snil 1, .snil 13, .snil 14]]), [], none⟩,
 ⟨none, .eff (.store 13), [.t 6, .t 107], none⟩])
 (.seq (.ops [⟨some 108, .pure (.faddr 0), [.t 6], none⟩,
 ⟨some 109, .read (.load none), [.t 108], none⟩,
 ⟨some 110, .pure (.bin .geq), [.t 109, .c (.int .i64 6)], none⟩,
 ⟨some 111, .pure .move, [.t 110], none⟩,
 ⟨some 112, .read (.load (some 13)), [.t 6], some (111, false)⟩,
 ⟨some 113, .pcall 126, [.t 112], some (111, false)⟩,
 ⟨some 114, .pure (.bin .neq), [.t 113, .c (.int .i64 0)], some (111, false)⟩,
 ⟨some 115, .pure .pick, [.t 111, .c (.bool true), .t 114], none⟩])
 (.cond (.t 115)
 (.seq (.ops [⟨some 2, .pure .move, [.c (.bool false)], none⟩])
 .ret)
 .skip))))
 (.ops [⟨some 116, .pure (.bin .add), [.t 104, .c (.int .i64 1)], none⟩,
 ⟨some 104, .pure .move, [.t 116], none⟩])))))))))
 (.seq (.ops [⟨some 118, .pure (.bin .eql), [.t 12, .c (.int .i64 10)], none⟩,
 ⟨some 117, .pure .move, [.t 118], none⟩])
 (.cond (.t 117)
 (.seq (.ops [⟨some 119, .pure (.faddr 13), [.t 3], none⟩,
 ⟨none, .eff (.store 1), [.t 119, .c (.snil 17)], none⟩,
 ⟨some 120, .pure (.faddr 14), [.t 3], none⟩,
 ⟨none, .eff (.store 1), [.t 120, .c (.snil 15)], none⟩])
 (.seq (.seq (.ops [⟨some 121, .pure (.faddr 13), [.t 1], none⟩,
 ⟨some 122, .read (.load none), [.t 121], none⟩,
 ⟨some 123, .pure .lenL, [.t 122], none⟩,
 ⟨some 124, .pure .move, [.c (.int .i64 0)], none⟩])
 (.block 3
 (.loop [1, 3, 122, 123, 124]
 (.seq (.ops [⟨some 125, .pure (.bin .lss), [.t 124, .t 123], none⟩])
 (.seq (.cond (.t 125)
 .skip
 (.exit 3))
 (.seq (.block 4
 (.seq (.ops [⟨some 126, .pure (.iaddrS 17), [.t 122, .t 124], none⟩,
 ⟨some 127, .read (.load (some 17)), [.t 126], none⟩,
 ⟨some 8, .new (.new 17 [.agg [.str [], .bool false, .int .i64 0, .int .i64 0, .int .i64 0, .int .i64 0, .str [], .snil 11, .int .i64 0, .int .i64 0, .int .i64 0, .int .i64 0, .int .i64 0, .snil 6, .snil 13, .snil 17, .snil 15]]), [], none⟩,
 ⟨none, .eff (.store 17), [.t 8, .t 127], none⟩])
 (.seq (.ops [⟨some 128, .pure (.faddr 0), [.t 8], none⟩,
 ⟨some 129, .read (.load none), [.t 128], none⟩,
 ⟨some 130, .pcall 46, [.t 129], none⟩,
 ⟨some 131, .pure (.un .not), [.t 130], none⟩,
 ⟨some 132, .pure .move, [.t 131], none⟩,
 ⟨some 133, .pure (.faddr 0), [.t 8], some (132, false)⟩,
 ⟨some 134, .read (.load none), [.t 133], some (132, false)⟩,
 ⟨some 135, .pure .lenS, [.t 134], some (132, false)⟩,
 ⟨some 136, .pure (.bin .gtr), [.t 135, .c (.int .i64 1024)], some (132, false)⟩,
 ⟨some 137, .pure .pick, [.t 132, .c (.bool true), .t 136], none⟩])
 (.cond (.t 137)
 (.seq (.ops [⟨some 2, .pure .move, [.c (.bool false)], none⟩])
 .ret)
 .skip))))
 (.ops [⟨some 138, .pure (.bin .add), [.t 124, .c (.int .i64 1)], none⟩,
 ⟨some 124, .pure .move, [.t 138], none⟩])))))))
 (.seq (.ops [⟨some 139, .pure (.faddr 14), [.t 1], none⟩,
 ⟨some 140, .read (.load none), [.t 139], none⟩,
 ⟨some 141, .pure .lenL, [.t 140], none⟩,
 ⟨some 142, .pure (.bin .neq), [.t 141, .c (.int .i64 1)], none⟩])
 (.cond (.t 142)
 (.seq (.ops [⟨some 2, .pure .move, [.c (.bool false)], none⟩])
 .ret)
 .skip))))
 (.seq (.seq (.ops [⟨some 144, .pure (.bin .eql), [.t 12, .c (.int .i64 11)], none⟩,
 ⟨some 143, .pure .move, [.t 144], none⟩])
 (.cond (.t 143)
 .skip
 (.seq (.ops [⟨some 145, .pure (.bin .eql), [.t 12, .c (.int .i64 12)], none⟩,
 ⟨some 143, .pure .move, [.t 145], none⟩])
 (.cond (.t 143)
 .skip
 (.ops [⟨some 146, .pure (.bin .eql), [.t 12, .c (.int .i64 13)], none⟩,
 ⟨some 143, .pure .move, [.t 146], none⟩])))))
 (.cond (.t 143)
 (.seq (.ops [⟨some 147, .pure (.faddr 14), [.t 3], none⟩,
 ⟨none, .eff (.store 1), [.t 147, .c (.snil 15)], none⟩])
 (.seq (.ops [⟨some 148, .pure (.faddr 14), [.t 1], none⟩,
 ⟨some 149, .read (.load none), [.t 148], none⟩,
 ⟨some 150, .pure .lenL, [.t 149], none⟩,
 ⟨some 151, .pure (.bin .eql), [.t 150, .c (.int .i64 0)], none⟩,
 ⟨some 152, .pure .move, [.t 151], none⟩,
 ⟨some 153, .pure (.faddr 0), [.t 1], some (152, false)⟩,
 ⟨some 154, .read (.load none), [.t 153], some (152, false)⟩,
 ⟨some 155, .pure (.bin .eql), [.t 154, .c (.int .i64 13)], some (152, false)⟩,
 ⟨some 156, .pure .move, [.t 155], some (152, false)⟩,
 ⟨some 157, .pure (.faddr 14), [.t 1], some (156, true)⟩,
 ⟨some 158, .read (.load none), [.t 157], some (156, true)⟩,
 ⟨some 159, .pure .lenL, [.t 158], some (156, true)⟩,
 ⟨some 160, .pure (.bin .neq), [.t 159, .c (.int .i64 1)], some (156, true)⟩,
 ⟨some 161, .pure .pick, [.t 156, .t 160, .c (.bool false)], some (152, false)⟩,
 ⟨some 162, .pure .pick, [.t 152, .c (.bool true), .t 161], none⟩])
 (.cond (.t 162)
 (.seq (.ops [⟨some 2, .pure .move, [.c (.bool false)], none⟩])
 .ret)
 .skip)))
 (.seq (.ops [⟨some 2, .pure .move, [.c (.bool false)], none⟩])
 .ret)))))))))))))))))))))
 (.seq (.ops [⟨some 163, .read (.load (some 15)), [.t 3], none⟩,
 ⟨some 164, .pcall 597, [.t 163], none⟩,
 ⟨some 2, .pure .move, [.t 164], none⟩])
 .ret))))) }
/-- datakit/formats.Known -/
def ac563 : AFn :=
 { nt := 6, res := [.tmp 2], body :=
 (.seq (.ops [⟨some 2, .pure .move, [.c (.bool false)], none⟩])
 (.seq (.ops [⟨some 3, .pure .move, [.t 0], none⟩,
 ⟨some 4, .pcall 598, [.t 3], none⟩,
 ⟨some 5, .pure (.bin .lss), [.t 4, .c (.int .i64 12)], none⟩,
 ⟨some 2, .pure .move, [.t 5], none⟩])
 .ret)) }
/-- datakit/datakitref15.same -/
def ac567 : AFn :=
 { nt := 75, res := [.tmp 6], body :=
 (.seq (.ops [⟨some 3, .new (.box 6), [.t 0], none⟩,
 ⟨some 4, .new (.box 6), [.t 1], none⟩,
 ⟨some 6, .pure .move, [.c (.bool false)], none⟩])
 (.seq (.seq (.ops [⟨some 8, .pure .move, [.t 2], none⟩,
 ⟨some 9, .pure (.bin .lss), [.t 8, .c (.int .i64 1)], none⟩,
 ⟨some 10, .pure .move, [.t 9], none⟩,
 ⟨some 11, .pure (.faddr 0), [.t 3], some (10, false)⟩,
 ⟨some 12, .read (.load none), [.t 11], some (10, false)⟩,
 ⟨some 13, .pure (.faddr 0), [.t 4], some (10, false)⟩,
 ⟨some 14, .read (.load none), [.t 13], some (10, false)⟩,
 ⟨some 15, .pure (.bin .neq), [.t 12, .t 14], some (10, false)⟩,
 ⟨some 16, .pure .pick, [.t 10, .c (.bool true), .t 15], none⟩,
 ⟨some 17, .pure .move, [.t 16], none⟩,
 ⟨some 18, .pure (.faddr 1), [.t 3], some (17, false)⟩,
 ⟨some 19, .read (.load none), [.t 18], some (17, false)⟩,
 ⟨some 20, .pure (.faddr 1), [.t 4], some (17, false)⟩,
 ⟨some 21, .read (.load none), [.t 20], some (17, false)⟩,
 ⟨some 22, .pure (.bin .neq), [.t 19, .t 21], some (17, false)⟩,
 ⟨some 23, .pure .pick, [.t 17, .c (.bool true), .t 22], none⟩,
 ⟨some 24, .pure .move, [.t 23], none⟩,
 ⟨some 25, .pure (.faddr 2), [.t 3], some (24, false)⟩,
 ⟨some 26, .read (.load none), [.t 25], some (24, false)⟩,
 ⟨some 27, .pure (.faddr 2), [.t 4], some (24, false)⟩,
 ⟨some 28, .read (.load none), [.t 27], some (24, false)⟩,
 ⟨some 29, .pure (.bin .neq), [.t 26, .t 28], some (24, false)⟩,
 ⟨some 30, .pure .pick, [.t 24, .c (.bool true), .t 29], none⟩,
 ⟨some 31, .pure .move, [.t 30], none⟩,
 ⟨some 32, .pure (.faddr 3), [.t 3], some (31, false)⟩,
 ⟨some 33, .read (.load none), [.t 32], some (31, false)⟩,
 ⟨some 34, .pure (.faddr 3), [.t 4], some (31, false)⟩,
 ⟨some 35, .read (.load none), [.t 34], some (31, false)⟩,
 ⟨some 36, .pure (.bin .neq), [.t 33, .t 35], some (31, false)⟩,
 ⟨some 37, .pure .pick, [.t 31, .c (.bool true), .t 36], none⟩,
 ⟨some 38, .pure .move, [.t 37], none⟩,
 ⟨some 39, .pure (.faddr 4), [.t 3], some (38, false)⟩,
 ⟨some 40, .read (.load none), [.t 39], some (38, false)⟩,
 ⟨some 41, .pure (.faddr 4), [.t 4], some (38, false)⟩,
 ⟨some 42, .read (.load none), [.t 41], some (38, false)⟩,
 ⟨some 43, .pure (.bin .neq), [.t 40, .t 42], some (38, false)⟩,
 ⟨some 44, .pure .pick, [.t 38, .c (.bool true), .t 43], none⟩,
 ⟨some 45, .pure .move, [.t 44], none⟩,
 ⟨some 46, .pure (.faddr 5), [.t 3], some (45, false)⟩,
 ⟨some 47, .read (.load none), [.t 46], some (45, false)⟩,
 ⟨some 48, .pure .lenL, [.t 47], some (45, false)⟩,
 ⟨some 49, .pure (.faddr 5), [.t 4], some (45, false)⟩,
 ⟨some 50, .read (.load none), [.t 49], some (45, false)⟩,
 ⟨some 51, .pure .lenL, [.t 50], some (45, false)⟩,
 ⟨some 52, .pure (.bin .neq), [.t 48, .t 51], some (45, false)⟩,
 ⟨some 53, .pure .pick, [.t 45, .c (.bool true), .t 52], none⟩])
 (.cond (.t 53)
 (.seq (.ops [⟨some 6, .pure .move, [.c (.bool false)], none⟩])
 .ret)
 .skip))
 (.seq (.seq (.ops [⟨some 7, .pure .move, [.c (.int .i64 0)], none⟩])
 (.block 0
 (.loop [2, 3, 4, 7]
 (.seq (.seq (.ops [⟨some 54, .pure .move, [.t 7], none⟩,
 ⟨some 55, .pure (.faddr 5), [.t 3], none⟩,
 ⟨some 56, .read (.load none), [.t 55], none⟩,
 ⟨some 57, .pure .lenL, [.t 56], none⟩,
 ⟨some 58, .pure (.bin .lss), [.t 54, .t 57], none⟩])
 (.cond (.t 58)
 .skip
 (.exit 0)))
 (.seq (.block 1
 (.seq (.ops [⟨some 61, .pure (.faddr 5), [.t 3], none⟩,
 ⟨some 62, .read (.load none), [.t 61], none⟩,
 ⟨some 63, .pure .move, [.t 7], none⟩,
 ⟨some 64, .pure (.iaddrS 6), [.t 62, .t 63], none⟩,
 ⟨some 65, .read (.load (some 6)), [.t 64], none⟩,
 ⟨some 66, .pure (.faddr 5), [.t 4], none⟩,
 ⟨some 67, .read (.load none), [.t 66], none⟩,
 ⟨some 68, .pure .move, [.t 7], none⟩,
 ⟨some 69, .pure (.iaddrS 6), [.t 67, .t 68], none⟩,
 ⟨some 70, .read (.load (some 6)), [.t 69], none⟩,
 ⟨some 71, .pure .move, [.t 2], none⟩,
 ⟨some 72, .pure (.bin .sub), [.t 71, .c (.int .i64 1)], none⟩,
 ⟨some 73, .pcall 567, [.t 65, .t 70, .t 72], none⟩,
 ⟨some 74, .pure (.un .not), [.t 73], none⟩])
 (.cond (.t 74)
 (.seq (.ops [⟨some 6, .pure .move, [.c (.bool false)], none⟩])
 .ret)
 .skip)))
 (.ops [⟨some 59, .pure .move, [.t 7], none⟩,
 ⟨some 60, .pure (.bin .add), [.t 59, .c (.int .i64 1)], none⟩,
 ⟨some 7, .pure .move, [.t 60], none⟩]))))))
 (.seq (.ops [⟨some 6, .pure .move, [.c (.bool true)], none⟩])
 .ret)))) }
/-- datakit/schema.of$1 -/
def ac568 : AFn :=
 { nt := 23, res := [.cell 3 (some 13)], body :=
 (.seq (.ops [⟨some 3, .new (.new 13 [.agg [.int .i64 0, .bool false, .bool false, .str [], .int .i64 0, .int .i64 0, .int .i64 0, .int .i64 0, .int .i64 0, .str [], .snil 1, .snil 13, .snil 14]]), [], none⟩])
 (.seq (.seq (.ops [⟨some 6, .pure .move, [.t 0], none⟩,
 ⟨some 7, .pure .lenL, [.t 6], none⟩,
 ⟨some 8, .pure .move, [.c (.int .i64 0)], none⟩])
 (.block 0
 (.loop [1, 3, 6, 7, 8]
 (.seq (.ops [⟨some 9, .pure (.bin .lss), [.t 8, .t 7], none⟩])
 (.seq (.cond (.t 9)
 .skip
 (.exit 0))
 (.seq (.block 1
 (.seq (.ops [⟨some 10, .pure (.iaddrS 15), [.t 6, .t 8], none⟩,
 ⟨some 11, .read (.load (some 15)), [.t 10], none⟩,
 ⟨some 5, .new (.new 15 [.agg [.int .i64 0, .int .i64 0, .int .i64 0, .int .i64 0, .str [], .snil 11, .int .i64 0, .int .i64 0, .int .i64 0, .int .i64 0, .int .i64 0, .snil 6, .snil 13, .snil 17, .snil 15]]), [], none⟩,
 ⟨none, .eff (.store 15), [.t 5, .t 11], none⟩])
 (.draw 1 [[⟨some 12, .pure (.faddr 11), [.t 1], none⟩,
 ⟨some 13, .read (.load none), [.t 12], none⟩,
 ⟨some 14, .read (.load (some 15)), [.t 5], none⟩,
 ⟨some 15, .pcall 525, [.t 14], none⟩,
 ⟨some 16, .pure .lenL, [.t 13], none⟩,
 ⟨some 17, .newAt 0 (.buildSlice 13 [.agg [.int .i64 0, .bool false, .bool false, .str [], .int .i64 0, .int .i64 0, .int .i64 0, .int .i64 0, .int .i64 0, .str [], .snil 1, .snil 13, .snil 14]] [0]), [.c (.agg [.int .i64 0, .bool false, .bool false, .str [], .int .i64 0, .int .i64 0, .int .i64 0, .int .i64 0, .int .i64 0, .str [], .snil 1, .snil 13, .snil 14])], none⟩,
 ⟨some 18, .eff (.append 13 168), [.t 13, .t 17], none⟩,
 ⟨some 19, .pure (.iaddrS 13), [.t 18, .t 16], none⟩,
 ⟨some 20, .pure (.faddr 11), [.t 1], none⟩,
 ⟨none, .eff (.store 13), [.t 19, .t 15], none⟩,
 ⟨none, .eff (.store 1), [.t 20, .t 18], none⟩],
 [⟨some 12, .pure (.faddr 11), [.t 1], none⟩,
 ⟨some 13, .read (.load none), [.t 12], none⟩,
 ⟨some 14, .read (.load (some 15)), [.t 5], none⟩,
 ⟨some 15, .pcall 525, [.t 14], none⟩,
 ⟨some 16, .pure .lenL, [.t 13], none⟩,
 ⟨some 17, .newAt 0 (.buildSlice 13 [.agg [.int .i64 0, .bool false, .bool false, .str [], .int .i64 0, .int .i64 0, .int .i64 0, .int .i64 0, .int .i64 0, .str [], .snil 1, .snil 13, .snil 14]] [0]), [.c (.agg [.int .i64 0, .bool false, .bool false, .str [], .int .i64 0, .int .i64 0, .int .i64 0, .int .i64 0, .int .i64 0, .str [], .snil 1, .snil 13, .snil 14])], none⟩,
 ⟨some 18, .eff (.append 13 168), [.t 13, .t 17], none⟩,
 ⟨some 19, .pure (.iaddrS 13), [.t 18, .t 16], none⟩,
 ⟨some 20, .pure (.faddr 11), [.t 1], none⟩,
 ⟨none, .eff (.store 1), [.t 20, .t 18], none⟩,
 ⟨none, .eff (.store 13), [.t 19, .t 15], none⟩]])))
 (.ops [⟨some 21, .pure (.bin .add), [.t 8, .c (.int .i64 1)], none⟩,
 ⟨some 8, .pure .move, [.t 21], none⟩])))))))
 (.seq (.ops [⟨some 22, .read (.load (some 13)), [.t 1], none⟩,
 ⟨none, .eff (.store 13), [.t 3, .t 22], none⟩])
 .ret))) }
/-- datakit/value.Bool -/
def ac569 : AFn :=
 { nt := 5, res := [.cell 2 (some 13)], body :=
 (.seq (.ops [⟨some 2, .new (.new 13 [.agg [.int .i64 0, .bool false, .bool false, .str [], .int .i64 0, .int .i64 0, .int .i64 0, .int .i64 0, .int .i64 0, .str [], .snil 1, .snil 13, .snil 14]]), [], none⟩])
 (.seq (.ops [⟨some 3, .pure .move, [.t 0], none⟩,
 ⟨some 4, .pure (.build [.int .i64 0, .bool false, .bool false, .str [], .int .i64 0, .int .i64 0, .int .i64 0, .int .i64 0, .int .i64 0, .str [], .snil 1, .snil 13, .snil 14] [(0, 1), (1, 1)]), [.c (.int .i64 1), .t 3], none⟩,
 ⟨none, .eff (.store 13), [.t 2, .t 4], none⟩])
 .ret)) }
/-- datakit/schema.field -/
def ac570 : AFn :=
 { nt := 10, res := [.cell 4 (some 13)], body :=
 (.seq (.ops [⟨some 3, .new (.box 13), [.t 1], none⟩,
 ⟨some 4, .new (.new 13 [.agg [.int .i64 0, .bool false, .bool false, .str [], .int .i64 0, .int .i64 0, .int .i64 0, .int .i64 0, .int .i64 0, .str [], .snil 1, .snil 13, .snil 14]]), [], none⟩])
 (.seq (.ops [⟨some 5, .pure .move, [.t 0], none⟩,
 ⟨some 6, .read (.load (some 13)), [.t 3], none⟩,
 ⟨some 7, .pure (.build [.str [], .int .i64 0, .bool false, .bool false, .str [], .int .i64 0, .int .i64 0, .int .i64 0, .int .i64 0, .int .i64 0, .str [], .snil 1, .snil 13, .snil 14] [(0, 1), (1, 13)]), [.t 5, .t 6], none⟩,
 ⟨some 8, .new (.buildSlice 14 [.agg [.str [], .int .i64 0, .bool false, .bool false, .str [], .int .i64 0, .int .i64 0, .int .i64 0, .int .i64 0, .int .i64 0, .str [], .snil 1, .snil 13, .snil 14]] [0]), [.t 7], none⟩,
 ⟨some 9, .pure (.build [.int .i64 0, .bool false, .bool false, .str [], .int .i64 0, .int .i64 0, .int .i64 0, .int .i64 0, .int .i64 0, .str [], .snil 1, .snil 13, .snil 14] [(0, 1), (12, 1)]), [.c (.int .i64 7), .t 8], none⟩,
 ⟨none, .eff (.store 13), [.t 4, .t 9], none⟩])
 .ret)) }
/-- datakit/schema.part -/
def ac571 : AFn :=
 { nt := 40, res := [.cell 2 (some 13)], body :=
 (.seq (.ops [⟨some 1, .new (.box 11), [.t 0], none⟩,
 ⟨some 2, .new (.new 13 [.agg [.int .i64 0, .bool false, .bool false, .str [], .int .i64 0, .int .i64 0, .int .i64 0, .int .i64 0, .int .i64 0, .str [], .snil 1, .snil 13, .snil 14]]), [], none⟩])
 (.seq (.ops [⟨some 5, .pure (.build [.int .i64 0, .bool false, .bool false, .str [], .int .i64 0, .int .i64 0, .int .i64 0, .int .i64 0, .int .i64 0, .str [], .snil 1, .snil 13, .snil 14] [(0, 1)]), [.c (.int .i64 7)], none⟩,
 ⟨some 3, .new (.new 13 [.agg [.int .i64 0, .bool false, .bool false, .str [], .int .i64 0, .int .i64 0, .int .i64 0, .int .i64 0, .int .i64 0, .str [], .snil 1, .snil 13, .snil 14]]), [], none⟩,
 ⟨none, .eff (.store 13), [.t 3, .t 5], none⟩])
 (.seq (.ops [⟨some 6, .pure (.mkfn 605), [.t 3], none⟩,
 ⟨some 4, .pure .move, [.t 6], none⟩])
 (.seq (.ops [⟨some 7, .pure .move, [.t 4], none⟩,
 ⟨some 8, .pure (.faddr 0), [.t 1], none⟩,
 ⟨some 9, .read (.load (some 5)), [.t 8], none⟩,
 ⟨some 10, .callv, [.t 7, .t 9, .c (.str [102, 114, 111, 109]), .c (.str [97, 98, 111, 118, 101])], none⟩])
 (.seq (.ops [⟨some 11, .pure .move, [.t 4], none⟩,
 ⟨some 12, .pure (.faddr 5), [.t 1], none⟩,
 ⟨some 13, .read (.load (some 5)), [.t 12], none⟩,
 ⟨some 14, .callv, [.t 11, .t 13, .c (.str [116, 111]), .c (.str [98, 101, 108, 111, 119])], none⟩])
 (.seq (.seq (.ops [⟨some 15, .pure (.faddr 10), [.t 1], none⟩,
 ⟨some 16, .read (.load none), [.t 15], none⟩])
 (.block 0
 (.seq (.ops [⟨some 18, .pure (.bin .eql), [.t 16, .c (.int .i64 1)], none⟩,
 ⟨some 17, .pure .move, [.t 18], none⟩])
 (.cond (.t 17)
 (.draw 1 [[⟨some 19, .pure (.faddr 12), [.t 3], none⟩,
 ⟨some 20, .read (.load none), [.t 19], none⟩,
 ⟨some 21, .pcall 124, [.c (.str [119, 104, 111, 108, 101])], none⟩,
 ⟨some 22, .pure (.build [.str [], .int .i64 0, .bool false, .bool false, .str [], .int .i64 0, .int .i64 0, .int .i64 0, .int .i64 0, .int .i64 0, .str [], .snil 1, .snil 13, .snil 14] [(0, 1), (1, 13)]), [.c (.str [115, 111, 114, 116]), .t 21], none⟩,
 ⟨some 23, .pure .lenL, [.t 20], none⟩,
 ⟨some 24, .newAt 0 (.buildSlice 14 [.agg [.str [], .int .i64 0, .bool false, .bool false, .str [], .int .i64 0, .int .i64 0, .int .i64 0, .int .i64 0, .int .i64 0, .str [], .snil 1, .snil 13, .snil 14]] [0]), [.c (.agg [.str [], .int .i64 0, .bool false, .bool false, .str [], .int .i64 0, .int .i64 0, .int .i64 0, .int .i64 0, .int .i64 0, .str [], .snil 1, .snil 13, .snil 14])], none⟩,
 ⟨some 25, .eff (.append 14 184), [.t 20, .t 24], none⟩,
 ⟨some 26, .pure (.iaddrS 14), [.t 25, .t 23], none⟩,
 ⟨some 27, .pure (.faddr 12), [.t 3], none⟩,
 ⟨none, .eff (.store 14), [.t 26, .t 22], none⟩,
 ⟨none, .eff (.store 1), [.t 27, .t 25], none⟩],
 [⟨some 19, .pure (.faddr 12), [.t 3], none⟩,
 ⟨some 20, .read (.load none), [.t 19], none⟩,
 ⟨some 21, .pcall 124, [.c (.str [119, 104, 111, 108, 101])], none⟩,
 ⟨some 22, .pure (.build [.str [], .int .i64 0, .bool false, .bool false, .str [], .int .i64 0, .int .i64 0, .int .i64 0, .int .i64 0, .int .i64 0, .str [], .snil 1, .snil 13, .snil 14] [(0, 1), (1, 13)]), [.c (.str [115, 111, 114, 116]), .t 21], none⟩,
 ⟨some 23, .pure .lenL, [.t 20], none⟩,
 ⟨some 24, .newAt 0 (.buildSlice 14 [.agg [.str [], .int .i64 0, .bool false, .bool false, .str [], .int .i64 0, .int .i64 0, .int .i64 0, .int .i64 0, .int .i64 0, .str [], .snil 1, .snil 13, .snil 14]] [0]), [.c (.agg [.str [], .int .i64 0, .bool false, .bool false, .str [], .int .i64 0, .int .i64 0, .int .i64 0, .int .i64 0, .int .i64 0, .str [], .snil 1, .snil 13, .snil 14])], none⟩,
 ⟨some 25, .eff (.append 14 184), [.t 20, .t 24], none⟩,
 ⟨some 26, .pure (.iaddrS 14), [.t 25, .t 23], none⟩,
 ⟨some 27, .pure (.faddr 12), [.t 3], none⟩,
 ⟨none, .eff (.store 1), [.t 27, .t 25], none⟩,
 ⟨none, .eff (.store 14), [.t 26, .t 22], none⟩]])
 (.seq (.ops [⟨some 29, .pure (.bin .eql), [.t 16, .c (.int .i64 2)], none⟩,
 ⟨some 28, .pure .move, [.t 29], none⟩])
 (.cond (.t 28)
 (.draw 1 [[⟨some 30, .pure (.faddr 12), [.t 3], none⟩,
 ⟨some 31, .read (.load none), [.t 30], none⟩,
 ⟨some 32, .pcall 124, [.c (.str [102, 114, 97, 99, 116, 105, 111, 110])], none⟩,
 ⟨some 33, .pure (.build [.str [], .int .i64 0, .bool false, .bool false, .str [], .int .i64 0, .int .i64 0, .int .i64 0, .int .i64 0, .int .i64 0, .str [], .snil 1, .snil 13, .snil 14] [(0, 1), (1, 13)]), [.c (.str [115, 111, 114, 116]), .t 32], none⟩,
 ⟨some 34, .pure .lenL, [.t 31], none⟩,
 ⟨some 35, .newAt 0 (.buildSlice 14 [.agg [.str [], .int .i64 0, .bool false, .bool false, .str [], .int .i64 0, .int .i64 0, .int .i64 0, .int .i64 0, .int .i64 0, .str [], .snil 1, .snil 13, .snil 14]] [0]), [.c (.agg [.str [], .int .i64 0, .bool false, .bool false, .str [], .int .i64 0, .int .i64 0, .int .i64 0, .int .i64 0, .int .i64 0, .str [], .snil 1, .snil 13, .snil 14])], none⟩,
 ⟨some 36, .eff (.append 14 184), [.t 31, .t 35], none⟩,
 ⟨some 37, .pure (.iaddrS 14), [.t 36, .t 34], none⟩,
 ⟨some 38, .pure (.faddr 12), [.t 3], none⟩,
 ⟨none, .eff (.store 14), [.t 37, .t 33], none⟩,
 ⟨none, .eff (.store 1), [.t 38, .t 36], none⟩],
 [⟨some 30, .pure (.faddr 12), [.t 3], none⟩,
 ⟨some 31, .read (.load none), [.t 30], none⟩,
 ⟨some 32, .pcall 124, [.c (.str [102, 114, 97, 99, 116, 105, 111, 110])], none⟩,
 ⟨some 33, .pure (.build [.str [], .int .i64 0, .bool false, .bool false, .str [], .int .i64 0, .int .i64 0, .int .i64 0, .int .i64 0, .int .i64 0, .str [], .snil 1, .snil 13, .snil 14] [(0, 1), (1, 13)]), [.c (.str [115, 111, 114, 116]), .t 32], none⟩,
 ⟨some 34, .pure .lenL, [.t 31], none⟩,
 ⟨some 35, .newAt 0 (.buildSlice 14 [.agg [.str [], .int .i64 0, .bool false, .bool false, .str [], .int .i64 0, .int .i64 0, .int .i64 0, .int .i64 0, .int .i64 0, .str [], .snil 1, .snil 13, .snil 14]] [0]), [.c (.agg [.str [], .int .i64 0, .bool false, .bool false, .str [], .int .i64 0, .int .i64 0, .int .i64 0, .int .i64 0, .int .i64 0, .str [], .snil 1, .snil 13, .snil 14])], none⟩,
 ⟨some 36, .eff (.append 14 184), [.t 31, .t 35], none⟩,
 ⟨some 37, .pure (.iaddrS 14), [.t 36, .t 34], none⟩,
 ⟨some 38, .pure (.faddr 12), [.t 3], none⟩,
 ⟨none, .eff (.store 1), [.t 38, .t 36], none⟩,
 ⟨none, .eff (.store 14), [.t 37, .t 33], none⟩]])
 .skip))))))
 (.seq (.ops [⟨some 39, .read (.load (some 13)), [.t 3], none⟩,
 ⟨none, .eff (.store 13), [.t 2, .t 39], none⟩])
 .ret))))))) }
/-- datakit/value.List -/
def ac572 : AFn :=
 { nt := 6, res := [.cell 2 (some 13)], body :=
 (.seq (.ops [⟨some 2, .new (.new 13 [.agg [.int .i64 0, .bool false, .bool false, .str [], .int .i64 0, .int .i64 0, .int .i64 0, .int .i64 0, .int .i64 0, .str [], .snil 1, .snil 13, .snil 14]]), [], none⟩])
 (.seq (.ops [⟨some 3, .pure .move, [.t 0], none⟩,
 ⟨some 4, .pure (.build [.int .i64 0, .bool false, .bool false, .str [], .int .i64 0, .int .i64 0, .int .i64 0, .int .i64 0, .int .i64 0, .str [], .snil 1, .snil 13, .snil 14] [(0, 1), (11, 1)]), [.c (.int .i64 6), .t 3], none⟩,
 ⟨some 5, .pcall 45, [.t 4, .c (.int .i64 65536)], none⟩,
 ⟨none, .eff (.store 13), [.t 2, .t 5], none⟩])
 .ret)) }
/-- datakit/schema.most -/
def ac573 : AFn :=
 { nt := 8, res := [.cell 2 (some 13)], body :=
 (.seq (.ops [⟨some 2, .new (.new 13 [.agg [.int .i64 0, .bool false, .bool false, .str [], .int .i64 0, .int .i64 0, .int .i64 0, .int .i64 0, .int .i64 0, .str [], .snil 1, .snil 13, .snil 14]]), [], none⟩])
 (.seq (.seq (.ops [⟨some 3, .pure .move, [.t 0], none⟩,
 ⟨some 4, .pure (.bin .eql), [.t 3, .c (.int .i64 (-1))], none⟩])
 (.cond (.t 4)
 (.seq (.ops [⟨some 5, .pcall 606, [], none⟩,
 ⟨none, .eff (.store 13), [.t 2, .t 5], none⟩])
 .ret)
 .skip))
 (.seq (.ops [⟨some 6, .pure .move, [.t 0], none⟩,
 ⟨some 7, .pcall 123, [.t 6], none⟩,
 ⟨none, .eff (.store 13), [.t 2, .t 7], none⟩])
 .ret))) }
/-- datakit/regex.Text -/
def ac574 : AFn :=
 { nt := 10, res := [.tmp 2], body :=
 (.seq (.ops [⟨some 1, .new (.box 6), [.t 0], none⟩,
 ⟨some 2, .pure .move, [.c (.str [])], none⟩])
 (.seq (.seq (.ops [⟨some 4, .read (.load (some 6)), [.t 1], none⟩,
 ⟨some 5, .pcall 358, [.t 4], none⟩,
 ⟨some 6, .pure (.un .not), [.t 5], none⟩])
 (.cond (.t 6)
 (.seq (.ops [⟨some 2, .pure .move, [.c (.str [])], none⟩])
 .ret)
 .skip))
 (.seq (.ops [⟨some 3, .new (.new 2 [.agg [.nilp, .snil 1]]), [], none⟩])
 (.seq (.ops [⟨some 7, .read (.load (some 6)), [.t 1], none⟩,
 ⟨some 8, .pcall 607, [.t 3, .t 7], none⟩])
 (.seq (.ops [⟨some 9, .call 300, [.t 3], none⟩,
 ⟨some 2, .pure .move, [.t 9], none⟩])
 .ret))))) }
/-- datakit/regex.Parse$1 -/
def ac575 : AFn :=
 { nt := 7, res := [], body :=
 (.seq (.ops [⟨some 3, .bad, [], none⟩,
 ⟨some 2, .pure .move, [.t 3], none⟩])
 (.seq (.ops [⟨some 4, .pure .move, [.t 2], none⟩,
 ⟨some 5, .pure (.eqN 3 true), [.t 4, .c (.nili)], none⟩])
 (.cond (.t 5)
 (.ops [⟨some 6, .pure (.build [.int .i64 0, .int .i64 0, .int .i64 0, .int .i64 0, .int .i64 0, .snil 6] []), [], none⟩,
 ⟨none, .eff (.store 6), [.t 0, .t 6], none⟩,
 ⟨none, .eff (.store 1), [.t 1, .c (.int .i64 3)], none⟩])
 .skip))) }
/-- (*datakit/regex.parser).infix -/
def ac576 : AFn :=
 { nt := 42, res := [.cell 4 (some 6)], body :=
 (.seq (.ops [⟨some 4, .new (.new 6 [.agg [.int .i64 0, .int .i64 0, .int .i64 0, .int .i64 0, .int .i64 0, .snil 6]]), [], none⟩])
 (.seq (.seq (.ops [⟨some 7, .pure .move, [.t 1], none⟩,
 ⟨some 8, .pure (.bin .gtr), [.t 7, .c (.int .i64 3)], none⟩])
 (.cond (.t 8)
 (.seq (.ops [⟨some 9, .pure .move, [.t 0], none⟩,
 ⟨some 10, .call 608, [.t 9], none⟩,
 ⟨none, .eff (.store 6), [.t 4, .t 10], none⟩])
 .ret)
 .skip))
 (.seq (.ops [⟨some 11, .pure (.build [.int .i64 0, .int .i64 0, .int .i64 0, .int .i64 0] [(0, 1), (1, 1), (2, 1), (3, 1)]), [.c (.int .i64 0), .c (.int .i64 4), .c (.int .i64 6), .c (.int .i64 3)], none⟩,
 ⟨some 5, .new (.new 1 [.int .i64 0, .int .i64 0, .int .i64 0, .int .i64 0]), [], none⟩,
 ⟨none, .eff (.store 4), [.t 5, .t 11], none⟩])
 (.seq (.draw 2 [[⟨some 12, .pure .move, [.t 1], none⟩,
 ⟨some 13, .pure (.iaddrA 4 1), [.t 5, .t 12], none⟩,
 ⟨some 15, .pure .move, [.t 0], none⟩,
 ⟨some 16, .pure .move, [.t 1], none⟩,
 ⟨some 17, .pure (.bin .add), [.t 16, .c (.int .i64 1)], none⟩,
 ⟨some 14, .read (.load none), [.t 13], none⟩,
 ⟨some 18, .call 576, [.t 15, .t 17], none⟩,
 ⟨some 19, .newAt 0 (.buildSlice 6 [.agg [.int .i64 0, .int .i64 0, .int .i64 0, .int .i64 0, .int .i64 0, .snil 6]] [0]), [.t 18], none⟩,
 ⟨some 20, .pure (.build [.int .i64 0, .int .i64 0, .int .i64 0, .int .i64 0, .int .i64 0, .snil 6] [(0, 1), (5, 1)]), [.t 14, .t 19], none⟩,
 ⟨some 6, .newAt 1 (.new 6 [.agg [.int .i64 0, .int .i64 0, .int .i64 0, .int .i64 0, .int .i64 0, .snil 6]]), [], none⟩,
 ⟨none, .eff (.store 6), [.t 6, .t 20], none⟩],
 [⟨some 12, .pure .move, [.t 1], none⟩,
 ⟨some 13, .pure (.iaddrA 4 1), [.t 5, .t 12], none⟩,
 ⟨some 15, .pure .move, [.t 0], none⟩,
 ⟨some 16, .pure .move, [.t 1], none⟩,
 ⟨some 17, .pure (.bin .add), [.t 16, .c (.int .i64 1)], none⟩,
 ⟨some 14, .read (.load none), [.t 13], none⟩,
 ⟨some 6, .newAt 1 (.new 6 [.agg [.int .i64 0, .int .i64 0, .int .i64 0, .int .i64 0, .int .i64 0, .snil 6]]), [], none⟩,
 ⟨some 18, .call 576, [.t 15, .t 17], none⟩,
 ⟨some 19, .newAt 0 (.buildSlice 6 [.agg [.int .i64 0, .int .i64 0, .int .i64 0, .int .i64 0, .int .i64 0, .snil 6]] [0]), [.t 18], none⟩,
 ⟨some 20, .pure (.build [.int .i64 0, .int .i64 0, .int .i64 0, .int .i64 0, .int .i64 0, .snil 6] [(0, 1), (5, 1)]), [.t 14, .t 19], none⟩,
 ⟨none, .eff (.store 6), [.t 6, .t 20], none⟩],
 [⟨some 12, .pure .move, [.t 1], none⟩,
 ⟨some 13, .pure (.iaddrA 4 1), [.t 5, .t 12], none⟩,
 ⟨some 15, .pure .move, [.t 0], none⟩,
 ⟨some 16, .pure .move, [.t 1], none⟩,
 ⟨some 17, .pure (.bin .add), [.t 16, .c (.int .i64 1)], none⟩,
 ⟨some 18, .call 576, [.t 15, .t 17], none⟩,
 ⟨some 14, .read (.load none), [.t 13], none⟩,
 ⟨some 19, .newAt 0 (.buildSlice 6 [.agg [.int .i64 0, .int .i64 0, .int .i64 0, .int .i64 0, .int .i64 0, .snil 6]] [0]), [.t 18], none⟩,
 ⟨some 20, .pure (.build [.int .i64 0, .int .i64 0, .int .i64 0, .int .i64 0, .int .i64 0, .snil 6] [(0, 1), (5, 1)]), [.t 14, .t 19], none⟩,
 ⟨some 6, .newAt 1 (.new 6 [.agg [.int .i64 0, .int .i64 0, .int .i64 0, .int .i64 0, .int .i64 0, .snil 6]]), [], none⟩,
 ⟨none, .eff (.store 6), [.t 6, .t 20], none⟩],
 [⟨some 12, .pure .move, [.t 1], none⟩,
 ⟨some 13, .pure (.iaddrA 4 1), [.t 5, .t 12], none⟩,
 ⟨some 15, .pure .move, [.t 0], none⟩,
 ⟨some 16, .pure .move, [.t 1], none⟩,
 ⟨some 17, .pure (.bin .add), [.t 16, .c (.int .i64 1)], none⟩,
 ⟨some 6, .newAt 1 (.new 6 [.agg [.int .i64 0, .int .i64 0, .int .i64 0, .int .i64 0, .int .i64 0, .snil 6]]), [], none⟩,
 ⟨some 14, .read (.load none), [.t 13], none⟩,
 ⟨some 18, .call 576, [.t 15, .t 17], none⟩,
 ⟨some 19, .newAt 0 (.buildSlice 6 [.agg [.int .i64 0, .int .i64 0, .int .i64 0, .int .i64 0, .int .i64 0, .snil 6]] [0]), [.t 18], none⟩,
 ⟨some 20, .pure (.build [.int .i64 0, .int .i64 0, .int .i64 0, .int .i64 0, .int .i64 0, .snil 6] [(0, 1), (5, 1)]), [.t 14, .t 19], none⟩,
 ⟨none, .eff (.store 6), [.t 6, .t 20], none⟩],
 [⟨some 12, .pure .move, [.t 1], none⟩,
 ⟨some 13, .pure (.iaddrA 4 1), [.t 5, .t 12], none⟩,
 ⟨some 15, .pure .move, [.t 0], none⟩,
 ⟨some 16, .pure .move, [.t 1], none⟩,
 ⟨some 17, .pure (.bin .add), [.t 16, .c (.int .i64 1)], none⟩,
 ⟨some 6, .newAt 1 (.new 6 [.agg [.int .i64 0, .int .i64 0, .int .i64 0, .int .i64 0, .int .i64 0, .snil 6]]), [], none⟩,
 ⟨some 18, .call 576, [.t 15, .t 17], none⟩,
 ⟨some 14, .read (.load none), [.t 13], none⟩,
 ⟨some 19, .newAt 0 (.buildSlice 6 [.agg [.int .i64 0, .int .i64 0, .int .i64 0, .int .i64 0, .int .i64 0, .snil 6]] [0]), [.t 18], none⟩,
 ⟨some 20, .pure (.build [.int .i64 0, .int .i64 0, .int .i64 0, .int .i64 0, .int .i64 0, .snil 6] [(0, 1), (5, 1)]), [.t 14, .t 19], none⟩,
 ⟨none, .eff (.store 6), [.t 6, .t 20], none⟩]])
 (.seq (.block 0
 (.loop [0, 1, 4, 6]
 (.seq (.seq (.ops [⟨some 21, .pure .move, [.t 0], none⟩,
 ⟨some 22, .pure .move, [.t 1], none⟩,
 ⟨some 23, .call 609, [.t 21, .t 22], none⟩])
 (.cond (.t 23)
 .skip
 (.exit 0)))
 (.block 1
 (.draw 1 [[⟨some 24, .pure (.faddr 5), [.t 6], none⟩,
 ⟨some 26, .pure .move, [.t 0], none⟩,
 ⟨some 27, .pure .move, [.t 1], none⟩,
 ⟨some 28, .pure (.bin .add), [.t 27, .c (.int .i64 1)], none⟩,
 ⟨some 25, .read (.load none), [.t 24], none⟩,
 ⟨some 29, .call 576, [.t 26, .t 28], none⟩,
 ⟨some 30, .newAt 0 (.buildSlice 6 [.agg [.int .i64 0, .int .i64 0, .int .i64 0, .int .i64 0, .int .i64 0, .snil 6]] [0]), [.t 29], none⟩,
 ⟨some 31, .eff (.append 6 64), [.t 25, .t 30], none⟩,
 ⟨some 32, .pure (.faddr 5), [.t 6], none⟩,
 ⟨none, .eff (.store 1), [.t 32, .t 31], none⟩],
 [⟨some 24, .pure (.faddr 5), [.t 6], none⟩,
 ⟨some 26, .pure .move, [.t 0], none⟩,
 ⟨some 27, .pure .move, [.t 1], none⟩,
 ⟨some 28, .pure (.bin .add), [.t 27, .c (.int .i64 1)], none⟩,
 ⟨some 29, .call 576, [.t 26, .t 28], none⟩,
 ⟨some 25, .read (.load none), [.t 24], none⟩,
 ⟨some 30, .newAt 0 (.buildSlice 6 [.agg [.int .i64 0, .int .i64 0, .int .i64 0, .int .i64 0, .int .i64 0, .snil 6]] [0]), [.t 29], none⟩,
 ⟨some 31, .eff (.append 6 64), [.t 25, .t 30], none⟩,
 ⟨some 32, .pure (.faddr 5), [.t 6], none⟩,
 ⟨none, .eff (.store 1), [.t 32, .t 31], none⟩]])))))
 (.seq (.seq (.ops [⟨some 33, .pure (.faddr 5), [.t 6], none⟩,
 ⟨some 34, .read (.load none), [.t 33], none⟩,
 ⟨some 35, .pure .lenL, [.t 34], none⟩,
 ⟨some 36, .pure (.bin .eql), [.t 35, .c (.int .i64 1)], none⟩])
 (.cond (.t 36)
 (.seq (.ops [⟨some 37, .pure (.faddr 5), [.t 6], none⟩,
 ⟨some 38, .read (.load none), [.t 37], none⟩,
 ⟨some 39, .pure (.iaddrS 6), [.t 38, .c (.int .i64 0)], none⟩,
 ⟨some 40, .read (.load (some 6)), [.t 39], none⟩,
 ⟨none, .eff (.store 6), [.t 4, .t 40], none⟩])
 .ret)
 .skip))
 (.seq (.ops [⟨some 41, .read (.load (some 6)), [.t 6], none⟩,
 ⟨none, .eff (.store 6), [.t 4, .t 41], none⟩])
 .ret))))))) }
/-- datakit/schema.empty -/
def ac597 : AFn :=
 { nt := 85, res := [.tmp 2], body :=
 (.seq (.ops [⟨some 1, .new (.box 15), [.t 0], none⟩,
 ⟨some 2, .pure .move, [.c (.bool false)], none⟩])
 (.seq (.ops [⟨some 4, .pure (.faddr 6), [.t 1], none⟩,
 ⟨some 5, .read (.load (some 6)), [.t 4], none⟩,
 ⟨some 3, .new (.new 6 [.agg [.int .i64 0, .int .i64 0, .int .i64 0, .int .i64 0, .int .i64 0, .snil 6]]), [], none⟩,
 ⟨none, .eff (.store 6), [.t 3, .t 5], none⟩])
 (.seq (.ops [⟨some 6, .pure (.faddr 0), [.t 1], none⟩,
 ⟨some 7, .read (.load none), [.t 6], none⟩,
 ⟨some 8, .pure (.bin .eql), [.t 7, .c (.int .i64 0)], none⟩,
 ⟨some 9, .pure .move, [.t 8], none⟩,
 ⟨some 10, .pure (.faddr 1), [.t 1], some (9, true)⟩,
 ⟨some 11, .read (.load none), [.t 10], some (9, true)⟩,
 ⟨some 12, .pure (.bin .eql), [.t 11, .c (.int .i64 0)], some (9, true)⟩,
 ⟨some 13, .pure .pick, [.t 9, .t 12, .c (.bool false)], none⟩,
 ⟨some 14, .pure .move, [.t 13], none⟩,
 ⟨some 15, .pure (.faddr 2), [.t 1], some (14, true)⟩,
 ⟨some 16, .read (.load none), [.t 15], some (14, true)⟩,
 ⟨some 17, .pure (.bin .eql), [.t 16, .c (.int .i64 0)], some (14, true)⟩,
 ⟨some 18, .pure .pick, [.t 14, .t 17, .c (.bool false)], none⟩,
 ⟨some 19, .pure .move, [.t 18], none⟩,
 ⟨some 20, .pure (.faddr 3), [.t 1], some (19, true)⟩,
 ⟨some 21, .read (.load none), [.t 20], some (19, true)⟩,
 ⟨some 22, .pure (.bin .eql), [.t 21, .c (.int .i64 0)], some (19, true)⟩,
 ⟨some 23, .pure .pick, [.t 19, .t 22, .c (.bool false)], none⟩,
 ⟨some 24, .pure .move, [.t 23], none⟩,
 ⟨some 25, .pure (.faddr 4), [.t 1], some (24, true)⟩,
 ⟨some 26, .read (.load none), [.t 25], some (24, true)⟩,
 ⟨some 27, .pure (.bin .eql), [.t 26, .c (.str [])], some (24, true)⟩,
 ⟨some 28, .pure .pick, [.t 24, .t 27, .c (.bool false)], none⟩,
 ⟨some 29, .pure .move, [.t 28], none⟩,
 ⟨some 30, .pure (.faddr 5), [.t 1], some (29, true)⟩,
 ⟨some 31, .pure (.faddr 0), [.t 30], some (29, true)⟩,
 ⟨some 32, .read (.load none), [.t 31], some (29, true)⟩,
 ⟨some 33, .pure .lenL, [.t 32], some (29, true)⟩,
 ⟨some 34, .pure (.bin .eql), [.t 33, .c (.int .i64 0)], some (29, true)⟩,
 ⟨some 35, .pure .pick, [.t 29, .t 34, .c (.bool false)], none⟩,
 ⟨some 36, .pure .move, [.t 35], none⟩,
 ⟨some 37, .pure (.faddr 12), [.t 1], some (36, true)⟩,
 ⟨some 38, .read (.load none), [.t 37], some (36, true)⟩,
 ⟨some 39, .pure .lenL, [.t 38], some (36, true)⟩,
 ⟨some 40, .pure (.bin .eql), [.t 39, .c (.int .i64 0)], some (36, true)⟩,
 ⟨some 41, .pure .pick, [.t 36, .t 40, .c (.bool false)], none⟩,
 ⟨some 42, .pure .move, [.t 41], none⟩,
 ⟨some 43, .pure (.faddr 13), [.t 1], some (42, true)⟩,
 ⟨some 44, .read (.load none), [.t 43], some (42, true)⟩,
 ⟨some 45, .pure .lenL, [.t 44], some (42, true)⟩,
 ⟨some 46, .pure (.bin .eql), [.t 45, .c (.int .i64 0)], some (42, true)⟩,
 ⟨some 47, .pure .pick, [.t 42, .t 46, .c (.bool false)], none⟩,
 ⟨some 48, .pure .move, [.t 47], none⟩,
 ⟨some 49, .pure (.faddr 14), [.t 1], some (48, true)⟩,
 ⟨some 50, .read (.load none), [.t 49], some (48, true)⟩,
 ⟨some 51, .pure .lenL, [.t 50], some (48, true)⟩,
 ⟨some 52, .pure (.bin .eql), [.t 51, .c (.int .i64 0)], some (48, true)⟩,
 ⟨some 53, .pure .pick, [.t 48, .t 52, .c (.bool false)], none⟩,
 ⟨some 54, .pure .move, [.t 53], none⟩,
 ⟨some 55, .pure (.faddr 0), [.t 3], some (54, true)⟩,
 ⟨some 56, .read (.load none), [.t 55], some (54, true)⟩,
 ⟨some 57, .pure (.bin .eql), [.t 56, .c (.int .i64 0)], some (54, true)⟩,
 ⟨some 58, .pure .pick, [.t 54, .t 57, .c (.bool false)], none⟩,
 ⟨some 59, .pure .move, [.t 58], none⟩,
 ⟨some 60, .pure (.faddr 1), [.t 3], some (59, true)⟩,
 ⟨some 61, .read (.load none), [.t 60], some (59, true)⟩,
 ⟨some 62, .pure (.bin .eql), [.t 61, .c (.int .i64 0)], some (59, true)⟩,
 ⟨some 63, .pure .pick, [.t 59, .t 62, .c (.bool false)], none⟩,
 ⟨some 64, .pure .move, [.t 63], none⟩,
 ⟨some 65, .pure (.faddr 2), [.t 3], some (64, true)⟩,
 ⟨some 66, .read (.load none), [.t 65], some (64, true)⟩,
 ⟨some 67, .pure (.bin .eql), [.t 66, .c (.int .i64 0)], some (64, true)⟩,
 ⟨some 68, .pure .pick, [.t 64, .t 67, .c (.bool false)], none⟩,
 ⟨some 69, .pure .move, [.t 68], none⟩,
 ⟨some 70, .pure (.faddr 3), [.t 3], some (69, true)⟩,
 ⟨some 71, .read (.load none), [.t 70], some (69, true)⟩,
 ⟨some 72, .pure (.bin .eql), [.t 71, .c (.int .i64 0)], some (69, true)⟩,
 ⟨some 73, .pure .pick, [.t 69, .t 72, .c (.bool false)], none⟩,
 ⟨some 74, .pure .move, [.t 73], none⟩,
 ⟨some 75, .pure (.faddr 4), [.t 3], some (74, true)⟩,
 ⟨some 76, .read (.load none), [.t 75], some (74, true)⟩,
 ⟨some 77, .pure (.bin .eql), [.t 76, .c (.int .i64 0)], some (74, true)⟩,
 ⟨some 78, .pure .pick, [.t 74, .t 77, .c (.bool false)], none⟩,
 ⟨some 79, .pure .move, [.t 78], none⟩,
 ⟨some 80, .pure (.faddr 5), [.t 3], some (79, true)⟩,
 ⟨some 81, .read (.load none), [.t 80], some (79, true)⟩,
 ⟨some 82, .pure .lenL, [.t 81], some (79, true)⟩,
 ⟨some 83, .pure (.bin .eql), [.t 82, .c (.int .i64 0)], some (79, true)⟩,
 ⟨some 84, .pure .pick, [.t 79, .t 83, .c (.bool false)], none⟩,
 ⟨some 2, .pure .move, [.t 84], none⟩])
 .ret))) }
/-- datakit/formats.number -/
def ac598 : AFn :=
 { nt := 17, res := [.tmp 2], body :=
 (.seq (.ops [⟨some 2, .pure .move, [.c (.int .i64 0)], none⟩])
 (.seq (.seq (.ops [⟨some 5, .pcall 624, [], none⟩,
 ⟨some 6, .pure .lenL, [.t 5], none⟩,
 ⟨some 7, .pure .move, [.c (.int .i64 0)], none⟩])
 (.block 0
 (.loop [0, 5, 6, 7]
 (.seq (.ops [⟨some 8, .pure (.bin .lss), [.t 7, .t 6], none⟩])
 (.seq (.cond (.t 8)
 .skip
 (.exit 0))
 (.seq (.block 1
 (.seq (.ops [⟨some 9, .pure .move, [.t 7], none⟩,
 ⟨some 10, .pure (.iaddrS 1), [.t 5, .t 7], none⟩,
 ⟨some 11, .read (.load none), [.t 10], none⟩,
 ⟨some 3, .pure .move, [.t 9], none⟩,
 ⟨some 4, .pure .move, [.t 11], none⟩])
 (.seq (.ops [⟨some 12, .pure .move, [.t 4], none⟩,
 ⟨some 13, .pure .move, [.t 0], none⟩,
 ⟨some 14, .pure (.bin .eql), [.t 12, .t 13], none⟩])
 (.cond (.t 14)
 (.seq (.ops [⟨some 15, .pure .move, [.t 3], none⟩,
 ⟨some 2, .pure .move, [.t 15], none⟩])
 .ret)
 .skip))))
 (.ops [⟨some 16, .pure (.bin .add), [.t 7, .c (.int .i64 1)], none⟩,
 ⟨some 7, .pure .move, [.t 16], none⟩])))))))
 (.seq (.ops [⟨some 2, .pure .move, [.c (.int .i64 12)], none⟩])
 .ret))) }
/-- datakit/schema.part$1 -/
def ac605 : AFn :=
 { nt := 39, res := [], body :=
 (.seq (.ops [⟨some 4, .new (.box 5), [.t 0], none⟩])
 (.seq (.ops [⟨some 7, .pure (.faddr 0), [.t 4], none⟩,
 ⟨some 8, .read (.load none), [.t 7], none⟩,
 ⟨some 9, .pure .move, [.t 8], none⟩,
 ⟨some 10, .pure (.faddr 4), [.t 4], some (9, true)⟩,
 ⟨some 11, .read (.load none), [.t 10], some (9, true)⟩,
 ⟨some 12, .pure .pick, [.t 9, .t 11, .c (.bool false)], none⟩])
 (.cond (.t 12)
 (.draw 1 [[⟨some 13, .pure (.faddr 12), [.t 3], none⟩,
 ⟨some 14, .read (.load none), [.t 13], none⟩,
 ⟨some 15, .pure .move, [.t 2], none⟩,
 ⟨some 16, .pure (.faddr 1), [.t 4], none⟩,
 ⟨some 17, .read (.load (some 3)), [.t 16], none⟩,
 ⟨some 18, .pcall 128, [.t 17], none⟩,
 ⟨some 19, .pure (.build [.str [], .int .i64 0, .bool false, .bool false, .str [], .int .i64 0, .int .i64 0, .int .i64 0, .int .i64 0, .int .i64 0, .str [], .snil 1, .snil 13, .snil 14] [(0, 1), (1, 13)]), [.t 15, .t 18], none⟩,
 ⟨some 20, .pure .lenL, [.t 14], none⟩,
 ⟨some 21, .newAt 0 (.buildSlice 14 [.agg [.str [], .int .i64 0, .bool false, .bool false, .str [], .int .i64 0, .int .i64 0, .int .i64 0, .int .i64 0, .int .i64 0, .str [], .snil 1, .snil 13, .snil 14]] [0]), [.c (.agg [.str [], .int .i64 0, .bool false, .bool false, .str [], .int .i64 0, .int .i64 0, .int .i64 0, .int .i64 0, .int .i64 0, .str [], .snil 1, .snil 13, .snil 14])], none⟩,
 ⟨some 22, .eff (.append 14 184), [.t 14, .t 21], none⟩,
 ⟨some 23, .pure (.iaddrS 14), [.t 22, .t 20], none⟩,
 ⟨some 24, .pure (.faddr 12), [.t 3], none⟩,
 ⟨none, .eff (.store 14), [.t 23, .t 19], none⟩,
 ⟨none, .eff (.store 1), [.t 24, .t 22], none⟩],
 [⟨some 13, .pure (.faddr 12), [.t 3], none⟩,
 ⟨some 14, .read (.load none), [.t 13], none⟩,
 ⟨some 15, .pure .move, [.t 2], none⟩,
 ⟨some 16, .pure (.faddr 1), [.t 4], none⟩,
 ⟨some 17, .read (.load (some 3)), [.t 16], none⟩,
 ⟨some 18, .pcall 128, [.t 17], none⟩,
 ⟨some 19, .pure (.build [.str [], .int .i64 0, .bool false, .bool false, .str [], .int .i64 0, .int .i64 0, .int .i64 0, .int .i64 0, .int .i64 0, .str [], .snil 1, .snil 13, .snil 14] [(0, 1), (1, 13)]), [.t 15, .t 18], none⟩,
 ⟨some 20, .pure .lenL, [.t 14], none⟩,
 ⟨some 21, .newAt 0 (.buildSlice 14 [.agg [.str [], .int .i64 0, .bool false, .bool false, .str [], .int .i64 0, .int .i64 0, .int .i64 0, .int .i64 0, .int .i64 0, .str [], .snil 1, .snil 13, .snil 14]] [0]), [.c (.agg [.str [], .int .i64 0, .bool false, .bool false, .str [], .int .i64 0, .int .i64 0, .int .i64 0, .int .i64 0, .int .i64 0, .str [], .snil 1, .snil 13, .snil 14])], none⟩,
 ⟨some 22, .eff (.append 14 184), [.t 14, .t 21], none⟩,
 ⟨some 23, .pure (.iaddrS 14), [.t 22, .t 20], none⟩,
 ⟨some 24, .pure (.faddr 12), [.t 3], none⟩,
 ⟨none, .eff (.store 1), [.t 24, .t 22], none⟩,
 ⟨none, .eff (.store 14), [.t 23, .t 19], none⟩]])
 (.seq (.ops [⟨some 25, .pure (.faddr 0), [.t 4], none⟩,
 ⟨some 26, .read (.load none), [.t 25], none⟩])
 (.cond (.t 26)
 (.draw 1 [[⟨some 27, .pure (.faddr 12), [.t 3], none⟩,
 ⟨some 28, .read (.load none), [.t 27], none⟩,
 ⟨some 29, .pure .move, [.t 1], none⟩,
 ⟨some 30, .pure (.faddr 1), [.t 4], none⟩,
 ⟨some 31, .read (.load (some 3)), [.t 30], none⟩,
 ⟨some 32, .pcall 128, [.t 31], none⟩,
 ⟨some 33, .pure (.build [.str [], .int .i64 0, .bool false, .bool false, .str [], .int .i64 0, .int .i64 0, .int .i64 0, .int .i64 0, .int .i64 0, .str [], .snil 1, .snil 13, .snil 14] [(0, 1), (1, 13)]), [.t 29, .t 32], none⟩,
 ⟨some 34, .pure .lenL, [.t 28], none⟩,
 ⟨some 35, .newAt 0 (.buildSlice 14 [.agg [.str [], .int .i64 0, .bool false, .bool false, .str [], .int .i64 0, .int .i64 0, .int .i64 0, .int .i64 0, .int .i64 0, .str [], .snil 1, .snil 13, .snil 14]] [0]), [.c (.agg [.str [], .int .i64 0, .bool false, .bool false, .str [], .int .i64 0, .int .i64 0, .int .i64 0, .int .i64 0, .int .i64 0, .str [], .snil 1, .snil 13, .snil 14])], none⟩,
 ⟨some 36, .eff (.append 14 184), [.t 28, .t 35], none⟩,
 ⟨some 37, .pure (.iaddrS 14), [.t 36, .t 34], none⟩,
 ⟨some 38, .pure (.faddr 12), [.t 3], none⟩,
 ⟨none, .eff (.store 14), [.t 37, .t 33], none⟩,
 ⟨none, .eff (.store 1), [.t 38, .t 36], none⟩],
 [⟨some 27, .pure (.faddr 12), [.t 3], none⟩,
 ⟨some 28, .read (.load none), [.t 27], none⟩,
 ⟨some 29, .pure .move, [.t 1], none⟩,
 ⟨some 30, .pure (.faddr 1), [.t 4], none⟩,
 ⟨some 31, .read (.load (some 3)), [.t 30], none⟩,
 ⟨some 32, .pcall 128, [.t 31], none⟩,
 ⟨some 33, .pure (.build [.str [], .int .i64 0, .bool false, .bool false, .str [], .int .i64 0, .int .i64 0, .int .i64 0, .int .i64 0, .int .i64 0, .str [], .snil 1, .snil 13, .snil 14] [(0, 1), (1, 13)]), [.t 29, .t 32], none⟩,
 ⟨some 34, .pure .lenL, [.t 28], none⟩,
 ⟨some 35, .newAt 0 (.buildSlice 14 [.agg [.str [], .int .i64 0, .bool false, .bool false, .str [], .int .i64 0, .int .i64 0, .int .i64 0, .int .i64 0, .int .i64 0, .str [], .snil 1, .snil 13, .snil 14]] [0]), [.c (.agg [.str [], .int .i64 0, .bool false, .bool false, .str [], .int .i64 0, .int .i64 0, .int .i64 0, .int .i64 0, .int .i64 0, .str [], .snil 1, .snil 13, .snil 14])], none⟩,
 ⟨some 36, .eff (.append 14 184), [.t 28, .t 35], none⟩,
 ⟨some 37, .pure (.iaddrS 14), [.t 36, .t 34], none⟩,
 ⟨some 38, .pure (.faddr 12), [.t 3], none⟩,
 ⟨none, .eff (.store 1), [.t 38, .t 36], none⟩,
 ⟨none, .eff (.store 14), [.t 37, .t 33], none⟩]])
 .skip))))) }
/-- datakit/value.Null -/
def ac606 : AFn :=
 { nt := 2, res := [.cell 0 (some 13)], body :=
 (.seq (.ops [⟨some 0, .new (.new 13 [.agg [.int .i64 0, .bool false, .bool false, .str [], .int .i64 0, .int .i64 0, .int .i64 0, .int .i64 0, .int .i64 0, .str [], .snil 1, .snil 13, .snil 14]]), [], none⟩])
 (.seq (.ops [⟨some 1, .pure (.build [.int .i64 0, .bool false, .bool false, .str [], .int .i64 0, .int .i64 0, .int .i64 0, .int .i64 0, .int .i64 0, .str [], .snil 1, .snil 13, .snil 14] []), [], none⟩,
 ⟨none, .eff (.store 13), [.t 0, .t 1], none⟩])
 .ret)) }
/-- datakit/regex.write -/
def ac607 : AFn :=
 { nt := 92, res := [], body :=
 (.seq (.ops [⟨some 3, .new (.box 6), [.t 1], none⟩])
 (.seq (.ops [⟨some 4, .pure .move, [.c (.str [])], none⟩,
 ⟨some 5, .pure .move, [.c (.int .i64 4)], none⟩])
 (.seq (.seq (.ops [⟨some 8, .pure (.faddr 0), [.t 3], none⟩,
 ⟨some 9, .read (.load none), [.t 8], none⟩])
 (.block 0
 (.seq (.ops [⟨some 11, .pure (.bin .eql), [.t 9, .c (.int .i64 0)], none⟩,
 ⟨some 10, .pure .move, [.t 11], none⟩])
 (.cond (.t 10)
 (.seq (.ops [⟨some 12, .pure .move, [.t 0], none⟩,
 ⟨some 13, .call 298, [.t 12, .c (.str [91, 93])], none⟩])
 .ret)
 (.seq (.ops [⟨some 15, .pure (.bin .eql), [.t 9, .c (.int .i64 1)], none⟩,
 ⟨some 14, .pure .move, [.t 15], none⟩])
 (.cond (.t 14)
 (.seq (.ops [⟨some 16, .pure .move, [.t 0], none⟩,
 ⟨some 17, .call 298, [.t 16, .c (.str [40, 41])], none⟩])
 .ret)
 (.seq (.ops [⟨some 19, .pure (.bin .eql), [.t 9, .c (.int .i64 2)], none⟩,
 ⟨some 18, .pure .move, [.t 19], none⟩])
 (.cond (.t 18)
 (.seq (.block 1
 (.seq (.ops [⟨some 33, .pure (.faddr 1), [.t 3], none⟩,
 ⟨some 34, .read (.load none), [.t 33], none⟩,
 ⟨some 35, .pure (.faddr 2), [.t 3], none⟩,
 ⟨some 36, .read (.load none), [.t 35], none⟩,
 ⟨some 37, .pure (.bin .eql), [.t 34, .t 36], none⟩,
 ⟨some 32, .pure .move, [.t 37], none⟩])
 (.cond (.t 32)
 (.ops [⟨some 38, .pure .move, [.t 0], none⟩,
 ⟨some 39, .pure (.faddr 1), [.t 3], none⟩,
 ⟨some 40, .read (.load none), [.t 39], none⟩,
 ⟨some 41, .pcall 626, [.t 40], none⟩,
 ⟨some 42, .call 298, [.t 38, .t 41], none⟩])
 (.seq (.ops [⟨some 44, .pure (.faddr 1), [.t 3], none⟩,
 ⟨some 45, .read (.load none), [.t 44], none⟩,
 ⟨some 46, .pure (.bin .eql), [.t 45, .c (.int .i64 0)], none⟩,
 ⟨some 47, .pure .move, [.t 46], none⟩,
 ⟨some 48, .pure (.faddr 2), [.t 3], some (47, true)⟩,
 ⟨some 49, .read (.load none), [.t 48], some (47, true)⟩,
 ⟨some 50, .pure (.bin .eql), [.t 49, .c (.int .i64 255)], some (47, true)⟩,
 ⟨some 51, .pure .pick, [.t 47, .t 50, .c (.bool false)], none⟩,
 ⟨some 43, .pure .move, [.t 51], none⟩])
 (.cond (.t 43)
 (.ops [⟨some 52, .pure .move, [.t 0], none⟩,
 ⟨some 53, .call 627, [.t 52, .c (.int .u8 46)], none⟩])
 (.ops [⟨some 20, .pure .move, [.t 0], none⟩,
 ⟨some 21, .pure (.faddr 1), [.t 3], none⟩,
 ⟨some 22, .read (.load none), [.t 21], none⟩,
 ⟨some 23, .pcall 626, [.t 22], none⟩,
 ⟨some 24, .pure (.bin .add), [.c (.str [91]), .t 23], none⟩,
 ⟨some 25, .pure (.bin .add), [.t 24, .c (.str [45])], none⟩,
 ⟨some 26, .pure (.faddr 2), [.t 3], none⟩,
 ⟨some 27, .read (.load none), [.t 26], none⟩,
 ⟨some 28, .pcall 626, [.t 27], none⟩,
 ⟨some 29, .pure (.bin .add), [.t 25, .t 28], none⟩,
 ⟨some 30, .pure (.bin .add), [.t 29, .c (.str [93])], none⟩,
 ⟨some 31, .call 298, [.t 20, .t 30], none⟩]))))))
 .ret)
 (.seq (.ops [⟨some 55, .pure (.bin .eql), [.t 9, .c (.int .i64 4)], none⟩,
 ⟨some 54, .pure .move, [.t 55], none⟩])
 (.cond (.t 54)
 (.ops [⟨some 4, .pure .move, [.c (.str [124])], none⟩,
 ⟨some 5, .pure .move, [.c (.int .i64 2)], none⟩])
 (.seq (.ops [⟨some 57, .pure (.bin .eql), [.t 9, .c (.int .i64 6)], none⟩,
 ⟨some 56, .pure .move, [.t 57], none⟩])
 (.cond (.t 56)
 (.ops [⟨some 4, .pure .move, [.c (.str [38])], none⟩,
 ⟨some 5, .pure .move, [.c (.int .i64 3)], none⟩])
 (.seq (.ops [⟨some 59, .pure (.bin .eql), [.t 9, .c (.int .i64 7)], none⟩,
 ⟨some 58, .pure .move, [.t 59], none⟩])
 (.cond (.t 58)
 (.ops [⟨some 60, .pure .move, [.t 0], none⟩,
 ⟨some 61, .call 627, [.t 60, .c (.int .u8 33)], none⟩])
 (.seq (.ops [⟨some 63, .pure (.bin .eql), [.t 9, .c (.int .i64 5)], none⟩,
 ⟨some 62, .pure .move, [.t 63], none⟩])
 (.cond (.t 62)
 (.ops [⟨some 5, .pure .move, [.c (.int .i64 5)], none⟩])
 .skip))))))))))))))))
 (.seq (.seq (.ops [⟨some 64, .pure (.faddr 5), [.t 3], none⟩,
 ⟨some 65, .read (.load none), [.t 64], none⟩,
 ⟨some 66, .pure .lenL, [.t 65], none⟩,
 ⟨some 67, .pure .move, [.c (.int .i64 0)], none⟩])
 (.block 2
 (.loop [0, 3, 4, 5, 65, 66, 67]
 (.seq (.ops [⟨some 68, .pure (.bin .lss), [.t 67, .t 66], none⟩])
 (.seq (.cond (.t 68)
 .skip
 (.exit 2))
 (.seq (.block 3
 (.seq (.ops [⟨some 69, .pure .move, [.t 67], none⟩,
 ⟨some 70, .pure (.iaddrS 6), [.t 65, .t 67], none⟩,
 ⟨some 71, .read (.load (some 6)), [.t 70], none⟩,
 ⟨some 7, .new (.new 6 [.agg [.int .i64 0, .int .i64 0, .int .i64 0, .int .i64 0, .int .i64 0, .snil 6]]), [], none⟩,
 ⟨some 6, .pure .move, [.t 69], none⟩,
 ⟨none, .eff (.store 6), [.t 7, .t 71], none⟩])
 (.seq (.seq (.ops [⟨some 72, .pure .move, [.t 6], none⟩,
 ⟨some 73, .pure (.bin .gtr), [.t 72, .c (.int .i64 0)], none⟩])
 (.cond (.t 73)
 (.ops [⟨some 74, .pure .move, [.t 0], none⟩,
 ⟨some 75, .pure .move, [.t 4], none⟩,
 ⟨some 76, .call 298, [.t 74, .t 75], none⟩])
 .skip))
 (.ops [⟨some 77, .pure .move, [.t 0], none⟩,
 ⟨some 78, .read (.load (some 6)), [.t 7], none⟩,
 ⟨some 79, .pure .move, [.t 5], none⟩,
 ⟨some 80, .pcall 628, [.t 77, .t 78, .t 79], none⟩]))))
 (.ops [⟨some 81, .pure (.bin .add), [.t 67, .c (.int .i64 1)], none⟩,
 ⟨some 67, .pure .move, [.t 81], none⟩])))))))
 (.seq (.ops [⟨some 82, .pure (.faddr 0), [.t 3], none⟩,
 ⟨some 83, .read (.load none), [.t 82], none⟩,
 ⟨some 84, .pure (.bin .eql), [.t 83, .c (.int .i64 5)], none⟩])
 (.cond (.t 84)
 (.ops [⟨some 85, .pure .move, [.t 0], none⟩,
 ⟨some 86, .pure (.faddr 3), [.t 3], none⟩,
 ⟨some 87, .read (.load none), [.t 86], none⟩,
 ⟨some 88, .pure (.faddr 4), [.t 3], none⟩,
 ⟨some 89, .read (.load none), [.t 88], none⟩,
 ⟨some 90, .pcall 629, [.t 87, .t 89], none⟩,
 ⟨some 91, .call 298, [.t 85, .t 90], none⟩])
 .skip)))))) }
/-- (*datakit/regex.parser).prefix -/
def ac608 : AFn :=
 { nt := 23, res := [.cell 2 (some 6)], body :=
 (.seq (.ops [⟨some 2, .new (.new 6 [.agg [.int .i64 0, .int .i64 0, .int .i64 0, .int .i64 0, .int .i64 0, .snil 6]]), [], none⟩])
 (.seq (.seq (.ops [⟨some 4, .pure .move, [.t 0], none⟩,
 ⟨some 5, .call 630, [.t 4, .c (.int .u8 33)], none⟩,
 ⟨some 6, .pure (.un .not), [.t 5], none⟩])
 (.cond (.t 6)
 (.seq (.ops [⟨some 7, .pure .move, [.t 0], none⟩,
 ⟨some 8, .call 631, [.t 7], none⟩,
 ⟨none, .eff (.store 6), [.t 2, .t 8], none⟩])
 .ret)
 .skip))
 (.seq (.ops [⟨some 9, .pure .move, [.t 0], none⟩,
 ⟨some 10, .call 632, [.t 9], none⟩])
 (.seq (.ops [⟨some 11, .pure .move, [.t 0], none⟩,
 ⟨some 12, .call 608, [.t 11], none⟩,
 ⟨some 13, .new (.buildSlice 6 [.agg [.int .i64 0, .int .i64 0, .int .i64 0, .int .i64 0, .int .i64 0, .snil 6]] [0]), [.t 12], none⟩,
 ⟨some 14, .pure (.build [.int .i64 0, .int .i64 0, .int .i64 0, .int .i64 0, .int .i64 0, .snil 6] [(0, 1), (5, 1)]), [.c (.int .i64 7), .t 13], none⟩,
 ⟨some 3, .new (.new 6 [.agg [.int .i64 0, .int .i64 0, .int .i64 0, .int .i64 0, .int .i64 0, .snil 6]]), [], none⟩,
 ⟨none, .eff (.store 6), [.t 3, .t 14], none⟩])
 (.seq (.ops [⟨some 15, .pure .move, [.t 0], none⟩,
 ⟨some 16, .pure .chk, [.t 15], none⟩,
 ⟨some 17, .pure (.faddr 2), [.t 16], none⟩,
 ⟨some 18, .read (.load none), [.t 17], none⟩,
 ⟨some 19, .pure (.bin .sub), [.t 18, .c (.int .i64 1)], none⟩,
 ⟨some 20, .pure .chk, [.t 15], none⟩,
 ⟨some 21, .pure (.faddr 2), [.t 20], none⟩,
 ⟨none, .eff (.store 1), [.t 21, .t 19], none⟩])
 (.seq (.ops [⟨some 22, .read (.load (some 6)), [.t 3], none⟩,
 ⟨none, .eff (.store 6), [.t 2, .t 22], none⟩])
 .ret)))))) }
/-- (*datakit/regex.parser).more -/
def ac609 : AFn :=
 { nt := 31, res := [.tmp 4], body :=
 (.seq (.ops [⟨some 4, .pure .move, [.c (.bool false)], none⟩])
 (.seq (.seq (.ops [⟨some 6, .pure .move, [.t 1], none⟩])
 (.block 0
 (.seq (.ops [⟨some 8, .pure (.bin .eql), [.t 6, .c (.int .i64 1)], none⟩,
 ⟨some 7, .pure .move, [.t 8], none⟩])
 (.cond (.t 7)
 (.seq (.ops [⟨some 9, .pure .move, [.t 0], none⟩,
 ⟨some 10, .call 630, [.t 9, .c (.int .u8 124)], none⟩,
 ⟨some 4, .pure .move, [.t 10], none⟩])
 .ret)
 (.seq (.ops [⟨some 12, .pure (.bin .eql), [.t 6, .c (.int .i64 2)], none⟩,
 ⟨some 11, .pure .move, [.t 12], none⟩])
 (.cond (.t 11)
 (.seq (.ops [⟨some 13, .pure .move, [.t 0], none⟩,
 ⟨some 14, .call 630, [.t 13, .c (.int .u8 38)], none⟩,
 ⟨some 4, .pure .move, [.t 14], none⟩])
 .ret)
 .skip))))))
 (.seq (.ops [⟨some 15, .pure .move, [.t 0], none⟩,
 ⟨some 16, .call 633, [.t 15], none⟩,
 ⟨some 5, .pure .move, [.t 16], none⟩])
 (.seq (.ops [⟨some 17, .pure .move, [.t 5], none⟩,
 ⟨some 18, .pure (.bin .geq), [.t 17, .c (.int .i64 0)], none⟩,
 ⟨some 19, .pure .move, [.t 18], none⟩,
 ⟨some 20, .pure .move, [.t 5], some (19, true)⟩,
 ⟨some 21, .pure (.bin .neq), [.t 20, .c (.int .i64 124)], some (19, true)⟩,
 ⟨some 22, .pure .pick, [.t 19, .t 21, .c (.bool false)], none⟩,
 ⟨some 23, .pure .move, [.t 22], none⟩,
 ⟨some 24, .pure .move, [.t 5], some (23, true)⟩,
 ⟨some 25, .pure (.bin .neq), [.t 24, .c (.int .i64 38)], some (23, true)⟩,
 ⟨some 26, .pure .pick, [.t 23, .t 25, .c (.bool false)], none⟩,
 ⟨some 27, .pure .move, [.t 26], none⟩,
 ⟨some 28, .pure .move, [.t 5], some (27, true)⟩,
 ⟨some 29, .pure (.bin .neq), [.t 28, .c (.int .i64 41)], some (27, true)⟩,
 ⟨some 30, .pure .pick, [.t 27, .t 29, .c (.bool false)], none⟩,
 ⟨some 4, .pure .move, [.t 30], none⟩])
 .ret)))) }
/-- datakit/formats.Names -/
def ac624 : AFn :=
 { nt := 2, res := [.tmp 0], body :=
 (.seq (.ops [⟨some 0, .pure .move, [.c (.snil 1)], none⟩])
 (.seq (.ops [⟨some 1, .new (.buildSlice 1 [.str [], .str [], .str [], .str [], .str [], .str [], .str [], .str [], .str [], .str [], .str [], .str []] [0, 1, 2, 3, 4, 5, 6, 7, 8, 9, 10, 11]), [.c (.str [98, 97, 115, 101, 54, 52]), .c (.str [100, 97, 116, 101]), .c (.str [100, 97, 116, 101, 116, 105, 109, 101]), .c (.str [104, 101, 120]), .c (.str [105, 110, 115, 116, 97, 110, 116]), .c (.str [105, 110, 116, 101, 103, 101, 114]), .c (.str [105, 112, 118, 52]), .c (.str [110, 97, 109, 101]), .c (.str [110, 117, 109, 98, 101, 114]), .c (.str [112, 97, 116, 104]), .c (.str [116, 105, 109, 101]), .c (.str [117, 117, 105, 100])], none⟩,
 ⟨some 0, .pure .move, [.t 1], none⟩])
 .ret)) }
/-- datakit/regex.byteText -/
def ac626 : AFn :=
 { nt := 33, res := [.tmp 2], body :=
 (.seq (.ops [⟨some 2, .pure .move, [.c (.str [])], none⟩])
 (.seq (.seq (.ops [⟨some 3, .pure .move, [.t 0], none⟩,
 ⟨some 4, .pure (.bin .geq), [.t 3, .c (.int .i64 33)], none⟩,
 ⟨some 5, .pure .move, [.t 4], none⟩,
 ⟨some 6, .pure .move, [.t 0], some (5, true)⟩,
 ⟨some 7, .pure (.bin .leq), [.t 6, .c (.int .i64 126)], some (5, true)⟩,
 ⟨some 8, .pure .pick, [.t 5, .t 7, .c (.bool false)], none⟩,
 ⟨some 9, .pure .move, [.t 8], none⟩,
 ⟨some 10, .pure .move, [.t 0], some (9, true)⟩,
 ⟨some 11, .pure (.conv .u8), [.t 10], some (9, true)⟩,
 ⟨some 12, .pcall 162, [.c (.str [124, 38, 33, 42, 43, 63, 123, 125, 40, 41, 91, 93, 46, 92]), .t 11], some (9, true)⟩,
 ⟨some 13, .pure (.bin .lss), [.t 12, .c (.int .i64 0)], some (9, true)⟩,
 ⟨some 14, .pure .pick, [.t 9, .t 13, .c (.bool false)], none⟩])
 (.cond (.t 14)
 (.seq (.ops [⟨some 15, .pure .move, [.t 0], none⟩,
 ⟨some 16, .pure (.conv .u8), [.t 15], none⟩,
 ⟨some 17, .new (.buildSlice 1 [.int .u8 0] [0]), [.t 16], none⟩,
 ⟨some 18, .read .bytesStr, [.t 17], none⟩,
 ⟨some 2, .pure .move, [.t 18], none⟩])
 .ret)
 .skip))
 (.seq (.ops [⟨some 19, .pure .move, [.t 0], none⟩,
 ⟨some 20, .pure (.bin .shr), [.t 19, .c (.int .u64 4)], none⟩,
 ⟨some 21, .pure .move, [.t 0], none⟩,
 ⟨some 22, .pure (.bin .shr), [.t 21, .c (.int .u64 4)], none⟩,
 ⟨some 23, .pure (.bin .add), [.t 22, .c (.int .i64 1)], none⟩,
 ⟨some 24, .pure (.sliceS true true), [.c (.str [48, 49, 50, 51, 52, 53, 54, 55, 56, 57, 97, 98, 99, 100, 101, 102]), .t 20, .t 23], none⟩,
 ⟨some 25, .pure (.bin .add), [.c (.str [92, 120]), .t 24], none⟩,
 ⟨some 26, .pure .move, [.t 0], none⟩,
 ⟨some 27, .pure (.bin .and), [.t 26, .c (.int .i64 15)], none⟩,
 ⟨some 28, .pure .move, [.t 0], none⟩,
 ⟨some 29, .pure (.bin .and), [.t 28, .c (.int .i64 15)], none⟩,
 ⟨some 30, .pure (.bin .add), [.t 29, .c (.int .i64 1)], none⟩,
 ⟨some 31, .pure (.sliceS true true), [.c (.str [48, 49, 50, 51, 52, 53, 54, 55, 56, 57, 97, 98, 99, 100, 101, 102]), .t 27, .t 30], none⟩,
 ⟨some 32, .pure (.bin .add), [.t 25, .t 31], none⟩,
 ⟨some 2, .pure .move, [.t 32], none⟩])
 .ret))) }
/-- (*strings.Builder).WriteByte -/
def ac627 : AFn :=
 { nt := 17, res := [.tmp 4], body :=
 (.seq (.ops [⟨some 4, .pure .move, [.c (.nili)], none⟩])
 (.seq (.ops [⟨some 5, .pure .move, [.t 0], none⟩,
 ⟨some 6, .bad, [], none⟩])
 (.seq (.ops [⟨some 7, .pure .move, [.t 0], none⟩,
 ⟨some 8, .pure .move, [.t 0], none⟩,
 ⟨some 9, .pure .chk, [.t 8], none⟩,
 ⟨some 10, .pure (.faddr 1), [.t 9], none⟩,
 ⟨some 11, .read (.load none), [.t 10], none⟩,
 ⟨some 12, .pure .move, [.t 1], none⟩,
 ⟨some 13, .new (.buildSlice 1 [.int .u8 0] [0]), [.t 12], none⟩,
 ⟨some 14, .eff (.append 1 1), [.t 11, .t 13], none⟩,
 ⟨some 15, .pure .chk, [.t 7], none⟩,
 ⟨some 16, .pure (.faddr 1), [.t 15], none⟩,
 ⟨none, .eff (.store 1), [.t 16, .t 14], none⟩])
 (.seq (.ops [⟨some 4, .pure .move, [.c (.nili)], none⟩])
 .ret)))) }
/-- datakit/regex.arg -/
def ac628 : AFn :=
 { nt := 21, res := [], body :=
 (.seq (.ops [⟨some 4, .new (.box 6), [.t 1], none⟩])
 (.seq (.seq (.ops [⟨some 6, .pure (.faddr 0), [.t 4], none⟩,
 ⟨some 7, .read (.load none), [.t 6], none⟩,
 ⟨some 8, .pcall 639, [.t 7], none⟩,
 ⟨some 9, .pure .move, [.t 2], none⟩,
 ⟨some 10, .pure (.bin .geq), [.t 8, .t 9], none⟩])
 (.cond (.t 10)
 (.seq (.ops [⟨some 11, .pure .move, [.t 0], none⟩,
 ⟨some 12, .read (.load (some 6)), [.t 4], none⟩,
 ⟨some 13, .pcall 607, [.t 11, .t 12], none⟩])
 .ret)
 .skip))
 (.seq (.ops [⟨some 14, .pure .move, [.t 0], none⟩,
 ⟨some 15, .call 627, [.t 14, .c (.int .u8 40)], none⟩])
 (.seq (.ops [⟨some 16, .pure .move, [.t 0], none⟩,
 ⟨some 17, .read (.load (some 6)), [.t 4], none⟩,
 ⟨some 18, .pcall 607, [.t 16, .t 17], none⟩])
 (.ops [⟨some 19, .pure .move, [.t 0], none⟩,
 ⟨some 20, .call 627, [.t 19, .c (.int .u8 41)], none⟩]))))) }
/-- datakit/regex.bounds -/
def ac629 : AFn :=
 { nt := 41, res := [.tmp 4], body :=
 (.seq (.ops [⟨some 4, .pure .move, [.c (.str [])], none⟩])
 (.seq (.block 0
 (.seq (.ops [⟨some 6, .pure .move, [.t 0], none⟩,
 ⟨some 7, .pure (.bin .eql), [.t 6, .c (.int .i64 0)], none⟩,
 ⟨some 8, .pure .move, [.t 7], none⟩,
 ⟨some 9, .pure .move, [.t 1], some (8, true)⟩,
 ⟨some 10, .pure (.bin .eql), [.t 9, .c (.int .i64 (-1))], some (8, true)⟩,
 ⟨some 11, .pure .pick, [.t 8, .t 10, .c (.bool false)], none⟩,
 ⟨some 5, .pure .move, [.t 11], none⟩])
 (.cond (.t 5)
 (.seq (.ops [⟨some 4, .pure .move, [.c (.str [42])], none⟩])
 .ret)
 (.seq (.ops [⟨some 13, .pure .move, [.t 0], none⟩,
 ⟨some 14, .pure (.bin .eql), [.t 13, .c (.int .i64 1)], none⟩,
 ⟨some 15, .pure .move, [.t 14], none⟩,
 ⟨some 16, .pure .move, [.t 1], some (15, true)⟩,
 ⟨some 17, .pure (.bin .eql), [.t 16, .c (.int .i64 (-1))], some (15, true)⟩,
 ⟨some 18, .pure .pick, [.t 15, .t 17, .c (.bool false)], none⟩,
 ⟨some 12, .pure .move, [.t 18], none⟩])
 (.cond (.t 12)
 (.seq (.ops [⟨some 4, .pure .move, [.c (.str [43])], none⟩])
 .ret)
 (.seq (.ops [⟨some 20, .pure .move, [.t 0], none⟩,
 ⟨some 21, .pure (.bin .eql), [.t 20, .c (.int .i64 0)], none⟩,
 ⟨some 22, .pure .move, [.t 21], none⟩,
 ⟨some 23, .pure .move, [.t 1], some (22, true)⟩,
 ⟨some 24, .pure (.bin .eql), [.t 23, .c (.int .i64 1)], some (22, true)⟩,
 ⟨some 25, .pure .pick, [.t 22, .t 24, .c (.bool false)], none⟩,
 ⟨some 19, .pure .move, [.t 25], none⟩])
 (.cond (.t 19)
 (.seq (.ops [⟨some 4, .pure .move, [.c (.str [63])], none⟩])
 .ret)
 (.seq (.ops [⟨some 27, .pure .move, [.t 1], none⟩,
 ⟨some 28, .pure (.bin .eql), [.t 27, .c (.int .i64 (-1))], none⟩,
 ⟨some 26, .pure .move, [.t 28], none⟩])
 (.cond (.t 26)
 (.seq (.ops [⟨some 29, .pure .move, [.t 0], none⟩,
 ⟨some 30, .pcall 371, [.t 29], none⟩,
 ⟨some 31, .pure (.bin .add), [.c (.str [123]), .t 30], none⟩,
 ⟨some 32, .pure (.bin .add), [.t 31, .c (.str [44, 125])], none⟩,
 ⟨some 4, .pure .move, [.t 32], none⟩])
 .ret)
 .skip)))))))))
 (.seq (.ops [⟨some 33, .pure .move, [.t 0], none⟩,
 ⟨some 34, .pcall 371, [.t 33], none⟩,
 ⟨some 35, .pure (.bin .add), [.c (.str [123]), .t 34], none⟩,
 ⟨some 36, .pure (.bin .add), [.t 35, .c (.str [44])], none⟩,
 ⟨some 37, .pure .move, [.t 1], none⟩,
 ⟨some 38, .pcall 371, [.t 37], none⟩,
 ⟨some 39, .pure (.bin .add), [.t 36, .t 38], none⟩,
 ⟨some 40, .pure (.bin .add), [.t 39, .c (.str [125])], none⟩,
 ⟨some 4, .pure .move, [.t 40], none⟩])
 .ret))) }
/-- (*datakit/regex.parser).take -/
def ac630 : AFn :=
 { nt := 17, res := [.tmp 4], body :=
 (.seq (.ops [⟨some 4, .pure .move, [.c (.bool false)], none⟩])
 (.seq (.seq (.ops [⟨some 5, .pure .move, [.t 0], none⟩,
 ⟨some 6, .call 633, [.t 5], none⟩,
 ⟨some 7, .pure .move, [.t 1], none⟩,
 ⟨some 8, .pure (.conv .i64), [.t 7], none⟩,
 ⟨some 9, .pure (.bin .neq), [.t 6, .t 8], none⟩])
 (.cond (.t 9)
 (.seq (.ops [⟨some 4, .pure .move, [.c (.bool false)], none⟩])
 .ret)
 .skip))
 (.seq (.ops [⟨some 10, .pure .move, [.t 0], none⟩,
 ⟨some 11, .pure .chk, [.t 10], none⟩,
 ⟨some 12, .pure (.faddr 1), [.t 11], none⟩,
 ⟨some 13, .read (.load none), [.t 12], none⟩,
 ⟨some 14, .pure (.bin .add), [.t 13, .c (.int .i64 1)], none⟩,
 ⟨some 15, .pure .chk, [.t 10], none⟩,
 ⟨some 16, .pure (.faddr 1), [.t 15], none⟩,
 ⟨none, .eff (.store 1), [.t 16, .t 14], none⟩])
 (.seq (.ops [⟨some 4, .pure .move, [.c (.bool true)], none⟩])
 .ret)))) }
/-- (*datakit/regex.parser).postfix -/
def ac631 : AFn :=
 { nt := 46, res := [.cell 2 (some 6)], body :=
 (.seq (.ops [⟨some 2, .new (.new 6 [.agg [.int .i64 0, .int .i64 0, .int .i64 0, .int .i64 0, .int .i64 0, .snil 6]]), [], none⟩])
 (.seq (.ops [⟨some 6, .pure .move, [.t 0], none⟩,
 ⟨some 7, .call 640, [.t 6], none⟩,
 ⟨some 3, .new (.new 6 [.agg [.int .i64 0, .int .i64 0, .int .i64 0, .int .i64 0, .int .i64 0, .snil 6]]), [], none⟩,
 ⟨none, .eff (.store 6), [.t 3, .t 7], none⟩])
 (.seq (.seq (.ops [⟨some 4, .pure .move, [.c (.int .i64 0)], none⟩])
 (.block 0
 (.loop [0, 2, 3, 4]
 (.seq (.seq (.ops [⟨some 8, .pure .move, [.t 4], none⟩,
 ⟨some 9, .pure (.bin .leq), [.t 8, .c (.int .i64 48)], none⟩])
 (.cond (.t 9)
 .skip
 (.exit 0)))
 (.seq (.block 1
 (.seq (.ops [⟨some 12, .read (.load (some 6)), [.t 3], none⟩,
 ⟨some 13, .new (.buildSlice 6 [.agg [.int .i64 0, .int .i64 0, .int .i64 0, .int .i64 0, .int .i64 0, .snil 6]] [0]), [.t 12], none⟩,
 ⟨some 14, .pure (.build [.int .i64 0, .int .i64 0, .int .i64 0, .int .i64 0, .int .i64 0, .snil 6] [(0, 1), (5, 1), (4, 1)]), [.c (.int .i64 5), .t 13, .c (.int .i64 (-1))], none⟩,
 ⟨some 5, .new (.new 6 [.agg [.int .i64 0, .int .i64 0, .int .i64 0, .int .i64 0, .int .i64 0, .snil 6]]), [], none⟩,
 ⟨none, .eff (.store 6), [.t 5, .t 14], none⟩])
 (.seq (.block 2
 (.seq (.ops [⟨some 17, .pure .move, [.t 0], none⟩,
 ⟨some 18, .call 630, [.t 17, .c (.int .u8 42)], none⟩,
 ⟨some 16, .pure .move, [.t 18], none⟩])
 (.cond (.t 16)
 .skip
 (.seq (.ops [⟨some 20, .pure .move, [.t 0], none⟩,
 ⟨some 21, .call 630, [.t 20, .c (.int .u8 43)], none⟩,
 ⟨some 19, .pure .move, [.t 21], none⟩])
 (.cond (.t 19)
 (.ops [⟨some 22, .pure (.faddr 3), [.t 5], none⟩,
 ⟨none, .eff (.store 1), [.t 22, .c (.int .i64 1)], none⟩])
 (.seq (.ops [⟨some 24, .pure .move, [.t 0], none⟩,
 ⟨some 25, .call 630, [.t 24, .c (.int .u8 63)], none⟩,
 ⟨some 23, .pure .move, [.t 25], none⟩])
 (.cond (.t 23)
 (.ops [⟨some 26, .pure (.faddr 4), [.t 5], none⟩,
 ⟨none, .eff (.store 1), [.t 26, .c (.int .i64 1)], none⟩])
 (.seq (.ops [⟨some 28, .pure .move, [.t 0], none⟩,
 ⟨some 29, .call 630, [.t 28, .c (.int .u8 123)], none⟩,
 ⟨some 27, .pure .move, [.t 29], none⟩])
 (.cond (.t 27)
 (.seq (.ops [⟨some 30, .pure .move, [.t 0], none⟩,
 ⟨some 31, .call 641, [.t 30], none⟩,
 ⟨some 32, .pure (.faddr 3), [.t 5], none⟩,
 ⟨none, .eff (.store 1), [.t 32, .t 31], none⟩])
 (.seq (.ops [⟨some 33, .pure .move, [.t 0], none⟩,
 ⟨some 34, .call 642, [.t 33, .c (.int .u8 44)], none⟩])
 (.seq (.seq (.ops [⟨some 35, .pure .move, [.t 0], none⟩,
 ⟨some 36, .call 633, [.t 35], none⟩,
 ⟨some 37, .pure (.bin .neq), [.t 36, .c (.int .i64 125)], none⟩])
 (.cond (.t 37)
 (.ops [⟨some 38, .pure .move, [.t 0], none⟩,
 ⟨some 39, .call 641, [.t 38], none⟩,
 ⟨some 40, .pure (.faddr 4), [.t 5], none⟩,
 ⟨none, .eff (.store 1), [.t 40, .t 39], none⟩])
 .skip))
 (.ops [⟨some 41, .pure .move, [.t 0], none⟩,
 ⟨some 42, .call 642, [.t 41, .c (.int .u8 125)], none⟩]))))
 (.seq (.ops [⟨some 15, .read (.load (some 6)), [.t 3], none⟩,
 ⟨none, .eff (.store 6), [.t 2, .t 15], none⟩])
 .ret))))))))))
 (.ops [⟨some 43, .read (.load (some 6)), [.t 5], none⟩,
 ⟨none, .eff (.store 6), [.t 3, .t 43], none⟩]))))
 (.ops [⟨some 10, .pure .move, [.t 4], none⟩,
 ⟨some 11, .pure (.bin .add), [.t 10, .c (.int .i64 1)], none⟩,
 ⟨some 4, .pure .move, [.t 11], none⟩]))))))
 (.ops [⟨some 44, .pure (.build [] []), [], none⟩,
 ⟨some 45, .pure (.mkifc 149), [.t 44], none⟩,
 ⟨none, .bad, [], none⟩])))) }
/-- (*datakit/regex.parser).enter -/
def ac632 : AFn :=
 { nt := 16, res := [], body :=
 (.seq (.ops [⟨some 2, .pure .move, [.t 0], none⟩,
 ⟨some 3, .pure .chk, [.t 2], none⟩,
 ⟨some 4, .pure (.faddr 2), [.t 3], none⟩,
 ⟨some 5, .read (.load none), [.t 4], none⟩,
 ⟨some 6, .pure (.bin .add), [.t 5, .c (.int .i64 1)], none⟩,
 ⟨some 7, .pure .chk, [.t 2], none⟩,
 ⟨some 8, .pure (.faddr 2), [.t 7], none⟩,
 ⟨none, .eff (.store 1), [.t 8, .t 6], none⟩])
 (.seq (.ops [⟨some 9, .pure .move, [.t 0], none⟩,
 ⟨some 10, .pure .chk, [.t 9], none⟩,
 ⟨some 11, .pure (.faddr 2), [.t 10], none⟩,
 ⟨some 12, .read (.load none), [.t 11], none⟩,
 ⟨some 13, .pure (.bin .gtr), [.t 12, .c (.int .i64 96)], none⟩])
 (.cond (.t 13)
 (.ops [⟨some 14, .pure (.build [] []), [], none⟩,
 ⟨some 15, .pure (.mkifc 149), [.t 14], none⟩,
 ⟨none, .bad, [], none⟩])
 .skip))) }
/-- (*datakit/regex.parser).peek -/
def ac633 : AFn :=
 { nt := 23, res := [.tmp 2], body :=
 (.seq (.ops [⟨some 2, .pure .move, [.c (.int .i64 0)], none⟩])
 (.seq (.seq (.ops [⟨some 3, .pure .move, [.t 0], none⟩,
 ⟨some 4, .pure .chk, [.t 3], none⟩,
 ⟨some 5, .pure (.faddr 1), [.t 4], none⟩,
 ⟨some 6, .read (.load none), [.t 5], none⟩,
 ⟨some 7, .pure .move, [.t 0], none⟩,
 ⟨some 8, .pure .chk, [.t 7], none⟩,
 ⟨some 9, .pure (.faddr 0), [.t 8], none⟩,
 ⟨some 10, .read (.load none), [.t 9], none⟩,
 ⟨some 11, .pure .lenS, [.t 10], none⟩,
 ⟨some 12, .pure (.bin .lss), [.t 6, .t 11], none⟩])
 (.cond (.t 12)
 (.seq (.ops [⟨some 13, .pure .move, [.t 0], none⟩,
 ⟨some 14, .pure .chk, [.t 13], none⟩,
 ⟨some 15, .pure (.faddr 0), [.t 14], none⟩,
 ⟨some 16, .read (.load none), [.t 15], none⟩,
 ⟨some 17, .pure .move, [.t 0], none⟩,
 ⟨some 18, .pure .chk, [.t 17], none⟩,
 ⟨some 19, .pure (.faddr 1), [.t 18], none⟩,
 ⟨some 20, .read (.load none), [.t 19], none⟩,
 ⟨some 21, .pure .idxStr, [.t 16, .t 20], none⟩,
 ⟨some 22, .pure (.conv .i64), [.t 21], none⟩,
 ⟨some 2, .pure .move, [.t 22], none⟩])
 .ret)
 .skip))
 (.seq (.ops [⟨some 2, .pure .move, [.c (.int .i64 (-1))], none⟩])
 .ret))) }
/-- datakit/regex.row -/
def ac639 : AFn :=
 { nt := 14, res := [.tmp 2], body :=
 (.seq (.ops [⟨some 2, .pure .move, [.c (.int .i64 0)], none⟩])
 (.seq (.seq (.ops [⟨some 3, .pure .move, [.t 0], none⟩])
 (.block 0
 (.seq (.ops [⟨some 5, .pure (.bin .eql), [.t 3, .c (.int .i64 4)], none⟩,
 ⟨some 4, .pure .move, [.t 5], none⟩])
 (.cond (.t 4)
 (.seq (.ops [⟨some 2, .pure .move, [.c (.int .i64 1)], none⟩])
 .ret)
 (.seq (.ops [⟨some 7, .pure (.bin .eql), [.t 3, .c (.int .i64 6)], none⟩,
 ⟨some 6, .pure .move, [.t 7], none⟩])
 (.cond (.t 6)
 (.seq (.ops [⟨some 2, .pure .move, [.c (.int .i64 2)], none⟩])
 .ret)
 (.seq (.ops [⟨some 9, .pure (.bin .eql), [.t 3, .c (.int .i64 3)], none⟩,
 ⟨some 8, .pure .move, [.t 9], none⟩])
 (.cond (.t 8)
 (.seq (.ops [⟨some 2, .pure .move, [.c (.int .i64 3)], none⟩])
 .ret)
 (.seq (.ops [⟨some 11, .pure (.bin .eql), [.t 3, .c (.int .i64 7)], none⟩,
 ⟨some 10, .pure .move, [.t 11], none⟩])
 (.cond (.t 10)
 (.seq (.ops [⟨some 2, .pure .move, [.c (.int .i64 4)], none⟩])
 .ret)
 (.seq (.ops [⟨some 13, .pure (.bin .eql), [.t 3, .c (.int .i64 5)], none⟩,
 ⟨some 12, .pure .move, [.t 13], none⟩])
 (.cond (.t 12)
 (.seq (.ops [⟨some 2, .pure .move, [.c (.int .i64 5)], none⟩])
 .ret)
 .skip))))))))))))
 (.seq (.ops [⟨some 2, .pure .move, [.c (.int .i64 6)], none⟩])
 .ret))) }
/-- (*datakit/regex.parser).atom -/
def ac640 : AFn :=
 { nt := 52, res := [.cell 2 (some 6)], body :=
 (.seq (.ops [⟨some 2, .new (.new 6 [.agg [.int .i64 0, .int .i64 0, .int .i64 0, .int .i64 0, .int .i64 0, .snil 6]]), [], none⟩])
 (.seq (.block 0
 (.seq (.ops [⟨some 7, .pure .move, [.t 0], none⟩,
 ⟨some 8, .call 630, [.t 7, .c (.int .u8 40)], none⟩,
 ⟨some 6, .pure .move, [.t 8], none⟩])
 (.cond (.t 6)
 (.seq (.seq (.ops [⟨some 9, .pure .move, [.t 0], none⟩,
 ⟨some 10, .call 630, [.t 9, .c (.int .u8 41)], none⟩])
 (.cond (.t 10)
 (.seq (.ops [⟨some 11, .pcall 644, [], none⟩,
 ⟨none, .eff (.store 6), [.t 2, .t 11], none⟩])
 .ret)
 .skip))
 (.seq (.ops [⟨some 12, .pure .move, [.t 0], none⟩,
 ⟨some 13, .call 632, [.t 12], none⟩])
 (.seq (.ops [⟨some 14, .pure .move, [.t 0], none⟩,
 ⟨some 15, .call 576, [.t 14, .c (.int .i64 1)], none⟩,
 ⟨some 3, .new (.new 6 [.agg [.int .i64 0, .int .i64 0, .int .i64 0, .int .i64 0, .int .i64 0, .snil 6]]), [], none⟩,
 ⟨none, .eff (.store 6), [.t 3, .t 15], none⟩])
 (.seq (.ops [⟨some 16, .pure .move, [.t 0], none⟩,
 ⟨some 17, .call 642, [.t 16, .c (.int .u8 41)], none⟩])
 (.seq (.ops [⟨some 18, .pure .move, [.t 0], none⟩,
 ⟨some 19, .pure .chk, [.t 18], none⟩,
 ⟨some 20, .pure (.faddr 2), [.t 19], none⟩,
 ⟨some 21, .read (.load none), [.t 20], none⟩,
 ⟨some 22, .pure (.bin .sub), [.t 21, .c (.int .i64 1)], none⟩,
 ⟨some 23, .pure .chk, [.t 18], none⟩,
 ⟨some 24, .pure (.faddr 2), [.t 23], none⟩,
 ⟨none, .eff (.store 1), [.t 24, .t 22], none⟩])
 (.seq (.ops [⟨some 25, .read (.load (some 6)), [.t 3], none⟩,
 ⟨none, .eff (.store 6), [.t 2, .t 25], none⟩])
 .ret))))))
 (.seq (.ops [⟨some 27, .pure .move, [.t 0], none⟩,
 ⟨some 28, .call 630, [.t 27, .c (.int .u8 91)], none⟩,
 ⟨some 26, .pure .move, [.t 28], none⟩])
 (.cond (.t 26)
 (.seq (.seq (.ops [⟨some 29, .pure .move, [.t 0], none⟩,
 ⟨some 30, .call 630, [.t 29, .c (.int .u8 93)], none⟩])
 (.cond (.t 30)
 (.seq (.ops [⟨some 31, .pcall 645, [], none⟩,
 ⟨none, .eff (.store 6), [.t 2, .t 31], none⟩])
 .ret)
 .skip))
 (.seq (.ops [⟨some 32, .pure .move, [.t 0], none⟩,
 ⟨some 33, .call 646, [.t 32], none⟩,
 ⟨some 34, .pure (.build [.int .i64 0, .int .i64 0, .int .i64 0, .int .i64 0, .int .i64 0, .snil 6] [(0, 1), (1, 1)]), [.c (.int .i64 2), .t 33], none⟩,
 ⟨some 4, .new (.new 6 [.agg [.int .i64 0, .int .i64 0, .int .i64 0, .int .i64 0, .int .i64 0, .snil 6]]), [], none⟩,
 ⟨none, .eff (.store 6), [.t 4, .t 34], none⟩])
 (.seq (.ops [⟨some 35, .pure .move, [.t 0], none⟩,
 ⟨some 36, .call 642, [.t 35, .c (.int .u8 45)], none⟩])
 (.seq (.ops [⟨some 37, .pure .move, [.t 0], none⟩,
 ⟨some 38, .call 646, [.t 37], none⟩,
 ⟨some 39, .pure (.faddr 2), [.t 4], none⟩,
 ⟨none, .eff (.store 1), [.t 39, .t 38], none⟩])
 (.seq (.ops [⟨some 40, .pure .move, [.t 0], none⟩,
 ⟨some 41, .call 642, [.t 40, .c (.int .u8 93)], none⟩])
 (.seq (.ops [⟨some 42, .read (.load (some 6)), [.t 4], none⟩,
 ⟨none, .eff (.store 6), [.t 2, .t 42], none⟩])
 .ret))))))
 (.seq (.ops [⟨some 44, .pure .move, [.t 0], none⟩,
 ⟨some 45, .call 630, [.t 44, .c (.int .u8 46)], none⟩,
 ⟨some 43, .pure .move, [.t 45], none⟩])
 (.cond (.t 43)
 (.seq (.ops [⟨some 46, .pure (.build [.int .i64 0, .int .i64 0, .int .i64 0, .int .i64 0, .int .i64 0, .snil 6] [(0, 1), (2, 1)]), [.c (.int .i64 2), .c (.int .i64 255)], none⟩,
 ⟨none, .eff (.store 6), [.t 2, .t 46], none⟩])
 .ret)
 .skip)))))))
 (.seq (.ops [⟨some 47, .pure .move, [.t 0], none⟩,
 ⟨some 48, .call 646, [.t 47], none⟩,
 ⟨some 5, .pure .move, [.t 48], none⟩])
 (.seq (.ops [⟨some 49, .pure .move, [.t 5], none⟩,
 ⟨some 50, .pure .move, [.t 5], none⟩,
 ⟨some 51, .pure (.build [.int .i64 0, .int .i64 0, .int .i64 0, .int .i64 0, .int .i64 0, .snil 6] [(0, 1), (1, 1), (2, 1)]), [.c (.int .i64 2), .t 49, .t 50], none⟩,
 ⟨none, .eff (.store 6), [.t 2, .t 51], none⟩])
 .ret)))) }
/-- (*datakit/regex.parser).number -/
def ac641 : AFn :=
 { nt := 37, res := [.tmp 2], body :=
 (.seq (.ops [⟨some 2, .pure .move, [.c (.int .i64 0)], none⟩])
 (.seq (.ops [⟨some 3, .pure .move, [.c (.int .i64 0)], none⟩,
 ⟨some 4, .pure .move, [.c (.int .i64 0)], none⟩])
 (.seq (.block 0
 (.loop [0, 3, 4]
 (.seq (.seq (.ops [⟨some 5, .pure .move, [.t 4], none⟩,
 ⟨some 6, .pure (.bin .lss), [.t 5, .c (.int .i64 3)], none⟩,
 ⟨some 7, .pure .move, [.t 6], none⟩,
 ⟨some 8, .pure .move, [.t 0], some (7, true)⟩,
 ⟨some 9, .call 633, [.t 8], some (7, true)⟩,
 ⟨some 10, .pure (.bin .geq), [.t 9, .c (.int .i64 48)], some (7, true)⟩,
 ⟨some 11, .pure .pick, [.t 7, .t 10, .c (.bool false)], none⟩,
 ⟨some 12, .pure .move, [.t 11], none⟩,
 ⟨some 13, .pure .move, [.t 0], some (12, true)⟩,
 ⟨some 14, .call 633, [.t 13], some (12, true)⟩,
 ⟨some 15, .pure (.bin .leq), [.t 14, .c (.int .i64 57)], some (12, true)⟩,
 ⟨some 16, .pure .pick, [.t 12, .t 15, .c (.bool false)], none⟩])
 (.cond (.t 16)
 .skip
 (.exit 0)))
 (.seq (.block 1
 (.seq (.ops [⟨some 19, .pure .move, [.t 3], none⟩,
 ⟨some 20, .pure (.bin .mul), [.c (.int .i64 10), .t 19], none⟩,
 ⟨some 21, .pure .move, [.t 0], none⟩,
 ⟨some 22, .call 633, [.t 21], none⟩,
 ⟨some 23, .pure (.bin .add), [.t 20, .t 22], none⟩,
 ⟨some 24, .pure (.bin .sub), [.t 23, .c (.int .i64 48)], none⟩,
 ⟨some 3, .pure .move, [.t 24], none⟩])
 (.ops [⟨some 25, .pure .move, [.t 0], none⟩,
 ⟨some 26, .pure .chk, [.t 25], none⟩,
 ⟨some 27, .pure (.faddr 1), [.t 26], none⟩,
 ⟨some 28, .read (.load none), [.t 27], none⟩,
 ⟨some 29, .pure (.bin .add), [.t 28, .c (.int .i64 1)], none⟩,
 ⟨some 30, .pure .chk, [.t 25], none⟩,
 ⟨some 31, .pure (.faddr 1), [.t 30], none⟩,
 ⟨none, .eff (.store 1), [.t 31, .t 29], none⟩])))
 (.ops [⟨some 17, .pure .move, [.t 4], none⟩,
 ⟨some 18, .pure (.bin .add), [.t 17, .c (.int .i64 1)], none⟩,
 ⟨some 4, .pure .move, [.t 18], none⟩])))))
 (.seq (.seq (.ops [⟨some 32, .pure .move, [.t 4], none⟩,
 ⟨some 33, .pure (.bin .eql), [.t 32, .c (.int .i64 0)], none⟩])
 (.cond (.t 33)
 (.ops [⟨some 34, .pure (.build [] []), [], none⟩,
 ⟨some 35, .pure (.mkifc 149), [.t 34], none⟩,
 ⟨none, .bad, [], none⟩])
 .skip))
 (.seq (.ops [⟨some 36, .pure .move, [.t 3], none⟩,
 ⟨some 2, .pure .move, [.t 36], none⟩])
 .ret))))) }
/-- (*datakit/regex.parser).need -/
def ac642 : AFn :=
 { nt := 10, res := [], body :=
 (.seq (.ops [⟨some 4, .pure .move, [.t 0], none⟩,
 ⟨some 5, .pure .move, [.t 1], none⟩,
 ⟨some 6, .call 630, [.t 4, .t 5], none⟩,
 ⟨some 7, .pure (.un .not), [.t 6], none⟩])
 (.cond (.t 7)
 (.ops [⟨some 8, .pure (.build [] []), [], none⟩,
 ⟨some 9, .pure (.mkifc 149), [.t 8], none⟩,
 ⟨none, .bad, [], none⟩])
 .skip)) }
/-- datakit/regex.empty -/
def ac644 : AFn :=
 { nt := 2, res := [.cell 0 (some 6)], body :=
 (.seq (.ops [⟨some 0, .new (.new 6 [.agg [.int .i64 0, .int .i64 0, .int .i64 0, .int .i64 0, .int .i64 0, .snil 6]]), [], none⟩])
 (.seq (.ops [⟨some 1, .pure (.build [.int .i64 0, .int .i64 0, .int .i64 0, .int .i64 0, .int .i64 0, .snil 6] [(0, 1)]), [.c (.int .i64 1)], none⟩,
 ⟨none, .eff (.store 6), [.t 0, .t 1], none⟩])
 .ret)) }
/-- datakit/regex.none -/
def ac645 : AFn :=
 { nt := 2, res := [.cell 0 (some 6)], body :=
 (.seq (.ops [⟨some 0, .new (.new 6 [.agg [.int .i64 0, .int .i64 0, .int .i64 0, .int .i64 0, .int .i64 0, .snil 6]]), [], none⟩])
 (.seq (.ops [⟨some 1, .pure (.build [.int .i64 0, .int .i64 0, .int .i64 0, .int .i64 0, .int .i64 0, .snil 6] [(0, 1)]), [.c (.int .i64 0)], none⟩,
 ⟨none, .eff (.store 6), [.t 0, .t 1], none⟩])
 .ret)) }
/-- (*datakit/regex.parser).one -/
def ac646 : AFn :=
 { nt := 89, res := [.tmp 2], body :=
 (.seq (.ops [⟨some 2, .pure .move, [.c (.int .i64 0)], none⟩])
 (.seq (.ops [⟨some 6, .pure .move, [.t 0], none⟩,
 ⟨some 7, .call 633, [.t 6], none⟩,
 ⟨some 3, .pure .move, [.t 7], none⟩])
 (.seq (.seq (.ops [⟨some 8, .pure .move, [.t 3], none⟩,
 ⟨some 9, .pure (.bin .eql), [.t 8, .c (.int .i64 92)], none⟩,
 ⟨some 10, .pure .move, [.t 9], none⟩,
 ⟨some 11, .pure .move, [.t 0], some (10, true)⟩,
 ⟨some 12, .pure .chk, [.t 11], some (10, true)⟩,
 ⟨some 13, .pure (.faddr 1), [.t 12], some (10, true)⟩,
 ⟨some 14, .read (.load none), [.t 13], some (10, true)⟩,
 ⟨some 15, .pure (.bin .add), [.t 14, .c (.int .i64 4)], some (10, true)⟩,
 ⟨some 16, .pure .move, [.t 0], some (10, true)⟩,
 ⟨some 17, .pure .chk, [.t 16], some (10, true)⟩,
 ⟨some 18, .pure (.faddr 0), [.t 17], some (10, true)⟩,
 ⟨some 19, .read (.load none), [.t 18], some (10, true)⟩,
 ⟨some 20, .pure .lenS, [.t 19], some (10, true)⟩,
 ⟨some 21, .pure (.bin .leq), [.t 15, .t 20], some (10, true)⟩,
 ⟨some 22, .pure .pick, [.t 10, .t 21, .c (.bool false)], none⟩,
 ⟨some 23, .pure .move, [.t 22], none⟩,
 ⟨some 24, .pure .move, [.t 0], some (23, true)⟩,
 ⟨some 25, .pure .chk, [.t 24], some (23, true)⟩,
 ⟨some 26, .pure (.faddr 0), [.t 25], some (23, true)⟩,
 ⟨some 27, .read (.load none), [.t 26], some (23, true)⟩,
 ⟨some 28, .pure .move, [.t 0], some (23, true)⟩,
 ⟨some 29, .pure .chk, [.t 28], some (23, true)⟩,
 ⟨some 30, .pure (.faddr 1), [.t 29], some (23, true)⟩,
 ⟨some 31, .read (.load none), [.t 30], some (23, true)⟩,
 ⟨some 32, .pure (.bin .add), [.t 31, .c (.int .i64 1)], some (23, true)⟩,
 ⟨some 33, .pure .idxStr, [.t 27, .t 32], some (23, true)⟩,
 ⟨some 34, .pure (.bin .eql), [.t 33, .c (.int .u8 120)], some (23, true)⟩,
 ⟨some 35, .pure .pick, [.t 23, .t 34, .c (.bool false)], none⟩])
 (.cond (.t 35)
 (.seq (.ops [⟨some 37, .pure .move, [.t 0], none⟩,
 ⟨some 38, .pure .chk, [.t 37], none⟩,
 ⟨some 39, .pure (.faddr 0), [.t 38], none⟩,
 ⟨some 40, .read (.load none), [.t 39], none⟩,
 ⟨some 41, .pure .move, [.t 0], none⟩,
 ⟨some 42, .pure .chk, [.t 41], none⟩,
 ⟨some 43, .pure (.faddr 1), [.t 42], none⟩,
 ⟨some 44, .read (.load none), [.t 43], none⟩,
 ⟨some 45, .pure (.bin .add), [.t 44, .c (.int .i64 2)], none⟩,
 ⟨some 46, .pure .move, [.t 0], none⟩,
 ⟨some 47, .pure .chk, [.t 46], none⟩,
 ⟨some 48, .pure (.faddr 1), [.t 47], none⟩,
 ⟨some 49, .read (.load none), [.t 48], none⟩,
 ⟨some 50, .pure (.bin .add), [.t 49, .c (.int .i64 4)], none⟩,
 ⟨some 51, .pure (.sliceS true true), [.t 40, .t 45, .t 50], none⟩,
 ⟨some 52, .pcall 648, [.t 51, .c (.int .i64 16), .c (.int .i64 8)], none⟩,
 ⟨some 36, .pure .move, [.t 52], none⟩,
 ⟨some 53, .pure (.ext 0), [.t 36], none⟩,
 ⟨some 54, .pure (.ext 1), [.t 36], none⟩,
 ⟨some 4, .pure .move, [.t 53], none⟩,
 ⟨some 5, .pure .move, [.t 54], none⟩])
 (.seq (.seq (.ops [⟨some 55, .pure .move, [.t 5], none⟩,
 ⟨some 56, .pure (.eqN 3 true), [.t 55, .c (.nili)], none⟩])
 (.cond (.t 56)
 (.ops [⟨some 57, .pure (.build [] []), [], none⟩,
 ⟨some 58, .pure (.mkifc 149), [.t 57], none⟩,
 ⟨none, .bad, [], none⟩])
 .skip))
 (.seq (.ops [⟨some 59, .pure .move, [.t 0], none⟩,
 ⟨some 60, .pure .chk, [.t 59], none⟩,
 ⟨some 61, .pure (.faddr 1), [.t 60], none⟩,
 ⟨some 62, .read (.load none), [.t 61], none⟩,
 ⟨some 63, .pure (.bin .add), [.t 62, .c (.int .i64 4)], none⟩,
 ⟨some 64, .pure .chk, [.t 59], none⟩,
 ⟨some 65, .pure (.faddr 1), [.t 64], none⟩,
 ⟨none, .eff (.store 1), [.t 65, .t 63], none⟩])
 (.seq (.ops [⟨some 66, .pure .move, [.t 4], none⟩,
 ⟨some 67, .pure (.conv .i64), [.t 66], none⟩,
 ⟨some 2, .pure .move, [.t 67], none⟩])
 .ret))))
 .skip))
 (.seq (.seq (.draw 1 [[⟨some 68, .pure .move, [.t 3], none⟩,
 ⟨some 69, .pure (.bin .lss), [.t 68, .c (.int .i64 0)], none⟩,
 ⟨some 70, .pure .move, [.t 69], none⟩,
 ⟨some 71, .pure .move, [.t 3], some (70, false)⟩,
 ⟨some 72, .pcall 626, [.t 71], some (70, false)⟩,
 ⟨some 73, .pure .move, [.t 3], some (70, false)⟩,
 ⟨some 74, .pure (.conv .u8), [.t 73], some (70, false)⟩,
 ⟨some 75, .newAt 0 (.buildSlice 1 [.int .u8 0] [0]), [.t 74], some (70, false)⟩,
 ⟨some 76, .read .bytesStr, [.t 75], some (70, false)⟩,
 ⟨some 77, .pure (.bin .neq), [.t 72, .t 76], some (70, false)⟩,
 ⟨some 78, .pure .pick, [.t 70, .c (.bool true), .t 77], none⟩]])
 (.cond (.t 78)
 (.ops [⟨some 79, .pure (.build [] []), [], none⟩,
 ⟨some 80, .pure (.mkifc 149), [.t 79], none⟩,
 ⟨none, .bad, [], none⟩])
 .skip))
 (.seq (.ops [⟨some 81, .pure .move, [.t 0], none⟩,
 ⟨some 82, .pure .chk, [.t 81], none⟩,
 ⟨some 83, .pure (.faddr 1), [.t 82], none⟩,
 ⟨some 84, .read (.load none), [.t 83], none⟩,
 ⟨some 85, .pure (.bin .add), [.t 84, .c (.int .i64 1)], none⟩,
 ⟨some 86, .pure .chk, [.t 81], none⟩,
 ⟨some 87, .pure (.faddr 1), [.t 86], none⟩,
 ⟨none, .eff (.store 1), [.t 87, .t 85], none⟩])
 (.seq (.ops [⟨some 88, .pure .move, [.t 3], none⟩,
 ⟨some 2, .pure .move, [.t 88], none⟩])
 .ret)))))) }
/-- strconv.ParseUint -/
def ac648 : AFn :=
 { nt := 26, res := [.tmp 6, .tmp 7], body :=
 (.seq (.ops [⟨some 6, .pure .move, [.c (.int .u64 0)], none⟩,
 ⟨some 7, .pure .move, [.c (.nili)], none⟩])
 (.seq (.ops [⟨some 11, .pure .move, [.t 0], none⟩,
 ⟨some 12, .pure .move, [.t 1], none⟩,
 ⟨some 13, .pure .move, [.t 2], none⟩,
 ⟨some 14, .pcall 649, [.t 11, .t 12, .t 13], none⟩,
 ⟨some 10, .pure .move, [.t 14], none⟩,
 ⟨some 15, .pure (.ext 0), [.t 10], none⟩,
 ⟨some 16, .pure (.ext 1), [.t 10], none⟩,
 ⟨some 8, .pure .move, [.t 15], none⟩,
 ⟨some 9, .pure .move, [.t 16], none⟩])
 (.seq (.seq (.ops [⟨some 17, .pure .move, [.t 9], none⟩,
 ⟨some 18, .pure (.eqN 3 true), [.t 17, .c (.nili)], none⟩])
 (.cond (.t 18)
 (.seq (.ops [⟨some 19, .pure .move, [.t 8], none⟩,
 ⟨some 20, .pure .move, [.t 0], none⟩,
 ⟨some 21, .pure .move, [.t 1], none⟩,
 ⟨some 22, .pure .move, [.t 2], none⟩,
 ⟨some 23, .pure .move, [.t 9], none⟩,
 ⟨some 24, .pcall 650, [.c (.str [80, 97, 114, 115, 101, 85, 105, 110, 116]), .t 20, .t 21, .t 22, .t 23], none⟩,
 ⟨some 6, .pure .move, [.t 19], none⟩,
 ⟨some 7, .pure .move, [.t 24], none⟩])
 .ret)
 .skip))
 (.seq (.ops [⟨some 25, .pure .move, [.t 8], none⟩,
 ⟨some 6, .pure .move, [.t 25], none⟩,
 ⟨some 7, .pure .move, [.c (.nili)], none⟩])
 .ret)))) }
/-- internal/strconv.ParseUint -/
def ac649 : AFn :=
 { nt := 172, res := [.tmp 6, .tmp 7], body :=
 (.seq (.ops [⟨some 6, .pure .move, [.c (.int .u64 0)], none⟩,
 ⟨some 7, .pure .move, [.c (.nili)], none⟩])
 (.seq (.seq (.ops [⟨some 18, .pure .move, [.t 0], none⟩,
 ⟨some 19, .pure (.bin .eql), [.t 18, .c (.str [])], none⟩])
 (.cond (.t 19)
 (.seq (.ops [⟨some 20, .pure (.mkifc 249), [.c (.int .i64 2)], none⟩,
 ⟨some 6, .pure .move, [.c (.int .u64 0)], none⟩,
 ⟨some 7, .pure .move, [.t 20], none⟩])
 .ret)
 .skip))
 (.seq (.ops [⟨some 21, .pure .move, [.t 1], none⟩,
 ⟨some 22, .pure (.bin .eql), [.t 21, .c (.int .i64 0)], none⟩,
 ⟨some 8, .pure .move, [.t 22], none⟩])
 (.seq (.ops [⟨some 23, .pure .move, [.t 0], none⟩,
 ⟨some 9, .pure .move, [.t 23], none⟩])
 (.seq (.block 0
 (.seq (.ops [⟨some 26, .pure .move, [.t 1], none⟩,
 ⟨some 27, .pure (.bin .leq), [.c (.int .i64 2), .t 26], none⟩,
 ⟨some 28, .pure .move, [.t 27], none⟩,
 ⟨some 29, .pure .move, [.t 1], some (28, true)⟩,
 ⟨some 30, .pure (.bin .leq), [.t 29, .c (.int .i64 36)], some (28, true)⟩,
 ⟨some 31, .pure .pick, [.t 28, .t 30, .c (.bool false)], none⟩,
 ⟨some 25, .pure .move, [.t 31], none⟩])
 (.cond (.t 25)
 .skip
 (.seq (.ops [⟨some 33, .pure .move, [.t 1], none⟩,
 ⟨some 34, .pure (.bin .eql), [.t 33, .c (.int .i64 0)], none⟩,
 ⟨some 32, .pure .move, [.t 34], none⟩])
 (.cond (.t 32)
 (.seq (.ops [⟨some 1, .pure .move, [.c (.int .i64 10)], none⟩])
 (.seq (.ops [⟨some 35, .pure .move, [.t 0], none⟩,
 ⟨some 36, .pure .idxStr, [.t 35, .c (.int .i64 0)], none⟩,
 ⟨some 37, .pure (.bin .eql), [.t 36, .c (.int .u8 48)], none⟩])
 (.cond (.t 37)
 (.block 1
 (.seq (.ops [⟨some 41, .pure .move, [.t 0], none⟩,
 ⟨some 42, .pure .lenS, [.t 41], none⟩,
 ⟨some 43, .pure (.bin .geq), [.t 42, .c (.int .i64 3)], none⟩,
 ⟨some 44, .pure .move, [.t 43], none⟩,
 ⟨some 45, .pure .move, [.t 0], some (44, true)⟩,
 ⟨some 46, .pure .idxStr, [.t 45, .c (.int .i64 1)], some (44, true)⟩,
 ⟨some 47, .pcall 651, [.t 46], some (44, true)⟩,
 ⟨some 48, .pure (.bin .eql), [.t 47, .c (.int .u8 98)], some (44, true)⟩,
 ⟨some 49, .pure .pick, [.t 44, .t 48, .c (.bool false)], none⟩,
 ⟨some 40, .pure .move, [.t 49], none⟩])
 (.cond (.t 40)
 (.seq (.ops [⟨some 1, .pure .move, [.c (.int .i64 2)], none⟩])
 (.ops [⟨some 50, .pure .move, [.t 0], none⟩,
 ⟨some 51, .pure (.sliceS true false), [.t 50, .c (.int .i64 2)], none⟩,
 ⟨some 0, .pure .move, [.t 51], none⟩]))
 (.seq (.ops [⟨some 53, .pure .move, [.t 0], none⟩,
 ⟨some 54, .pure .lenS, [.t 53], none⟩,
 ⟨some 55, .pure (.bin .geq), [.t 54, .c (.int .i64 3)], none⟩,
 ⟨some 56, .pure .move, [.t 55], none⟩,
 ⟨some 57, .pure .move, [.t 0], some (56, true)⟩,
 ⟨some 58, .pure .idxStr, [.t 57, .c (.int .i64 1)], some (56, true)⟩,
 ⟨some 59, .pcall 651, [.t 58], some (56, true)⟩,
 ⟨some 60, .pure (.bin .eql), [.t 59, .c (.int .u8 111)], some (56, true)⟩,
 ⟨some 61, .pure .pick, [.t 56, .t 60, .c (.bool false)], none⟩,
 ⟨some 52, .pure .move, [.t 61], none⟩])
 (.cond (.t 52)
 (.seq (.ops [⟨some 1, .pure .move, [.c (.int .i64 8)], none⟩])
 (.ops [⟨some 62, .pure .move, [.t 0], none⟩,
 ⟨some 63, .pure (.sliceS true false), [.t 62, .c (.int .i64 2)], none⟩,
 ⟨some 0, .pure .move, [.t 63], none⟩]))
 (.seq (.ops [⟨some 65, .pure .move, [.t 0], none⟩,
 ⟨some 66, .pure .lenS, [.t 65], none⟩,
 ⟨some 67, .pure (.bin .geq), [.t 66, .c (.int .i64 3)], none⟩,
 ⟨some 68, .pure .move, [.t 67], none⟩,
 ⟨some 69, .pure .move, [.t 0], some (68, true)⟩,
 ⟨some 70, .pure .idxStr, [.t 69, .c (.int .i64 1)], some (68, true)⟩,
 ⟨some 71, .pcall 651, [.t 70], some (68, true)⟩,
 ⟨some 72, .pure (.bin .eql), [.t 71, .c (.int .u8 120)], some (68, true)⟩,
 ⟨some 73, .pure .pick, [.t 68, .t 72, .c (.bool false)], none⟩,
 ⟨some 64, .pure .move, [.t 73], none⟩])
 (.cond (.t 64)
 (.seq (.ops [⟨some 1, .pure .move, [.c (.int .i64 16)], none⟩])
 (.ops [⟨some 74, .pure .move, [.t 0], none⟩,
 ⟨some 75, .pure (.sliceS true false), [.t 74, .c (.int .i64 2)], none⟩,
 ⟨some 0, .pure .move, [.t 75], none⟩]))
 (.seq (.ops [⟨some 1, .pure .move, [.c (.int .i64 8)], none⟩])
 (.ops [⟨some 38, .pure .move, [.t 0], none⟩,
 ⟨some 39, .pure (.sliceS true false), [.t 38, .c (.int .i64 1)], none⟩,
 ⟨some 0, .pure .move, [.t 39], none⟩])))))))))
 .skip)))
 (.seq (.ops [⟨some 24, .pure (.mkifc 249), [.c (.int .i64 3)], none⟩,
 ⟨some 6, .pure .move, [.c (.int .u64 0)], none⟩,
 ⟨some 7, .pure .move, [.t 24], none⟩])
 .ret))))))
 (.seq (.seq (.ops [⟨some 76, .pure .move, [.t 2], none⟩,
 ⟨some 77, .pure (.bin .eql), [.t 76, .c (.int .i64 0)], none⟩])
 (.cond (.t 77)
 (.ops [⟨some 2, .pure .move, [.c (.int .i64 64)], none⟩])
 (.seq (.ops [⟨some 78, .pure .move, [.t 2], none⟩,
 ⟨some 79, .pure (.bin .lss), [.t 78, .c (.int .i64 0)], none⟩,
 ⟨some 80, .pure .move, [.t 79], none⟩,
 ⟨some 81, .pure .move, [.t 2], some (80, false)⟩,
 ⟨some 82, .pure (.bin .gtr), [.t 81, .c (.int .i64 64)], some (80, false)⟩,
 ⟨some 83, .pure .pick, [.t 80, .c (.bool true), .t 82], none⟩])
 (.cond (.t 83)
 (.seq (.ops [⟨some 84, .pure (.mkifc 249), [.c (.int .i64 4)], none⟩,
 ⟨some 6, .pure .move, [.c (.int .u64 0)], none⟩,
 ⟨some 7, .pure .move, [.t 84], none⟩])
 .ret)
 .skip))))
 (.seq (.ops [⟨some 10, .pure .move, [.c (.int .u64 0)], none⟩])
 (.seq (.seq (.ops [⟨some 85, .pure .move, [.t 1], none⟩])
 (.block 2
 (.seq (.ops [⟨some 91, .pure (.bin .eql), [.t 85, .c (.int .i64 10)], none⟩,
 ⟨some 90, .pure .move, [.t 91], none⟩])
 (.cond (.t 90)
 (.ops [⟨some 10, .pure .move, [.c (.int .u64 1844674407370955162)], none⟩])
 (.seq (.ops [⟨some 93, .pure (.bin .eql), [.t 85, .c (.int .i64 16)], none⟩,
 ⟨some 92, .pure .move, [.t 93], none⟩])
 (.cond (.t 92)
 (.ops [⟨some 10, .pure .move, [.c (.int .u64 1152921504606846976)], none⟩])
 (.ops [⟨some 86, .pure .move, [.t 1], none⟩,
 ⟨some 87, .pure (.conv .u64), [.t 86], none⟩,
 ⟨some 88, .pure (.bin .quo), [.c (.int .u64 18446744073709551615), .t 87], none⟩,
 ⟨some 89, .pure (.bin .add), [.t 88, .c (.int .u64 1)], none⟩,
 ⟨some 10, .pure .move, [.t 89], none⟩])))))))
 (.seq (.ops [⟨some 94, .pure .move, [.t 2], none⟩,
 ⟨some 95, .pure (.conv .u64), [.t 94], none⟩,
 ⟨some 96, .pure (.bin .shl), [.c (.int .u64 1), .t 95], none⟩,
 ⟨some 97, .pure (.bin .sub), [.t 96, .c (.int .u64 1)], none⟩,
 ⟨some 11, .pure .move, [.t 97], none⟩])
 (.seq (.ops [⟨some 12, .pure .move, [.c (.bool false)], none⟩])
 (.seq (.ops [⟨some 13, .pure .move, [.c (.int .u64 0)], none⟩])
 (.seq (.seq (.ops [⟨some 98, .pure .move, [.t 0], none⟩,
 ⟨some 99, .bad, [], none⟩,
 ⟨some 100, .pure .lenL, [.t 99], none⟩,
 ⟨some 101, .pure .move, [.c (.int .i64 0)], none⟩])
 (.block 3
 (.loop [1, 8, 9, 10, 11, 12, 13, 99, 100, 101]
 (.seq (.ops [⟨some 102, .pure (.bin .lss), [.t 101, .t 100], none⟩])
 (.seq (.cond (.t 102)
 .skip
 (.exit 3))
 (.seq (.block 4
 (.seq (.ops [⟨some 103, .pure (.iaddrS 1), [.t 99, .t 101], none⟩,
 ⟨some 104, .read (.load none), [.t 103], none⟩,
 ⟨some 15, .pure .move, [.t 104], none⟩])
 (.seq (.ops [⟨some 16, .pure .move, [.c (.int .u8 0)], none⟩])
 (.seq (.block 5
 (.seq (.ops [⟨some 107, .pure .move, [.t 15], none⟩,
 ⟨some 108, .pure (.bin .eql), [.t 107, .c (.int .u8 95)], none⟩,
 ⟨some 109, .pure .move, [.t 108], none⟩,
 ⟨some 110, .pure .move, [.t 8], some (109, true)⟩,
 ⟨some 111, .pure .pick, [.t 109, .t 110, .c (.bool false)], none⟩,
 ⟨some 106, .pure .move, [.t 111], none⟩])
 (.cond (.t 106)
 (.seq (.ops [⟨some 12, .pure .move, [.c (.bool true)], none⟩])
 (.exit 4))
 (.seq (.ops [⟨some 113, .pure .move, [.t 15], none⟩,
 ⟨some 114, .pure (.bin .leq), [.c (.int .u8 48), .t 113], none⟩,
 ⟨some 115, .pure .move, [.t 114], none⟩,
 ⟨some 116, .pure .move, [.t 15], some (115, true)⟩,
 ⟨some 117, .pure (.bin .leq), [.t 116, .c (.int .u8 57)], some (115, true)⟩,
 ⟨some 118, .pure .pick, [.t 115, .t 117, .c (.bool false)], none⟩,
 ⟨some 112, .pure .move, [.t 118], none⟩])
 (.cond (.t 112)
 (.ops [⟨some 119, .pure .move, [.t 15], none⟩,
 ⟨some 120, .pure (.bin .sub), [.t 119, .c (.int .u8 48)], none⟩,
 ⟨some 16, .pure .move, [.t 120], none⟩])
 (.seq (.ops [⟨some 122, .pure .move, [.t 15], none⟩,
 ⟨some 123, .pcall 651, [.t 122], none⟩,
 ⟨some 124, .pure (.bin .leq), [.c (.int .u8 97), .t 123], none⟩,
 ⟨some 125, .pure .move, [.t 124], none⟩,
 ⟨some 126, .pure .move, [.t 15], some (125, true)⟩,
 ⟨some 127, .pcall 651, [.t 126], some (125, true)⟩,
 ⟨some 128, .pure (.bin .leq), [.t 127, .c (.int .u8 122)], some (125, true)⟩,
 ⟨some 129, .pure .pick, [.t 125, .t 128, .c (.bool false)], none⟩,
 ⟨some 121, .pure .move, [.t 129], none⟩])
 (.cond (.t 121)
 (.ops [⟨some 130, .pure .move, [.t 15], none⟩,
 ⟨some 131, .pcall 651, [.t 130], none⟩,
 ⟨some 132, .pure (.bin .sub), [.t 131, .c (.int .u8 97)], none⟩,
 ⟨some 133, .pure (.bin .add), [.t 132, .c (.int .u8 10)], none⟩,
 ⟨some 16, .pure .move, [.t 133], none⟩])
 (.seq (.ops [⟨some 105, .pure (.mkifc 249), [.c (.int .i64 2)], none⟩,
 ⟨some 6, .pure .move, [.c (.int .u64 0)], none⟩,
 ⟨some 7, .pure .move, [.t 105], none⟩])
 .ret))))))))
 (.seq (.seq (.ops [⟨some 134, .pure .move, [.t 16], none⟩,
 ⟨some 135, .pure .move, [.t 1], none⟩,
 ⟨some 136, .pure (.conv .u8), [.t 135], none⟩,
 ⟨some 137, .pure (.bin .geq), [.t 134, .t 136], none⟩])
 (.cond (.t 137)
 (.seq (.ops [⟨some 138, .pure (.mkifc 249), [.c (.int .i64 2)], none⟩,
 ⟨some 6, .pure .move, [.c (.int .u64 0)], none⟩,
 ⟨some 7, .pure .move, [.t 138], none⟩])
 .ret)
 .skip))
 (.seq (.seq (.ops [⟨some 139, .pure .move, [.t 13], none⟩,
 ⟨some 140, .pure .move, [.t 10], none⟩,
 ⟨some 141, .pure (.bin .geq), [.t 139, .t 140], none⟩])
 (.cond (.t 141)
 (.seq (.ops [⟨some 142, .pure .move, [.t 11], none⟩,
 ⟨some 143, .pure (.mkifc 249), [.c (.int .i64 1)], none⟩,
 ⟨some 6, .pure .move, [.t 142], none⟩,
 ⟨some 7, .pure .move, [.t 143], none⟩])
 .ret)
 .skip))
 (.seq (.ops [⟨some 144, .pure .move, [.t 13], none⟩,
 ⟨some 145, .pure .move, [.t 1], none⟩,
 ⟨some 146, .pure (.conv .u64), [.t 145], none⟩,
 ⟨some 147, .pure (.bin .mul), [.t 144, .t 146], none⟩,
 ⟨some 13, .pure .move, [.t 147], none⟩])
 (.seq (.ops [⟨some 148, .pure .move, [.t 13], none⟩,
 ⟨some 149, .pure .move, [.t 16], none⟩,
 ⟨some 150, .pure (.conv .u64), [.t 149], none⟩,
 ⟨some 151, .pure (.bin .add), [.t 148, .t 150], none⟩,
 ⟨some 17, .pure .move, [.t 151], none⟩])
 (.seq (.seq (.ops [⟨some 152, .pure .move, [.t 17], none⟩,
 ⟨some 153, .pure .move, [.t 13], none⟩,
 ⟨some 154, .pure (.bin .lss), [.t 152, .t 153], none⟩,
 ⟨some 155, .pure .move, [.t 154], none⟩,
 ⟨some 156, .pure .move, [.t 17], some (155, false)⟩,
 ⟨some 157, .pure .move, [.t 11], some (155, false)⟩,
 ⟨some 158, .pure (.bin .gtr), [.t 156, .t 157], some (155, false)⟩,
 ⟨some 159, .pure .pick, [.t 155, .c (.bool true), .t 158], none⟩])
 (.cond (.t 159)
 (.seq (.ops [⟨some 160, .pure .move, [.t 11], none⟩,
 ⟨some 161, .pure (.mkifc 249), [.c (.int .i64 1)], none⟩,
 ⟨some 6, .pure .move, [.t 160], none⟩,
 ⟨some 7, .pure .move, [.t 161], none⟩])
 .ret)
 .skip))
 (.ops [⟨some 162, .pure .move, [.t 17], none⟩,
 ⟨some 13, .pure .move, [.t 162], none⟩]))))))))))
 (.ops [⟨some 163, .pure (.bin .add), [.t 101, .c (.int .i64 1)], none⟩,
 ⟨some 101, .pure .move, [.t 163], none⟩])))))))
 (.seq (.seq (.ops [⟨some 164, .pure .move, [.t 12], none⟩,
 ⟨some 165, .pure .move, [.t 164], none⟩,
 ⟨some 166, .pure .move, [.t 9], some (165, true)⟩,
 ⟨some 167, .pcall 652, [.t 166], some (165, true)⟩,
 ⟨some 168, .pure (.un .not), [.t 167], some (165, true)⟩,
 ⟨some 169, .pure .pick, [.t 165, .t 168, .c (.bool false)], none⟩])
 (.cond (.t 169)
 (.seq (.ops [⟨some 170, .pure (.mkifc 249), [.c (.int .i64 2)], none⟩,
 ⟨some 6, .pure .move, [.c (.int .u64 0)], none⟩,
 ⟨some 7, .pure .move, [.t 170], none⟩])
 .ret)
 .skip))
 (.seq (.ops [⟨some 171, .pure .move, [.t 13], none⟩,
 ⟨some 6, .pure .move, [.t 171], none⟩,
 ⟨some 7, .pure .move, [.c (.nili)], none⟩])
 .ret)))))))))))))) }
/-- strconv.toError -/
def ac650 : AFn :=
 { nt := 43, res := [.tmp 10], body :=
 (.seq (.ops [⟨some 10, .pure .move, [.c (.nili)], none⟩])
 (.seq (.seq (.ops [⟨some 11, .pure .move, [.t 4], none⟩])
 (.block 0
 (.seq (.ops [⟨some 13, .pure (.mkifc 249), [.c (.int .i64 2)], none⟩,
 ⟨some 14, .pure (.eqN 3 false), [.t 11, .t 13], none⟩,
 ⟨some 12, .pure .move, [.t 14], none⟩])
 (.cond (.t 12)
 (.seq (.ops [⟨some 15, .pure .move, [.t 0], none⟩,
 ⟨some 16, .pure .move, [.t 1], none⟩,
 ⟨some 17, .pcall 653, [.t 15, .t 16], none⟩,
 ⟨some 18, .pure (.mkifc 251), [.t 17], none⟩,
 ⟨some 10, .pure .move, [.t 18], none⟩])
 .ret)
 (.seq (.ops [⟨some 20, .pure (.mkifc 249), [.c (.int .i64 1)], none⟩,
 ⟨some 21, .pure (.eqN 3 false), [.t 11, .t 20], none⟩,
 ⟨some 19, .pure .move, [.t 21], none⟩])
 (.cond (.t 19)
 (.seq (.ops [⟨some 22, .pure .move, [.t 0], none⟩,
 ⟨some 23, .pure .move, [.t 1], none⟩,
 ⟨some 24, .pcall 654, [.t 22, .t 23], none⟩,
 ⟨some 25, .pure (.mkifc 251), [.t 24], none⟩,
 ⟨some 10, .pure .move, [.t 25], none⟩])
 .ret)
 (.seq (.ops [⟨some 27, .pure (.mkifc 249), [.c (.int .i64 3)], none⟩,
 ⟨some 28, .pure (.eqN 3 false), [.t 11, .t 27], none⟩,
 ⟨some 26, .pure .move, [.t 28], none⟩])
 (.cond (.t 26)
 (.seq (.ops [⟨some 29, .pure .move, [.t 0], none⟩,
 ⟨some 30, .pure .move, [.t 1], none⟩,
 ⟨some 31, .pure .move, [.t 2], none⟩,
 ⟨some 32, .pcall 655, [.t 29, .t 30, .t 31], none⟩,
 ⟨some 33, .pure (.mkifc 251), [.t 32], none⟩,
 ⟨some 10, .pure .move, [.t 33], none⟩])
 .ret)
 (.seq (.ops [⟨some 35, .pure (.mkifc 249), [.c (.int .i64 4)], none⟩,
 ⟨some 36, .pure (.eqN 3 false), [.t 11, .t 35], none⟩,
 ⟨some 34, .pure .move, [.t 36], none⟩])
 (.cond (.t 34)
 (.seq (.ops [⟨some 37, .pure .move, [.t 0], none⟩,
 ⟨some 38, .pure .move, [.t 1], none⟩,
 ⟨some 39, .pure .move, [.t 3], none⟩,
 ⟨some 40, .pcall 656, [.t 37, .t 38, .t 39], none⟩,
 ⟨some 41, .pure (.mkifc 251), [.t 40], none⟩,
 ⟨some 10, .pure .move, [.t 41], none⟩])
 .ret)
 .skip))))))))))
 (.seq (.ops [⟨some 42, .pure .move, [.t 4], none⟩,
 ⟨some 10, .pure .move, [.t 42], none⟩])
 .ret))) }
/-- internal/strconv.lower -/
def ac651 : AFn :=
 { nt := 5, res := [.tmp 2], body :=
 (.seq (.ops [⟨some 2, .pure .move, [.c (.int .u8 0)], none⟩])
 (.seq (.ops [⟨some 3, .pure .move, [.t 0], none⟩,
 ⟨some 4, .pure (.bin .or), [.t 3, .c (.int .u8 32)], none⟩,
 ⟨some 2, .pure .move, [.t 4], none⟩])
 .ret)) }
/-- internal/strconv.underscoreOK -/
def ac652 : AFn :=
 { nt := 94, res := [.tmp 2], body :=
 (.seq (.ops [⟨some 2, .pure .move, [.c (.bool false)], none⟩])
 (.seq (.ops [⟨some 3, .pure .move, [.c (.int .i32 94)], none⟩])
 (.seq (.ops [⟨some 4, .pure .move, [.c (.int .i64 0)], none⟩])
 (.seq (.seq (.ops [⟨some 6, .pure .move, [.t 0], none⟩,
 ⟨some 7, .pure .lenS, [.t 6], none⟩,
 ⟨some 8, .pure (.bin .geq), [.t 7, .c (.int .i64 1)], none⟩,
 ⟨some 9, .pure .move, [.t 8], none⟩,
 ⟨some 10, .pure .move, [.t 0], some (9, true)⟩,
 ⟨some 11, .pure .idxStr, [.t 10, .c (.int .i64 0)], some (9, true)⟩,
 ⟨some 12, .pure (.bin .eql), [.t 11, .c (.int .u8 45)], some (9, true)⟩,
 ⟨some 13, .pure .move, [.t 12], some (9, true)⟩,
 ⟨some 14, .pure .move, [.t 0], some (13, false)⟩,
 ⟨some 15, .pure .idxStr, [.t 14, .c (.int .i64 0)], some (13, false)⟩,
 ⟨some 16, .pure (.bin .eql), [.t 15, .c (.int .u8 43)], some (13, false)⟩,
 ⟨some 17, .pure .pick, [.t 13, .c (.bool true), .t 16], some (9, true)⟩,
 ⟨some 18, .pure .pick, [.t 9, .t 17, .c (.bool false)], none⟩])
 (.cond (.t 18)
 (.ops [⟨some 19, .pure .move, [.t 0], none⟩,
 ⟨some 20, .pure (.sliceS true false), [.t 19, .c (.int .i64 1)], none⟩,
 ⟨some 0, .pure .move, [.t 20], none⟩])
 .skip))
 (.seq (.ops [⟨some 5, .pure .move, [.c (.bool false)], none⟩])
 (.seq (.seq (.ops [⟨some 21, .pure .move, [.t 0], none⟩,
 ⟨some 22, .pure .lenS, [.t 21], none⟩,
 ⟨some 23, .pure (.bin .geq), [.t 22, .c (.int .i64 2)], none⟩,
 ⟨some 24, .pure .move, [.t 23], none⟩,
 ⟨some 25, .pure .move, [.t 0], some (24, true)⟩,
 ⟨some 26, .pure .idxStr, [.t 25, .c (.int .i64 0)], some (24, true)⟩,
 ⟨some 27, .pure (.bin .eql), [.t 26, .c (.int .u8 48)], some (24, true)⟩,
 ⟨some 28, .pure .pick, [.t 24, .t 27, .c (.bool false)], none⟩,
 ⟨some 29, .pure .move, [.t 28], none⟩,
 ⟨some 30, .pure .move, [.t 0], some (29, true)⟩,
 ⟨some 31, .pure .idxStr, [.t 30, .c (.int .i64 1)], some (29, true)⟩,
 ⟨some 32, .pcall 651, [.t 31], some (29, true)⟩,
 ⟨some 33, .pure (.bin .eql), [.t 32, .c (.int .u8 98)], some (29, true)⟩,
 ⟨some 34, .pure .move, [.t 33], some (29, true)⟩,
 ⟨some 35, .pure .move, [.t 0], some (34, false)⟩,
 ⟨some 36, .pure .idxStr, [.t 35, .c (.int .i64 1)], some (34, false)⟩,
 ⟨some 37, .pcall 651, [.t 36], some (34, false)⟩,
 ⟨some 38, .pure (.bin .eql), [.t 37, .c (.int .u8 111)], some (34, false)⟩,
 ⟨some 39, .pure .pick, [.t 34, .c (.bool true), .t 38], some (29, true)⟩,
 ⟨some 40, .pure .move, [.t 39], some (29, true)⟩,
 ⟨some 41, .pure .move, [.t 0], some (40, false)⟩,
 ⟨some 42, .pure .idxStr, [.t 41, .c (.int .i64 1)], some (40, false)⟩,
 ⟨some 43, .pcall 651, [.t 42], some (40, false)⟩,
 ⟨some 44, .pure (.bin .eql), [.t 43, .c (.int .u8 120)], some (40, false)⟩,
 ⟨some 45, .pure .pick, [.t 40, .c (.bool true), .t 44], some (29, true)⟩,
 ⟨some 46, .pure .pick, [.t 29, .t 45, .c (.bool false)], none⟩])
 (.cond (.t 46)
 (.seq (.ops [⟨some 4, .pure .move, [.c (.int .i64 2)], none⟩])
 (.seq (.ops [⟨some 3, .pure .move, [.c (.int .i32 48)], none⟩])
 (.ops [⟨some 47, .pure .move, [.t 0], none⟩,
 ⟨some 48, .pure .idxStr, [.t 47, .c (.int .i64 1)], none⟩,
 ⟨some 49, .pcall 651, [.t 48], none⟩,
 ⟨some 50, .pure (.bin .eql), [.t 49, .c (.int .u8 120)], none⟩,
 ⟨some 5, .pure .move, [.t 50], none⟩])))
 .skip))
 (.seq (.block 0
 (.loop [0, 3, 4, 5]
 (.seq (.seq (.ops [⟨some 51, .pure .move, [.t 4], none⟩,
 ⟨some 52, .pure .move, [.t 0], none⟩,
 ⟨some 53, .pure .lenS, [.t 52], none⟩,
 ⟨some 54, .pure (.bin .lss), [.t 51, .t 53], none⟩])
 (.cond (.t 54)
 .skip
 (.exit 0)))
 (.seq (.block 1
 (.seq (.seq (.ops [⟨some 57, .pure .move, [.t 0], none⟩,
 ⟨some 58, .pure .move, [.t 4], none⟩,
 ⟨some 59, .pure .idxStr, [.t 57, .t 58], none⟩,
 ⟨some 60, .pure (.bin .leq), [.c (.int .u8 48), .t 59], none⟩,
 ⟨some 61, .pure .move, [.t 60], none⟩,
 ⟨some 62, .pure .move, [.t 0], some (61, true)⟩,
 ⟨some 63, .pure .move, [.t 4], some (61, true)⟩,
 ⟨some 64, .pure .idxStr, [.t 62, .t 63], some (61, true)⟩,
 ⟨some 65, .pure (.bin .leq), [.t 64, .c (.int .u8 57)], some (61, true)⟩,
 ⟨some 66, .pure .pick, [.t 61, .t 65, .c (.bool false)], none⟩,
 ⟨some 67, .pure .move, [.t 66], none⟩,
 ⟨some 68, .pure .move, [.t 5], some (67, false)⟩,
 ⟨some 69, .pure .move, [.t 68], some (67, false)⟩,
 ⟨some 70, .pure .move, [.t 0], some (69, true)⟩,
 ⟨some 71, .pure .move, [.t 4], some (69, true)⟩,
 ⟨some 72, .pure .idxStr, [.t 70, .t 71], some (69, true)⟩,
 ⟨some 73, .pcall 651, [.t 72], some (69, true)⟩,
 ⟨some 74, .pure (.bin .leq), [.c (.int .u8 97), .t 73], some (69, true)⟩,
 ⟨some 75, .pure .pick, [.t 69, .t 74, .c (.bool false)], some (67, false)⟩,
 ⟨some 76, .pure .move, [.t 75], some (67, false)⟩,
 ⟨some 77, .pure .move, [.t 0], some (76, true)⟩,
 ⟨some 78, .pure .move, [.t 4], some (76, true)⟩,
 ⟨some 79, .pure .idxStr, [.t 77, .t 78], some (76, true)⟩,
 ⟨some 80, .pcall 651, [.t 79], some (76, true)⟩,
 ⟨some 81, .pure (.bin .leq), [.t 80, .c (.int .u8 102)], some (76, true)⟩,
 ⟨some 82, .pure .pick, [.t 76, .t 81, .c (.bool false)], some (67, false)⟩,
 ⟨some 83, .pure .pick, [.t 67, .c (.bool true), .t 82], none⟩])
 (.cond (.t 83)
 (.seq (.ops [⟨some 3, .pure .move, [.c (.int .i32 48)], none⟩])
 (.exit 1))
 .skip))
 (.seq (.seq (.ops [⟨some 84, .pure .move, [.t 0], none⟩,
 ⟨some 85, .pure .move, [.t 4], none⟩,
 ⟨some 86, .pure .idxStr, [.t 84, .t 85], none⟩,
 ⟨some 87, .pure (.bin .eql), [.t 86, .c (.int .u8 95)], none⟩])
 (.cond (.t 87)
 (.seq (.seq (.ops [⟨some 88, .pure .move, [.t 3], none⟩,
 ⟨some 89, .pure (.bin .neq), [.t 88, .c (.int .i32 48)], none⟩])
 (.cond (.t 89)
 (.seq (.ops [⟨some 2, .pure .move, [.c (.bool false)], none⟩])
 .ret)
 .skip))
 (.seq (.ops [⟨some 3, .pure .move, [.c (.int .i32 95)], none⟩])
 (.exit 1)))
 .skip))
 (.seq (.seq (.ops [⟨some 90, .pure .move, [.t 3], none⟩,
 ⟨some 91, .pure (.bin .eql), [.t 90, .c (.int .i32 95)], none⟩])
 (.cond (.t 91)
 (.seq (.ops [⟨some 2, .pure .move, [.c (.bool false)], none⟩])
 .ret)
 .skip))
 (.ops [⟨some 3, .pure .move, [.c (.int .i32 33)], none⟩])))))
 (.ops [⟨some 55, .pure .move, [.t 4], none⟩,
 ⟨some 56, .pure (.bin .add), [.t 55, .c (.int .i64 1)], none⟩,
 ⟨some 4, .pure .move, [.t 56], none⟩])))))
 (.seq (.ops [⟨some 92, .pure .move, [.t 3], none⟩,
 ⟨some 93, .pure (.bin .neq), [.t 92, .c (.int .i32 95)], none⟩,
 ⟨some 2, .pure .move, [.t 93], none⟩])
 .ret)))))))) }
/-- strconv.syntaxError -/
def ac653 : AFn :=
 { nt := 11, res := [.tmp 4], body :=
 (.seq (.ops [⟨some 4, .pure .move, [.c (.nilp)], none⟩])
 (.seq (.draw 1 [[⟨some 5, .pure .move, [.t 0], none⟩,
 ⟨some 6, .pure .move, [.t 1], none⟩,
 ⟨some 7, .pcall 657, [.t 6], none⟩,
 ⟨some 8, .bad, [], none⟩,
 ⟨some 9, .pure (.build [.str [], .str [], .nili] [(0, 1), (1, 1), (2, 1)]), [.t 5, .t 7, .t 8], none⟩,
 ⟨some 10, .newAt 0 (.box 3), [.t 9], none⟩,
 ⟨some 4, .pure .move, [.t 10], none⟩],
 [⟨some 5, .pure .move, [.t 0], none⟩,
 ⟨some 6, .pure .move, [.t 1], none⟩,
 ⟨some 8, .bad, [], none⟩,
 ⟨some 7, .pcall 657, [.t 6], none⟩,
 ⟨some 9, .pure (.build [.str [], .str [], .nili] [(0, 1), (1, 1), (2, 1)]), [.t 5, .t 7, .t 8], none⟩,
 ⟨some 10, .newAt 0 (.box 3), [.t 9], none⟩,
 ⟨some 4, .pure .move, [.t 10], none⟩]])
 .ret)) }
/-- strconv.rangeError -/
def ac654 : AFn :=
 { nt := 11, res := [.tmp 4], body :=
 (.seq (.ops [⟨some 4, .pure .move, [.c (.nilp)], none⟩])
 (.seq (.draw 1 [[⟨some 5, .pure .move, [.t 0], none⟩,
 ⟨some 6, .pure .move, [.t 1], none⟩,
 ⟨some 7, .pcall 657, [.t 6], none⟩,
 ⟨some 8, .bad, [], none⟩,
 ⟨some 9, .pure (.build [.str [], .str [], .nili] [(0, 1), (1, 1), (2, 1)]), [.t 5, .t 7, .t 8], none⟩,
 ⟨some 10, .newAt 0 (.box 3), [.t 9], none⟩,
 ⟨some 4, .pure .move, [.t 10], none⟩],
 [⟨some 5, .pure .move, [.t 0], none⟩,
 ⟨some 6, .pure .move, [.t 1], none⟩,
 ⟨some 8, .bad, [], none⟩,
 ⟨some 7, .pcall 657, [.t 6], none⟩,
 ⟨some 9, .pure (.build [.str [], .str [], .nili] [(0, 1), (1, 1), (2, 1)]), [.t 5, .t 7, .t 8], none⟩,
 ⟨some 10, .newAt 0 (.box 3), [.t 9], none⟩,
 ⟨some 4, .pure .move, [.t 10], none⟩]])
 .ret)) }
/-- strconv.baseError -/
def ac655 : AFn :=
 { nt := 16, res := [.tmp 6], body :=
 (.seq (.ops [⟨some 6, .pure .move, [.c (.nilp)], none⟩])
 (.seq (.ops [⟨some 7, .pure .move, [.t 0], none⟩,
 ⟨some 8, .pure .move, [.t 1], none⟩,
 ⟨some 9, .pcall 657, [.t 8], none⟩,
 ⟨some 10, .pure .move, [.t 2], none⟩,
 ⟨some 11, .pcall 371, [.t 10], none⟩,
 ⟨some 12, .pure (.bin .add), [.c (.str [105, 110, 118, 97, 108, 105, 100, 32, 98, 97, 115, 101, 32]), .t 11], none⟩,
 ⟨some 13, .pcall 658, [.t 12], none⟩,
 ⟨some 14, .pure (.build [.str [], .str [], .nili] [(0, 1), (1, 1), (2, 1)]), [.t 7, .t 9, .t 13], none⟩,
 ⟨some 15, .new (.box 3), [.t 14], none⟩,
 ⟨some 6, .pure .move, [.t 15], none⟩])
 .ret)) }
/-- strconv.bitSizeError -/
def ac656 : AFn :=
 { nt := 16, res := [.tmp 6], body :=
 (.seq (.ops [⟨some 6, .pure .move, [.c (.nilp)], none⟩])
 (.seq (.ops [⟨some 7, .pure .move, [.t 0], none⟩,
 ⟨some 8, .pure .move, [.t 1], none⟩,
 ⟨some 9, .pcall 657, [.t 8], none⟩,
 ⟨some 10, .pure .move, [.t 2], none⟩,
 ⟨some 11, .pcall 371, [.t 10], none⟩,
 ⟨some 12, .pure (.bin .add), [.c (.str [105, 110, 118, 97, 108, 105, 100, 32, 98, 105, 116, 32, 115, 105, 122, 101, 32]), .t 11], none⟩,
 ⟨some 13, .pcall 658, [.t 12], none⟩,
 ⟨some 14, .pure (.build [.str [], .str [], .nili] [(0, 1), (1, 1), (2, 1)]), [.t 7, .t 9, .t 13], none⟩,
 ⟨some 15, .new (.box 3), [.t 14], none⟩,
 ⟨some 6, .pure .move, [.t 15], none⟩])
 .ret)) }
/-- internal/stringslite.Clone -/
def ac657 : AFn :=
 { nt := 18, res := [.tmp 2], body :=
 (.seq (.ops [⟨some 2, .pure .move, [.c (.str [])], none⟩])
 (.seq (.seq (.ops [⟨some 4, .pure .move, [.t 0], none⟩,
 ⟨some 5, .pure .lenS, [.t 4], none⟩,
 ⟨some 6, .pure (.bin .eql), [.t 5, .c (.int .i64 0)], none⟩])
 (.cond (.t 6)
 (.seq (.ops [⟨some 2, .pure .move, [.c (.str [])], none⟩])
 .ret)
 .skip))
 (.seq (.ops [⟨some 7, .pure .move, [.t 0], none⟩,
 ⟨some 8, .pure .lenS, [.t 7], none⟩,
 ⟨some 9, .new (.mkSlice 1 1 (.int .u8 0)), [.t 8, .t 8], none⟩,
 ⟨some 3, .pure .move, [.t 9], none⟩])
 (.seq (.ops [⟨some 10, .pure .move, [.t 3], none⟩,
 ⟨some 11, .pure .move, [.t 0], none⟩,
 ⟨some 12, .bad, [], none⟩])
 (.seq (.ops [⟨some 13, .pure .move, [.t 3], none⟩,
 ⟨some 14, .pure (.iaddrS 1), [.t 13, .c (.int .i64 0)], none⟩,
 ⟨some 15, .pure .move, [.t 3], none⟩,
 ⟨some 16, .pure .lenL, [.t 15], none⟩,
 ⟨some 17, .bad, [], none⟩,
 ⟨some 2, .pure .move, [.t 17], none⟩])
 .ret))))) }
/-- errors.New -/
def ac658 : AFn :=
 { nt := 7, res := [.tmp 2], body :=
 (.seq (.ops [⟨some 2, .pure .move, [.c (.nili)], none⟩])
 (.seq (.ops [⟨some 3, .pure .move, [.t 0], none⟩,
 ⟨some 4, .pure (.build [.str []] [(0, 1)]), [.t 3], none⟩,
 ⟨some 5, .new (.box 1), [.t 4], none⟩,
 ⟨some 6, .pure (.mkifc 260), [.t 5], none⟩,
 ⟨some 2, .pure .move, [.t 6], none⟩])
 .ret)) }
def codeS1 : Nat → Option AFn
 | 162 => some ac162
 | 167 => some ac167
 | 229 => some ac229
 | 250 => some ac250
 | 254 => some ac254
 | 257 => some ac257
 | 262 => some ac262
 | 265 => some ac265
 | 266 => some ac266
 | 267 => some ac267
 | 268 => some ac268
 | 269 => some ac269
 | 270 => some ac270
 | 274 => some ac274
 | 275 => some ac275
 | 287 => some ac287
 | 292 => some ac292
 | 293 => some ac293
 | 298 => some ac298
 | 300 => some ac300
 | 301 => some ac301
 | 307 => some ac307
 | 357 => some ac357
 | 358 => some ac358
 | 371 => some ac371
 | 376 => some ac376
 | 377 => some ac377
 | 378 => some ac378
 | 395 => some ac395
 | 396 => some ac396
 | 404 => some ac404
 | 419 => some ac419
 | 420 => some ac420
 | 421 => some ac421
 | 422 => some ac422
 | 428 => some ac428
 | 429 => some ac429
 | 430 => some ac430
 | 431 => some ac431
 | 434 => some ac434
 | 435 => some ac435
 | 452 => some ac452
 | 454 => some ac454
 | 456 => some ac456
 | 457 => some ac457
 | 459 => some ac459
 | 461 => some ac461
 | 462 => some ac462
 | 464 => some ac464
 | 466 => some ac466
 | 474 => some ac474
 | 480 => some ac480
 | 481 => some ac481
 | 482 => some ac482
 | 483 => some ac483
 | 484 => some ac484
 | 485 => some ac485
 | 486 => some ac486
 | 489 => some ac489
 | 490 => some ac490
 | 491 => some ac491
 | 494 => some ac494
 | 495 => some ac495
 | 497 => some ac497
 | 498 => some ac498
 | 507 => some ac507
 | 508 => some ac508
 | 509 => some ac509
 | 511 => some ac511
 | 512 => some ac512
 | 513 => some ac513
 | 514 => some ac514
 | 515 => some ac515
 | 517 => some ac517
 | 521 => some ac521
 | 522 => some ac522
 | 523 => some ac523
 | 524 => some ac524
 | 525 => some ac525
 | 529 => some ac529
 | 533 => some ac533
 | 534 => some ac534
 | 535 => some ac535
 | 536 => some ac536
 | 537 => some ac537
 | 538 => some ac538
 | 560 => some ac560
 | 562 => some ac562
 | 563 => some ac563
 | 567 => some ac567
 | 568 => some ac568
 | 569 => some ac569
 | 570 => some ac570
 | 571 => some ac571
 | 572 => some ac572
 | 573 => some ac573
 | 574 => some ac574
 | 575 => some ac575
 | 576 => some ac576
 | 597 => some ac597
 | 598 => some ac598
 | 605 => some ac605
 | 606 => some ac606
 | 607 => some ac607
 | 608 => some ac608
 | 609 => some ac609
 | 624 => some ac624
 | 626 => some ac626
 | 627 => some ac627
 | 628 => some ac628
 | 629 => some ac629
 | 630 => some ac630
 | 631 => some ac631
 | 632 => some ac632
 | 633 => some ac633
 | 639 => some ac639
 | 640 => some ac640
 | 641 => some ac641
 | 642 => some ac642
 | 644 => some ac644
 | 645 => some ac645
 | 646 => some ac646
 | 648 => some ac648
 | 649 => some ac649
 | 650 => some ac650
 | 651 => some ac651
 | 652 => some ac652
 | 653 => some ac653
 | 654 => some ac654
 | 655 => some ac655
 | 656 => some ac656
 | 657 => some ac657
 | 658 => some ac658
 | _ => none
def codeS (f : Nat) : Option AFn := match code f with
 | some a => some a
 | none => codeS1 f
def clRS : Nat → Option (Nat × Nat)
 | 216 => some (11, 104)
 | 518 => some (13, 168)
 | 519 => some (17, 232)
 | 520 => some (15, 208)
 | 566 => some (6, 64)
 | 214 => some (1, 16)
 | 130 => some (14, 184)
 | _ => none
def clPS : Nat → Option (Nat × Nat)
 | 62 => some (1, 1)
 | _ => none
def csQ (f : Nat) : Bool := f == 272
def lnQ (f : Nat) : Bool := f == 551
def ssQ (f : Nat) : Bool := f == 510
def CS : Ctx := extCtx (mkCtx codeS clRS clPS) csQ lnQ ssQ
end Ago
