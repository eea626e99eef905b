/- The abstract code of the functions, printed by program. -/
import Derived.Test.YtglnglflcoeinaaGreatDoorMachE
set_option linter.unusedSimpArgs false
set_option linter.unusedVariables false
set_option maxRecDepth 100000
namespace Ago
/-- datakit/datakitlaw39.valid -/
def ac6 : AFn :=
 { nt := 10, res := [.tmp 2], body :=
 (.seq (.ops [⟨some 1, .new (.box 13), [.t 0], none⟩,
 ⟨some 2, .pure .move, [.c (.bool false)], none⟩])
 (.seq (.ops [⟨some 3, .read (.load (some 13)), [.t 1], none⟩,
 ⟨some 4, .pcall 18, [.t 3, .c (.int .i64 150), .c (.int .i64 60)], none⟩,
 ⟨some 5, .pure .move, [.t 4], none⟩,
 ⟨some 6, .read (.load (some 13)), [.t 1], some (5, true)⟩,
 ⟨some 7, .pcall 19, [.t 6], some (5, true)⟩,
 ⟨some 8, .pure (.bin .eql), [.t 7, .c (.int .i64 0)], some (5, true)⟩,
 ⟨some 9, .pure .pick, [.t 5, .t 8, .c (.bool false)], none⟩,
 ⟨some 2, .pure .move, [.t 9], none⟩])
 .ret)) }
/-- datakit/datakitref08.Equal -/
def ac11 : AFn :=
 { nt := 26, res := [.tmp 4], body :=
 (.seq (.ops [⟨some 4, .pure .move, [.c (.bool false)], none⟩])
 (.seq (.seq (.ops [⟨some 6, .pure .move, [.t 0], none⟩,
 ⟨some 7, .pure .lenL, [.t 6], none⟩,
 ⟨some 8, .pure .move, [.t 1], none⟩,
 ⟨some 9, .pure .lenL, [.t 8], none⟩,
 ⟨some 10, .pure (.bin .neq), [.t 7, .t 9], none⟩])
 (.cond (.t 10)
 (.seq (.ops [⟨some 4, .pure .move, [.c (.bool false)], none⟩])
 .ret)
 .skip))
 (.seq (.seq (.ops [⟨some 5, .pure .move, [.c (.int .i64 0)], none⟩])
 (.block 0
 (.loop [0, 1, 5]
 (.seq (.seq (.ops [⟨some 11, .pure .move, [.t 5], none⟩,
 ⟨some 12, .pure .move, [.t 0], none⟩,
 ⟨some 13, .pure .lenL, [.t 12], none⟩,
 ⟨some 14, .pure (.bin .lss), [.t 11, .t 13], none⟩])
 (.cond (.t 14)
 .skip
 (.exit 0)))
 (.seq (.block 1
 (.seq (.ops [⟨some 17, .pure .move, [.t 0], none⟩,
 ⟨some 18, .pure .move, [.t 5], none⟩,
 ⟨some 19, .pure (.iaddrS 3), [.t 17, .t 18], none⟩,
 ⟨some 20, .read (.load (some 3)), [.t 19], none⟩,
 ⟨some 21, .pure .move, [.t 1], none⟩,
 ⟨some 22, .pure .move, [.t 5], none⟩,
 ⟨some 23, .pure (.iaddrS 3), [.t 21, .t 22], none⟩,
 ⟨some 24, .read (.load (some 3)), [.t 23], none⟩,
 ⟨some 25, .pure (.eqF [.bool, .str, .int] true), [.t 20, .t 24], none⟩])
 (.cond (.t 25)
 (.seq (.ops [⟨some 4, .pure .move, [.c (.bool false)], none⟩])
 .ret)
 .skip)))
 (.ops [⟨some 15, .pure .move, [.t 5], none⟩,
 ⟨some 16, .pure (.bin .add), [.t 15, .c (.int .i64 1)], none⟩,
 ⟨some 5, .pure .move, [.t 16], none⟩]))))))
 (.seq (.ops [⟨some 4, .pure .move, [.c (.bool true)], none⟩])
 .ret)))) }
/-- datakit/datakitref08.Valid -/
def ac12 : AFn :=
 { nt := 74, res := [.tmp 2], body :=
 (.seq (.ops [⟨some 2, .pure .move, [.c (.bool false)], none⟩])
 (.seq (.seq (.ops [⟨some 4, .pure .move, [.t 0], none⟩,
 ⟨some 5, .pure .lenL, [.t 4], none⟩,
 ⟨some 6, .pure (.bin .gtr), [.t 5, .c (.int .i64 48)], none⟩])
 (.cond (.t 6)
 (.seq (.ops [⟨some 2, .pure .move, [.c (.bool false)], none⟩])
 .ret)
 .skip))
 (.seq (.seq (.ops [⟨some 3, .pure .move, [.c (.int .i64 0)], none⟩])
 (.block 0
 (.loop [0, 3]
 (.seq (.seq (.ops [⟨some 7, .pure .move, [.t 3], none⟩,
 ⟨some 8, .pure .move, [.t 0], none⟩,
 ⟨some 9, .pure .lenL, [.t 8], none⟩,
 ⟨some 10, .pure (.bin .lss), [.t 7, .t 9], none⟩])
 (.cond (.t 10)
 .skip
 (.exit 0)))
 (.seq (.block 1
 (.seq (.seq (.ops [⟨some 13, .pure .move, [.t 0], none⟩,
 ⟨some 14, .pure .move, [.t 3], none⟩,
 ⟨some 15, .pure (.iaddrS 3), [.t 13, .t 14], none⟩,
 ⟨some 16, .pure (.faddr 0), [.t 15], none⟩,
 ⟨some 17, .read (.load none), [.t 16], none⟩,
 ⟨some 18, .pure .move, [.t 17], none⟩,
 ⟨some 19, .pure .move, [.t 0], some (18, true)⟩,
 ⟨some 20, .pure .move, [.t 3], some (18, true)⟩,
 ⟨some 21, .pure (.iaddrS 3), [.t 19, .t 20], some (18, true)⟩,
 ⟨some 22, .pure (.faddr 1), [.t 21], some (18, true)⟩,
 ⟨some 23, .read (.load none), [.t 22], some (18, true)⟩,
 ⟨some 24, .pure (.bin .neq), [.t 23, .c (.str [])], some (18, true)⟩,
 ⟨some 25, .pure .move, [.t 24], some (18, true)⟩,
 ⟨some 26, .pure .move, [.t 0], some (25, false)⟩,
 ⟨some 27, .pure .move, [.t 3], some (25, false)⟩,
 ⟨some 28, .pure (.iaddrS 3), [.t 26, .t 27], some (25, false)⟩,
 ⟨some 29, .pure (.faddr 2), [.t 28], some (25, false)⟩,
 ⟨some 30, .read (.load none), [.t 29], some (25, false)⟩,
 ⟨some 31, .pure (.bin .lss), [.t 30, .c (.int .i64 0)], some (25, false)⟩,
 ⟨some 32, .pure .pick, [.t 25, .c (.bool true), .t 31], some (18, true)⟩,
 ⟨some 33, .pure .move, [.t 32], some (18, true)⟩,
 ⟨some 34, .pure .move, [.t 0], some (33, false)⟩,
 ⟨some 35, .pure .move, [.t 3], some (33, false)⟩,
 ⟨some 36, .pure (.iaddrS 3), [.t 34, .t 35], some (33, false)⟩,
 ⟨some 37, .pure (.faddr 2), [.t 36], some (33, false)⟩,
 ⟨some 38, .read (.load none), [.t 37], some (33, false)⟩,
 ⟨some 39, .pure (.bin .gtr), [.t 38, .c (.int .i64 65536)], some (33, false)⟩,
 ⟨some 40, .pure .pick, [.t 33, .c (.bool true), .t 39], some (18, true)⟩,
 ⟨some 41, .pure .pick, [.t 18, .t 40, .c (.bool false)], none⟩])
 (.cond (.t 41)
 (.seq (.ops [⟨some 2, .pure .move, [.c (.bool false)], none⟩])
 .ret)
 .skip))
 (.seq (.ops [⟨some 42, .pure .move, [.t 0], none⟩,
 ⟨some 43, .pure .move, [.t 3], none⟩,
 ⟨some 44, .pure (.iaddrS 3), [.t 42, .t 43], none⟩,
 ⟨some 45, .pure (.faddr 0), [.t 44], none⟩,
 ⟨some 46, .read (.load none), [.t 45], none⟩,
 ⟨some 47, .pure (.un .not), [.t 46], none⟩,
 ⟨some 48, .pure .move, [.t 47], none⟩,
 ⟨some 49, .pure .move, [.t 0], some (48, true)⟩,
 ⟨some 50, .pure .move, [.t 3], some (48, true)⟩,
 ⟨some 51, .pure (.iaddrS 3), [.t 49, .t 50], some (48, true)⟩,
 ⟨some 52, .pure (.faddr 2), [.t 51], some (48, true)⟩,
 ⟨some 53, .read (.load none), [.t 52], some (48, true)⟩,
 ⟨some 54, .pure (.bin .neq), [.t 53, .c (.int .i64 0)], some (48, true)⟩,
 ⟨some 55, .pure .move, [.t 54], some (48, true)⟩,
 ⟨some 56, .pure .move, [.t 0], some (55, false)⟩,
 ⟨some 57, .pure .move, [.t 3], some (55, false)⟩,
 ⟨some 58, .pure (.iaddrS 3), [.t 56, .t 57], some (55, false)⟩,
 ⟨some 59, .pure (.faddr 1), [.t 58], some (55, false)⟩,
 ⟨some 60, .read (.load none), [.t 59], some (55, false)⟩,
 ⟨some 61, .pure .lenS, [.t 60], some (55, false)⟩,
 ⟨some 62, .pure (.bin .gtr), [.t 61, .c (.int .i64 1024)], some (55, false)⟩,
 ⟨some 63, .pure .pick, [.t 55, .c (.bool true), .t 62], some (48, true)⟩,
 ⟨some 64, .pure .move, [.t 63], some (48, true)⟩,
 ⟨some 65, .pure .move, [.t 0], some (64, false)⟩,
 ⟨some 66, .pure .move, [.t 3], some (64, false)⟩,
 ⟨some 67, .pure (.iaddrS 3), [.t 65, .t 66], some (64, false)⟩,
 ⟨some 68, .pure (.faddr 1), [.t 67], some (64, false)⟩,
 ⟨some 69, .read (.load none), [.t 68], some (64, false)⟩,
 ⟨some 70, .pcall 24, [.t 69], some (64, false)⟩,
 ⟨some 71, .pure (.un .not), [.t 70], some (64, false)⟩,
 ⟨some 72, .pure .pick, [.t 64, .c (.bool true), .t 71], some (48, true)⟩,
 ⟨some 73, .pure .pick, [.t 48, .t 72, .c (.bool false)], none⟩])
 (.cond (.t 73)
 (.seq (.ops [⟨some 2, .pure .move, [.c (.bool false)], none⟩])
 .ret)
 .skip))))
 (.ops [⟨some 11, .pure .move, [.t 3], none⟩,
 ⟨some 12, .pure (.bin .add), [.t 11, .c (.int .i64 1)], none⟩,
 ⟨some 3, .pure .move, [.t 12], none⟩]))))))
 (.seq (.ops [⟨some 2, .pure .move, [.c (.bool true)], none⟩])
 .ret)))) }
/-- datakit/qpath.Get -/
def ac13 : AFn :=
 { nt := 20, res := [.cell 4 (some 13), .tmp 5], body :=
 (.seq (.ops [⟨some 2, .new (.box 13), [.t 0], none⟩,
 ⟨some 4, .new (.new 13 [.agg [.int .i64 0, .bool false, .bool false, .str [], .int .i64 0, .int .i64 0, .int .i64 0, .int .i64 0, .int .i64 0, .str [], .snil 1, .snil 13, .snil 14]]), [], none⟩,
 ⟨some 5, .pure .move, [.c (.int .i64 0)], none⟩])
 (.seq (.ops [⟨some 9, .read (.load (some 13)), [.t 2], none⟩,
 ⟨some 10, .pure .move, [.t 1], none⟩,
 ⟨some 11, .pcall 25, [.t 9, .t 10], none⟩,
 ⟨some 8, .pure .move, [.t 11], none⟩,
 ⟨some 12, .pure (.ext 0), [.t 8], none⟩,
 ⟨some 13, .pure (.ext 1), [.t 8], none⟩,
 ⟨some 6, .new (.new 13 [.agg [.int .i64 0, .bool false, .bool false, .str [], .int .i64 0, .int .i64 0, .int .i64 0, .int .i64 0, .int .i64 0, .str [], .snil 1, .snil 13, .snil 14]]), [], none⟩,
 ⟨none, .eff (.store 13), [.t 6, .t 12], none⟩,
 ⟨some 7, .pure .move, [.t 13], none⟩])
 (.seq (.seq (.ops [⟨some 14, .pure .move, [.t 7], none⟩,
 ⟨some 15, .pure (.bin .neq), [.t 14, .c (.int .i64 0)], none⟩])
 (.cond (.t 15)
 (.seq (.ops [⟨some 16, .pure (.build [.int .i64 0, .bool false, .bool false, .str [], .int .i64 0, .int .i64 0, .int .i64 0, .int .i64 0, .int .i64 0, .str [], .snil 1, .snil 13, .snil 14] []), [], none⟩,
 ⟨some 17, .pure .move, [.t 7], none⟩,
 ⟨none, .eff (.store 13), [.t 4, .t 16], none⟩,
 ⟨some 5, .pure .move, [.t 17], none⟩])
 .ret)
 .skip))
 (.seq (.ops [⟨some 18, .read (.load (some 13)), [.t 6], none⟩,
 ⟨some 19, .pcall 26, [.t 18], none⟩,
 ⟨none, .eff (.store 13), [.t 4, .t 19], none⟩,
 ⟨some 5, .pure .move, [.c (.int .i64 0)], none⟩])
 .ret)))) }
/-- datakit/datakitref39.Get -/
def ac14 : AFn :=
 { nt := 38, res := [.cell 4 (some 13), .tmp 5], body :=
 (.seq (.ops [⟨some 2, .new (.box 13), [.t 0], none⟩,
 ⟨some 4, .new (.new 13 [.agg [.int .i64 0, .bool false, .bool false, .str [], .int .i64 0, .int .i64 0, .int .i64 0, .int .i64 0, .int .i64 0, .str [], .snil 1, .snil 13, .snil 14]]), [], none⟩,
 ⟨some 5, .pure .move, [.c (.int .i64 0)], none⟩])
 (.seq (.seq (.ops [⟨some 6, .pure .move, [.c (.int .i64 0)], none⟩])
 (.block 0
 (.loop [1, 2, 4, 6]
 (.seq (.seq (.ops [⟨some 9, .pure .move, [.t 6], none⟩,
 ⟨some 10, .pure .move, [.t 1], none⟩,
 ⟨some 11, .pure .lenL, [.t 10], none⟩,
 ⟨some 12, .pure (.bin .lss), [.t 9, .t 11], none⟩])
 (.cond (.t 12)
 .skip
 (.exit 0)))
 (.seq (.block 1
 (.seq (.seq (.ops [⟨some 15, .pure (.faddr 0), [.t 2], none⟩,
 ⟨some 16, .read (.load none), [.t 15], none⟩,
 ⟨some 17, .pure (.bin .eql), [.t 16, .c (.int .i64 0)], none⟩])
 (.cond (.t 17)
 (.exit 1)
 .skip))
 (.seq (.ops [⟨some 19, .read (.load (some 13)), [.t 2], none⟩,
 ⟨some 20, .pure .move, [.t 1], none⟩,
 ⟨some 21, .pure .move, [.t 6], none⟩,
 ⟨some 22, .pure (.iaddrS 3), [.t 20, .t 21], none⟩,
 ⟨some 23, .read (.load (some 3)), [.t 22], none⟩,
 ⟨some 24, .pcall 27, [.t 19, .t 23], none⟩,
 ⟨some 18, .pure .move, [.t 24], none⟩,
 ⟨some 25, .pure (.ext 0), [.t 18], none⟩,
 ⟨some 26, .pure (.ext 1), [.t 18], none⟩,
 ⟨some 7, .pure .move, [.t 25], none⟩,
 ⟨some 8, .pure .move, [.t 26], none⟩])
 (.seq (.seq (.ops [⟨some 27, .pure .move, [.t 8], none⟩,
 ⟨some 28, .pure (.bin .eql), [.t 27, .c (.int .i64 6)], none⟩])
 (.cond (.t 28)
 (.seq (.ops [⟨some 29, .pure (.build [.int .i64 0, .bool false, .bool false, .str [], .int .i64 0, .int .i64 0, .int .i64 0, .int .i64 0, .int .i64 0, .str [], .snil 1, .snil 13, .snil 14] []), [], none⟩,
 ⟨some 30, .pure .move, [.t 8], none⟩,
 ⟨none, .eff (.store 13), [.t 4, .t 29], none⟩,
 ⟨some 5, .pure .move, [.t 30], none⟩])
 .ret)
 .skip))
 (.seq (.ops [⟨some 31, .pure .move, [.t 8], none⟩,
 ⟨some 32, .pure (.bin .neq), [.t 31, .c (.int .i64 0)], none⟩])
 (.cond (.t 32)
 (.ops [⟨some 33, .pure (.build [.int .i64 0, .bool false, .bool false, .str [], .int .i64 0, .int .i64 0, .int .i64 0, .int .i64 0, .int .i64 0, .str [], .snil 1, .snil 13, .snil 14] []), [], none⟩,
 ⟨none, .eff (.store 13), [.t 2, .t 33], none⟩])
 (.ops [⟨some 34, .read (.load (some 13)), [.t 2], none⟩,
 ⟨some 35, .pure .move, [.t 7], none⟩,
 ⟨some 36, .pcall 28, [.t 34, .t 35], none⟩,
 ⟨none, .eff (.store 13), [.t 2, .t 36], none⟩])))))))
 (.ops [⟨some 13, .pure .move, [.t 6], none⟩,
 ⟨some 14, .pure (.bin .add), [.t 13, .c (.int .i64 1)], none⟩,
 ⟨some 6, .pure .move, [.t 14], none⟩]))))))
 (.seq (.ops [⟨some 37, .read (.load (some 13)), [.t 2], none⟩,
 ⟨none, .eff (.store 13), [.t 4, .t 37], none⟩,
 ⟨some 5, .pure .move, [.c (.int .i64 0)], none⟩])
 .ret))) }
/-- datakit/datakitlaw39.alike -/
def ac15 : AFn :=
 { nt := 17, res := [.tmp 8], body :=
 (.seq (.ops [⟨some 4, .new (.box 13), [.t 0], none⟩,
 ⟨some 6, .new (.box 13), [.t 2], none⟩,
 ⟨some 8, .pure .move, [.c (.bool false)], none⟩])
 (.seq (.ops [⟨some 9, .pure .move, [.t 1], none⟩,
 ⟨some 10, .pure .move, [.t 3], none⟩,
 ⟨some 11, .pure (.bin .eql), [.t 9, .t 10], none⟩,
 ⟨some 12, .pure .move, [.t 11], none⟩,
 ⟨some 13, .read (.load (some 13)), [.t 4], some (12, true)⟩,
 ⟨some 14, .read (.load (some 13)), [.t 6], some (12, true)⟩,
 ⟨some 15, .pcall 29, [.t 13, .t 14], some (12, true)⟩,
 ⟨some 16, .pure .pick, [.t 12, .t 15, .c (.bool false)], none⟩,
 ⟨some 8, .pure .move, [.t 16], none⟩])
 .ret)) }
/-- datakit/qpath.Delete -/
def ac16 : AFn :=
 { nt := 82, res := [.cell 4 (some 13), .tmp 5], body :=
 (.seq (.ops [⟨some 2, .new (.box 13), [.t 0], none⟩,
 ⟨some 4, .new (.new 13 [.agg [.int .i64 0, .bool false, .bool false, .str [], .int .i64 0, .int .i64 0, .int .i64 0, .int .i64 0, .int .i64 0, .str [], .snil 1, .snil 13, .snil 14]]), [], none⟩,
 ⟨some 5, .pure .move, [.c (.int .i64 0)], none⟩])
 (.seq (.ops [⟨some 6, .pure .move, [.c (.snil 1)], none⟩])
 (.seq (.ops [⟨some 7, .pure .move, [.c (.bool false)], none⟩])
 (.seq (.seq (.ops [⟨some 15, .pure .move, [.t 1], none⟩,
 ⟨some 16, .pure .lenL, [.t 15], none⟩,
 ⟨some 17, .pure .move, [.c (.int .i64 0)], none⟩])
 (.block 0
 (.loop [2, 4, 6, 7, 15, 16, 17]
 (.seq (.ops [⟨some 18, .pure (.bin .lss), [.t 17, .t 16], none⟩])
 (.seq (.cond (.t 18)
 .skip
 (.exit 0))
 (.seq (.block 1
 (.seq (.ops [⟨some 19, .pure (.iaddrS 1), [.t 15, .t 17], none⟩,
 ⟨some 20, .read (.load none), [.t 19], none⟩,
 ⟨some 9, .pure .move, [.t 20], none⟩])
 (.seq (.seq (.ops [⟨some 21, .pure .move, [.t 9], none⟩,
 ⟨some 22, .pcall 30, [.t 21], none⟩,
 ⟨some 23, .pure (.un .not), [.t 22], none⟩])
 (.cond (.t 23)
 (.seq (.ops [⟨some 24, .pure (.build [.int .i64 0, .bool false, .bool false, .str [], .int .i64 0, .int .i64 0, .int .i64 0, .int .i64 0, .int .i64 0, .str [], .snil 1, .snil 13, .snil 14] []), [], none⟩,
 ⟨none, .eff (.store 13), [.t 4, .t 24], none⟩,
 ⟨some 5, .pure .move, [.c (.int .i64 1)], none⟩])
 .ret)
 .skip))
 (.seq (.seq (.ops [⟨some 26, .read (.load (some 13)), [.t 2], none⟩,
 ⟨some 27, .pure .move, [.t 9], none⟩,
 ⟨some 28, .pcall 25, [.t 26, .t 27], none⟩,
 ⟨some 25, .pure .move, [.t 28], none⟩,
 ⟨some 29, .pure (.ext 0), [.t 25], none⟩,
 ⟨some 30, .pure (.ext 1), [.t 25], none⟩,
 ⟨some 10, .new (.new 13 [.agg [.int .i64 0, .bool false, .bool false, .str [], .int .i64 0, .int .i64 0, .int .i64 0, .int .i64 0, .int .i64 0, .str [], .snil 1, .snil 13, .snil 14]]), [], none⟩,
 ⟨none, .eff (.store 13), [.t 10, .t 29], none⟩,
 ⟨some 11, .pure .move, [.t 30], none⟩])
 (.seq (.ops [⟨some 31, .pure .move, [.t 11], none⟩,
 ⟨some 32, .pure (.bin .neq), [.t 31, .c (.int .i64 0)], none⟩])
 (.cond (.t 32)
 (.seq (.ops [⟨some 33, .pure (.build [.int .i64 0, .bool false, .bool false, .str [], .int .i64 0, .int .i64 0, .int .i64 0, .int .i64 0, .int .i64 0, .str [], .snil 1, .snil 13, .snil 14] []), [], none⟩,
 ⟨some 34, .pure .move, [.t 11], none⟩,
 ⟨none, .eff (.store 13), [.t 4, .t 33], none⟩,
 ⟨some 5, .pure .move, [.t 34], none⟩])
 .ret)
 .skip)))
 (.seq (.ops [⟨some 35, .pure .move, [.t 7], none⟩,
 ⟨some 36, .pure .move, [.t 35], none⟩,
 ⟨some 37, .pure .move, [.t 9], some (36, false)⟩,
 ⟨some 38, .pure .lenL, [.t 37], some (36, false)⟩,
 ⟨some 39, .pure (.bin .eql), [.t 38, .c (.int .i64 0)], some (36, false)⟩,
 ⟨some 40, .pure .pick, [.t 36, .c (.bool true), .t 39], none⟩,
 ⟨some 7, .pure .move, [.t 40], none⟩])
 (.seq (.ops [⟨some 41, .read (.load (some 13)), [.t 2], none⟩,
 ⟨some 42, .pure .move, [.t 9], none⟩,
 ⟨some 43, .pcall 31, [.t 41, .t 42], none⟩])
 (.cond (.t 43)
 (.ops [⟨some 44, .pure .move, [.t 6], none⟩,
 ⟨some 45, .pure .move, [.t 9], none⟩,
 ⟨some 46, .new (.buildSlice 1 [.snil 3] [0]), [.t 45], none⟩,
 ⟨some 47, .eff (.append 1 24), [.t 44, .t 46], none⟩,
 ⟨some 6, .pure .move, [.t 47], none⟩])
 .skip)))))))
 (.ops [⟨some 48, .pure (.bin .add), [.t 17, .c (.int .i64 1)], none⟩,
 ⟨some 17, .pure .move, [.t 48], none⟩])))))))
 (.seq (.seq (.ops [⟨some 49, .pure .move, [.t 7], none⟩])
 (.cond (.t 49)
 (.seq (.ops [⟨some 50, .pure (.build [.int .i64 0, .bool false, .bool false, .str [], .int .i64 0, .int .i64 0, .int .i64 0, .int .i64 0, .int .i64 0, .str [], .snil 1, .snil 13, .snil 14] []), [], none⟩,
 ⟨none, .eff (.store 13), [.t 4, .t 50], none⟩,
 ⟨some 5, .pure .move, [.c (.int .i64 0)], none⟩])
 .ret)
 .skip))
 (.seq (.ops [⟨some 51, .pure .move, [.t 6], none⟩,
 ⟨some 52, .call 32, [.t 51, .c (.fn 33 [])], none⟩])
 (.seq (.ops [⟨some 53, .read (.load (some 13)), [.t 2], none⟩,
 ⟨some 54, .pcall 26, [.t 53], none⟩,
 ⟨some 12, .new (.new 13 [.agg [.int .i64 0, .bool false, .bool false, .str [], .int .i64 0, .int .i64 0, .int .i64 0, .int .i64 0, .int .i64 0, .str [], .snil 1, .snil 13, .snil 14]]), [], none⟩,
 ⟨none, .eff (.store 13), [.t 12, .t 54], none⟩])
 (.seq (.seq (.ops [⟨some 55, .pure .move, [.t 6], none⟩,
 ⟨some 56, .pure .lenL, [.t 55], none⟩,
 ⟨some 57, .pure .move, [.c (.int .i64 0)], none⟩])
 (.block 2
 (.loop [4, 6, 12, 55, 56, 57]
 (.seq (.ops [⟨some 58, .pure (.bin .lss), [.t 57, .t 56], none⟩])
 (.seq (.cond (.t 58)
 .skip
 (.exit 2))
 (.seq (.block 3
 (.seq (.ops [⟨some 59, .pure .move, [.t 57], none⟩,
 ⟨some 60, .pure (.iaddrS 1), [.t 55, .t 57], none⟩,
 ⟨some 61, .read (.load none), [.t 60], none⟩,
 ⟨some 13, .pure .move, [.t 59], none⟩,
 ⟨some 14, .pure .move, [.t 61], none⟩])
 (.seq (.ops [⟨some 62, .pure .move, [.t 13], none⟩,
 ⟨some 63, .pure (.bin .eql), [.t 62, .c (.int .i64 0)], none⟩,
 ⟨some 64, .pure .move, [.t 63], none⟩,
 ⟨some 65, .pure .move, [.t 6], some (64, false)⟩,
 ⟨some 66, .pure .move, [.t 13], some (64, false)⟩,
 ⟨some 67, .pure (.bin .sub), [.t 66, .c (.int .i64 1)], some (64, false)⟩,
 ⟨some 68, .pure (.iaddrS 1), [.t 65, .t 67], some (64, false)⟩,
 ⟨some 69, .read (.load none), [.t 68], some (64, false)⟩,
 ⟨some 70, .pure .move, [.t 14], some (64, false)⟩,
 ⟨some 71, .pcall 35, [.t 69, .t 70], some (64, false)⟩,
 ⟨some 72, .pure (.un .not), [.t 71], some (64, false)⟩,
 ⟨some 73, .pure .pick, [.t 64, .c (.bool true), .t 72], none⟩])
 (.cond (.t 73)
 (.ops [⟨some 75, .read (.load (some 13)), [.t 12], none⟩,
 ⟨some 76, .pure .move, [.t 14], none⟩,
 ⟨some 77, .pcall 36, [.t 75, .t 76], none⟩,
 ⟨some 74, .pure .move, [.t 77], none⟩,
 ⟨some 78, .pure (.ext 0), [.t 74], none⟩,
 ⟨some 79, .pure (.ext 1), [.t 74], none⟩,
 ⟨none, .eff (.store 13), [.t 12, .t 78], none⟩])
 .skip))))
 (.ops [⟨some 80, .pure (.bin .add), [.t 57, .c (.int .i64 1)], none⟩,
 ⟨some 57, .pure .move, [.t 80], none⟩])))))))
 (.seq (.ops [⟨some 81, .read (.load (some 13)), [.t 12], none⟩,
 ⟨none, .eff (.store 13), [.t 4, .t 81], none⟩,
 ⟨some 5, .pure .move, [.c (.int .i64 0)], none⟩])
 .ret))))))))) }
/-- datakit/datakitref39.Delete -/
def ac17 : AFn :=
 { nt := 50, res := [.cell 4 (some 13), .tmp 5], body :=
 (.seq (.ops [⟨some 2, .new (.box 13), [.t 0], none⟩,
 ⟨some 4, .new (.new 13 [.agg [.int .i64 0, .bool false, .bool false, .str [], .int .i64 0, .int .i64 0, .int .i64 0, .int .i64 0, .int .i64 0, .str [], .snil 1, .snil 13, .snil 14]]), [], none⟩,
 ⟨some 5, .pure .move, [.c (.int .i64 0)], none⟩])
 (.seq (.ops [⟨some 6, .pure .move, [.c (.bool false)], none⟩])
 (.seq (.seq (.ops [⟨some 7, .pure .move, [.c (.int .i64 0)], none⟩])
 (.block 0
 (.loop [1, 2, 4, 6, 7]
 (.seq (.seq (.ops [⟨some 10, .pure .move, [.t 7], none⟩,
 ⟨some 11, .pure .move, [.t 1], none⟩,
 ⟨some 12, .pure .lenL, [.t 11], none⟩,
 ⟨some 13, .pure (.bin .lss), [.t 10, .t 12], none⟩])
 (.cond (.t 13)
 .skip
 (.exit 0)))
 (.seq (.block 1
 (.seq (.seq (.ops [⟨some 16, .pure .move, [.t 1], none⟩,
 ⟨some 17, .pure .move, [.t 7], none⟩,
 ⟨some 18, .pure (.iaddrS 1), [.t 16, .t 17], none⟩,
 ⟨some 19, .read (.load none), [.t 18], none⟩,
 ⟨some 20, .pcall 12, [.t 19], none⟩,
 ⟨some 21, .pure (.un .not), [.t 20], none⟩])
 (.cond (.t 21)
 (.seq (.ops [⟨some 22, .pure (.build [.int .i64 0, .bool false, .bool false, .str [], .int .i64 0, .int .i64 0, .int .i64 0, .int .i64 0, .int .i64 0, .str [], .snil 1, .snil 13, .snil 14] []), [], none⟩,
 ⟨none, .eff (.store 13), [.t 4, .t 22], none⟩,
 ⟨some 5, .pure .move, [.c (.int .i64 1)], none⟩])
 .ret)
 .skip))
 (.seq (.seq (.draw 1 [[⟨some 24, .read (.load (some 13)), [.t 2], none⟩,
 ⟨some 25, .pure .move, [.t 1], none⟩,
 ⟨some 26, .pure .move, [.t 7], none⟩,
 ⟨some 27, .pure (.iaddrS 1), [.t 25, .t 26], none⟩,
 ⟨some 28, .read (.load none), [.t 27], none⟩,
 ⟨some 29, .pcall 14, [.t 24, .t 28], none⟩,
 ⟨some 23, .pure .move, [.t 29], none⟩,
 ⟨some 30, .pure (.ext 0), [.t 23], none⟩,
 ⟨some 31, .pure (.ext 1), [.t 23], none⟩,
 ⟨some 8, .newAt 0 (.new 13 [.agg [.int .i64 0, .bool false, .bool false, .str [], .int .i64 0, .int .i64 0, .int .i64 0, .int .i64 0, .int .i64 0, .str [], .snil 1, .snil 13, .snil 14]]), [], none⟩,
 ⟨none, .eff (.store 13), [.t 8, .t 30], none⟩,
 ⟨some 9, .pure .move, [.t 31], none⟩]])
 (.seq (.ops [⟨some 32, .pure .move, [.t 9], none⟩,
 ⟨some 33, .pure (.bin .neq), [.t 32, .c (.int .i64 0)], none⟩])
 (.cond (.t 33)
 (.seq (.ops [⟨some 34, .pure (.build [.int .i64 0, .bool false, .bool false, .str [], .int .i64 0, .int .i64 0, .int .i64 0, .int .i64 0, .int .i64 0, .str [], .snil 1, .snil 13, .snil 14] []), [], none⟩,
 ⟨some 35, .pure .move, [.t 9], none⟩,
 ⟨none, .eff (.store 13), [.t 4, .t 34], none⟩,
 ⟨some 5, .pure .move, [.t 35], none⟩])
 .ret)
 .skip)))
 (.ops [⟨some 36, .pure .move, [.t 6], none⟩,
 ⟨some 37, .pure .move, [.t 36], none⟩,
 ⟨some 38, .pure .move, [.t 1], some (37, false)⟩,
 ⟨some 39, .pure .move, [.t 7], some (37, false)⟩,
 ⟨some 40, .pure (.iaddrS 1), [.t 38, .t 39], some (37, false)⟩,
 ⟨some 41, .read (.load none), [.t 40], some (37, false)⟩,
 ⟨some 42, .pure .lenL, [.t 41], some (37, false)⟩,
 ⟨some 43, .pure (.bin .eql), [.t 42, .c (.int .i64 0)], some (37, false)⟩,
 ⟨some 44, .pure .pick, [.t 37, .c (.bool true), .t 43], none⟩,
 ⟨some 6, .pure .move, [.t 44], none⟩]))))
 (.ops [⟨some 14, .pure .move, [.t 7], none⟩,
 ⟨some 15, .pure (.bin .add), [.t 14, .c (.int .i64 1)], none⟩,
 ⟨some 7, .pure .move, [.t 15], none⟩]))))))
 (.seq (.seq (.ops [⟨some 45, .pure .move, [.t 6], none⟩])
 (.cond (.t 45)
 (.seq (.ops [⟨some 46, .pure (.build [.int .i64 0, .bool false, .bool false, .str [], .int .i64 0, .int .i64 0, .int .i64 0, .int .i64 0, .int .i64 0, .str [], .snil 1, .snil 13, .snil 14] []), [], none⟩,
 ⟨none, .eff (.store 13), [.t 4, .t 46], none⟩,
 ⟨some 5, .pure .move, [.c (.int .i64 0)], none⟩])
 .ret)
 .skip))
 (.seq (.ops [⟨some 47, .read (.load (some 13)), [.t 2], none⟩,
 ⟨some 48, .pure .move, [.t 1], none⟩,
 ⟨some 49, .pcall 37, [.t 47, .c (.snil 3), .t 48], none⟩,
 ⟨none, .eff (.store 13), [.t 4, .t 49], none⟩,
 ⟨some 5, .pure .move, [.c (.int .i64 0)], none⟩])
 .ret))))) }
/-- datakit/datakitref07.Small -/
def ac18 : AFn :=
 { nt := 12, res := [.tmp 6], body :=
 (.seq (.ops [⟨some 3, .new (.box 13), [.t 0], none⟩,
 ⟨some 6, .pure .move, [.c (.bool false)], none⟩])
 (.seq (.ops [⟨some 7, .read (.load (some 13)), [.t 3], none⟩,
 ⟨some 8, .pure .move, [.t 1], none⟩,
 ⟨some 9, .pure .move, [.t 2], none⟩,
 ⟨some 10, .pcall 38, [.t 7, .t 8, .t 9], none⟩,
 ⟨some 11, .pure (.bin .geq), [.t 10, .c (.int .i64 0)], none⟩,
 ⟨some 6, .pure .move, [.t 11], none⟩])
 .ret)) }
/-- datakit/datakitref07.Check -/
def ac19 : AFn :=
 { nt := 11, res := [.tmp 2], body :=
 (.seq (.ops [⟨some 1, .new (.box 13), [.t 0], none⟩,
 ⟨some 2, .pure .move, [.c (.int .i64 0)], none⟩])
 (.seq (.ops [⟨some 6, .read (.load (some 13)), [.t 1], none⟩,
 ⟨some 7, .pcall 39, [.t 6, .c (.int .i64 1), .c (.int .i64 0)], none⟩,
 ⟨some 5, .pure .move, [.t 7], none⟩,
 ⟨some 8, .pure (.ext 0), [.t 5], none⟩,
 ⟨some 9, .pure (.ext 1), [.t 5], none⟩,
 ⟨some 3, .pure .move, [.t 8], none⟩,
 ⟨some 4, .pure .move, [.t 9], none⟩])
 (.seq (.ops [⟨some 10, .pure .move, [.t 4], none⟩,
 ⟨some 2, .pure .move, [.t 10], none⟩])
 .ret))) }
/-- datakit/datakitref03.Valid -/
def ac24 : AFn :=
 { nt := 11, res := [.tmp 2], body :=
 (.seq (.ops [⟨some 2, .pure .move, [.c (.bool false)], none⟩])
 (.seq (.ops [⟨some 6, .pure .move, [.t 0], none⟩,
 ⟨some 7, .pcall 42, [.t 6], none⟩,
 ⟨some 5, .pure .move, [.t 7], none⟩,
 ⟨some 8, .pure (.ext 0), [.t 5], none⟩,
 ⟨some 9, .pure (.ext 1), [.t 5], none⟩,
 ⟨some 3, .pure .move, [.t 8], none⟩,
 ⟨some 4, .pure .move, [.t 9], none⟩])
 (.seq (.ops [⟨some 10, .pure .move, [.t 4], none⟩,
 ⟨some 2, .pure .move, [.t 10], none⟩])
 .ret))) }
/-- datakit/qpath.get -/
def ac25 : AFn :=
 { nt := 29, res := [.cell 4 (some 13), .tmp 5], body :=
 (.seq (.ops [⟨some 2, .new (.box 13), [.t 0], none⟩,
 ⟨some 4, .new (.new 13 [.agg [.int .i64 0, .bool false, .bool false, .str [], .int .i64 0, .int .i64 0, .int .i64 0, .int .i64 0, .int .i64 0, .str [], .snil 1, .snil 13, .snil 14]]), [], none⟩,
 ⟨some 5, .pure .move, [.c (.int .i64 0)], none⟩])
 (.seq (.seq (.ops [⟨some 8, .pure .move, [.t 1], none⟩,
 ⟨some 9, .pure .lenL, [.t 8], none⟩,
 ⟨some 10, .pure .move, [.c (.int .i64 0)], none⟩])
 (.block 0
 (.loop [2, 4, 8, 9, 10]
 (.seq (.ops [⟨some 11, .pure (.bin .lss), [.t 10, .t 9], none⟩])
 (.seq (.cond (.t 11)
 .skip
 (.exit 0))
 (.seq (.block 1
 (.seq (.ops [⟨some 12, .pure (.iaddrS 3), [.t 8, .t 10], none⟩,
 ⟨some 13, .read (.load (some 3)), [.t 12], none⟩,
 ⟨some 7, .new (.new 3 [.agg [.bool false, .str [], .int .i64 0]]), [], none⟩,
 ⟨none, .eff (.store 3), [.t 7, .t 13], none⟩])
 (.block 2
 (.seq (.ops [⟨some 18, .pure (.faddr 0), [.t 2], none⟩,
 ⟨some 19, .read (.load none), [.t 18], none⟩,
 ⟨some 20, .pure (.bin .eql), [.t 19, .c (.int .i64 0)], none⟩,
 ⟨some 17, .pure .move, [.t 20], none⟩])
 (.cond (.t 17)
 .skip
 (.seq (.ops [⟨some 22, .read (.load (some 13)), [.t 2], none⟩,
 ⟨some 23, .read (.load (some 3)), [.t 7], none⟩,
 ⟨some 24, .pcall 43, [.t 22, .t 23], none⟩,
 ⟨some 25, .pure (.un .not), [.t 24], none⟩,
 ⟨some 21, .pure .move, [.t 25], none⟩])
 (.cond (.t 21)
 (.seq (.ops [⟨some 26, .pure (.build [.int .i64 0, .bool false, .bool false, .str [], .int .i64 0, .int .i64 0, .int .i64 0, .int .i64 0, .int .i64 0, .str [], .snil 1, .snil 13, .snil 14] []), [], none⟩,
 ⟨none, .eff (.store 13), [.t 4, .t 26], none⟩,
 ⟨some 5, .pure .move, [.c (.int .i64 6)], none⟩])
 .ret)
 (.ops [⟨some 14, .read (.load (some 13)), [.t 2], none⟩,
 ⟨some 15, .read (.load (some 3)), [.t 7], none⟩,
 ⟨some 16, .pcall 44, [.t 14, .t 15], none⟩,
 ⟨none, .eff (.store 13), [.t 2, .t 16], none⟩]))))))))
 (.ops [⟨some 27, .pure (.bin .add), [.t 10, .c (.int .i64 1)], none⟩,
 ⟨some 10, .pure .move, [.t 27], none⟩])))))))
 (.seq (.ops [⟨some 28, .read (.load (some 13)), [.t 2], none⟩,
 ⟨none, .eff (.store 13), [.t 4, .t 28], none⟩,
 ⟨some 5, .pure .move, [.c (.int .i64 0)], none⟩])
 .ret))) }
/-- datakit/value.Copy -/
def ac26 : AFn :=
 { nt := 5, res := [.cell 2 (some 13)], body :=
 (.seq (.ops [⟨some 1, .new (.box 13), [.t 0], none⟩,
 ⟨some 2, .new (.new 13 [.agg [.int .i64 0, .bool false, .bool false, .str [], .int .i64 0, .int .i64 0, .int .i64 0, .int .i64 0, .int .i64 0, .str [], .snil 1, .snil 13, .snil 14]]), [], none⟩])
 (.seq (.ops [⟨some 3, .read (.load (some 13)), [.t 1], none⟩,
 ⟨some 4, .pcall 45, [.t 3, .c (.int .i64 65536)], none⟩,
 ⟨none, .eff (.store 13), [.t 2, .t 4], none⟩])
 .ret)) }
/-- datakit/datakitref09.Find -/
def ac27 : AFn :=
 { nt := 45, res := [.tmp 4, .tmp 5], body :=
 (.seq (.ops [⟨some 2, .new (.box 13), [.t 0], none⟩,
 ⟨some 3, .new (.box 3), [.t 1], none⟩,
 ⟨some 4, .pure .move, [.c (.int .i64 0)], none⟩,
 ⟨some 5, .pure .move, [.c (.int .i64 0)], none⟩])
 (.seq (.seq (.ops [⟨some 7, .pure (.faddr 0), [.t 3], none⟩,
 ⟨some 8, .read (.load none), [.t 7], none⟩])
 (.cond (.t 8)
 (.seq (.seq (.ops [⟨some 9, .pure (.faddr 0), [.t 2], none⟩,
 ⟨some 10, .read (.load none), [.t 9], none⟩,
 ⟨some 11, .pure (.bin .neq), [.t 10, .c (.int .i64 6)], none⟩])
 (.cond (.t 11)
 (.seq (.ops [⟨some 4, .pure .move, [.c (.int .i64 0)], none⟩,
 ⟨some 5, .pure .move, [.c (.int .i64 6)], none⟩])
 .ret)
 .skip))
 (.seq (.seq (.ops [⟨some 12, .pure (.faddr 2), [.t 3], none⟩,
 ⟨some 13, .read (.load none), [.t 12], none⟩,
 ⟨some 14, .pure (.bin .lss), [.t 13, .c (.int .i64 0)], none⟩,
 ⟨some 15, .pure .move, [.t 14], none⟩,
 ⟨some 16, .pure (.faddr 2), [.t 3], some (15, false)⟩,
 ⟨some 17, .read (.load none), [.t 16], some (15, false)⟩,
 ⟨some 18, .pure (.faddr 11), [.t 2], some (15, false)⟩,
 ⟨some 19, .read (.load none), [.t 18], some (15, false)⟩,
 ⟨some 20, .pure .lenL, [.t 19], some (15, false)⟩,
 ⟨some 21, .pure (.bin .geq), [.t 17, .t 20], some (15, false)⟩,
 ⟨some 22, .pure .pick, [.t 15, .c (.bool true), .t 21], none⟩])
 (.cond (.t 22)
 (.seq (.ops [⟨some 4, .pure .move, [.c (.int .i64 0)], none⟩,
 ⟨some 5, .pure .move, [.c (.int .i64 7)], none⟩])
 .ret)
 .skip))
 (.seq (.ops [⟨some 23, .pure (.faddr 2), [.t 3], none⟩,
 ⟨some 24, .read (.load none), [.t 23], none⟩,
 ⟨some 4, .pure .move, [.t 24], none⟩,
 ⟨some 5, .pure .move, [.c (.int .i64 0)], none⟩])
 .ret)))
 .skip))
 (.seq (.seq (.ops [⟨some 25, .pure (.faddr 0), [.t 2], none⟩,
 ⟨some 26, .read (.load none), [.t 25], none⟩,
 ⟨some 27, .pure (.bin .neq), [.t 26, .c (.int .i64 7)], none⟩])
 (.cond (.t 27)
 (.seq (.ops [⟨some 4, .pure .move, [.c (.int .i64 0)], none⟩,
 ⟨some 5, .pure .move, [.c (.int .i64 6)], none⟩])
 .ret)
 .skip))
 (.seq (.seq (.ops [⟨some 6, .pure .move, [.c (.int .i64 0)], none⟩])
 (.block 0
 (.loop [2, 3, 6]
 (.seq (.seq (.ops [⟨some 28, .pure .move, [.t 6], none⟩,
 ⟨some 29, .pure (.faddr 12), [.t 2], none⟩,
 ⟨some 30, .read (.load none), [.t 29], none⟩,
 ⟨some 31, .pure .lenL, [.t 30], none⟩,
 ⟨some 32, .pure (.bin .lss), [.t 28, .t 31], none⟩])
 (.cond (.t 32)
 .skip
 (.exit 0)))
 (.seq (.block 1
 (.seq (.ops [⟨some 35, .pure (.faddr 12), [.t 2], none⟩,
 ⟨some 36, .read (.load none), [.t 35], none⟩,
 ⟨some 37, .pure .move, [.t 6], none⟩,
 ⟨some 38, .pure (.iaddrS 14), [.t 36, .t 37], none⟩,
 ⟨some 39, .pure (.faddr 0), [.t 38], none⟩,
 ⟨some 40, .read (.load none), [.t 39], none⟩,
 ⟨some 41, .pure (.faddr 1), [.t 3], none⟩,
 ⟨some 42, .read (.load none), [.t 41], none⟩,
 ⟨some 43, .pure (.bin .eql), [.t 40, .t 42], none⟩])
 (.cond (.t 43)
 (.seq (.ops [⟨some 44, .pure .move, [.t 6], none⟩,
 ⟨some 4, .pure .move, [.t 44], none⟩,
 ⟨some 5, .pure .move, [.c (.int .i64 0)], none⟩])
 .ret)
 .skip)))
 (.ops [⟨some 33, .pure .move, [.t 6], none⟩,
 ⟨some 34, .pure (.bin .add), [.t 33, .c (.int .i64 1)], none⟩,
 ⟨some 6, .pure .move, [.t 34], none⟩]))))))
 (.seq (.ops [⟨some 4, .pure .move, [.c (.int .i64 0)], none⟩,
 ⟨some 5, .pure .move, [.c (.int .i64 7)], none⟩])
 .ret))))) }
/-- datakit/datakitref09.Part -/
def ac28 : AFn :=
 { nt := 19, res := [.cell 4 (some 13)], body :=
 (.seq (.ops [⟨some 2, .new (.box 13), [.t 0], none⟩,
 ⟨some 4, .new (.new 13 [.agg [.int .i64 0, .bool false, .bool false, .str [], .int .i64 0, .int .i64 0, .int .i64 0, .int .i64 0, .int .i64 0, .str [], .snil 1, .snil 13, .snil 14]]), [], none⟩])
 (.seq (.seq (.ops [⟨some 5, .pure (.faddr 0), [.t 2], none⟩,
 ⟨some 6, .read (.load none), [.t 5], none⟩,
 ⟨some 7, .pure (.bin .eql), [.t 6, .c (.int .i64 6)], none⟩])
 (.cond (.t 7)
 (.seq (.ops [⟨some 8, .pure (.faddr 11), [.t 2], none⟩,
 ⟨some 9, .read (.load none), [.t 8], none⟩,
 ⟨some 10, .pure .move, [.t 1], none⟩,
 ⟨some 11, .pure (.iaddrS 13), [.t 9, .t 10], none⟩,
 ⟨some 12, .read (.load (some 13)), [.t 11], none⟩,
 ⟨none, .eff (.store 13), [.t 4, .t 12], none⟩])
 .ret)
 .skip))
 (.seq (.ops [⟨some 13, .pure (.faddr 12), [.t 2], none⟩,
 ⟨some 14, .read (.load none), [.t 13], none⟩,
 ⟨some 15, .pure .move, [.t 1], none⟩,
 ⟨some 16, .pure (.iaddrS 14), [.t 14, .t 15], none⟩,
 ⟨some 17, .pure (.faddr 1), [.t 16], none⟩,
 ⟨some 18, .read (.load (some 13)), [.t 17], none⟩,
 ⟨none, .eff (.store 13), [.t 4, .t 18], none⟩])
 .ret))) }
/-- datakit/datakitref07.Same -/
def ac29 : AFn :=
 { nt := 122, res := [.tmp 4], body :=
 (.seq (.ops [⟨some 2, .new (.box 13), [.t 0], none⟩,
 ⟨some 3, .new (.box 13), [.t 1], none⟩,
 ⟨some 4, .pure .move, [.c (.bool false)], none⟩])
 (.seq (.seq (.ops [⟨some 7, .pure (.faddr 0), [.t 2], none⟩,
 ⟨some 8, .read (.load none), [.t 7], none⟩,
 ⟨some 9, .pure (.faddr 0), [.t 3], none⟩,
 ⟨some 10, .read (.load none), [.t 9], none⟩,
 ⟨some 11, .pure (.bin .neq), [.t 8, .t 10], none⟩,
 ⟨some 12, .pure .move, [.t 11], none⟩,
 ⟨some 13, .pure (.faddr 1), [.t 2], some (12, false)⟩,
 ⟨some 14, .read (.load none), [.t 13], some (12, false)⟩,
 ⟨some 15, .pure (.faddr 1), [.t 3], some (12, false)⟩,
 ⟨some 16, .read (.load none), [.t 15], some (12, false)⟩,
 ⟨some 17, .pure (.eqB true), [.t 14, .t 16], some (12, false)⟩,
 ⟨some 18, .pure .pick, [.t 12, .c (.bool true), .t 17], none⟩,
 ⟨some 19, .pure .move, [.t 18], none⟩,
 ⟨some 20, .pure (.faddr 2), [.t 2], some (19, false)⟩,
 ⟨some 21, .read (.load (some 3)), [.t 20], some (19, false)⟩,
 ⟨some 22, .pure (.faddr 2), [.t 3], some (19, false)⟩,
 ⟨some 23, .read (.load (some 3)), [.t 22], some (19, false)⟩,
 ⟨some 24, .pure (.eqF [.bool, .str, .int] true), [.t 21, .t 23], some (19, false)⟩,
 ⟨some 25, .pure .pick, [.t 19, .c (.bool true), .t 24], none⟩,
 ⟨some 26, .pure .move, [.t 25], none⟩,
 ⟨some 27, .pure (.faddr 5), [.t 2], some (26, false)⟩,
 ⟨some 28, .read (.load (some 4)), [.t 27], some (26, false)⟩,
 ⟨some 29, .pure (.faddr 5), [.t 3], some (26, false)⟩,
 ⟨some 30, .read (.load (some 4)), [.t 29], some (26, false)⟩,
 ⟨some 31, .pure (.eqF [.int, .int, .int, .int] true), [.t 28, .t 30], some (26, false)⟩,
 ⟨some 32, .pure .pick, [.t 26, .c (.bool true), .t 31], none⟩,
 ⟨some 33, .pure .move, [.t 32], none⟩,
 ⟨some 34, .pure (.faddr 9), [.t 2], some (33, false)⟩,
 ⟨some 35, .read (.load none), [.t 34], some (33, false)⟩,
 ⟨some 36, .pure (.faddr 9), [.t 3], some (33, false)⟩,
 ⟨some 37, .read (.load none), [.t 36], some (33, false)⟩,
 ⟨some 38, .pure (.bin .neq), [.t 35, .t 37], some (33, false)⟩,
 ⟨some 39, .pure .pick, [.t 33, .c (.bool true), .t 38], none⟩,
 ⟨some 40, .pure .move, [.t 39], none⟩,
 ⟨some 41, .pure (.faddr 10), [.t 2], some (40, false)⟩,
 ⟨some 42, .read (.load none), [.t 41], some (40, false)⟩,
 ⟨some 43, .read .bytesStr, [.t 42], some (40, false)⟩,
 ⟨some 44, .pure (.faddr 10), [.t 3], some (40, false)⟩,
 ⟨some 45, .read (.load none), [.t 44], some (40, false)⟩,
 ⟨some 46, .read .bytesStr, [.t 45], some (40, false)⟩,
 ⟨some 47, .pure (.bin .neq), [.t 43, .t 46], some (40, false)⟩,
 ⟨some 48, .pure .pick, [.t 40, .c (.bool true), .t 47], none⟩,
 ⟨some 49, .pure .move, [.t 48], none⟩,
 ⟨some 50, .pure (.faddr 11), [.t 2], some (49, false)⟩,
 ⟨some 51, .read (.load none), [.t 50], some (49, false)⟩,
 ⟨some 52, .pure .lenL, [.t 51], some (49, false)⟩,
 ⟨some 53, .pure (.faddr 11), [.t 3], some (49, false)⟩,
 ⟨some 54, .read (.load none), [.t 53], some (49, false)⟩,
 ⟨some 55, .pure .lenL, [.t 54], some (49, false)⟩,
 ⟨some 56, .pure (.bin .neq), [.t 52, .t 55], some (49, false)⟩,
 ⟨some 57, .pure .pick, [.t 49, .c (.bool true), .t 56], none⟩,
 ⟨some 58, .pure .move, [.t 57], none⟩,
 ⟨some 59, .pure (.faddr 12), [.t 2], some (58, false)⟩,
 ⟨some 60, .read (.load none), [.t 59], some (58, false)⟩,
 ⟨some 61, .pure .lenL, [.t 60], some (58, false)⟩,
 ⟨some 62, .pure (.faddr 12), [.t 3], some (58, false)⟩,
 ⟨some 63, .read (.load none), [.t 62], some (58, false)⟩,
 ⟨some 64, .pure .lenL, [.t 63], some (58, false)⟩,
 ⟨some 65, .pure (.bin .neq), [.t 61, .t 64], some (58, false)⟩,
 ⟨some 66, .pure .pick, [.t 58, .c (.bool true), .t 65], none⟩])
 (.cond (.t 66)
 (.seq (.ops [⟨some 4, .pure .move, [.c (.bool false)], none⟩])
 .ret)
 .skip))
 (.seq (.seq (.ops [⟨some 5, .pure .move, [.c (.int .i64 0)], none⟩])
 (.block 0
 (.loop [2, 3, 5]
 (.seq (.seq (.ops [⟨some 67, .pure .move, [.t 5], none⟩,
 ⟨some 68, .pure (.faddr 11), [.t 2], none⟩,
 ⟨some 69, .read (.load none), [.t 68], none⟩,
 ⟨some 70, .pure .lenL, [.t 69], none⟩,
 ⟨some 71, .pure (.bin .lss), [.t 67, .t 70], none⟩])
 (.cond (.t 71)
 .skip
 (.exit 0)))
 (.seq (.block 1
 (.seq (.ops [⟨some 74, .pure (.faddr 11), [.t 2], none⟩,
 ⟨some 75, .read (.load none), [.t 74], none⟩,
 ⟨some 76, .pure .move, [.t 5], none⟩,
 ⟨some 77, .pure (.iaddrS 13), [.t 75, .t 76], none⟩,
 ⟨some 78, .read (.load (some 13)), [.t 77], none⟩,
 ⟨some 79, .pure (.faddr 11), [.t 3], none⟩,
 ⟨some 80, .read (.load none), [.t 79], none⟩,
 ⟨some 81, .pure .move, [.t 5], none⟩,
 ⟨some 82, .pure (.iaddrS 13), [.t 80, .t 81], none⟩,
 ⟨some 83, .read (.load (some 13)), [.t 82], none⟩,
 ⟨some 84, .pcall 29, [.t 78, .t 83], none⟩,
 ⟨some 85, .pure (.un .not), [.t 84], none⟩])
 (.cond (.t 85)
 (.seq (.ops [⟨some 4, .pure .move, [.c (.bool false)], none⟩])
 .ret)
 .skip)))
 (.ops [⟨some 72, .pure .move, [.t 5], none⟩,
 ⟨some 73, .pure (.bin .add), [.t 72, .c (.int .i64 1)], none⟩,
 ⟨some 5, .pure .move, [.t 73], none⟩]))))))
 (.seq (.seq (.ops [⟨some 6, .pure .move, [.c (.int .i64 0)], none⟩])
 (.block 2
 (.loop [2, 3, 6]
 (.seq (.seq (.ops [⟨some 86, .pure .move, [.t 6], none⟩,
 ⟨some 87, .pure (.faddr 12), [.t 2], none⟩,
 ⟨some 88, .read (.load none), [.t 87], none⟩,
 ⟨some 89, .pure .lenL, [.t 88], none⟩,
 ⟨some 90, .pure (.bin .lss), [.t 86, .t 89], none⟩])
 (.cond (.t 90)
 .skip
 (.exit 2)))
 (.seq (.block 3
 (.seq (.ops [⟨some 93, .pure (.faddr 12), [.t 2], none⟩,
 ⟨some 94, .read (.load none), [.t 93], none⟩,
 ⟨some 95, .pure .move, [.t 6], none⟩,
 ⟨some 96, .pure (.iaddrS 14), [.t 94, .t 95], none⟩,
 ⟨some 97, .pure (.faddr 0), [.t 96], none⟩,
 ⟨some 98, .read (.load none), [.t 97], none⟩,
 ⟨some 99, .pure (.faddr 12), [.t 3], none⟩,
 ⟨some 100, .read (.load none), [.t 99], none⟩,
 ⟨some 101, .pure .move, [.t 6], none⟩,
 ⟨some 102, .pure (.iaddrS 14), [.t 100, .t 101], none⟩,
 ⟨some 103, .pure (.faddr 0), [.t 102], none⟩,
 ⟨some 104, .read (.load none), [.t 103], none⟩,
 ⟨some 105, .pure (.bin .neq), [.t 98, .t 104], none⟩,
 ⟨some 106, .pure .move, [.t 105], none⟩,
 ⟨some 107, .pure (.faddr 12), [.t 2], some (106, false)⟩,
 ⟨some 108, .read (.load none), [.t 107], some (106, false)⟩,
 ⟨some 109, .pure .move, [.t 6], some (106, false)⟩,
 ⟨some 110, .pure (.iaddrS 14), [.t 108, .t 109], some (106, false)⟩,
 ⟨some 111, .pure (.faddr 1), [.t 110], some (106, false)⟩,
 ⟨some 112, .read (.load (some 13)), [.t 111], some (106, false)⟩,
 ⟨some 113, .pure (.faddr 12), [.t 3], some (106, false)⟩,
 ⟨some 114, .read (.load none), [.t 113], some (106, false)⟩,
 ⟨some 115, .pure .move, [.t 6], some (106, false)⟩,
 ⟨some 116, .pure (.iaddrS 14), [.t 114, .t 115], some (106, false)⟩,
 ⟨some 117, .pure (.faddr 1), [.t 116], some (106, false)⟩,
 ⟨some 118, .read (.load (some 13)), [.t 117], some (106, false)⟩,
 ⟨some 119, .pcall 29, [.t 112, .t 118], some (106, false)⟩,
 ⟨some 120, .pure (.un .not), [.t 119], some (106, false)⟩,
 ⟨some 121, .pure .pick, [.t 106, .c (.bool true), .t 120], none⟩])
 (.cond (.t 121)
 (.seq (.ops [⟨some 4, .pure .move, [.c (.bool false)], none⟩])
 .ret)
 .skip)))
 (.ops [⟨some 91, .pure .move, [.t 6], none⟩,
 ⟨some 92, .pure (.bin .add), [.t 91, .c (.int .i64 1)], none⟩,
 ⟨some 6, .pure .move, [.t 92], none⟩]))))))
 (.seq (.ops [⟨some 4, .pure .move, [.c (.bool true)], none⟩])
 .ret))))) }
/-- datakit/path.Valid -/
def ac30 : AFn :=
 { nt := 45, res := [.tmp 2], body :=
 (.seq (.ops [⟨some 2, .pure .move, [.c (.bool false)], none⟩])
 (.seq (.seq (.ops [⟨some 5, .pure .move, [.t 0], none⟩,
 ⟨some 6, .pure .lenL, [.t 5], none⟩,
 ⟨some 7, .pure (.bin .gtr), [.t 6, .c (.int .i64 48)], none⟩])
 (.cond (.t 7)
 (.seq (.ops [⟨some 2, .pure .move, [.c (.bool false)], none⟩])
 .ret)
 .skip))
 (.seq (.seq (.ops [⟨some 8, .pure .move, [.t 0], none⟩,
 ⟨some 9, .pure .lenL, [.t 8], none⟩,
 ⟨some 10, .pure .move, [.c (.int .i64 0)], none⟩])
 (.block 0
 (.loop [8, 9, 10]
 (.seq (.ops [⟨some 11, .pure (.bin .lss), [.t 10, .t 9], none⟩])
 (.seq (.cond (.t 11)
 .skip
 (.exit 0))
 (.seq (.block 1
 (.seq (.ops [⟨some 12, .pure (.iaddrS 3), [.t 8, .t 10], none⟩,
 ⟨some 13, .read (.load (some 3)), [.t 12], none⟩,
 ⟨some 4, .new (.new 3 [.agg [.bool false, .str [], .int .i64 0]]), [], none⟩,
 ⟨none, .eff (.store 3), [.t 4, .t 13], none⟩])
 (.seq (.ops [⟨some 14, .pure (.faddr 0), [.t 4], none⟩,
 ⟨some 15, .read (.load none), [.t 14], none⟩])
 (.cond (.t 15)
 (.seq (.ops [⟨some 16, .pure (.faddr 1), [.t 4], none⟩,
 ⟨some 17, .read (.load none), [.t 16], none⟩,
 ⟨some 18, .pure (.bin .neq), [.t 17, .c (.str [])], none⟩,
 ⟨some 19, .pure .move, [.t 18], none⟩,
 ⟨some 20, .pure (.faddr 2), [.t 4], some (19, false)⟩,
 ⟨some 21, .read (.load none), [.t 20], some (19, false)⟩,
 ⟨some 22, .pure (.bin .lss), [.t 21, .c (.int .i64 0)], some (19, false)⟩,
 ⟨some 23, .pure .pick, [.t 19, .c (.bool true), .t 22], none⟩,
 ⟨some 24, .pure .move, [.t 23], none⟩,
 ⟨some 25, .pure (.faddr 2), [.t 4], some (24, false)⟩,
 ⟨some 26, .read (.load none), [.t 25], some (24, false)⟩,
 ⟨some 27, .pure (.bin .gtr), [.t 26, .c (.int .i64 65536)], some (24, false)⟩,
 ⟨some 28, .pure .pick, [.t 24, .c (.bool true), .t 27], none⟩])
 (.cond (.t 28)
 (.seq (.ops [⟨some 2, .pure .move, [.c (.bool false)], none⟩])
 .ret)
 .skip))
 (.seq (.ops [⟨some 29, .pure (.faddr 2), [.t 4], none⟩,
 ⟨some 30, .read (.load none), [.t 29], none⟩,
 ⟨some 31, .pure (.bin .neq), [.t 30, .c (.int .i64 0)], none⟩,
 ⟨some 32, .pure .move, [.t 31], none⟩,
 ⟨some 33, .pure (.faddr 1), [.t 4], some (32, false)⟩,
 ⟨some 34, .read (.load none), [.t 33], some (32, false)⟩,
 ⟨some 35, .pure .lenS, [.t 34], some (32, false)⟩,
 ⟨some 36, .pure (.bin .gtr), [.t 35, .c (.int .i64 1024)], some (32, false)⟩,
 ⟨some 37, .pure .pick, [.t 32, .c (.bool true), .t 36], none⟩,
 ⟨some 38, .pure .move, [.t 37], none⟩,
 ⟨some 39, .pure (.faddr 1), [.t 4], some (38, false)⟩,
 ⟨some 40, .read (.load none), [.t 39], some (38, false)⟩,
 ⟨some 41, .pcall 46, [.t 40], some (38, false)⟩,
 ⟨some 42, .pure (.un .not), [.t 41], some (38, false)⟩,
 ⟨some 43, .pure .pick, [.t 38, .c (.bool true), .t 42], none⟩])
 (.cond (.t 43)
 (.seq (.ops [⟨some 2, .pure .move, [.c (.bool false)], none⟩])
 .ret)
 .skip))))))
 (.ops [⟨some 44, .pure (.bin .add), [.t 10, .c (.int .i64 1)], none⟩,
 ⟨some 10, .pure .move, [.t 44], none⟩])))))))
 (.seq (.ops [⟨some 2, .pure .move, [.c (.bool true)], none⟩])
 .ret)))) }
/-- datakit/access.Has -/
def ac31 : AFn :=
 { nt := 18, res := [.tmp 4], body :=
 (.seq (.ops [⟨some 2, .new (.box 13), [.t 0], none⟩,
 ⟨some 4, .pure .move, [.c (.bool false)], none⟩])
 (.seq (.seq (.ops [⟨some 7, .pure .move, [.t 1], none⟩,
 ⟨some 8, .pcall 30, [.t 7], none⟩,
 ⟨some 9, .pure (.un .not), [.t 8], none⟩])
 (.cond (.t 9)
 (.seq (.ops [⟨some 4, .pure .move, [.c (.bool false)], none⟩])
 .ret)
 .skip))
 (.seq (.ops [⟨some 11, .read (.load (some 13)), [.t 2], none⟩,
 ⟨some 12, .pure .move, [.t 1], none⟩,
 ⟨some 13, .pcall 47, [.t 11, .t 12], none⟩,
 ⟨some 10, .pure .move, [.t 13], none⟩,
 ⟨some 14, .pure (.ext 0), [.t 10], none⟩,
 ⟨some 15, .pure (.ext 1), [.t 10], none⟩,
 ⟨some 5, .new (.new 13 [.agg [.int .i64 0, .bool false, .bool false, .str [], .int .i64 0, .int .i64 0, .int .i64 0, .int .i64 0, .int .i64 0, .str [], .snil 1, .snil 13, .snil 14]]), [], none⟩,
 ⟨none, .eff (.store 13), [.t 5, .t 14], none⟩,
 ⟨some 6, .pure .move, [.t 15], none⟩])
 (.seq (.ops [⟨some 16, .pure .move, [.t 6], none⟩,
 ⟨some 17, .pure (.bin .eql), [.t 16, .c (.int .i64 0)], none⟩,
 ⟨some 4, .pure .move, [.t 17], none⟩])
 .ret)))) }
/-- datakit/qpath.Delete$1 -/
def ac33 : AFn :=
 { nt := 8, res := [.tmp 4], body :=
 (.seq (.ops [⟨some 4, .pure .move, [.c (.int .i64 0)], none⟩])
 (.seq (.ops [⟨some 5, .pure .move, [.t 1], none⟩,
 ⟨some 6, .pure .move, [.t 0], none⟩,
 ⟨some 7, .pcall 34, [.t 5, .t 6], none⟩,
 ⟨some 4, .pure .move, [.t 7], none⟩])
 .ret)) }
/-- datakit/path.Cmp -/
def ac34 : AFn :=
 { nt := 57, res := [.tmp 4], body :=
 (.seq (.ops [⟨some 4, .pure .move, [.c (.int .i64 0)], none⟩])
 (.seq (.seq (.ops [⟨some 8, .pure .move, [.t 0], none⟩,
 ⟨some 9, .pure .lenL, [.t 8], none⟩,
 ⟨some 10, .pure .move, [.t 1], none⟩,
 ⟨some 11, .pure .lenL, [.t 10], none⟩,
 ⟨some 12, .pure (.minmax false), [.t 9, .t 11], none⟩,
 ⟨some 13, .pure .move, [.c (.int .i64 0)], none⟩])
 (.block 0
 (.loop [0, 1, 12, 13]
 (.seq (.ops [⟨some 14, .pure (.bin .lss), [.t 13, .t 12], none⟩])
 (.seq (.cond (.t 14)
 .skip
 (.exit 0))
 (.seq (.block 1
 (.seq (.ops [⟨some 15, .pure .move, [.t 13], none⟩,
 ⟨some 5, .pure .move, [.t 15], none⟩])
 (.seq (.draw 2 [[⟨some 16, .pure .move, [.t 0], none⟩,
 ⟨some 17, .pure .move, [.t 5], none⟩,
 ⟨some 18, .pure (.iaddrS 3), [.t 16, .t 17], none⟩,
 ⟨some 19, .read (.load (some 3)), [.t 18], none⟩,
 ⟨some 20, .pure .move, [.t 1], none⟩,
 ⟨some 21, .pure .move, [.t 5], none⟩,
 ⟨some 22, .pure (.iaddrS 3), [.t 20, .t 21], none⟩,
 ⟨some 6, .newAt 0 (.new 3 [.agg [.bool false, .str [], .int .i64 0]]), [], none⟩,
 ⟨some 7, .newAt 1 (.new 3 [.agg [.bool false, .str [], .int .i64 0]]), [], none⟩,
 ⟨some 23, .read (.load (some 3)), [.t 22], none⟩,
 ⟨none, .eff (.store 3), [.t 6, .t 19], none⟩,
 ⟨none, .eff (.store 3), [.t 7, .t 23], none⟩],
 [⟨some 16, .pure .move, [.t 0], none⟩,
 ⟨some 17, .pure .move, [.t 5], none⟩,
 ⟨some 18, .pure (.iaddrS 3), [.t 16, .t 17], none⟩,
 ⟨some 19, .read (.load (some 3)), [.t 18], none⟩,
 ⟨some 20, .pure .move, [.t 1], none⟩,
 ⟨some 21, .pure .move, [.t 5], none⟩,
 ⟨some 22, .pure (.iaddrS 3), [.t 20, .t 21], none⟩,
 ⟨some 6, .newAt 0 (.new 3 [.agg [.bool false, .str [], .int .i64 0]]), [], none⟩,
 ⟨some 7, .newAt 1 (.new 3 [.agg [.bool false, .str [], .int .i64 0]]), [], none⟩,
 ⟨none, .eff (.store 3), [.t 6, .t 19], none⟩,
 ⟨some 23, .read (.load (some 3)), [.t 22], none⟩,
 ⟨none, .eff (.store 3), [.t 7, .t 23], none⟩]])
 (.block 2
 (.seq (.ops [⟨some 30, .read (.load (some 3)), [.t 6], none⟩,
 ⟨some 31, .read (.load (some 3)), [.t 7], none⟩,
 ⟨some 32, .pure (.eqF [.bool, .str, .int] false), [.t 30, .t 31], none⟩,
 ⟨some 29, .pure .move, [.t 32], none⟩])
 (.cond (.t 29)
 .skip
 (.seq (.ops [⟨some 34, .pure (.faddr 0), [.t 6], none⟩,
 ⟨some 35, .read (.load none), [.t 34], none⟩,
 ⟨some 36, .pure .move, [.t 35], none⟩,
 ⟨some 37, .pure (.faddr 0), [.t 7], some (36, true)⟩,
 ⟨some 38, .read (.load none), [.t 37], some (36, true)⟩,
 ⟨some 39, .pure .pick, [.t 36, .t 38, .c (.bool false)], none⟩,
 ⟨some 33, .pure .move, [.t 39], none⟩])
 (.cond (.t 33)
 (.seq (.ops [⟨some 40, .pure (.faddr 2), [.t 6], none⟩,
 ⟨some 41, .read (.load none), [.t 40], none⟩,
 ⟨some 42, .pure (.faddr 2), [.t 7], none⟩,
 ⟨some 43, .read (.load none), [.t 42], none⟩,
 ⟨some 44, .pcall 50, [.t 41, .t 43], none⟩,
 ⟨some 4, .pure .move, [.t 44], none⟩])
 .ret)
 (.seq (.ops [⟨some 46, .pure (.faddr 0), [.t 6], none⟩,
 ⟨some 47, .read (.load none), [.t 46], none⟩,
 ⟨some 45, .pure .move, [.t 47], none⟩])
 (.cond (.t 45)
 (.seq (.ops [⟨some 4, .pure .move, [.c (.int .i64 (-1))], none⟩])
 .ret)
 (.seq (.ops [⟨some 49, .pure (.faddr 0), [.t 7], none⟩,
 ⟨some 50, .read (.load none), [.t 49], none⟩,
 ⟨some 48, .pure .move, [.t 50], none⟩])
 (.cond (.t 48)
 (.seq (.ops [⟨some 4, .pure .move, [.c (.int .i64 1)], none⟩])
 .ret)
 (.seq (.ops [⟨some 24, .pure (.faddr 1), [.t 6], none⟩,
 ⟨some 25, .read (.load none), [.t 24], none⟩,
 ⟨some 26, .pure (.faddr 1), [.t 7], none⟩,
 ⟨some 27, .read (.load none), [.t 26], none⟩,
 ⟨some 28, .pcall 51, [.t 25, .t 27], none⟩,
 ⟨some 4, .pure .move, [.t 28], none⟩])
 .ret)))))))))))))
 (.ops [⟨some 51, .pure (.bin .add), [.t 13, .c (.int .i64 1)], none⟩,
 ⟨some 13, .pure .move, [.t 51], none⟩])))))))
 (.seq (.ops [⟨some 52, .pure .move, [.t 0], none⟩,
 ⟨some 53, .pure .lenL, [.t 52], none⟩,
 ⟨some 54, .pure .move, [.t 1], none⟩,
 ⟨some 55, .pure .lenL, [.t 54], none⟩,
 ⟨some 56, .pcall 50, [.t 53, .t 55], none⟩,
 ⟨some 4, .pure .move, [.t 56], none⟩])
 .ret))) }
/-- datakit/path.Equal -/
def ac35 : AFn :=
 { nt := 26, res := [.tmp 4], body :=
 (.seq (.ops [⟨some 4, .pure .move, [.c (.bool false)], none⟩])
 (.seq (.seq (.ops [⟨some 6, .pure .move, [.t 0], none⟩,
 ⟨some 7, .pure .lenL, [.t 6], none⟩,
 ⟨some 8, .pure .move, [.t 1], none⟩,
 ⟨some 9, .pure .lenL, [.t 8], none⟩,
 ⟨some 10, .pure (.bin .neq), [.t 7, .t 9], none⟩])
 (.cond (.t 10)
 (.seq (.ops [⟨some 4, .pure .move, [.c (.bool false)], none⟩])
 .ret)
 .skip))
 (.seq (.seq (.ops [⟨some 11, .pure .move, [.t 0], none⟩,
 ⟨some 12, .pure .lenL, [.t 11], none⟩,
 ⟨some 13, .pure .move, [.c (.int .i64 0)], none⟩])
 (.block 0
 (.loop [0, 1, 12, 13]
 (.seq (.ops [⟨some 14, .pure (.bin .lss), [.t 13, .t 12], none⟩])
 (.seq (.cond (.t 14)
 .skip
 (.exit 0))
 (.seq (.block 1
 (.seq (.ops [⟨some 15, .pure .move, [.t 13], none⟩,
 ⟨some 5, .pure .move, [.t 15], none⟩])
 (.seq (.ops [⟨some 16, .pure .move, [.t 0], none⟩,
 ⟨some 17, .pure .move, [.t 5], none⟩,
 ⟨some 18, .pure (.iaddrS 3), [.t 16, .t 17], none⟩,
 ⟨some 19, .read (.load (some 3)), [.t 18], none⟩,
 ⟨some 20, .pure .move, [.t 1], none⟩,
 ⟨some 21, .pure .move, [.t 5], none⟩,
 ⟨some 22, .pure (.iaddrS 3), [.t 20, .t 21], none⟩,
 ⟨some 23, .read (.load (some 3)), [.t 22], none⟩,
 ⟨some 24, .pure (.eqF [.bool, .str, .int] true), [.t 19, .t 23], none⟩])
 (.cond (.t 24)
 (.seq (.ops [⟨some 4, .pure .move, [.c (.bool false)], none⟩])
 .ret)
 .skip))))
 (.ops [⟨some 25, .pure (.bin .add), [.t 13, .c (.int .i64 1)], none⟩,
 ⟨some 13, .pure .move, [.t 25], none⟩])))))))
 (.seq (.ops [⟨some 4, .pure .move, [.c (.bool true)], none⟩])
 .ret)))) }
/-- datakit/access.Remove -/
def ac36 : AFn :=
 { nt := 47, res := [.cell 4 (some 13), .tmp 5], body :=
 (.seq (.ops [⟨some 2, .new (.box 13), [.t 0], none⟩,
 ⟨some 4, .new (.new 13 [.agg [.int .i64 0, .bool false, .bool false, .str [], .int .i64 0, .int .i64 0, .int .i64 0, .int .i64 0, .int .i64 0, .str [], .snil 1, .snil 13, .snil 14]]), [], none⟩,
 ⟨some 5, .pure .move, [.c (.int .i64 0)], none⟩])
 (.seq (.seq (.ops [⟨some 11, .pure .move, [.t 1], none⟩,
 ⟨some 12, .pcall 30, [.t 11], none⟩,
 ⟨some 13, .pure (.un .not), [.t 12], none⟩,
 ⟨some 14, .pure .move, [.t 13], none⟩,
 ⟨some 15, .pure .move, [.t 1], some (14, false)⟩,
 ⟨some 16, .pure .lenL, [.t 15], some (14, false)⟩,
 ⟨some 17, .pure (.bin .eql), [.t 16, .c (.int .i64 0)], some (14, false)⟩,
 ⟨some 18, .pure .pick, [.t 14, .c (.bool true), .t 17], none⟩])
 (.cond (.t 18)
 (.seq (.ops [⟨some 19, .pure (.build [.int .i64 0, .bool false, .bool false, .str [], .int .i64 0, .int .i64 0, .int .i64 0, .int .i64 0, .int .i64 0, .str [], .snil 1, .snil 13, .snil 14] []), [], none⟩,
 ⟨none, .eff (.store 13), [.t 4, .t 19], none⟩,
 ⟨some 5, .pure .move, [.c (.int .i64 1)], none⟩])
 .ret)
 .skip))
 (.seq (.seq (.ops [⟨some 21, .read (.load (some 13)), [.t 2], none⟩,
 ⟨some 22, .pure .move, [.t 1], none⟩,
 ⟨some 23, .pcall 47, [.t 21, .t 22], none⟩,
 ⟨some 20, .pure .move, [.t 23], none⟩,
 ⟨some 24, .pure (.ext 0), [.t 20], none⟩,
 ⟨some 25, .pure (.ext 1), [.t 20], none⟩,
 ⟨some 6, .new (.new 13 [.agg [.int .i64 0, .bool false, .bool false, .str [], .int .i64 0, .int .i64 0, .int .i64 0, .int .i64 0, .int .i64 0, .str [], .snil 1, .snil 13, .snil 14]]), [], none⟩,
 ⟨none, .eff (.store 13), [.t 6, .t 24], none⟩,
 ⟨some 7, .pure .move, [.t 25], none⟩])
 (.seq (.ops [⟨some 26, .pure .move, [.t 7], none⟩,
 ⟨some 27, .pure (.bin .neq), [.t 26, .c (.int .i64 0)], none⟩])
 (.cond (.t 27)
 (.seq (.ops [⟨some 28, .pure (.build [.int .i64 0, .bool false, .bool false, .str [], .int .i64 0, .int .i64 0, .int .i64 0, .int .i64 0, .int .i64 0, .str [], .snil 1, .snil 13, .snil 14] []), [], none⟩,
 ⟨some 29, .pure .move, [.t 7], none⟩,
 ⟨none, .eff (.store 13), [.t 4, .t 28], none⟩,
 ⟨some 5, .pure .move, [.t 29], none⟩])
 .ret)
 .skip)))
 (.seq (.draw 1 [[⟨some 30, .pure .move, [.t 1], none⟩,
 ⟨some 31, .pure .move, [.t 1], none⟩,
 ⟨some 32, .pure .lenL, [.t 31], none⟩,
 ⟨some 33, .pure (.bin .sub), [.t 32, .c (.int .i64 1)], none⟩,
 ⟨some 34, .pure (.sliceL 3 false true false), [.t 30, .t 33], none⟩,
 ⟨some 35, .pure .move, [.t 1], none⟩,
 ⟨some 36, .pure .move, [.t 1], none⟩,
 ⟨some 37, .pure .lenL, [.t 36], none⟩,
 ⟨some 38, .pure (.bin .sub), [.t 37, .c (.int .i64 1)], none⟩,
 ⟨some 39, .pure (.iaddrS 3), [.t 35, .t 38], none⟩,
 ⟨some 40, .read (.load (some 3)), [.t 39], none⟩,
 ⟨some 9, .newAt 0 (.new 3 [.agg [.bool false, .str [], .int .i64 0]]), [], none⟩,
 ⟨some 8, .pure .move, [.t 34], none⟩,
 ⟨none, .eff (.store 3), [.t 9, .t 40], none⟩]])
 (.seq (.ops [⟨some 41, .read (.load (some 13)), [.t 2], none⟩,
 ⟨some 42, .pure .move, [.t 8], none⟩,
 ⟨some 43, .pure (.mkfn 53), [.t 9], none⟩,
 ⟨some 44, .pcall 52, [.t 41, .t 42, .t 43], none⟩,
 ⟨some 10, .new (.new 13 [.agg [.int .i64 0, .bool false, .bool false, .str [], .int .i64 0, .int .i64 0, .int .i64 0, .int .i64 0, .int .i64 0, .str [], .snil 1, .snil 13, .snil 14]]), [], none⟩,
 ⟨none, .eff (.store 13), [.t 10, .t 44], none⟩])
 (.seq (.ops [⟨some 45, .read (.load (some 13)), [.t 10], none⟩,
 ⟨some 46, .pcall 26, [.t 45], none⟩,
 ⟨none, .eff (.store 13), [.t 4, .t 46], none⟩,
 ⟨some 5, .pure .move, [.c (.int .i64 0)], none⟩])
 .ret)))))) }
/-- datakit/datakitref39.without -/
def ac37 : AFn :=
 { nt := 96, res := [.cell 6 (some 13)], body :=
 (.seq (.ops [⟨some 3, .new (.box 13), [.t 0], none⟩,
 ⟨some 6, .new (.new 13 [.agg [.int .i64 0, .bool false, .bool false, .str [], .int .i64 0, .int .i64 0, .int .i64 0, .int .i64 0, .int .i64 0, .str [], .snil 1, .snil 13, .snil 14]]), [], none⟩])
 (.seq (.seq (.ops [⟨some 12, .pure (.faddr 11), [.t 3], none⟩,
 ⟨some 13, .read (.load none), [.t 12], none⟩,
 ⟨some 14, .pure .lenL, [.t 13], none⟩,
 ⟨some 15, .pure (.bin .eql), [.t 14, .c (.int .i64 0)], none⟩,
 ⟨some 16, .pure .move, [.t 15], none⟩,
 ⟨some 17, .pure (.faddr 12), [.t 3], some (16, true)⟩,
 ⟨some 18, .read (.load none), [.t 17], some (16, true)⟩,
 ⟨some 19, .pure .lenL, [.t 18], some (16, true)⟩,
 ⟨some 20, .pure (.bin .eql), [.t 19, .c (.int .i64 0)], some (16, true)⟩,
 ⟨some 21, .pure .pick, [.t 16, .t 20, .c (.bool false)], none⟩])
 (.cond (.t 21)
 (.seq (.ops [⟨some 22, .read (.load (some 13)), [.t 3], none⟩,
 ⟨none, .eff (.store 13), [.t 6, .t 22], none⟩])
 .ret)
 .skip))
 (.seq (.ops [⟨some 23, .pure (.faddr 0), [.t 3], none⟩,
 ⟨some 24, .read (.load none), [.t 23], none⟩,
 ⟨some 25, .pure (.build [.int .i64 0, .bool false, .bool false, .str [], .int .i64 0, .int .i64 0, .int .i64 0, .int .i64 0, .int .i64 0, .str [], .snil 1, .snil 13, .snil 14] [(0, 1)]), [.t 24], none⟩,
 ⟨some 7, .new (.new 13 [.agg [.int .i64 0, .bool false, .bool false, .str [], .int .i64 0, .int .i64 0, .int .i64 0, .int .i64 0, .int .i64 0, .str [], .snil 1, .snil 13, .snil 14]]), [], none⟩,
 ⟨none, .eff (.store 13), [.t 7, .t 25], none⟩])
 (.seq (.seq (.ops [⟨some 8, .pure .move, [.c (.int .i64 0)], none⟩])
 (.block 0
 (.loop [1, 2, 3, 6, 7, 8]
 (.seq (.seq (.ops [⟨some 26, .pure .move, [.t 8], none⟩,
 ⟨some 27, .pure (.faddr 11), [.t 3], none⟩,
 ⟨some 28, .read (.load none), [.t 27], none⟩,
 ⟨some 29, .pure .lenL, [.t 28], none⟩,
 ⟨some 30, .pure (.bin .lss), [.t 26, .t 29], none⟩])
 (.cond (.t 30)
 .skip
 (.exit 0)))
 (.seq (.block 1
 (.seq (.ops [⟨some 33, .pure .move, [.t 1], none⟩,
 ⟨some 34, .pure .move, [.t 8], none⟩,
 ⟨some 35, .pure (.build [.bool false, .str [], .int .i64 0] [(0, 1), (2, 1)]), [.c (.bool true), .t 34], none⟩,
 ⟨some 36, .pcall 55, [.t 33, .t 35], none⟩,
 ⟨some 9, .pure .move, [.t 36], none⟩])
 (.seq (.ops [⟨some 37, .pure .move, [.t 9], none⟩,
 ⟨some 38, .pure .move, [.t 2], none⟩,
 ⟨some 39, .pcall 56, [.t 37, .t 38], none⟩,
 ⟨some 40, .pure (.un .not), [.t 39], none⟩])
 (.cond (.t 40)
 (.draw 1 [[⟨some 41, .pure (.faddr 11), [.t 7], none⟩,
 ⟨some 42, .read (.load none), [.t 41], none⟩,
 ⟨some 43, .pure (.faddr 11), [.t 3], none⟩,
 ⟨some 44, .read (.load none), [.t 43], none⟩,
 ⟨some 45, .pure .move, [.t 8], none⟩,
 ⟨some 46, .pure (.iaddrS 13), [.t 44, .t 45], none⟩,
 ⟨some 47, .read (.load (some 13)), [.t 46], none⟩,
 ⟨some 48, .pure .move, [.t 9], none⟩,
 ⟨some 49, .pure .move, [.t 2], none⟩,
 ⟨some 50, .pcall 37, [.t 47, .t 48, .t 49], none⟩,
 ⟨some 51, .newAt 0 (.buildSlice 13 [.agg [.int .i64 0, .bool false, .bool false, .str [], .int .i64 0, .int .i64 0, .int .i64 0, .int .i64 0, .int .i64 0, .str [], .snil 1, .snil 13, .snil 14]] [0]), [.t 50], none⟩,
 ⟨some 52, .eff (.append 13 168), [.t 42, .t 51], none⟩,
 ⟨some 53, .pure (.faddr 11), [.t 7], none⟩,
 ⟨none, .eff (.store 1), [.t 53, .t 52], none⟩]])
 .skip))))
 (.ops [⟨some 31, .pure .move, [.t 8], none⟩,
 ⟨some 32, .pure (.bin .add), [.t 31, .c (.int .i64 1)], none⟩,
 ⟨some 8, .pure .move, [.t 32], none⟩]))))))
 (.seq (.seq (.ops [⟨some 10, .pure .move, [.c (.int .i64 0)], none⟩])
 (.block 2
 (.loop [1, 2, 3, 6, 7, 10]
 (.seq (.seq (.ops [⟨some 54, .pure .move, [.t 10], none⟩,
 ⟨some 55, .pure (.faddr 12), [.t 3], none⟩,
 ⟨some 56, .read (.load none), [.t 55], none⟩,
 ⟨some 57, .pure .lenL, [.t 56], none⟩,
 ⟨some 58, .pure (.bin .lss), [.t 54, .t 57], none⟩])
 (.cond (.t 58)
 .skip
 (.exit 2)))
 (.seq (.block 3
 (.seq (.ops [⟨some 61, .pure .move, [.t 1], none⟩,
 ⟨some 62, .pure (.faddr 12), [.t 3], none⟩,
 ⟨some 63, .read (.load none), [.t 62], none⟩,
 ⟨some 64, .pure .move, [.t 10], none⟩,
 ⟨some 65, .pure (.iaddrS 14), [.t 63, .t 64], none⟩,
 ⟨some 66, .pure (.faddr 0), [.t 65], none⟩,
 ⟨some 67, .read (.load none), [.t 66], none⟩,
 ⟨some 68, .pure (.build [.bool false, .str [], .int .i64 0] [(1, 1)]), [.t 67], none⟩,
 ⟨some 69, .pcall 55, [.t 61, .t 68], none⟩,
 ⟨some 11, .pure .move, [.t 69], none⟩])
 (.seq (.ops [⟨some 70, .pure .move, [.t 11], none⟩,
 ⟨some 71, .pure .move, [.t 2], none⟩,
 ⟨some 72, .pcall 56, [.t 70, .t 71], none⟩,
 ⟨some 73, .pure (.un .not), [.t 72], none⟩])
 (.cond (.t 73)
 (.draw 1 [[⟨some 74, .pure (.faddr 12), [.t 7], none⟩,
 ⟨some 75, .read (.load none), [.t 74], none⟩,
 ⟨some 76, .pure (.faddr 12), [.t 3], none⟩,
 ⟨some 77, .read (.load none), [.t 76], none⟩,
 ⟨some 78, .pure .move, [.t 10], none⟩,
 ⟨some 79, .pure (.iaddrS 14), [.t 77, .t 78], none⟩,
 ⟨some 80, .pure (.faddr 0), [.t 79], none⟩,
 ⟨some 81, .read (.load none), [.t 80], none⟩,
 ⟨some 82, .pure (.faddr 12), [.t 3], none⟩,
 ⟨some 83, .read (.load none), [.t 82], none⟩,
 ⟨some 84, .pure .move, [.t 10], none⟩,
 ⟨some 85, .pure (.iaddrS 14), [.t 83, .t 84], none⟩,
 ⟨some 86, .pure (.faddr 1), [.t 85], none⟩,
 ⟨some 87, .read (.load (some 13)), [.t 86], none⟩,
 ⟨some 88, .pure .move, [.t 11], none⟩,
 ⟨some 89, .pure .move, [.t 2], none⟩,
 ⟨some 90, .pcall 37, [.t 87, .t 88, .t 89], none⟩,
 ⟨some 91, .pure (.build [.str [], .int .i64 0, .bool false, .bool false, .str [], .int .i64 0, .int .i64 0, .int .i64 0, .int .i64 0, .int .i64 0, .str [], .snil 1, .snil 13, .snil 14] [(0, 1), (1, 13)]), [.t 81, .t 90], none⟩,
 ⟨some 92, .newAt 0 (.buildSlice 14 [.agg [.str [], .int .i64 0, .bool false, .bool false, .str [], .int .i64 0, .int .i64 0, .int .i64 0, .int .i64 0, .int .i64 0, .str [], .snil 1, .snil 13, .snil 14]] [0]), [.t 91], none⟩,
 ⟨some 93, .eff (.append 14 184), [.t 75, .t 92], none⟩,
 ⟨some 94, .pure (.faddr 12), [.t 7], none⟩,
 ⟨none, .eff (.store 1), [.t 94, .t 93], none⟩]])
 .skip))))
 (.ops [⟨some 59, .pure .move, [.t 10], none⟩,
 ⟨some 60, .pure (.bin .add), [.t 59, .c (.int .i64 1)], none⟩,
 ⟨some 10, .pure .move, [.t 60], none⟩]))))))
 (.seq (.ops [⟨some 95, .read (.load (some 13)), [.t 7], none⟩,
 ⟨none, .eff (.store 13), [.t 6, .t 95], none⟩])
 .ret)))))) }
/-- datakit/datakitref07.room -/
def ac38 : AFn :=
 { nt := 69, res := [.tmp 6], body :=
 (.seq (.ops [⟨some 3, .new (.box 13), [.t 0], none⟩,
 ⟨some 6, .pure .move, [.c (.int .i64 0)], none⟩])
 (.seq (.ops [⟨some 9, .pure .move, [.t 1], none⟩,
 ⟨some 10, .pure (.bin .sub), [.t 9, .c (.int .i64 1)], none⟩,
 ⟨some 1, .pure .move, [.t 10], none⟩])
 (.seq (.seq (.ops [⟨some 11, .pure .move, [.t 2], none⟩,
 ⟨some 12, .pure (.bin .leq), [.t 11, .c (.int .i64 0)], none⟩,
 ⟨some 13, .pure .move, [.t 12], none⟩,
 ⟨some 14, .pure (.faddr 11), [.t 3], some (13, false)⟩,
 ⟨some 15, .read (.load none), [.t 14], some (13, false)⟩,
 ⟨some 16, .pure .lenL, [.t 15], some (13, false)⟩,
 ⟨some 17, .pure .move, [.t 1], some (13, false)⟩,
 ⟨some 18, .pure (.bin .gtr), [.t 16, .t 17], some (13, false)⟩,
 ⟨some 19, .pure .pick, [.t 13, .c (.bool true), .t 18], none⟩,
 ⟨some 20, .pure .move, [.t 19], none⟩,
 ⟨some 21, .pure (.faddr 12), [.t 3], some (20, false)⟩,
 ⟨some 22, .read (.load none), [.t 21], some (20, false)⟩,
 ⟨some 23, .pure .lenL, [.t 22], some (20, false)⟩,
 ⟨some 24, .pure .move, [.t 1], some (20, false)⟩,
 ⟨some 25, .pure (.bin .gtr), [.t 23, .t 24], some (20, false)⟩,
 ⟨some 26, .pure .pick, [.t 20, .c (.bool true), .t 25], none⟩])
 (.cond (.t 26)
 (.seq (.ops [⟨some 6, .pure .move, [.c (.int .i64 (-1))], none⟩])
 .ret)
 .skip))
 (.seq (.seq (.ops [⟨some 7, .pure .move, [.c (.int .i64 0)], none⟩])
 (.block 0
 (.loop [1, 2, 3, 7]
 (.seq (.seq (.ops [⟨some 27, .pure .move, [.t 7], none⟩,
 ⟨some 28, .pure (.faddr 11), [.t 3], none⟩,
 ⟨some 29, .read (.load none), [.t 28], none⟩,
 ⟨some 30, .pure .lenL, [.t 29], none⟩,
 ⟨some 31, .pure (.bin .lss), [.t 27, .t 30], none⟩,
 ⟨some 32, .pure .move, [.t 31], none⟩,
 ⟨some 33, .pure .move, [.t 1], some (32, true)⟩,
 ⟨some 34, .pure (.bin .geq), [.t 33, .c (.int .i64 0)], some (32, true)⟩,
 ⟨some 35, .pure .pick, [.t 32, .t 34, .c (.bool false)], none⟩])
 (.cond (.t 35)
 .skip
 (.exit 0)))
 (.seq (.block 1
 (.ops [⟨some 38, .pure (.faddr 11), [.t 3], none⟩,
 ⟨some 39, .read (.load none), [.t 38], none⟩,
 ⟨some 40, .pure .move, [.t 7], none⟩,
 ⟨some 41, .pure (.iaddrS 13), [.t 39, .t 40], none⟩,
 ⟨some 42, .read (.load (some 13)), [.t 41], none⟩,
 ⟨some 43, .pure .move, [.t 1], none⟩,
 ⟨some 44, .pure .move, [.t 2], none⟩,
 ⟨some 45, .pure (.bin .sub), [.t 44, .c (.int .i64 1)], none⟩,
 ⟨some 46, .pcall 38, [.t 42, .t 43, .t 45], none⟩,
 ⟨some 1, .pure .move, [.t 46], none⟩]))
 (.ops [⟨some 36, .pure .move, [.t 7], none⟩,
 ⟨some 37, .pure (.bin .add), [.t 36, .c (.int .i64 1)], none⟩,
 ⟨some 7, .pure .move, [.t 37], none⟩]))))))
 (.seq (.seq (.ops [⟨some 8, .pure .move, [.c (.int .i64 0)], none⟩])
 (.block 2
 (.loop [1, 2, 3, 8]
 (.seq (.seq (.ops [⟨some 47, .pure .move, [.t 8], none⟩,
 ⟨some 48, .pure (.faddr 12), [.t 3], none⟩,
 ⟨some 49, .read (.load none), [.t 48], none⟩,
 ⟨some 50, .pure .lenL, [.t 49], none⟩,
 ⟨some 51, .pure (.bin .lss), [.t 47, .t 50], none⟩,
 ⟨some 52, .pure .move, [.t 51], none⟩,
 ⟨some 53, .pure .move, [.t 1], some (52, true)⟩,
 ⟨some 54, .pure (.bin .geq), [.t 53, .c (.int .i64 0)], some (52, true)⟩,
 ⟨some 55, .pure .pick, [.t 52, .t 54, .c (.bool false)], none⟩])
 (.cond (.t 55)
 .skip
 (.exit 2)))
 (.seq (.block 3
 (.ops [⟨some 58, .pure (.faddr 12), [.t 3], none⟩,
 ⟨some 59, .read (.load none), [.t 58], none⟩,
 ⟨some 60, .pure .move, [.t 8], none⟩,
 ⟨some 61, .pure (.iaddrS 14), [.t 59, .t 60], none⟩,
 ⟨some 62, .pure (.faddr 1), [.t 61], none⟩,
 ⟨some 63, .read (.load (some 13)), [.t 62], none⟩,
 ⟨some 64, .pure .move, [.t 1], none⟩,
 ⟨some 65, .pure .move, [.t 2], none⟩,
 ⟨some 66, .pure (.bin .sub), [.t 65, .c (.int .i64 1)], none⟩,
 ⟨some 67, .pcall 38, [.t 63, .t 64, .t 66], none⟩,
 ⟨some 1, .pure .move, [.t 67], none⟩]))
 (.ops [⟨some 56, .pure .move, [.t 8], none⟩,
 ⟨some 57, .pure (.bin .add), [.t 56, .c (.int .i64 1)], none⟩,
 ⟨some 8, .pure .move, [.t 57], none⟩]))))))
 (.seq (.ops [⟨some 68, .pure .move, [.t 1], none⟩,
 ⟨some 6, .pure .move, [.t 68], none⟩])
 .ret)))))) }
/-- datakit/datakitref07.look -/
def ac39 : AFn :=
 { nt := 50, res := [.tmp 6, .tmp 7], body :=
 (.seq (.ops [⟨some 3, .new (.box 13), [.t 0], none⟩,
 ⟨some 6, .pure .move, [.c (.int .i64 0)], none⟩,
 ⟨some 7, .pure .move, [.c (.int .i64 0)], none⟩])
 (.seq (.seq (.ops [⟨some 12, .pure .move, [.t 1], none⟩,
 ⟨some 13, .pure (.bin .gtr), [.t 12, .c (.int .i64 48)], none⟩])
 (.cond (.t 13)
 (.seq (.ops [⟨some 14, .pure .move, [.t 2], none⟩,
 ⟨some 6, .pure .move, [.t 14], none⟩,
 ⟨some 7, .pure .move, [.c (.int .i64 9)], none⟩])
 .ret)
 .skip))
 (.seq (.seq (.ops [⟨some 15, .pure .move, [.t 2], none⟩,
 ⟨some 16, .pure (.bin .geq), [.t 15, .c (.int .i64 65536)], none⟩])
 (.cond (.t 16)
 (.seq (.ops [⟨some 17, .pure .move, [.t 2], none⟩,
 ⟨some 6, .pure .move, [.t 17], none⟩,
 ⟨some 7, .pure .move, [.c (.int .i64 10)], none⟩])
 .ret)
 .skip))
 (.seq (.seq (.ops [⟨some 18, .read (.load (some 13)), [.t 3], none⟩,
 ⟨some 19, .pcall 57, [.t 18], none⟩,
 ⟨some 8, .pure .move, [.t 19], none⟩])
 (.seq (.ops [⟨some 20, .pure .move, [.t 8], none⟩,
 ⟨some 21, .pure (.bin .neq), [.t 20, .c (.int .i64 0)], none⟩])
 (.cond (.t 21)
 (.seq (.ops [⟨some 22, .pure .move, [.t 2], none⟩,
 ⟨some 23, .pure .move, [.t 8], none⟩,
 ⟨some 6, .pure .move, [.t 22], none⟩,
 ⟨some 7, .pure .move, [.t 23], none⟩])
 .ret)
 .skip)))
 (.seq (.ops [⟨some 24, .pure .move, [.t 2], none⟩,
 ⟨some 25, .pure (.bin .add), [.t 24, .c (.int .i64 1)], none⟩,
 ⟨some 2, .pure .move, [.t 25], none⟩])
 (.seq (.ops [⟨some 26, .read (.load (some 13)), [.t 3], none⟩,
 ⟨some 27, .pcall 58, [.t 26], none⟩,
 ⟨some 9, .pure .move, [.t 27], none⟩])
 (.seq (.seq (.ops [⟨some 10, .pure .move, [.c (.int .i64 0)], none⟩])
 (.block 0
 (.loop [1, 2, 9, 10]
 (.seq (.seq (.ops [⟨some 28, .pure .move, [.t 10], none⟩,
 ⟨some 29, .pure .move, [.t 9], none⟩,
 ⟨some 30, .pure .lenL, [.t 29], none⟩,
 ⟨some 31, .pure (.bin .lss), [.t 28, .t 30], none⟩])
 (.cond (.t 31)
 .skip
 (.exit 0)))
 (.seq (.block 1
 (.seq (.ops [⟨some 11, .pure .move, [.c (.int .i64 0)], none⟩])
 (.seq (.ops [⟨some 35, .pure .move, [.t 9], none⟩,
 ⟨some 36, .pure .move, [.t 10], none⟩,
 ⟨some 37, .pure (.iaddrS 13), [.t 35, .t 36], none⟩,
 ⟨some 38, .read (.load (some 13)), [.t 37], none⟩,
 ⟨some 39, .pure .move, [.t 1], none⟩,
 ⟨some 40, .pure (.bin .add), [.t 39, .c (.int .i64 1)], none⟩,
 ⟨some 41, .pure .move, [.t 2], none⟩,
 ⟨some 42, .pcall 39, [.t 38, .t 40, .t 41], none⟩,
 ⟨some 34, .pure .move, [.t 42], none⟩,
 ⟨some 43, .pure (.ext 0), [.t 34], none⟩,
 ⟨some 44, .pure (.ext 1), [.t 34], none⟩,
 ⟨some 2, .pure .move, [.t 43], none⟩,
 ⟨some 11, .pure .move, [.t 44], none⟩])
 (.seq (.ops [⟨some 45, .pure .move, [.t 11], none⟩,
 ⟨some 46, .pure (.bin .neq), [.t 45, .c (.int .i64 0)], none⟩])
 (.cond (.t 46)
 (.seq (.ops [⟨some 47, .pure .move, [.t 2], none⟩,
 ⟨some 48, .pure .move, [.t 11], none⟩,
 ⟨some 6, .pure .move, [.t 47], none⟩,
 ⟨some 7, .pure .move, [.t 48], none⟩])
 .ret)
 .skip)))))
 (.ops [⟨some 32, .pure .move, [.t 10], none⟩,
 ⟨some 33, .pure (.bin .add), [.t 32, .c (.int .i64 1)], none⟩,
 ⟨some 10, .pure .move, [.t 33], none⟩]))))))
 (.seq (.ops [⟨some 49, .pure .move, [.t 2], none⟩,
 ⟨some 6, .pure .move, [.t 49], none⟩,
 ⟨some 7, .pure .move, [.c (.int .i64 0)], none⟩])
 .ret)))))))) }
/-- datakit/datakitref03.Boundaries -/
def ac42 : AFn :=
 { nt := 30, res := [.tmp 2, .tmp 3], body :=
 (.seq (.ops [⟨some 2, .pure .move, [.c (.snil 1)], none⟩,
 ⟨some 3, .pure .move, [.c (.bool false)], none⟩])
 (.seq (.ops [⟨some 8, .new (.buildSlice 1 [.int .i64 0] [0]), [.c (.int .i64 0)], none⟩,
 ⟨some 4, .pure .move, [.t 8], none⟩])
 (.seq (.ops [⟨some 5, .pure .move, [.c (.int .i64 0)], none⟩])
 (.seq (.block 0
 (.loop [0, 4, 5]
 (.seq (.seq (.ops [⟨some 9, .pure .move, [.t 5], none⟩,
 ⟨some 10, .pure .move, [.t 0], none⟩,
 ⟨some 11, .pure .lenS, [.t 10], none⟩,
 ⟨some 12, .pure (.bin .lss), [.t 9, .t 11], none⟩])
 (.cond (.t 12)
 .skip
 (.exit 0)))
 (.block 1
 (.seq (.ops [⟨some 14, .pure .move, [.t 0], none⟩,
 ⟨some 15, .pure .move, [.t 5], none⟩,
 ⟨some 16, .pcall 60, [.t 14, .t 15], none⟩,
 ⟨some 13, .pure .move, [.t 16], none⟩,
 ⟨some 17, .pure (.ext 0), [.t 13], none⟩,
 ⟨some 18, .pure (.ext 1), [.t 13], none⟩,
 ⟨some 6, .pure .move, [.t 17], none⟩,
 ⟨some 7, .pure .move, [.t 18], none⟩])
 (.seq (.seq (.ops [⟨some 19, .pure .move, [.t 7], none⟩,
 ⟨some 20, .pure (.bin .eql), [.t 19, .c (.int .i64 0)], none⟩])
 (.cond (.t 20)
 (.seq (.ops [⟨some 21, .pure .move, [.t 4], none⟩,
 ⟨some 2, .pure .move, [.t 21], none⟩,
 ⟨some 3, .pure .move, [.c (.bool false)], none⟩])
 .ret)
 .skip))
 (.seq (.ops [⟨some 22, .pure .move, [.t 5], none⟩,
 ⟨some 23, .pure .move, [.t 7], none⟩,
 ⟨some 24, .pure (.bin .add), [.t 22, .t 23], none⟩,
 ⟨some 5, .pure .move, [.t 24], none⟩])
 (.ops [⟨some 25, .pure .move, [.t 4], none⟩,
 ⟨some 26, .pure .move, [.t 5], none⟩,
 ⟨some 27, .new (.buildSlice 1 [.int .i64 0] [0]), [.t 26], none⟩,
 ⟨some 28, .eff (.append 1 8), [.t 25, .t 27], none⟩,
 ⟨some 4, .pure .move, [.t 28], none⟩]))))))))
 (.seq (.ops [⟨some 29, .pure .move, [.t 4], none⟩,
 ⟨some 2, .pure .move, [.t 29], none⟩,
 ⟨some 3, .pure .move, [.c (.bool true)], none⟩])
 .ret))))) }
/-- datakit/qpath.fits -/
def ac43 : AFn :=
 { nt := 13, res := [.tmp 4], body :=
 (.seq (.ops [⟨some 2, .new (.box 13), [.t 0], none⟩,
 ⟨some 3, .new (.box 3), [.t 1], none⟩,
 ⟨some 4, .pure .move, [.c (.bool false)], none⟩])
 (.seq (.seq (.ops [⟨some 5, .pure (.faddr 0), [.t 3], none⟩,
 ⟨some 6, .read (.load none), [.t 5], none⟩])
 (.cond (.t 6)
 (.seq (.ops [⟨some 7, .pure (.faddr 0), [.t 2], none⟩,
 ⟨some 8, .read (.load none), [.t 7], none⟩,
 ⟨some 9, .pure (.bin .eql), [.t 8, .c (.int .i64 6)], none⟩,
 ⟨some 4, .pure .move, [.t 9], none⟩])
 .ret)
 .skip))
 (.seq (.ops [⟨some 10, .pure (.faddr 0), [.t 2], none⟩,
 ⟨some 11, .read (.load none), [.t 10], none⟩,
 ⟨some 12, .pure (.bin .eql), [.t 11, .c (.int .i64 7)], none⟩,
 ⟨some 4, .pure .move, [.t 12], none⟩])
 .ret))) }
/-- datakit/qpath.part -/
def ac44 : AFn :=
 { nt := 35, res := [.cell 4 (some 13)], body :=
 (.seq (.ops [⟨some 2, .new (.box 13), [.t 0], none⟩,
 ⟨some 3, .new (.box 3), [.t 1], none⟩,
 ⟨some 4, .new (.new 13 [.agg [.int .i64 0, .bool false, .bool false, .str [], .int .i64 0, .int .i64 0, .int .i64 0, .int .i64 0, .int .i64 0, .str [], .snil 1, .snil 13, .snil 14]]), [], none⟩])
 (.seq (.seq (.ops [⟨some 7, .pure (.faddr 0), [.t 3], none⟩,
 ⟨some 8, .read (.load none), [.t 7], none⟩])
 (.cond (.t 8)
 (.seq (.seq (.ops [⟨some 9, .pure (.faddr 2), [.t 3], none⟩,
 ⟨some 10, .read (.load none), [.t 9], none⟩,
 ⟨some 11, .pure (.bin .lss), [.t 10, .c (.int .i64 0)], none⟩,
 ⟨some 12, .pure .move, [.t 11], none⟩,
 ⟨some 13, .pure (.faddr 2), [.t 3], some (12, false)⟩,
 ⟨some 14, .read (.load none), [.t 13], some (12, false)⟩,
 ⟨some 15, .pure (.faddr 11), [.t 2], some (12, false)⟩,
 ⟨some 16, .read (.load none), [.t 15], some (12, false)⟩,
 ⟨some 17, .pure .lenL, [.t 16], some (12, false)⟩,
 ⟨some 18, .pure (.bin .geq), [.t 14, .t 17], some (12, false)⟩,
 ⟨some 19, .pure .pick, [.t 12, .c (.bool true), .t 18], none⟩])
 (.cond (.t 19)
 (.seq (.ops [⟨some 20, .pure (.build [.int .i64 0, .bool false, .bool false, .str [], .int .i64 0, .int .i64 0, .int .i64 0, .int .i64 0, .int .i64 0, .str [], .snil 1, .snil 13, .snil 14] []), [], none⟩,
 ⟨none, .eff (.store 13), [.t 4, .t 20], none⟩])
 .ret)
 .skip))
 (.seq (.ops [⟨some 21, .pure (.faddr 11), [.t 2], none⟩,
 ⟨some 22, .read (.load none), [.t 21], none⟩,
 ⟨some 23, .pure (.faddr 2), [.t 3], none⟩,
 ⟨some 24, .read (.load none), [.t 23], none⟩,
 ⟨some 25, .pure (.iaddrS 13), [.t 22, .t 24], none⟩,
 ⟨some 26, .read (.load (some 13)), [.t 25], none⟩,
 ⟨none, .eff (.store 13), [.t 4, .t 26], none⟩])
 .ret))
 .skip))
 (.seq (.ops [⟨some 28, .read (.load (some 13)), [.t 2], none⟩,
 ⟨some 29, .pure (.faddr 1), [.t 3], none⟩,
 ⟨some 30, .read (.load none), [.t 29], none⟩,
 ⟨some 31, .pcall 61, [.t 28, .t 30], none⟩,
 ⟨some 27, .pure .move, [.t 31], none⟩,
 ⟨some 32, .pure (.ext 0), [.t 27], none⟩,
 ⟨some 33, .pure (.ext 1), [.t 27], none⟩,
 ⟨some 5, .new (.new 13 [.agg [.int .i64 0, .bool false, .bool false, .str [], .int .i64 0, .int .i64 0, .int .i64 0, .int .i64 0, .int .i64 0, .str [], .snil 1, .snil 13, .snil 14]]), [], none⟩,
 ⟨none, .eff (.store 13), [.t 5, .t 32], none⟩,
 ⟨some 6, .pure .move, [.t 33], none⟩])
 (.seq (.ops [⟨some 34, .read (.load (some 13)), [.t 5], none⟩,
 ⟨none, .eff (.store 13), [.t 4, .t 34], none⟩])
 .ret)))) }
/-- datakit/value.copied -/
def ac45 : AFn :=
 { nt := 59, res := [.cell 4 (some 13)], body :=
 (.seq (.ops [⟨some 2, .new (.box 13), [.t 0], none⟩,
 ⟨some 4, .new (.new 13 [.agg [.int .i64 0, .bool false, .bool false, .str [], .int .i64 0, .int .i64 0, .int .i64 0, .int .i64 0, .int .i64 0, .str [], .snil 1, .snil 13, .snil 14]]), [], none⟩])
 (.seq (.ops [⟨some 11, .pure (.faddr 10), [.t 2], none⟩,
 ⟨some 12, .read (.load none), [.t 11], none⟩,
 ⟨some 13, .pcall 62, [.t 12], none⟩,
 ⟨some 14, .pure (.faddr 10), [.t 2], none⟩,
 ⟨none, .eff (.store 1), [.t 14, .t 13], none⟩])
 (.seq (.seq (.ops [⟨some 15, .pure .move, [.t 1], none⟩,
 ⟨some 16, .pure (.bin .lss), [.t 15, .c (.int .i64 1)], none⟩])
 (.cond (.t 16)
 (.seq (.ops [⟨some 17, .pure (.faddr 11), [.t 2], none⟩,
 ⟨none, .eff (.store 1), [.t 17, .c (.snil 13)], none⟩,
 ⟨some 18, .pure (.faddr 12), [.t 2], none⟩,
 ⟨none, .eff (.store 1), [.t 18, .c (.snil 14)], none⟩])
 (.seq (.ops [⟨some 19, .read (.load (some 13)), [.t 2], none⟩,
 ⟨none, .eff (.store 13), [.t 4, .t 19], none⟩])
 .ret))
 .skip))
 (.seq (.ops [⟨some 5, .pure .move, [.c (.snil 13)], none⟩])
 (.seq (.seq (.ops [⟨some 20, .pure (.faddr 11), [.t 2], none⟩,
 ⟨some 21, .read (.load none), [.t 20], none⟩,
 ⟨some 22, .pure .lenL, [.t 21], none⟩,
 ⟨some 23, .pure .move, [.c (.int .i64 0)], none⟩])
 (.block 0
 (.loop [1, 2, 4, 5, 21, 22, 23]
 (.seq (.ops [⟨some 24, .pure (.bin .lss), [.t 23, .t 22], none⟩])
 (.seq (.cond (.t 24)
 .skip
 (.exit 0))
 (.seq (.block 1
 (.seq (.ops [⟨some 25, .pure (.iaddrS 13), [.t 21, .t 23], none⟩,
 ⟨some 26, .read (.load (some 13)), [.t 25], none⟩,
 ⟨some 7, .new (.new 13 [.agg [.int .i64 0, .bool false, .bool false, .str [], .int .i64 0, .int .i64 0, .int .i64 0, .int .i64 0, .int .i64 0, .str [], .snil 1, .snil 13, .snil 14]]), [], none⟩,
 ⟨none, .eff (.store 13), [.t 7, .t 26], none⟩])
 (.ops [⟨some 27, .pure .move, [.t 5], none⟩,
 ⟨some 28, .read (.load (some 13)), [.t 7], none⟩,
 ⟨some 29, .pure .move, [.t 1], none⟩,
 ⟨some 30, .pure (.bin .sub), [.t 29, .c (.int .i64 1)], none⟩,
 ⟨some 31, .pcall 45, [.t 28, .t 30], none⟩,
 ⟨some 32, .new (.buildSlice 13 [.agg [.int .i64 0, .bool false, .bool false, .str [], .int .i64 0, .int .i64 0, .int .i64 0, .int .i64 0, .int .i64 0, .str [], .snil 1, .snil 13, .snil 14]] [0]), [.t 31], none⟩,
 ⟨some 33, .eff (.append 13 168), [.t 27, .t 32], none⟩,
 ⟨some 5, .pure .move, [.t 33], none⟩])))
 (.ops [⟨some 34, .pure (.bin .add), [.t 23, .c (.int .i64 1)], none⟩,
 ⟨some 23, .pure .move, [.t 34], none⟩])))))))
 (.seq (.ops [⟨some 8, .pure .move, [.c (.snil 14)], none⟩])
 (.seq (.seq (.ops [⟨some 35, .pure (.faddr 12), [.t 2], none⟩,
 ⟨some 36, .read (.load none), [.t 35], none⟩,
 ⟨some 37, .pure .lenL, [.t 36], none⟩,
 ⟨some 38, .pure .move, [.c (.int .i64 0)], none⟩])
 (.block 2
 (.loop [1, 2, 4, 5, 8, 36, 37, 38]
 (.seq (.ops [⟨some 39, .pure (.bin .lss), [.t 38, .t 37], none⟩])
 (.seq (.cond (.t 39)
 .skip
 (.exit 2))
 (.seq (.block 3
 (.seq (.ops [⟨some 40, .pure (.iaddrS 14), [.t 36, .t 38], none⟩,
 ⟨some 41, .read (.load (some 14)), [.t 40], none⟩,
 ⟨some 10, .new (.new 14 [.agg [.str [], .int .i64 0, .bool false, .bool false, .str [], .int .i64 0, .int .i64 0, .int .i64 0, .int .i64 0, .int .i64 0, .str [], .snil 1, .snil 13, .snil 14]]), [], none⟩,
 ⟨none, .eff (.store 14), [.t 10, .t 41], none⟩])
 (.draw 1 [[⟨some 42, .pure .move, [.t 8], none⟩,
 ⟨some 43, .pure (.faddr 0), [.t 10], none⟩,
 ⟨some 44, .read (.load none), [.t 43], none⟩,
 ⟨some 45, .pure (.faddr 1), [.t 10], none⟩,
 ⟨some 46, .read (.load (some 13)), [.t 45], none⟩,
 ⟨some 47, .pure .move, [.t 1], none⟩,
 ⟨some 48, .pure (.bin .sub), [.t 47, .c (.int .i64 1)], none⟩,
 ⟨some 49, .pcall 45, [.t 46, .t 48], none⟩,
 ⟨some 50, .pure (.build [.str [], .int .i64 0, .bool false, .bool false, .str [], .int .i64 0, .int .i64 0, .int .i64 0, .int .i64 0, .int .i64 0, .str [], .snil 1, .snil 13, .snil 14] [(0, 1), (1, 13)]), [.t 44, .t 49], none⟩,
 ⟨some 51, .newAt 0 (.buildSlice 14 [.agg [.str [], .int .i64 0, .bool false, .bool false, .str [], .int .i64 0, .int .i64 0, .int .i64 0, .int .i64 0, .int .i64 0, .str [], .snil 1, .snil 13, .snil 14]] [0]), [.t 50], none⟩,
 ⟨some 52, .eff (.append 14 184), [.t 42, .t 51], none⟩,
 ⟨some 8, .pure .move, [.t 52], none⟩]])))
 (.ops [⟨some 53, .pure (.bin .add), [.t 38, .c (.int .i64 1)], none⟩,
 ⟨some 38, .pure .move, [.t 53], none⟩])))))))
 (.seq (.ops [⟨some 54, .pure .move, [.t 5], none⟩,
 ⟨some 55, .pure .move, [.t 8], none⟩,
 ⟨some 56, .pure (.faddr 11), [.t 2], none⟩,
 ⟨none, .eff (.store 1), [.t 56, .t 54], none⟩,
 ⟨some 57, .pure (.faddr 12), [.t 2], none⟩,
 ⟨none, .eff (.store 1), [.t 57, .t 55], none⟩])
 (.seq (.ops [⟨some 58, .read (.load (some 13)), [.t 2], none⟩,
 ⟨none, .eff (.store 13), [.t 4, .t 58], none⟩])
 .ret))))))))) }
/-- datakit/utf.Valid -/
def ac46 : AFn :=
 { nt := 12, res := [.tmp 2], body :=
 (.seq (.ops [⟨some 2, .pure .move, [.c (.bool false)], none⟩])
 (.seq (.ops [⟨some 6, .pure .move, [.t 0], none⟩,
 ⟨some 7, .pcall 63, [.t 6], none⟩,
 ⟨some 5, .pure .move, [.t 7], none⟩,
 ⟨some 8, .pure (.ext 0), [.t 5], none⟩,
 ⟨some 9, .pure (.ext 1), [.t 5], none⟩,
 ⟨some 3, .pure .move, [.t 8], none⟩,
 ⟨some 4, .pure .move, [.t 9], none⟩])
 (.seq (.ops [⟨some 10, .pure .move, [.t 4], none⟩,
 ⟨some 11, .pure (.bin .eql), [.t 10, .c (.int .i64 0)], none⟩,
 ⟨some 2, .pure .move, [.t 11], none⟩])
 .ret))) }
/-- datakit/access.at -/
def ac47 : AFn :=
 { nt := 41, res := [.cell 4 (some 13), .tmp 5], body :=
 (.seq (.ops [⟨some 2, .new (.box 13), [.t 0], none⟩,
 ⟨some 4, .new (.new 13 [.agg [.int .i64 0, .bool false, .bool false, .str [], .int .i64 0, .int .i64 0, .int .i64 0, .int .i64 0, .int .i64 0, .str [], .snil 1, .snil 13, .snil 14]]), [], none⟩,
 ⟨some 5, .pure .move, [.c (.int .i64 0)], none⟩])
 (.seq (.seq (.ops [⟨some 10, .pure .move, [.t 1], none⟩,
 ⟨some 11, .pure .lenL, [.t 10], none⟩,
 ⟨some 12, .pure .move, [.c (.int .i64 0)], none⟩])
 (.block 0
 (.loop [2, 4, 10, 11, 12]
 (.seq (.ops [⟨some 13, .pure (.bin .lss), [.t 12, .t 11], none⟩])
 (.seq (.cond (.t 13)
 .skip
 (.exit 0))
 (.seq (.block 1
 (.seq (.ops [⟨some 14, .pure (.iaddrS 3), [.t 10, .t 12], none⟩,
 ⟨some 15, .read (.load (some 3)), [.t 14], none⟩,
 ⟨some 7, .new (.new 3 [.agg [.bool false, .str [], .int .i64 0]]), [], none⟩,
 ⟨none, .eff (.store 3), [.t 7, .t 15], none⟩])
 (.seq (.ops [⟨some 17, .read (.load (some 13)), [.t 2], none⟩,
 ⟨some 18, .read (.load (some 3)), [.t 7], none⟩,
 ⟨some 19, .pcall 54, [.t 17, .t 18], none⟩,
 ⟨some 16, .pure .move, [.t 19], none⟩,
 ⟨some 20, .pure (.ext 0), [.t 16], none⟩,
 ⟨some 21, .pure (.ext 1), [.t 16], none⟩,
 ⟨some 8, .pure .move, [.t 20], none⟩,
 ⟨some 9, .pure .move, [.t 21], none⟩])
 (.seq (.seq (.ops [⟨some 22, .pure .move, [.t 9], none⟩,
 ⟨some 23, .pure (.bin .neq), [.t 22, .c (.int .i64 0)], none⟩])
 (.cond (.t 23)
 (.seq (.ops [⟨some 24, .pure (.build [.int .i64 0, .bool false, .bool false, .str [], .int .i64 0, .int .i64 0, .int .i64 0, .int .i64 0, .int .i64 0, .str [], .snil 1, .snil 13, .snil 14] []), [], none⟩,
 ⟨some 25, .pure .move, [.t 9], none⟩,
 ⟨none, .eff (.store 13), [.t 4, .t 24], none⟩,
 ⟨some 5, .pure .move, [.t 25], none⟩])
 .ret)
 .skip))
 (.seq (.ops [⟨some 26, .pure (.faddr 0), [.t 7], none⟩,
 ⟨some 27, .read (.load none), [.t 26], none⟩])
 (.cond (.t 27)
 (.ops [⟨some 28, .pure (.faddr 11), [.t 2], none⟩,
 ⟨some 29, .read (.load none), [.t 28], none⟩,
 ⟨some 30, .pure .move, [.t 8], none⟩,
 ⟨some 31, .pure (.iaddrS 13), [.t 29, .t 30], none⟩,
 ⟨some 32, .read (.load (some 13)), [.t 31], none⟩,
 ⟨none, .eff (.store 13), [.t 2, .t 32], none⟩])
 (.ops [⟨some 33, .pure (.faddr 12), [.t 2], none⟩,
 ⟨some 34, .read (.load none), [.t 33], none⟩,
 ⟨some 35, .pure .move, [.t 8], none⟩,
 ⟨some 36, .pure (.iaddrS 14), [.t 34, .t 35], none⟩,
 ⟨some 37, .pure (.faddr 1), [.t 36], none⟩,
 ⟨some 38, .read (.load (some 13)), [.t 37], none⟩,
 ⟨none, .eff (.store 13), [.t 2, .t 38], none⟩])))))))
 (.ops [⟨some 39, .pure (.bin .add), [.t 12, .c (.int .i64 1)], none⟩,
 ⟨some 12, .pure .move, [.t 39], none⟩])))))))
 (.seq (.ops [⟨some 40, .read (.load (some 13)), [.t 2], none⟩,
 ⟨none, .eff (.store 13), [.t 4, .t 40], none⟩,
 ⟨some 5, .pure .move, [.c (.int .i64 0)], none⟩])
 .ret))) }
/-- cmp.Compare[int] -/
def ac50 : AFn :=
 { nt := 20, res := [.tmp 4], body :=
 (.seq (.ops [⟨some 4, .pure .move, [.c (.int .i64 0)], none⟩])
 (.seq (.ops [⟨some 7, .pure .move, [.t 0], none⟩,
 ⟨some 8, .pcall 74, [.t 7], none⟩,
 ⟨some 5, .pure .move, [.t 8], none⟩])
 (.seq (.ops [⟨some 9, .pure .move, [.t 1], none⟩,
 ⟨some 10, .pcall 74, [.t 9], none⟩,
 ⟨some 6, .pure .move, [.t 10], none⟩])
 (.seq (.seq (.ops [⟨some 11, .pure .move, [.t 5], none⟩])
 (.cond (.t 11)
 (.seq (.seq (.ops [⟨some 12, .pure .move, [.t 6], none⟩])
 (.cond (.t 12)
 (.seq (.ops [⟨some 4, .pure .move, [.c (.int .i64 0)], none⟩])
 .ret)
 .skip))
 (.seq (.ops [⟨some 4, .pure .move, [.c (.int .i64 (-1))], none⟩])
 .ret))
 .skip))
 (.seq (.seq (.ops [⟨some 13, .pure .move, [.t 6], none⟩])
 (.cond (.t 13)
 (.seq (.ops [⟨some 4, .pure .move, [.c (.int .i64 1)], none⟩])
 .ret)
 .skip))
 (.seq (.seq (.ops [⟨some 14, .pure .move, [.t 0], none⟩,
 ⟨some 15, .pure .move, [.t 1], none⟩,
 ⟨some 16, .pure (.bin .lss), [.t 14, .t 15], none⟩])
 (.cond (.t 16)
 (.seq (.ops [⟨some 4, .pure .move, [.c (.int .i64 (-1))], none⟩])
 .ret)
 .skip))
 (.seq (.seq (.ops [⟨some 17, .pure .move, [.t 0], none⟩,
 ⟨some 18, .pure .move, [.t 1], none⟩,
 ⟨some 19, .pure (.bin .gtr), [.t 17, .t 18], none⟩])
 (.cond (.t 19)
 (.seq (.ops [⟨some 4, .pure .move, [.c (.int .i64 1)], none⟩])
 .ret)
 .skip))
 (.seq (.ops [⟨some 4, .pure .move, [.c (.int .i64 0)], none⟩])
 .ret)))))))) }
/-- cmp.Compare[string] -/
def ac51 : AFn :=
 { nt := 20, res := [.tmp 4], body :=
 (.seq (.ops [⟨some 4, .pure .move, [.c (.int .i64 0)], none⟩])
 (.seq (.ops [⟨some 7, .pure .move, [.t 0], none⟩,
 ⟨some 8, .pcall 75, [.t 7], none⟩,
 ⟨some 5, .pure .move, [.t 8], none⟩])
 (.seq (.ops [⟨some 9, .pure .move, [.t 1], none⟩,
 ⟨some 10, .pcall 75, [.t 9], none⟩,
 ⟨some 6, .pure .move, [.t 10], none⟩])
 (.seq (.seq (.ops [⟨some 11, .pure .move, [.t 5], none⟩])
 (.cond (.t 11)
 (.seq (.seq (.ops [⟨some 12, .pure .move, [.t 6], none⟩])
 (.cond (.t 12)
 (.seq (.ops [⟨some 4, .pure .move, [.c (.int .i64 0)], none⟩])
 .ret)
 .skip))
 (.seq (.ops [⟨some 4, .pure .move, [.c (.int .i64 (-1))], none⟩])
 .ret))
 .skip))
 (.seq (.seq (.ops [⟨some 13, .pure .move, [.t 6], none⟩])
 (.cond (.t 13)
 (.seq (.ops [⟨some 4, .pure .move, [.c (.int .i64 1)], none⟩])
 .ret)
 .skip))
 (.seq (.seq (.ops [⟨some 14, .pure .move, [.t 0], none⟩,
 ⟨some 15, .pure .move, [.t 1], none⟩,
 ⟨some 16, .pure (.bin .lss), [.t 14, .t 15], none⟩])
 (.cond (.t 16)
 (.seq (.ops [⟨some 4, .pure .move, [.c (.int .i64 (-1))], none⟩])
 .ret)
 .skip))
 (.seq (.seq (.ops [⟨some 17, .pure .move, [.t 0], none⟩,
 ⟨some 18, .pure .move, [.t 1], none⟩,
 ⟨some 19, .pure (.bin .gtr), [.t 17, .t 18], none⟩])
 (.cond (.t 19)
 (.seq (.ops [⟨some 4, .pure .move, [.c (.int .i64 1)], none⟩])
 .ret)
 .skip))
 (.seq (.ops [⟨some 4, .pure .move, [.c (.int .i64 0)], none⟩])
 .ret)))))))) }
/-- datakit/access.change -/
def ac52 : AFn :=
 { nt := 75, res := [.cell 6 (some 13)], body :=
 (.seq (.ops [⟨some 3, .new (.box 13), [.t 0], none⟩,
 ⟨some 6, .new (.new 13 [.agg [.int .i64 0, .bool false, .bool false, .str [], .int .i64 0, .int .i64 0, .int .i64 0, .int .i64 0, .int .i64 0, .str [], .snil 1, .snil 13, .snil 14]]), [], none⟩])
 (.seq (.seq (.ops [⟨some 11, .pure .move, [.t 1], none⟩,
 ⟨some 12, .pure .lenL, [.t 11], none⟩,
 ⟨some 13, .pure (.bin .eql), [.t 12, .c (.int .i64 0)], none⟩])
 (.cond (.t 13)
 (.seq (.ops [⟨some 14, .pure .move, [.t 2], none⟩,
 ⟨some 15, .read (.load (some 13)), [.t 3], none⟩,
 ⟨some 16, .callv, [.t 14, .t 15], none⟩,
 ⟨none, .eff (.store 13), [.t 6, .t 16], none⟩])
 .ret)
 .skip))
 (.seq (.ops [⟨some 18, .read (.load (some 13)), [.t 3], none⟩,
 ⟨some 19, .pure .move, [.t 1], none⟩,
 ⟨some 20, .pure (.iaddrS 3), [.t 19, .c (.int .i64 0)], none⟩,
 ⟨some 21, .read (.load (some 3)), [.t 20], none⟩,
 ⟨some 22, .pcall 54, [.t 18, .t 21], none⟩,
 ⟨some 17, .pure .move, [.t 22], none⟩,
 ⟨some 23, .pure (.ext 0), [.t 17], none⟩,
 ⟨some 24, .pure (.ext 1), [.t 17], none⟩,
 ⟨some 7, .pure .move, [.t 23], none⟩,
 ⟨some 8, .pure .move, [.t 24], none⟩])
 (.seq (.seq (.ops [⟨some 25, .pure .move, [.t 1], none⟩,
 ⟨some 26, .pure (.iaddrS 3), [.t 25, .c (.int .i64 0)], none⟩,
 ⟨some 27, .pure (.faddr 0), [.t 26], none⟩,
 ⟨some 28, .read (.load none), [.t 27], none⟩])
 (.cond (.t 28)
 (.seq (.ops [⟨some 29, .pure (.faddr 11), [.t 3], none⟩,
 ⟨some 30, .read (.load none), [.t 29], none⟩,
 ⟨some 31, .pure .lenL, [.t 30], none⟩,
 ⟨some 32, .new (.mkSlice 13 168 (.agg [.int .i64 0, .bool false, .bool false, .str [], .int .i64 0, .int .i64 0, .int .i64 0, .int .i64 0, .int .i64 0, .str [], .snil 1, .snil 13, .snil 14])), [.t 31, .t 31], none⟩,
 ⟨some 9, .pure .move, [.t 32], none⟩])
 (.seq (.ops [⟨some 33, .pure .move, [.t 9], none⟩,
 ⟨some 34, .pure (.faddr 11), [.t 3], none⟩,
 ⟨some 35, .read (.load none), [.t 34], none⟩,
 ⟨some 36, .eff (.copy 13), [.t 33, .t 35], none⟩])
 (.seq (.ops [⟨some 37, .pure .move, [.t 9], none⟩,
 ⟨some 38, .pure .move, [.t 7], none⟩,
 ⟨some 39, .pure .move, [.t 9], none⟩,
 ⟨some 40, .pure .move, [.t 7], none⟩,
 ⟨some 41, .pure (.iaddrS 13), [.t 39, .t 40], none⟩,
 ⟨some 42, .read (.load (some 13)), [.t 41], none⟩,
 ⟨some 43, .pure .move, [.t 1], none⟩,
 ⟨some 44, .pure (.sliceL 3 true false false), [.t 43, .c (.int .i64 1)], none⟩,
 ⟨some 45, .pure .move, [.t 2], none⟩,
 ⟨some 46, .pcall 52, [.t 42, .t 44, .t 45], none⟩,
 ⟨some 47, .pure (.iaddrS 13), [.t 37, .t 38], none⟩,
 ⟨none, .eff (.store 13), [.t 47, .t 46], none⟩])
 (.seq (.ops [⟨some 48, .pure .move, [.t 9], none⟩,
 ⟨some 49, .pure (.faddr 11), [.t 3], none⟩,
 ⟨none, .eff (.store 1), [.t 49, .t 48], none⟩])
 (.seq (.ops [⟨some 50, .read (.load (some 13)), [.t 3], none⟩,
 ⟨none, .eff (.store 13), [.t 6, .t 50], none⟩])
 .ret)))))
 .skip))
 (.seq (.ops [⟨some 51, .pure (.faddr 12), [.t 3], none⟩,
 ⟨some 52, .read (.load none), [.t 51], none⟩,
 ⟨some 53, .pure .lenL, [.t 52], none⟩,
 ⟨some 54, .new (.mkSlice 14 184 (.agg [.str [], .int .i64 0, .bool false, .bool false, .str [], .int .i64 0, .int .i64 0, .int .i64 0, .int .i64 0, .int .i64 0, .str [], .snil 1, .snil 13, .snil 14])), [.t 53, .t 53], none⟩,
 ⟨some 10, .pure .move, [.t 54], none⟩])
 (.seq (.ops [⟨some 55, .pure .move, [.t 10], none⟩,
 ⟨some 56, .pure (.faddr 12), [.t 3], none⟩,
 ⟨some 57, .read (.load none), [.t 56], none⟩,
 ⟨some 58, .eff (.copy 14), [.t 55, .t 57], none⟩])
 (.seq (.ops [⟨some 59, .pure .move, [.t 10], none⟩,
 ⟨some 60, .pure .move, [.t 7], none⟩,
 ⟨some 61, .pure .move, [.t 10], none⟩,
 ⟨some 62, .pure .move, [.t 7], none⟩,
 ⟨some 63, .pure (.iaddrS 14), [.t 61, .t 62], none⟩,
 ⟨some 64, .pure (.faddr 1), [.t 63], none⟩,
 ⟨some 65, .read (.load (some 13)), [.t 64], none⟩,
 ⟨some 66, .pure .move, [.t 1], none⟩,
 ⟨some 67, .pure (.sliceL 3 true false false), [.t 66, .c (.int .i64 1)], none⟩,
 ⟨some 68, .pure .move, [.t 2], none⟩,
 ⟨some 69, .pcall 52, [.t 65, .t 67, .t 68], none⟩,
 ⟨some 70, .pure (.iaddrS 14), [.t 59, .t 60], none⟩,
 ⟨some 71, .pure (.faddr 1), [.t 70], none⟩,
 ⟨none, .eff (.store 13), [.t 71, .t 69], none⟩])
 (.seq (.ops [⟨some 72, .pure .move, [.t 10], none⟩,
 ⟨some 73, .pure (.faddr 12), [.t 3], none⟩,
 ⟨none, .eff (.store 1), [.t 73, .t 72], none⟩])
 (.seq (.ops [⟨some 74, .read (.load (some 13)), [.t 3], none⟩,
 ⟨none, .eff (.store 13), [.t 6, .t 74], none⟩])
 .ret))))))))) }
/-- datakit/access.Remove$1 -/
def ac53 : AFn :=
 { nt := 62, res := [.cell 3 (some 13)], body :=
 (.seq (.ops [⟨some 2, .new (.box 13), [.t 0], none⟩,
 ⟨some 3, .new (.new 13 [.agg [.int .i64 0, .bool false, .bool false, .str [], .int .i64 0, .int .i64 0, .int .i64 0, .int .i64 0, .int .i64 0, .str [], .snil 1, .snil 13, .snil 14]]), [], none⟩])
 (.seq (.ops [⟨some 9, .read (.load (some 13)), [.t 2], none⟩,
 ⟨some 10, .read (.load (some 3)), [.t 1], none⟩,
 ⟨some 11, .pcall 54, [.t 9, .t 10], none⟩,
 ⟨some 8, .pure .move, [.t 11], none⟩,
 ⟨some 12, .pure (.ext 0), [.t 8], none⟩,
 ⟨some 13, .pure (.ext 1), [.t 8], none⟩,
 ⟨some 4, .pure .move, [.t 12], none⟩,
 ⟨some 5, .pure .move, [.t 13], none⟩])
 (.seq (.seq (.ops [⟨some 14, .pure (.faddr 0), [.t 1], none⟩,
 ⟨some 15, .read (.load none), [.t 14], none⟩])
 (.cond (.t 15)
 (.seq (.ops [⟨some 16, .pure (.faddr 11), [.t 2], none⟩,
 ⟨some 17, .read (.load none), [.t 16], none⟩,
 ⟨some 18, .pure .lenL, [.t 17], none⟩,
 ⟨some 19, .pure (.bin .sub), [.t 18, .c (.int .i64 1)], none⟩,
 ⟨some 20, .new (.mkSlice 13 168 (.agg [.int .i64 0, .bool false, .bool false, .str [], .int .i64 0, .int .i64 0, .int .i64 0, .int .i64 0, .int .i64 0, .str [], .snil 1, .snil 13, .snil 14])), [.t 19, .t 19], none⟩,
 ⟨some 6, .pure .move, [.t 20], none⟩])
 (.seq (.ops [⟨some 21, .pure .move, [.t 6], none⟩,
 ⟨some 22, .pure (.faddr 11), [.t 2], none⟩,
 ⟨some 23, .read (.load none), [.t 22], none⟩,
 ⟨some 24, .pure .move, [.t 4], none⟩,
 ⟨some 25, .pure (.sliceL 13 false true false), [.t 23, .t 24], none⟩,
 ⟨some 26, .eff (.copy 13), [.t 21, .t 25], none⟩])
 (.seq (.ops [⟨some 27, .pure .move, [.t 6], none⟩,
 ⟨some 28, .pure .move, [.t 4], none⟩,
 ⟨some 29, .pure (.sliceL 13 true false false), [.t 27, .t 28], none⟩,
 ⟨some 30, .pure (.faddr 11), [.t 2], none⟩,
 ⟨some 31, .read (.load none), [.t 30], none⟩,
 ⟨some 32, .pure .move, [.t 4], none⟩,
 ⟨some 33, .pure (.bin .add), [.t 32, .c (.int .i64 1)], none⟩,
 ⟨some 34, .pure (.sliceL 13 true false false), [.t 31, .t 33], none⟩,
 ⟨some 35, .eff (.copy 13), [.t 29, .t 34], none⟩])
 (.seq (.ops [⟨some 36, .pure .move, [.t 6], none⟩,
 ⟨some 37, .pure (.faddr 11), [.t 2], none⟩,
 ⟨none, .eff (.store 1), [.t 37, .t 36], none⟩])
 (.seq (.ops [⟨some 38, .read (.load (some 13)), [.t 2], none⟩,
 ⟨none, .eff (.store 13), [.t 3, .t 38], none⟩])
 .ret)))))
 .skip))
 (.seq (.ops [⟨some 39, .pure (.faddr 12), [.t 2], none⟩,
 ⟨some 40, .read (.load none), [.t 39], none⟩,
 ⟨some 41, .pure .lenL, [.t 40], none⟩,
 ⟨some 42, .pure (.bin .sub), [.t 41, .c (.int .i64 1)], none⟩,
 ⟨some 43, .new (.mkSlice 14 184 (.agg [.str [], .int .i64 0, .bool false, .bool false, .str [], .int .i64 0, .int .i64 0, .int .i64 0, .int .i64 0, .int .i64 0, .str [], .snil 1, .snil 13, .snil 14])), [.t 42, .t 42], none⟩,
 ⟨some 7, .pure .move, [.t 43], none⟩])
 (.seq (.ops [⟨some 44, .pure .move, [.t 7], none⟩,
 ⟨some 45, .pure (.faddr 12), [.t 2], none⟩,
 ⟨some 46, .read (.load none), [.t 45], none⟩,
 ⟨some 47, .pure .move, [.t 4], none⟩,
 ⟨some 48, .pure (.sliceL 14 false true false), [.t 46, .t 47], none⟩,
 ⟨some 49, .eff (.copy 14), [.t 44, .t 48], none⟩])
 (.seq (.ops [⟨some 50, .pure .move, [.t 7], none⟩,
 ⟨some 51, .pure .move, [.t 4], none⟩,
 ⟨some 52, .pure (.sliceL 14 true false false), [.t 50, .t 51], none⟩,
 ⟨some 53, .pure (.faddr 12), [.t 2], none⟩,
 ⟨some 54, .read (.load none), [.t 53], none⟩,
 ⟨some 55, .pure .move, [.t 4], none⟩,
 ⟨some 56, .pure (.bin .add), [.t 55, .c (.int .i64 1)], none⟩,
 ⟨some 57, .pure (.sliceL 14 true false false), [.t 54, .t 56], none⟩,
 ⟨some 58, .eff (.copy 14), [.t 52, .t 57], none⟩])
 (.seq (.ops [⟨some 59, .pure .move, [.t 7], none⟩,
 ⟨some 60, .pure (.faddr 12), [.t 2], none⟩,
 ⟨none, .eff (.store 1), [.t 60, .t 59], none⟩])
 (.seq (.ops [⟨some 61, .read (.load (some 13)), [.t 2], none⟩,
 ⟨none, .eff (.store 13), [.t 3, .t 61], none⟩])
 .ret)))))))) }
/-- datakit/access.find -/
def ac54 : AFn :=
 { nt := 34, res := [.tmp 4, .tmp 5], body :=
 (.seq (.ops [⟨some 2, .new (.box 13), [.t 0], none⟩,
 ⟨some 3, .new (.box 3), [.t 1], none⟩,
 ⟨some 4, .pure .move, [.c (.int .i64 0)], none⟩,
 ⟨some 5, .pure .move, [.c (.int .i64 0)], none⟩])
 (.seq (.seq (.ops [⟨some 7, .read (.load (some 13)), [.t 2], none⟩,
 ⟨some 8, .read (.load (some 3)), [.t 3], none⟩,
 ⟨some 9, .pcall 76, [.t 7, .t 8], none⟩,
 ⟨some 10, .pure (.un .not), [.t 9], none⟩])
 (.cond (.t 10)
 (.seq (.ops [⟨some 4, .pure .move, [.c (.int .i64 0)], none⟩,
 ⟨some 5, .pure .move, [.c (.int .i64 6)], none⟩])
 .ret)
 .skip))
 (.seq (.ops [⟨some 11, .pure (.faddr 2), [.t 3], none⟩,
 ⟨some 12, .read (.load none), [.t 11], none⟩,
 ⟨some 6, .pure .move, [.t 12], none⟩])
 (.seq (.seq (.ops [⟨some 13, .pure (.faddr 0), [.t 3], none⟩,
 ⟨some 14, .read (.load none), [.t 13], none⟩,
 ⟨some 15, .pure (.un .not), [.t 14], none⟩])
 (.cond (.t 15)
 (.ops [⟨some 16, .read (.load (some 13)), [.t 2], none⟩,
 ⟨some 17, .pure (.faddr 1), [.t 3], none⟩,
 ⟨some 18, .read (.load none), [.t 17], none⟩,
 ⟨some 19, .pcall 77, [.t 16, .t 18], none⟩,
 ⟨some 6, .pure .move, [.t 19], none⟩])
 .skip))
 (.seq (.seq (.ops [⟨some 20, .pure .move, [.t 6], none⟩,
 ⟨some 21, .pure (.bin .lss), [.t 20, .c (.int .i64 0)], none⟩,
 ⟨some 22, .pure .move, [.t 21], none⟩,
 ⟨some 23, .pure (.faddr 0), [.t 3], some (22, false)⟩,
 ⟨some 24, .read (.load none), [.t 23], some (22, false)⟩,
 ⟨some 25, .pure .move, [.t 24], some (22, false)⟩,
 ⟨some 26, .pure .move, [.t 6], some (25, true)⟩,
 ⟨some 27, .pure (.faddr 11), [.t 2], some (25, true)⟩,
 ⟨some 28, .read (.load none), [.t 27], some (25, true)⟩,
 ⟨some 29, .pure .lenL, [.t 28], some (25, true)⟩,
 ⟨some 30, .pure (.bin .geq), [.t 26, .t 29], some (25, true)⟩,
 ⟨some 31, .pure .pick, [.t 25, .t 30, .c (.bool false)], some (22, false)⟩,
 ⟨some 32, .pure .pick, [.t 22, .c (.bool true), .t 31], none⟩])
 (.cond (.t 32)
 (.seq (.ops [⟨some 4, .pure .move, [.c (.int .i64 0)], none⟩,
 ⟨some 5, .pure .move, [.c (.int .i64 7)], none⟩])
 .ret)
 .skip))
 (.seq (.ops [⟨some 33, .pure .move, [.t 6], none⟩,
 ⟨some 4, .pure .move, [.t 33], none⟩,
 ⟨some 5, .pure .move, [.c (.int .i64 0)], none⟩])
 .ret)))))) }
/-- datakit/datakitref09.Longer -/
def ac55 : AFn :=
 { nt := 13, res := [.tmp 4], body :=
 (.seq (.ops [⟨some 3, .new (.box 3), [.t 1], none⟩,
 ⟨some 4, .pure .move, [.c (.snil 3)], none⟩])
 (.seq (.ops [⟨some 6, .new (.buildSlice 3 [] []), [], none⟩,
 ⟨some 7, .pure .move, [.t 0], none⟩,
 ⟨some 8, .eff (.append 3 32), [.t 6, .t 7], none⟩,
 ⟨some 5, .pure .move, [.t 8], none⟩])
 (.seq (.ops [⟨some 9, .pure .move, [.t 5], none⟩,
 ⟨some 10, .read (.load (some 3)), [.t 3], none⟩,
 ⟨some 11, .new (.buildSlice 3 [.agg [.bool false, .str [], .int .i64 0]] [0]), [.t 10], none⟩,
 ⟨some 12, .eff (.append 3 32), [.t 9, .t 11], none⟩,
 ⟨some 4, .pure .move, [.t 12], none⟩])
 .ret))) }
/-- datakit/datakitref39.goes -/
def ac56 : AFn :=
 { nt := 18, res := [.tmp 4], body :=
 (.seq (.ops [⟨some 4, .pure .move, [.c (.bool false)], none⟩])
 (.seq (.seq (.ops [⟨some 5, .pure .move, [.c (.int .i64 0)], none⟩])
 (.block 0
 (.loop [0, 1, 5]
 (.seq (.seq (.ops [⟨some 6, .pure .move, [.t 5], none⟩,
 ⟨some 7, .pure .move, [.t 1], none⟩,
 ⟨some 8, .pure .lenL, [.t 7], none⟩,
 ⟨some 9, .pure (.bin .lss), [.t 6, .t 8], none⟩])
 (.cond (.t 9)
 .skip
 (.exit 0)))
 (.seq (.block 1
 (.seq (.ops [⟨some 12, .pure .move, [.t 0], none⟩,
 ⟨some 13, .pure .move, [.t 1], none⟩,
 ⟨some 14, .pure .move, [.t 5], none⟩,
 ⟨some 15, .pure (.iaddrS 1), [.t 13, .t 14], none⟩,
 ⟨some 16, .read (.load none), [.t 15], none⟩,
 ⟨some 17, .pcall 11, [.t 12, .t 16], none⟩])
 (.cond (.t 17)
 (.seq (.ops [⟨some 4, .pure .move, [.c (.bool true)], none⟩])
 .ret)
 .skip)))
 (.ops [⟨some 10, .pure .move, [.t 5], none⟩,
 ⟨some 11, .pure (.bin .add), [.t 10, .c (.int .i64 1)], none⟩,
 ⟨some 5, .pure .move, [.t 11], none⟩]))))))
 (.seq (.ops [⟨some 4, .pure .move, [.c (.bool false)], none⟩])
 .ret))) }
/-- datakit/datakitref07.one -/
def ac57 : AFn :=
 { nt := 38, res := [.tmp 2], body :=
 (.seq (.ops [⟨some 1, .new (.box 13), [.t 0], none⟩,
 ⟨some 2, .pure .move, [.c (.int .i64 0)], none⟩])
 (.seq (.seq (.ops [⟨some 3, .read (.load (some 13)), [.t 1], none⟩,
 ⟨some 4, .pcall 78, [.t 3], none⟩,
 ⟨some 5, .pure (.un .not), [.t 4], none⟩])
 (.cond (.t 5)
 (.seq (.ops [⟨some 2, .pure .move, [.c (.int .i64 6)], none⟩])
 .ret)
 .skip))
 (.seq (.seq (.ops [⟨some 6, .pure (.faddr 2), [.t 1], none⟩,
 ⟨some 7, .read (.load (some 3)), [.t 6], none⟩,
 ⟨some 8, .pcall 79, [.t 7], none⟩,
 ⟨some 9, .pure (.un .not), [.t 8], none⟩,
 ⟨some 10, .pure .move, [.t 9], none⟩,
 ⟨some 11, .pure (.faddr 0), [.t 1], some (10, false)⟩,
 ⟨some 12, .read (.load none), [.t 11], some (10, false)⟩,
 ⟨some 13, .pure (.bin .eql), [.t 12, .c (.int .i64 3)], some (10, false)⟩,
 ⟨some 14, .pure .move, [.t 13], some (10, false)⟩,
 ⟨some 15, .pure (.faddr 5), [.t 1], some (14, true)⟩,
 ⟨some 16, .read (.load (some 4)), [.t 15], some (14, true)⟩,
 ⟨some 17, .pcall 80, [.t 16], some (14, true)⟩,
 ⟨some 18, .pure (.un .not), [.t 17], some (14, true)⟩,
 ⟨some 19, .pure .pick, [.t 14, .t 18, .c (.bool false)], some (10, false)⟩,
 ⟨some 20, .pure .pick, [.t 10, .c (.bool true), .t 19], none⟩])
 (.cond (.t 20)
 (.seq (.ops [⟨some 2, .pure .move, [.c (.int .i64 2)], none⟩])
 .ret)
 .skip))
 (.seq (.seq (.ops [⟨some 21, .pure (.faddr 9), [.t 1], none⟩,
 ⟨some 22, .read (.load none), [.t 21], none⟩,
 ⟨some 23, .pcall 24, [.t 22], none⟩,
 ⟨some 24, .pure (.un .not), [.t 23], none⟩])
 (.cond (.t 24)
 (.seq (.ops [⟨some 2, .pure .move, [.c (.int .i64 5)], none⟩])
 .ret)
 .skip))
 (.seq (.seq (.ops [⟨some 25, .pure (.faddr 9), [.t 1], none⟩,
 ⟨some 26, .read (.load none), [.t 25], none⟩,
 ⟨some 27, .pure .lenS, [.t 26], none⟩,
 ⟨some 28, .pure (.bin .gtr), [.t 27, .c (.int .i64 65536)], none⟩,
 ⟨some 29, .pure .move, [.t 28], none⟩,
 ⟨some 30, .pure (.faddr 10), [.t 1], some (29, false)⟩,
 ⟨some 31, .read (.load none), [.t 30], some (29, false)⟩,
 ⟨some 32, .pure .lenL, [.t 31], some (29, false)⟩,
 ⟨some 33, .pure (.bin .gtr), [.t 32, .c (.int .i64 65536)], some (29, false)⟩,
 ⟨some 34, .pure .pick, [.t 29, .c (.bool true), .t 33], none⟩])
 (.cond (.t 34)
 (.seq (.ops [⟨some 2, .pure .move, [.c (.int .i64 10)], none⟩])
 .ret)
 .skip))
 (.seq (.ops [⟨some 35, .pure (.faddr 12), [.t 1], none⟩,
 ⟨some 36, .read (.load none), [.t 35], none⟩,
 ⟨some 37, .pcall 81, [.t 36], none⟩,
 ⟨some 2, .pure .move, [.t 37], none⟩])
 .ret)))))) }
/-- datakit/datakitref07.Kids -/
def ac58 : AFn :=
 { nt := 27, res := [.tmp 2], body :=
 (.seq (.ops [⟨some 1, .new (.box 13), [.t 0], none⟩,
 ⟨some 2, .pure .move, [.c (.snil 13)], none⟩])
 (.seq (.seq (.ops [⟨some 5, .pure (.faddr 0), [.t 1], none⟩,
 ⟨some 6, .read (.load none), [.t 5], none⟩,
 ⟨some 7, .pure (.bin .neq), [.t 6, .c (.int .i64 7)], none⟩])
 (.cond (.t 7)
 (.seq (.ops [⟨some 8, .pure (.faddr 11), [.t 1], none⟩,
 ⟨some 9, .read (.load none), [.t 8], none⟩,
 ⟨some 2, .pure .move, [.t 9], none⟩])
 .ret)
 .skip))
 (.seq (.ops [⟨some 3, .pure .move, [.c (.snil 13)], none⟩])
 (.seq (.seq (.ops [⟨some 4, .pure .move, [.c (.int .i64 0)], none⟩])
 (.block 0
 (.loop [1, 3, 4]
 (.seq (.seq (.ops [⟨some 10, .pure .move, [.t 4], none⟩,
 ⟨some 11, .pure (.faddr 12), [.t 1], none⟩,
 ⟨some 12, .read (.load none), [.t 11], none⟩,
 ⟨some 13, .pure .lenL, [.t 12], none⟩,
 ⟨some 14, .pure (.bin .lss), [.t 10, .t 13], none⟩])
 (.cond (.t 14)
 .skip
 (.exit 0)))
 (.seq (.block 1
 (.ops [⟨some 17, .pure .move, [.t 3], none⟩,
 ⟨some 18, .pure (.faddr 12), [.t 1], none⟩,
 ⟨some 19, .read (.load none), [.t 18], none⟩,
 ⟨some 20, .pure .move, [.t 4], none⟩,
 ⟨some 21, .pure (.iaddrS 14), [.t 19, .t 20], none⟩,
 ⟨some 22, .pure (.faddr 1), [.t 21], none⟩,
 ⟨some 23, .read (.load (some 13)), [.t 22], none⟩,
 ⟨some 24, .new (.buildSlice 13 [.agg [.int .i64 0, .bool false, .bool false, .str [], .int .i64 0, .int .i64 0, .int .i64 0, .int .i64 0, .int .i64 0, .str [], .snil 1, .snil 13, .snil 14]] [0]), [.t 23], none⟩,
 ⟨some 25, .eff (.append 13 168), [.t 17, .t 24], none⟩,
 ⟨some 3, .pure .move, [.t 25], none⟩]))
 (.ops [⟨some 15, .pure .move, [.t 4], none⟩,
 ⟨some 16, .pure (.bin .add), [.t 15, .c (.int .i64 1)], none⟩,
 ⟨some 4, .pure .move, [.t 16], none⟩]))))))
 (.seq (.ops [⟨some 26, .pure .move, [.t 3], none⟩,
 ⟨some 2, .pure .move, [.t 26], none⟩])
 .ret))))) }
/-- datakit/datakitref01.Valid -/
def ac59 : AFn :=
 { nt := 20, res := [.tmp 2], body :=
 (.seq (.ops [⟨some 2, .pure .move, [.c (.bool false)], none⟩])
 (.seq (.ops [⟨some 3, .pure .move, [.t 0], none⟩,
 ⟨some 4, .pure .lenS, [.t 3], none⟩,
 ⟨some 5, .pure (.bin .leq), [.t 4, .c (.int .i64 600)], none⟩,
 ⟨some 6, .pure .move, [.t 5], none⟩,
 ⟨some 7, .pure .move, [.t 0], some (6, true)⟩,
 ⟨some 8, .pcall 82, [.t 7], some (6, true)⟩,
 ⟨some 9, .pure .pick, [.t 6, .t 8, .c (.bool false)], none⟩,
 ⟨some 10, .pure .move, [.t 9], none⟩,
 ⟨some 11, .pure .move, [.t 0], some (10, true)⟩,
 ⟨some 12, .pure .lenS, [.t 11], some (10, true)⟩,
 ⟨some 13, .pure (.bin .eql), [.t 12, .c (.int .i64 0)], some (10, true)⟩,
 ⟨some 14, .pure .move, [.t 13], some (10, true)⟩,
 ⟨some 15, .pure .move, [.t 0], some (14, false)⟩,
 ⟨some 16, .pure .idxStr, [.t 15, .c (.int .i64 0)], some (14, false)⟩,
 ⟨some 17, .pure (.bin .neq), [.t 16, .c (.int .u8 48)], some (14, false)⟩,
 ⟨some 18, .pure .pick, [.t 14, .c (.bool true), .t 17], some (10, true)⟩,
 ⟨some 19, .pure .pick, [.t 10, .t 18, .c (.bool false)], none⟩,
 ⟨some 2, .pure .move, [.t 19], none⟩])
 .ret)) }
/-- datakit/datakitref03.Decode -/
def ac60 : AFn :=
 { nt := 80, res := [.tmp 4, .tmp 5], body :=
 (.seq (.ops [⟨some 4, .pure .move, [.c (.int .i64 0)], none⟩,
 ⟨some 5, .pure .move, [.c (.int .i64 0)], none⟩])
 (.seq (.seq (.ops [⟨some 12, .pure .move, [.t 1], none⟩,
 ⟨some 13, .pure (.bin .lss), [.t 12, .c (.int .i64 0)], none⟩,
 ⟨some 14, .pure .move, [.t 13], none⟩,
 ⟨some 15, .pure .move, [.t 1], some (14, false)⟩,
 ⟨some 16, .pure .move, [.t 0], some (14, false)⟩,
 ⟨some 17, .pure .lenS, [.t 16], some (14, false)⟩,
 ⟨some 18, .pure (.bin .geq), [.t 15, .t 17], some (14, false)⟩,
 ⟨some 19, .pure .pick, [.t 14, .c (.bool true), .t 18], none⟩])
 (.cond (.t 19)
 (.seq (.ops [⟨some 4, .pure .move, [.c (.int .i64 0)], none⟩,
 ⟨some 5, .pure .move, [.c (.int .i64 0)], none⟩])
 .ret)
 .skip))
 (.seq (.ops [⟨some 20, .pure .move, [.t 0], none⟩,
 ⟨some 21, .pure .move, [.t 1], none⟩,
 ⟨some 22, .pure .idxStr, [.t 20, .t 21], none⟩,
 ⟨some 23, .pure (.conv .i64), [.t 22], none⟩,
 ⟨some 6, .pure .move, [.t 23], none⟩])
 (.seq (.ops [⟨some 24, .pure .move, [.t 6], none⟩,
 ⟨some 7, .pure .move, [.c (.int .i64 1)], none⟩,
 ⟨some 8, .pure .move, [.t 24], none⟩])
 (.seq (.block 0
 (.seq (.ops [⟨some 26, .pure .move, [.t 6], none⟩,
 ⟨some 27, .pure (.bin .geq), [.t 26, .c (.int .i64 240)], none⟩,
 ⟨some 25, .pure .move, [.t 27], none⟩])
 (.cond (.t 25)
 (.ops [⟨some 28, .pure .move, [.t 6], none⟩,
 ⟨some 29, .pure (.bin .and), [.t 28, .c (.int .i64 7)], none⟩,
 ⟨some 7, .pure .move, [.c (.int .i64 4)], none⟩,
 ⟨some 8, .pure .move, [.t 29], none⟩])
 (.seq (.ops [⟨some 31, .pure .move, [.t 6], none⟩,
 ⟨some 32, .pure (.bin .geq), [.t 31, .c (.int .i64 224)], none⟩,
 ⟨some 30, .pure .move, [.t 32], none⟩])
 (.cond (.t 30)
 (.ops [⟨some 33, .pure .move, [.t 6], none⟩,
 ⟨some 34, .pure (.bin .and), [.t 33, .c (.int .i64 15)], none⟩,
 ⟨some 7, .pure .move, [.c (.int .i64 3)], none⟩,
 ⟨some 8, .pure .move, [.t 34], none⟩])
 (.seq (.ops [⟨some 36, .pure .move, [.t 6], none⟩,
 ⟨some 37, .pure (.bin .geq), [.t 36, .c (.int .i64 192)], none⟩,
 ⟨some 35, .pure .move, [.t 37], none⟩])
 (.cond (.t 35)
 (.ops [⟨some 38, .pure .move, [.t 6], none⟩,
 ⟨some 39, .pure (.bin .and), [.t 38, .c (.int .i64 31)], none⟩,
 ⟨some 7, .pure .move, [.c (.int .i64 2)], none⟩,
 ⟨some 8, .pure .move, [.t 39], none⟩])
 .skip)))))))
 (.seq (.seq (.ops [⟨some 40, .pure .move, [.t 0], none⟩,
 ⟨some 41, .pure .lenS, [.t 40], none⟩,
 ⟨some 42, .pure .move, [.t 1], none⟩,
 ⟨some 43, .pure (.bin .sub), [.t 41, .t 42], none⟩,
 ⟨some 44, .pure .move, [.t 7], none⟩,
 ⟨some 45, .pure (.bin .lss), [.t 43, .t 44], none⟩])
 (.cond (.t 45)
 (.seq (.ops [⟨some 4, .pure .move, [.c (.int .i64 0)], none⟩,
 ⟨some 5, .pure .move, [.c (.int .i64 0)], none⟩])
 .ret)
 .skip))
 (.seq (.seq (.ops [⟨some 9, .pure .move, [.c (.int .i64 1)], none⟩])
 (.block 1
 (.loop [0, 1, 7, 8, 9]
 (.seq (.seq (.ops [⟨some 46, .pure .move, [.t 9], none⟩,
 ⟨some 47, .pure .move, [.t 7], none⟩,
 ⟨some 48, .pure (.bin .lss), [.t 46, .t 47], none⟩])
 (.cond (.t 48)
 .skip
 (.exit 1)))
 (.seq (.block 2
 (.ops [⟨some 51, .pure .move, [.t 8], none⟩,
 ⟨some 52, .pure (.bin .shl), [.t 51, .c (.int .u64 6)], none⟩,
 ⟨some 53, .pure .move, [.t 0], none⟩,
 ⟨some 54, .pure .move, [.t 1], none⟩,
 ⟨some 55, .pure .move, [.t 9], none⟩,
 ⟨some 56, .pure (.bin .add), [.t 54, .t 55], none⟩,
 ⟨some 57, .pure .idxStr, [.t 53, .t 56], none⟩,
 ⟨some 58, .pure (.conv .i64), [.t 57], none⟩,
 ⟨some 59, .pure (.bin .and), [.t 58, .c (.int .i64 63)], none⟩,
 ⟨some 60, .pure (.bin .or), [.t 52, .t 59], none⟩,
 ⟨some 8, .pure .move, [.t 60], none⟩]))
 (.ops [⟨some 49, .pure .move, [.t 9], none⟩,
 ⟨some 50, .pure (.bin .add), [.t 49, .c (.int .i64 1)], none⟩,
 ⟨some 9, .pure .move, [.t 50], none⟩]))))))
 (.seq (.ops [⟨some 62, .pure .move, [.t 8], none⟩,
 ⟨some 63, .pcall 83, [.t 62], none⟩,
 ⟨some 61, .pure .move, [.t 63], none⟩,
 ⟨some 64, .pure (.ext 0), [.t 61], none⟩,
 ⟨some 65, .pure (.ext 1), [.t 61], none⟩,
 ⟨some 10, .pure .move, [.t 64], none⟩,
 ⟨some 11, .pure .move, [.t 65], none⟩])
 (.seq (.seq (.ops [⟨some 66, .pure .move, [.t 11], none⟩,
 ⟨some 67, .pure (.bin .neq), [.t 66, .c (.int .i64 0)], none⟩,
 ⟨some 68, .pure .move, [.t 67], none⟩,
 ⟨some 69, .pure .move, [.t 10], some (68, false)⟩,
 ⟨some 70, .pure .move, [.t 0], some (68, false)⟩,
 ⟨some 71, .pure .move, [.t 1], some (68, false)⟩,
 ⟨some 72, .pure .move, [.t 1], some (68, false)⟩,
 ⟨some 73, .pure .move, [.t 7], some (68, false)⟩,
 ⟨some 74, .pure (.bin .add), [.t 72, .t 73], some (68, false)⟩,
 ⟨some 75, .pure (.sliceS true true), [.t 70, .t 71, .t 74], some (68, false)⟩,
 ⟨some 76, .pure (.bin .neq), [.t 69, .t 75], some (68, false)⟩,
 ⟨some 77, .pure .pick, [.t 68, .c (.bool true), .t 76], none⟩])
 (.cond (.t 77)
 (.seq (.ops [⟨some 4, .pure .move, [.c (.int .i64 0)], none⟩,
 ⟨some 5, .pure .move, [.c (.int .i64 0)], none⟩])
 .ret)
 .skip))
 (.seq (.ops [⟨some 78, .pure .move, [.t 8], none⟩,
 ⟨some 79, .pure .move, [.t 7], none⟩,
 ⟨some 4, .pure .move, [.t 78], none⟩,
 ⟨some 5, .pure .move, [.t 79], none⟩])
 .ret)))))))))) }
/-- datakit/value.Field -/
def ac61 : AFn :=
 { nt := 29, res := [.cell 4 (some 13), .tmp 5], body :=
 (.seq (.ops [⟨some 2, .new (.box 13), [.t 0], none⟩,
 ⟨some 4, .new (.new 13 [.agg [.int .i64 0, .bool false, .bool false, .str [], .int .i64 0, .int .i64 0, .int .i64 0, .int .i64 0, .int .i64 0, .str [], .snil 1, .snil 13, .snil 14]]), [], none⟩,
 ⟨some 5, .pure .move, [.c (.bool false)], none⟩])
 (.seq (.seq (.ops [⟨some 8, .pure (.faddr 12), [.t 2], none⟩,
 ⟨some 9, .read (.load none), [.t 8], none⟩,
 ⟨some 10, .pure .lenL, [.t 9], none⟩,
 ⟨some 11, .pure .move, [.c (.int .i64 0)], none⟩])
 (.block 0
 (.loop [1, 2, 4, 9, 10, 11]
 (.seq (.ops [⟨some 12, .pure (.bin .lss), [.t 11, .t 10], none⟩])
 (.seq (.cond (.t 12)
 .skip
 (.exit 0))
 (.seq (.block 1
 (.seq (.ops [⟨some 13, .pure (.iaddrS 14), [.t 9, .t 11], none⟩,
 ⟨some 14, .read (.load (some 14)), [.t 13], none⟩,
 ⟨some 7, .new (.new 14 [.agg [.str [], .int .i64 0, .bool false, .bool false, .str [], .int .i64 0, .int .i64 0, .int .i64 0, .int .i64 0, .int .i64 0, .str [], .snil 1, .snil 13, .snil 14]]), [], none⟩,
 ⟨none, .eff (.store 14), [.t 7, .t 14], none⟩])
 (.seq (.ops [⟨some 15, .pure (.faddr 0), [.t 2], none⟩,
 ⟨some 16, .read (.load none), [.t 15], none⟩,
 ⟨some 17, .pure (.bin .eql), [.t 16, .c (.int .i64 7)], none⟩,
 ⟨some 18, .pure .move, [.t 17], none⟩,
 ⟨some 19, .pure (.faddr 0), [.t 7], some (18, true)⟩,
 ⟨some 20, .read (.load none), [.t 19], some (18, true)⟩,
 ⟨some 21, .pure .move, [.t 1], some (18, true)⟩,
 ⟨some 22, .pure (.bin .eql), [.t 20, .t 21], some (18, true)⟩,
 ⟨some 23, .pure .pick, [.t 18, .t 22, .c (.bool false)], none⟩])
 (.cond (.t 23)
 (.seq (.ops [⟨some 24, .pure (.faddr 1), [.t 7], none⟩,
 ⟨some 25, .read (.load (some 13)), [.t 24], none⟩,
 ⟨some 26, .pcall 45, [.t 25, .c (.int .i64 65536)], none⟩,
 ⟨none, .eff (.store 13), [.t 4, .t 26], none⟩,
 ⟨some 5, .pure .move, [.c (.bool true)], none⟩])
 .ret)
 .skip))))
 (.ops [⟨some 27, .pure (.bin .add), [.t 11, .c (.int .i64 1)], none⟩,
 ⟨some 11, .pure .move, [.t 27], none⟩])))))))
 (.seq (.ops [⟨some 28, .pure (.build [.int .i64 0, .bool false, .bool false, .str [], .int .i64 0, .int .i64 0, .int .i64 0, .int .i64 0, .int .i64 0, .str [], .snil 1, .snil 13, .snil 14] []), [], none⟩,
 ⟨none, .eff (.store 13), [.t 4, .t 28], none⟩,
 ⟨some 5, .pure .move, [.c (.bool false)], none⟩])
 .ret))) }
/-- datakit/utf.Len -/
def ac63 : AFn :=
 { nt := 26, res := [.tmp 2, .tmp 3], body :=
 (.seq (.ops [⟨some 2, .pure .move, [.c (.int .i64 0)], none⟩,
 ⟨some 3, .pure .move, [.c (.int .i64 0)], none⟩])
 (.seq (.ops [⟨some 4, .pure .move, [.c (.int .i64 0)], none⟩])
 (.seq (.seq (.ops [⟨some 5, .pure .move, [.c (.int .i64 0)], none⟩])
 (.block 0
 (.loop [0, 4, 5]
 (.seq (.seq (.ops [⟨some 8, .pure .move, [.t 5], none⟩,
 ⟨some 9, .pure .move, [.t 0], none⟩,
 ⟨some 10, .pure .lenS, [.t 9], none⟩,
 ⟨some 11, .pure (.bin .lss), [.t 8, .t 10], none⟩])
 (.cond (.t 11)
 .skip
 (.exit 0)))
 (.seq (.block 1
 (.seq (.ops [⟨some 15, .pure .move, [.t 0], none⟩,
 ⟨some 16, .pure .move, [.t 5], none⟩,
 ⟨some 17, .pcall 84, [.t 15, .t 16], none⟩,
 ⟨some 14, .pure .move, [.t 17], none⟩,
 ⟨some 18, .pure (.ext 0), [.t 14], none⟩,
 ⟨some 19, .pure (.ext 1), [.t 14], none⟩,
 ⟨some 6, .pure .move, [.t 18], none⟩,
 ⟨some 7, .pure .move, [.t 19], none⟩])
 (.seq (.seq (.ops [⟨some 20, .pure .move, [.t 7], none⟩,
 ⟨some 21, .pure (.bin .eql), [.t 20, .c (.int .i64 0)], none⟩])
 (.cond (.t 21)
 (.seq (.ops [⟨some 2, .pure .move, [.c (.int .i64 0)], none⟩,
 ⟨some 3, .pure .move, [.c (.int .i64 5)], none⟩])
 .ret)
 .skip))
 (.ops [⟨some 22, .pure .move, [.t 5], none⟩,
 ⟨some 23, .pure .move, [.t 7], none⟩,
 ⟨some 24, .pure (.bin .add), [.t 22, .t 23], none⟩,
 ⟨some 5, .pure .move, [.t 24], none⟩]))))
 (.ops [⟨some 12, .pure .move, [.t 4], none⟩,
 ⟨some 13, .pure (.bin .add), [.t 12, .c (.int .i64 1)], none⟩,
 ⟨some 4, .pure .move, [.t 13], none⟩]))))))
 (.seq (.ops [⟨some 25, .pure .move, [.t 4], none⟩,
 ⟨some 2, .pure .move, [.t 25], none⟩,
 ⟨some 3, .pure .move, [.c (.int .i64 0)], none⟩])
 .ret)))) }
/-- cmp.isNaN[int] -/
def ac74 : AFn :=
 { nt := 6, res := [.tmp 2], body :=
 (.seq (.ops [⟨some 2, .pure .move, [.c (.bool false)], none⟩])
 (.seq (.ops [⟨some 3, .pure .move, [.t 0], none⟩,
 ⟨some 4, .pure .move, [.t 0], none⟩,
 ⟨some 5, .pure (.bin .neq), [.t 3, .t 4], none⟩,
 ⟨some 2, .pure .move, [.t 5], none⟩])
 .ret)) }
/-- cmp.isNaN[string] -/
def ac75 : AFn :=
 { nt := 6, res := [.tmp 2], body :=
 (.seq (.ops [⟨some 2, .pure .move, [.c (.bool false)], none⟩])
 (.seq (.ops [⟨some 3, .pure .move, [.t 0], none⟩,
 ⟨some 4, .pure .move, [.t 0], none⟩,
 ⟨some 5, .pure (.bin .neq), [.t 3, .t 4], none⟩,
 ⟨some 2, .pure .move, [.t 5], none⟩])
 .ret)) }
/-- datakit/access.fits -/
def ac76 : AFn :=
 { nt := 13, res := [.tmp 4], body :=
 (.seq (.ops [⟨some 2, .new (.box 13), [.t 0], none⟩,
 ⟨some 3, .new (.box 3), [.t 1], none⟩,
 ⟨some 4, .pure .move, [.c (.bool false)], none⟩])
 (.seq (.seq (.ops [⟨some 5, .pure (.faddr 0), [.t 3], none⟩,
 ⟨some 6, .read (.load none), [.t 5], none⟩])
 (.cond (.t 6)
 (.seq (.ops [⟨some 7, .pure (.faddr 0), [.t 2], none⟩,
 ⟨some 8, .read (.load none), [.t 7], none⟩,
 ⟨some 9, .pure (.bin .eql), [.t 8, .c (.int .i64 6)], none⟩,
 ⟨some 4, .pure .move, [.t 9], none⟩])
 .ret)
 .skip))
 (.seq (.ops [⟨some 10, .pure (.faddr 0), [.t 2], none⟩,
 ⟨some 11, .read (.load none), [.t 10], none⟩,
 ⟨some 12, .pure (.bin .eql), [.t 11, .c (.int .i64 7)], none⟩,
 ⟨some 4, .pure .move, [.t 12], none⟩])
 .ret))) }
/-- datakit/access.index -/
def ac77 : AFn :=
 { nt := 21, res := [.tmp 4], body :=
 (.seq (.ops [⟨some 2, .new (.box 13), [.t 0], none⟩,
 ⟨some 4, .pure .move, [.c (.int .i64 0)], none⟩])
 (.seq (.seq (.ops [⟨some 7, .pure (.faddr 12), [.t 2], none⟩,
 ⟨some 8, .read (.load none), [.t 7], none⟩,
 ⟨some 9, .pure .lenL, [.t 8], none⟩,
 ⟨some 10, .pure .move, [.c (.int .i64 0)], none⟩])
 (.block 0
 (.loop [1, 8, 9, 10]
 (.seq (.ops [⟨some 11, .pure (.bin .lss), [.t 10, .t 9], none⟩])
 (.seq (.cond (.t 11)
 .skip
 (.exit 0))
 (.seq (.block 1
 (.seq (.ops [⟨some 12, .pure .move, [.t 10], none⟩,
 ⟨some 13, .pure (.iaddrS 14), [.t 8, .t 10], none⟩,
 ⟨some 14, .read (.load (some 14)), [.t 13], none⟩,
 ⟨some 6, .new (.new 14 [.agg [.str [], .int .i64 0, .bool false, .bool false, .str [], .int .i64 0, .int .i64 0, .int .i64 0, .int .i64 0, .int .i64 0, .str [], .snil 1, .snil 13, .snil 14]]), [], none⟩,
 ⟨some 5, .pure .move, [.t 12], none⟩,
 ⟨none, .eff (.store 14), [.t 6, .t 14], none⟩])
 (.seq (.ops [⟨some 15, .pure (.faddr 0), [.t 6], none⟩,
 ⟨some 16, .read (.load none), [.t 15], none⟩,
 ⟨some 17, .pure .move, [.t 1], none⟩,
 ⟨some 18, .pure (.bin .eql), [.t 16, .t 17], none⟩])
 (.cond (.t 18)
 (.seq (.ops [⟨some 19, .pure .move, [.t 5], none⟩,
 ⟨some 4, .pure .move, [.t 19], none⟩])
 .ret)
 .skip))))
 (.ops [⟨some 20, .pure (.bin .add), [.t 10, .c (.int .i64 1)], none⟩,
 ⟨some 10, .pure .move, [.t 20], none⟩])))))))
 (.seq (.ops [⟨some 4, .pure .move, [.c (.int .i64 (-1))], none⟩])
 .ret))) }
/-- datakit/datakitref07.own -/
def ac78 : AFn :=
 { nt := 77, res := [.tmp 2], body :=
 (.seq (.ops [⟨some 1, .new (.box 13), [.t 0], none⟩,
 ⟨some 2, .pure .move, [.c (.bool false)], none⟩])
 (.seq (.ops [⟨some 4, .pure (.faddr 0), [.t 1], none⟩,
 ⟨some 5, .read (.load none), [.t 4], none⟩,
 ⟨some 3, .pure .move, [.t 5], none⟩])
 (.seq (.seq (.ops [⟨some 6, .pure .move, [.t 3], none⟩,
 ⟨some 7, .pure (.bin .lss), [.t 6, .c (.int .i64 0)], none⟩,
 ⟨some 8, .pure .move, [.t 7], none⟩,
 ⟨some 9, .pure .move, [.t 3], some (8, false)⟩,
 ⟨some 10, .pure (.bin .gtr), [.t 9, .c (.int .i64 7)], some (8, false)⟩,
 ⟨some 11, .pure .pick, [.t 8, .c (.bool true), .t 10], none⟩,
 ⟨some 12, .pure .move, [.t 11], none⟩,
 ⟨some 13, .pure .move, [.t 3], some (12, false)⟩,
 ⟨some 14, .pure (.bin .neq), [.t 13, .c (.int .i64 1)], some (12, false)⟩,
 ⟨some 15, .pure .move, [.t 14], some (12, false)⟩,
 ⟨some 16, .pure (.faddr 1), [.t 1], some (15, true)⟩,
 ⟨some 17, .read (.load none), [.t 16], some (15, true)⟩,
 ⟨some 18, .pure .pick, [.t 15, .t 17, .c (.bool false)], some (12, false)⟩,
 ⟨some 19, .pure .pick, [.t 12, .c (.bool true), .t 18], none⟩,
 ⟨some 20, .pure .move, [.t 19], none⟩,
 ⟨some 21, .pure .move, [.t 3], some (20, false)⟩,
 ⟨some 22, .pure (.bin .neq), [.t 21, .c (.int .i64 2)], some (20, false)⟩,
 ⟨some 23, .pure .move, [.t 22], some (20, false)⟩,
 ⟨some 24, .pure (.faddr 2), [.t 1], some (23, true)⟩,
 ⟨some 25, .read (.load (some 3)), [.t 24], some (23, true)⟩,
 ⟨some 26, .pure (.build [.bool false, .str [], .int .i64 0] []), [], some (23, true)⟩,
 ⟨some 27, .pure (.eqF [.bool, .str, .int] true), [.t 25, .t 26], some (23, true)⟩,
 ⟨some 28, .pure .pick, [.t 23, .t 27, .c (.bool false)], some (20, false)⟩,
 ⟨some 29, .pure .pick, [.t 20, .c (.bool true), .t 28], none⟩,
 ⟨some 30, .pure .move, [.t 29], none⟩,
 ⟨some 31, .pure .move, [.t 3], some (30, false)⟩,
 ⟨some 32, .pure (.bin .neq), [.t 31, .c (.int .i64 3)], some (30, false)⟩,
 ⟨some 33, .pure .move, [.t 32], some (30, false)⟩,
 ⟨some 34, .pure (.faddr 5), [.t 1], some (33, true)⟩,
 ⟨some 35, .read (.load (some 4)), [.t 34], some (33, true)⟩,
 ⟨some 36, .pure (.build [.int .i64 0, .int .i64 0, .int .i64 0, .int .i64 0] []), [], some (33, true)⟩,
 ⟨some 37, .pure (.eqF [.int, .int, .int, .int] true), [.t 35, .t 36], some (33, true)⟩,
 ⟨some 38, .pure .pick, [.t 33, .t 37, .c (.bool false)], some (30, false)⟩,
 ⟨some 39, .pure .pick, [.t 30, .c (.bool true), .t 38], none⟩])
 (.cond (.t 39)
 (.seq (.ops [⟨some 2, .pure .move, [.c (.bool false)], none⟩])
 .ret)
 .skip))
 (.seq (.ops [⟨some 40, .pure .move, [.t 3], none⟩,
 ⟨some 41, .pure (.bin .eql), [.t 40, .c (.int .i64 4)], none⟩,
 ⟨some 42, .pure .move, [.t 41], none⟩,
 ⟨some 43, .pure (.faddr 9), [.t 1], some (42, false)⟩,
 ⟨some 44, .read (.load none), [.t 43], some (42, false)⟩,
 ⟨some 45, .pure (.bin .eql), [.t 44, .c (.str [])], some (42, false)⟩,
 ⟨some 46, .pure .pick, [.t 42, .c (.bool true), .t 45], none⟩,
 ⟨some 47, .pure .move, [.t 46], none⟩,
 ⟨some 48, .pure .move, [.t 3], some (47, true)⟩,
 ⟨some 49, .pure (.bin .eql), [.t 48, .c (.int .i64 5)], some (47, true)⟩,
 ⟨some 50, .pure .move, [.t 49], some (47, true)⟩,
 ⟨some 51, .pure (.faddr 10), [.t 1], some (50, false)⟩,
 ⟨some 52, .read (.load none), [.t 51], some (50, false)⟩,
 ⟨some 53, .pure .lenL, [.t 52], some (50, false)⟩,
 ⟨some 54, .pure (.bin .eql), [.t 53, .c (.int .i64 0)], some (50, false)⟩,
 ⟨some 55, .pure .pick, [.t 50, .c (.bool true), .t 54], some (47, true)⟩,
 ⟨some 56, .pure .pick, [.t 47, .t 55, .c (.bool false)], none⟩,
 ⟨some 57, .pure .move, [.t 56], none⟩,
 ⟨some 58, .pure .move, [.t 3], some (57, true)⟩,
 ⟨some 59, .pure (.bin .eql), [.t 58, .c (.int .i64 6)], some (57, true)⟩,
 ⟨some 60, .pure .move, [.t 59], some (57, true)⟩,
 ⟨some 61, .pure (.faddr 11), [.t 1], some (60, false)⟩,
 ⟨some 62, .read (.load none), [.t 61], some (60, false)⟩,
 ⟨some 63, .pure .lenL, [.t 62], some (60, false)⟩,
 ⟨some 64, .pure (.bin .eql), [.t 63, .c (.int .i64 0)], some (60, false)⟩,
 ⟨some 65, .pure .pick, [.t 60, .c (.bool true), .t 64], some (57, true)⟩,
 ⟨some 66, .pure .pick, [.t 57, .t 65, .c (.bool false)], none⟩,
 ⟨some 67, .pure .move, [.t 66], none⟩,
 ⟨some 68, .pure .move, [.t 3], some (67, true)⟩,
 ⟨some 69, .pure (.bin .eql), [.t 68, .c (.int .i64 7)], some (67, true)⟩,
 ⟨some 70, .pure .move, [.t 69], some (67, true)⟩,
 ⟨some 71, .pure (.faddr 12), [.t 1], some (70, false)⟩,
 ⟨some 72, .read (.load none), [.t 71], some (70, false)⟩,
 ⟨some 73, .pure .lenL, [.t 72], some (70, false)⟩,
 ⟨some 74, .pure (.bin .eql), [.t 73, .c (.int .i64 0)], some (70, false)⟩,
 ⟨some 75, .pure .pick, [.t 70, .c (.bool true), .t 74], some (67, true)⟩,
 ⟨some 76, .pure .pick, [.t 67, .t 75, .c (.bool false)], none⟩,
 ⟨some 2, .pure .move, [.t 76], none⟩])
 .ret)))) }
/-- datakit/datakitref02.Valid -/
def ac79 : AFn :=
 { nt := 39, res := [.tmp 2], body :=
 (.seq (.ops [⟨some 1, .new (.box 3), [.t 0], none⟩,
 ⟨some 2, .pure .move, [.c (.bool false)], none⟩])
 (.seq (.seq (.ops [⟨some 3, .pure (.faddr 1), [.t 1], none⟩,
 ⟨some 4, .read (.load none), [.t 3], none⟩,
 ⟨some 5, .pure (.bin .eql), [.t 4, .c (.str [])], none⟩])
 (.cond (.t 5)
 (.seq (.ops [⟨some 6, .pure (.faddr 0), [.t 1], none⟩,
 ⟨some 7, .read (.load none), [.t 6], none⟩,
 ⟨some 8, .pure (.un .not), [.t 7], none⟩,
 ⟨some 9, .pure .move, [.t 8], none⟩,
 ⟨some 10, .pure (.faddr 2), [.t 1], some (9, true)⟩,
 ⟨some 11, .read (.load none), [.t 10], some (9, true)⟩,
 ⟨some 12, .pure (.bin .eql), [.t 11, .c (.int .i64 0)], some (9, true)⟩,
 ⟨some 13, .pure .pick, [.t 9, .t 12, .c (.bool false)], none⟩,
 ⟨some 2, .pure .move, [.t 13], none⟩])
 .ret)
 .skip))
 (.seq (.ops [⟨some 14, .pure (.faddr 1), [.t 1], none⟩,
 ⟨some 15, .read (.load none), [.t 14], none⟩,
 ⟨some 16, .pure .lenS, [.t 15], none⟩,
 ⟨some 17, .pure (.bin .leq), [.t 16, .c (.int .i64 120)], none⟩,
 ⟨some 18, .pure .move, [.t 17], none⟩,
 ⟨some 19, .pure (.faddr 1), [.t 1], some (18, true)⟩,
 ⟨some 20, .read (.load none), [.t 19], some (18, true)⟩,
 ⟨some 21, .pcall 59, [.t 20], some (18, true)⟩,
 ⟨some 22, .pure .pick, [.t 18, .t 21, .c (.bool false)], none⟩,
 ⟨some 23, .pure .move, [.t 22], none⟩,
 ⟨some 24, .pure (.faddr 1), [.t 1], some (23, true)⟩,
 ⟨some 25, .read (.load none), [.t 24], some (23, true)⟩,
 ⟨some 26, .pcall 90, [.t 25], some (23, true)⟩,
 ⟨some 27, .pure (.bin .eql), [.t 26, .c (.int .i64 0)], some (23, true)⟩,
 ⟨some 28, .pure .pick, [.t 23, .t 27, .c (.bool false)], none⟩,
 ⟨some 29, .pure .move, [.t 28], none⟩,
 ⟨some 30, .pure (.faddr 2), [.t 1], some (29, true)⟩,
 ⟨some 31, .read (.load none), [.t 30], some (29, true)⟩,
 ⟨some 32, .pure (.bin .geq), [.t 31, .c (.int .i64 (-400))], some (29, true)⟩,
 ⟨some 33, .pure .pick, [.t 29, .t 32, .c (.bool false)], none⟩,
 ⟨some 34, .pure .move, [.t 33], none⟩,
 ⟨some 35, .pure (.faddr 2), [.t 1], some (34, true)⟩,
 ⟨some 36, .read (.load none), [.t 35], some (34, true)⟩,
 ⟨some 37, .pure (.bin .leq), [.t 36, .c (.int .i64 400)], some (34, true)⟩,
 ⟨some 38, .pure .pick, [.t 34, .t 37, .c (.bool false)], none⟩,
 ⟨some 2, .pure .move, [.t 38], none⟩])
 .ret))) }
/-- datakit/datakitref05.Valid -/
def ac80 : AFn :=
 { nt := 69, res := [.tmp 2], body :=
 (.seq (.ops [⟨some 1, .new (.box 4), [.t 0], none⟩,
 ⟨some 2, .pure .move, [.c (.bool false)], none⟩])
 (.seq (.seq (.ops [⟨some 3, .pure (.faddr 0), [.t 1], none⟩,
 ⟨some 4, .read (.load none), [.t 3], none⟩,
 ⟨some 5, .pure (.bin .lss), [.t 4, .c (.int .i64 1)], none⟩,
 ⟨some 6, .pure .move, [.t 5], none⟩,
 ⟨some 7, .pure (.faddr 0), [.t 1], some (6, false)⟩,
 ⟨some 8, .read (.load none), [.t 7], some (6, false)⟩,
 ⟨some 9, .pure (.bin .gtr), [.t 8, .c (.int .i64 4)], some (6, false)⟩,
 ⟨some 10, .pure .pick, [.t 6, .c (.bool true), .t 9], none⟩,
 ⟨some 11, .pure .move, [.t 10], none⟩,
 ⟨some 12, .pure (.faddr 1), [.t 1], some (11, false)⟩,
 ⟨some 13, .read (.load none), [.t 12], some (11, false)⟩,
 ⟨some 14, .pure (.bin .lss), [.t 13, .c (.int .i64 0)], some (11, false)⟩,
 ⟨some 15, .pure .pick, [.t 11, .c (.bool true), .t 14], none⟩,
 ⟨some 16, .pure .move, [.t 15], none⟩,
 ⟨some 17, .pure (.faddr 1), [.t 1], some (16, false)⟩,
 ⟨some 18, .read (.load none), [.t 17], some (16, false)⟩,
 ⟨some 19, .pure (.bin .gtr), [.t 18, .c (.int .i64 3652058)], some (16, false)⟩,
 ⟨some 20, .pure .pick, [.t 16, .c (.bool true), .t 19], none⟩,
 ⟨some 21, .pure .move, [.t 20], none⟩,
 ⟨some 22, .pure (.faddr 2), [.t 1], some (21, false)⟩,
 ⟨some 23, .read (.load none), [.t 22], some (21, false)⟩,
 ⟨some 24, .pure (.bin .lss), [.t 23, .c (.int .i64 0)], some (21, false)⟩,
 ⟨some 25, .pure .pick, [.t 21, .c (.bool true), .t 24], none⟩,
 ⟨some 26, .pure .move, [.t 25], none⟩,
 ⟨some 27, .pure (.faddr 2), [.t 1], some (26, false)⟩,
 ⟨some 28, .read (.load none), [.t 27], some (26, false)⟩,
 ⟨some 29, .pure (.bin .gtr), [.t 28, .c (.int .i64 86399999999999)], some (26, false)⟩,
 ⟨some 30, .pure .pick, [.t 26, .c (.bool true), .t 29], none⟩,
 ⟨some 31, .pure .move, [.t 30], none⟩,
 ⟨some 32, .pure (.faddr 3), [.t 1], some (31, false)⟩,
 ⟨some 33, .read (.load none), [.t 32], some (31, false)⟩,
 ⟨some 34, .pure (.bin .lss), [.t 33, .c (.int .i64 (-1439))], some (31, false)⟩,
 ⟨some 35, .pure .pick, [.t 31, .c (.bool true), .t 34], none⟩,
 ⟨some 36, .pure .move, [.t 35], none⟩,
 ⟨some 37, .pure (.faddr 3), [.t 1], some (36, false)⟩,
 ⟨some 38, .read (.load none), [.t 37], some (36, false)⟩,
 ⟨some 39, .pure (.bin .gtr), [.t 38, .c (.int .i64 1439)], some (36, false)⟩,
 ⟨some 40, .pure .pick, [.t 36, .c (.bool true), .t 39], none⟩])
 (.cond (.t 40)
 (.seq (.ops [⟨some 2, .pure .move, [.c (.bool false)], none⟩])
 .ret)
 .skip))
 (.seq (.ops [⟨some 41, .pure (.faddr 0), [.t 1], none⟩,
 ⟨some 42, .read (.load none), [.t 41], none⟩,
 ⟨some 43, .pcall 91, [.t 42], none⟩,
 ⟨some 44, .pure .move, [.t 43], none⟩,
 ⟨some 45, .pure (.faddr 1), [.t 1], some (44, false)⟩,
 ⟨some 46, .read (.load none), [.t 45], some (44, false)⟩,
 ⟨some 47, .pure (.bin .eql), [.t 46, .c (.int .i64 0)], some (44, false)⟩,
 ⟨some 48, .pure .pick, [.t 44, .c (.bool true), .t 47], none⟩,
 ⟨some 49, .pure .move, [.t 48], none⟩,
 ⟨some 50, .pure (.faddr 0), [.t 1], some (49, true)⟩,
 ⟨some 51, .read (.load none), [.t 50], some (49, true)⟩,
 ⟨some 52, .pcall 92, [.t 51], some (49, true)⟩,
 ⟨some 53, .pure .move, [.t 52], some (49, true)⟩,
 ⟨some 54, .pure (.faddr 2), [.t 1], some (53, false)⟩,
 ⟨some 55, .read (.load none), [.t 54], some (53, false)⟩,
 ⟨some 56, .pure (.bin .eql), [.t 55, .c (.int .i64 0)], some (53, false)⟩,
 ⟨some 57, .pure .pick, [.t 53, .c (.bool true), .t 56], some (49, true)⟩,
 ⟨some 58, .pure .pick, [.t 49, .t 57, .c (.bool false)], none⟩,
 ⟨some 59, .pure .move, [.t 58], none⟩,
 ⟨some 60, .pure (.faddr 0), [.t 1], some (59, true)⟩,
 ⟨some 61, .read (.load none), [.t 60], some (59, true)⟩,
 ⟨some 62, .pure (.bin .eql), [.t 61, .c (.int .i64 4)], some (59, true)⟩,
 ⟨some 63, .pure .move, [.t 62], some (59, true)⟩,
 ⟨some 64, .pure (.faddr 3), [.t 1], some (63, false)⟩,
 ⟨some 65, .read (.load none), [.t 64], some (63, false)⟩,
 ⟨some 66, .pure (.bin .eql), [.t 65, .c (.int .i64 0)], some (63, false)⟩,
 ⟨some 67, .pure .pick, [.t 63, .c (.bool true), .t 66], some (59, true)⟩,
 ⟨some 68, .pure .pick, [.t 59, .t 67, .c (.bool false)], none⟩,
 ⟨some 2, .pure .move, [.t 68], none⟩])
 .ret))) }
/-- datakit/datakitref07.Keys -/
def ac81 : AFn :=
 { nt := 41, res := [.tmp 2], body :=
 (.seq (.ops [⟨some 2, .pure .move, [.c (.int .i64 0)], none⟩])
 (.seq (.seq (.ops [⟨some 3, .pure .move, [.c (.int .i64 0)], none⟩])
 (.block 0
 (.loop [0, 3]
 (.seq (.seq (.ops [⟨some 5, .pure .move, [.t 3], none⟩,
 ⟨some 6, .pure .move, [.t 0], none⟩,
 ⟨some 7, .pure .lenL, [.t 6], none⟩,
 ⟨some 8, .pure (.bin .lss), [.t 5, .t 7], none⟩])
 (.cond (.t 8)
 .skip
 (.exit 0)))
 (.seq (.block 1
 (.seq (.seq (.ops [⟨some 11, .pure .move, [.t 0], none⟩,
 ⟨some 12, .pure .move, [.t 3], none⟩,
 ⟨some 13, .pure (.iaddrS 14), [.t 11, .t 12], none⟩,
 ⟨some 14, .pure (.faddr 0), [.t 13], none⟩,
 ⟨some 15, .read (.load none), [.t 14], none⟩,
 ⟨some 16, .pcall 24, [.t 15], none⟩,
 ⟨some 17, .pure (.un .not), [.t 16], none⟩])
 (.cond (.t 17)
 (.seq (.ops [⟨some 2, .pure .move, [.c (.int .i64 5)], none⟩])
 .ret)
 .skip))
 (.seq (.seq (.ops [⟨some 18, .pure .move, [.t 0], none⟩,
 ⟨some 19, .pure .move, [.t 3], none⟩,
 ⟨some 20, .pure (.iaddrS 14), [.t 18, .t 19], none⟩,
 ⟨some 21, .pure (.faddr 0), [.t 20], none⟩,
 ⟨some 22, .read (.load none), [.t 21], none⟩,
 ⟨some 23, .pure .lenS, [.t 22], none⟩,
 ⟨some 24, .pure (.bin .gtr), [.t 23, .c (.int .i64 1024)], none⟩])
 (.cond (.t 24)
 (.seq (.ops [⟨some 2, .pure .move, [.c (.int .i64 10)], none⟩])
 .ret)
 .skip))
 (.seq (.ops [⟨some 4, .pure .move, [.c (.int .i64 0)], none⟩])
 (.block 2
 (.loop [0, 3, 4]
 (.seq (.seq (.ops [⟨some 25, .pure .move, [.t 4], none⟩,
 ⟨some 26, .pure .move, [.t 3], none⟩,
 ⟨some 27, .pure (.bin .lss), [.t 25, .t 26], none⟩])
 (.cond (.t 27)
 .skip
 (.exit 2)))
 (.seq (.block 3
 (.seq (.ops [⟨some 30, .pure .move, [.t 0], none⟩,
 ⟨some 31, .pure .move, [.t 4], none⟩,
 ⟨some 32, .pure (.iaddrS 14), [.t 30, .t 31], none⟩,
 ⟨some 33, .pure (.faddr 0), [.t 32], none⟩,
 ⟨some 34, .read (.load none), [.t 33], none⟩,
 ⟨some 35, .pure .move, [.t 0], none⟩,
 ⟨some 36, .pure .move, [.t 3], none⟩,
 ⟨some 37, .pure (.iaddrS 14), [.t 35, .t 36], none⟩,
 ⟨some 38, .pure (.faddr 0), [.t 37], none⟩,
 ⟨some 39, .read (.load none), [.t 38], none⟩,
 ⟨some 40, .pure (.bin .eql), [.t 34, .t 39], none⟩])
 (.cond (.t 40)
 (.seq (.ops [⟨some 2, .pure .move, [.c (.int .i64 8)], none⟩])
 .ret)
 .skip)))
 (.ops [⟨some 28, .pure .move, [.t 4], none⟩,
 ⟨some 29, .pure (.bin .add), [.t 28, .c (.int .i64 1)], none⟩,
 ⟨some 4, .pure .move, [.t 29], none⟩])))))))))
 (.ops [⟨some 9, .pure .move, [.t 3], none⟩,
 ⟨some 10, .pure (.bin .add), [.t 9, .c (.int .i64 1)], none⟩,
 ⟨some 3, .pure .move, [.t 10], none⟩]))))))
 (.seq (.ops [⟨some 2, .pure .move, [.c (.int .i64 0)], none⟩])
 .ret))) }
/-- datakit/datakitref01.Digits -/
def ac82 : AFn :=
 { nt := 20, res := [.tmp 2], body :=
 (.seq (.ops [⟨some 2, .pure .move, [.c (.bool false)], none⟩])
 (.seq (.seq (.ops [⟨some 3, .pure .move, [.c (.int .i64 0)], none⟩])
 (.block 0
 (.loop [0, 3]
 (.seq (.seq (.ops [⟨some 4, .pure .move, [.t 3], none⟩,
 ⟨some 5, .pure .move, [.t 0], none⟩,
 ⟨some 6, .pure .lenS, [.t 5], none⟩,
 ⟨some 7, .pure (.bin .lss), [.t 4, .t 6], none⟩])
 (.cond (.t 7)
 .skip
 (.exit 0)))
 (.seq (.block 1
 (.seq (.ops [⟨some 10, .pure .move, [.t 0], none⟩,
 ⟨some 11, .pure .move, [.t 3], none⟩,
 ⟨some 12, .pure .idxStr, [.t 10, .t 11], none⟩,
 ⟨some 13, .pure (.bin .lss), [.t 12, .c (.int .u8 48)], none⟩,
 ⟨some 14, .pure .move, [.t 13], none⟩,
 ⟨some 15, .pure .move, [.t 0], some (14, false)⟩,
 ⟨some 16, .pure .move, [.t 3], some (14, false)⟩,
 ⟨some 17, .pure .idxStr, [.t 15, .t 16], some (14, false)⟩,
 ⟨some 18, .pure (.bin .gtr), [.t 17, .c (.int .u8 57)], some (14, false)⟩,
 ⟨some 19, .pure .pick, [.t 14, .c (.bool true), .t 18], none⟩])
 (.cond (.t 19)
 (.seq (.ops [⟨some 2, .pure .move, [.c (.bool false)], none⟩])
 .ret)
 .skip)))
 (.ops [⟨some 8, .pure .move, [.t 3], none⟩,
 ⟨some 9, .pure (.bin .add), [.t 8, .c (.int .i64 1)], none⟩,
 ⟨some 3, .pure .move, [.t 9], none⟩]))))))
 (.seq (.ops [⟨some 2, .pure .move, [.c (.bool true)], none⟩])
 .ret))) }
/-- datakit/datakitref03.Encode -/
def ac83 : AFn :=
 { nt := 66, res := [.tmp 2, .tmp 3], body :=
 (.seq (.ops [⟨some 2, .pure .move, [.c (.str [])], none⟩,
 ⟨some 3, .pure .move, [.c (.int .i64 0)], none⟩])
 (.seq (.block 0
 (.seq (.ops [⟨some 5, .pure .move, [.t 0], none⟩,
 ⟨some 6, .pcall 93, [.t 5], none⟩,
 ⟨some 7, .pure (.un .not), [.t 6], none⟩,
 ⟨some 4, .pure .move, [.t 7], none⟩])
 (.cond (.t 4)
 (.seq (.ops [⟨some 2, .pure .move, [.c (.str [])], none⟩,
 ⟨some 3, .pure .move, [.c (.int .i64 2)], none⟩])
 .ret)
 (.seq (.ops [⟨some 9, .pure .move, [.t 0], none⟩,
 ⟨some 10, .pure (.bin .lss), [.t 9, .c (.int .i64 128)], none⟩,
 ⟨some 8, .pure .move, [.t 10], none⟩])
 (.cond (.t 8)
 (.seq (.ops [⟨some 11, .pure .move, [.t 0], none⟩,
 ⟨some 12, .pure (.conv .u8), [.t 11], none⟩,
 ⟨some 13, .new (.buildSlice 1 [.int .u8 0] [0]), [.t 12], none⟩,
 ⟨some 14, .read .bytesStr, [.t 13], none⟩,
 ⟨some 2, .pure .move, [.t 14], none⟩,
 ⟨some 3, .pure .move, [.c (.int .i64 0)], none⟩])
 .ret)
 (.seq (.ops [⟨some 16, .pure .move, [.t 0], none⟩,
 ⟨some 17, .pure (.bin .lss), [.t 16, .c (.int .i64 2048)], none⟩,
 ⟨some 15, .pure .move, [.t 17], none⟩])
 (.cond (.t 15)
 (.seq (.ops [⟨some 18, .pure .move, [.t 0], none⟩,
 ⟨some 19, .pure (.bin .shr), [.t 18, .c (.int .u64 6)], none⟩,
 ⟨some 20, .pure (.bin .or), [.c (.int .i64 192), .t 19], none⟩,
 ⟨some 21, .pure (.conv .u8), [.t 20], none⟩,
 ⟨some 22, .pure .move, [.t 0], none⟩,
 ⟨some 23, .pure (.bin .and), [.t 22, .c (.int .i64 63)], none⟩,
 ⟨some 24, .pure (.bin .or), [.c (.int .i64 128), .t 23], none⟩,
 ⟨some 25, .pure (.conv .u8), [.t 24], none⟩,
 ⟨some 26, .new (.buildSlice 1 [.int .u8 0, .int .u8 0] [0, 1]), [.t 21, .t 25], none⟩,
 ⟨some 27, .read .bytesStr, [.t 26], none⟩,
 ⟨some 2, .pure .move, [.t 27], none⟩,
 ⟨some 3, .pure .move, [.c (.int .i64 0)], none⟩])
 .ret)
 (.seq (.ops [⟨some 29, .pure .move, [.t 0], none⟩,
 ⟨some 30, .pure (.bin .lss), [.t 29, .c (.int .i64 65536)], none⟩,
 ⟨some 28, .pure .move, [.t 30], none⟩])
 (.cond (.t 28)
 (.seq (.ops [⟨some 31, .pure .move, [.t 0], none⟩,
 ⟨some 32, .pure (.bin .shr), [.t 31, .c (.int .u64 12)], none⟩,
 ⟨some 33, .pure (.bin .or), [.c (.int .i64 224), .t 32], none⟩,
 ⟨some 34, .pure (.conv .u8), [.t 33], none⟩,
 ⟨some 35, .pure .move, [.t 0], none⟩,
 ⟨some 36, .pure (.bin .shr), [.t 35, .c (.int .u64 6)], none⟩,
 ⟨some 37, .pure (.bin .and), [.t 36, .c (.int .i64 63)], none⟩,
 ⟨some 38, .pure (.bin .or), [.c (.int .i64 128), .t 37], none⟩,
 ⟨some 39, .pure (.conv .u8), [.t 38], none⟩,
 ⟨some 40, .pure .move, [.t 0], none⟩,
 ⟨some 41, .pure (.bin .and), [.t 40, .c (.int .i64 63)], none⟩,
 ⟨some 42, .pure (.bin .or), [.c (.int .i64 128), .t 41], none⟩,
 ⟨some 43, .pure (.conv .u8), [.t 42], none⟩,
 ⟨some 44, .new (.buildSlice 1 [.int .u8 0, .int .u8 0, .int .u8 0] [0, 1, 2]), [.t 34, .t 39, .t 43], none⟩,
 ⟨some 45, .read .bytesStr, [.t 44], none⟩,
 ⟨some 2, .pure .move, [.t 45], none⟩,
 ⟨some 3, .pure .move, [.c (.int .i64 0)], none⟩])
 .ret)
 .skip)))))))))
 (.seq (.ops [⟨some 46, .pure .move, [.t 0], none⟩,
 ⟨some 47, .pure (.bin .shr), [.t 46, .c (.int .u64 18)], none⟩,
 ⟨some 48, .pure (.bin .or), [.c (.int .i64 240), .t 47], none⟩,
 ⟨some 49, .pure (.conv .u8), [.t 48], none⟩,
 ⟨some 50, .pure .move, [.t 0], none⟩,
 ⟨some 51, .pure (.bin .shr), [.t 50, .c (.int .u64 12)], none⟩,
 ⟨some 52, .pure (.bin .and), [.t 51, .c (.int .i64 63)], none⟩,
 ⟨some 53, .pure (.bin .or), [.c (.int .i64 128), .t 52], none⟩,
 ⟨some 54, .pure (.conv .u8), [.t 53], none⟩,
 ⟨some 55, .pure .move, [.t 0], none⟩,
 ⟨some 56, .pure (.bin .shr), [.t 55, .c (.int .u64 6)], none⟩,
 ⟨some 57, .pure (.bin .and), [.t 56, .c (.int .i64 63)], none⟩,
 ⟨some 58, .pure (.bin .or), [.c (.int .i64 128), .t 57], none⟩,
 ⟨some 59, .pure (.conv .u8), [.t 58], none⟩,
 ⟨some 60, .pure .move, [.t 0], none⟩,
 ⟨some 61, .pure (.bin .and), [.t 60, .c (.int .i64 63)], none⟩,
 ⟨some 62, .pure (.bin .or), [.c (.int .i64 128), .t 61], none⟩,
 ⟨some 63, .pure (.conv .u8), [.t 62], none⟩,
 ⟨some 64, .new (.buildSlice 1 [.int .u8 0, .int .u8 0, .int .u8 0, .int .u8 0] [0, 1, 2, 3]), [.t 49, .t 54, .t 59, .t 63], none⟩,
 ⟨some 65, .read .bytesStr, [.t 64], none⟩,
 ⟨some 2, .pure .move, [.t 65], none⟩,
 ⟨some 3, .pure .move, [.c (.int .i64 0)], none⟩])
 .ret))) }
/-- datakit/utf.Decode -/
def ac84 : AFn :=
 { nt := 64, res := [.tmp 4, .tmp 5], body :=
 (.seq (.ops [⟨some 4, .pure .move, [.c (.int .i64 0)], none⟩,
 ⟨some 5, .pure .move, [.c (.int .i64 0)], none⟩])
 (.seq (.seq (.ops [⟨some 9, .pure .move, [.t 1], none⟩,
 ⟨some 10, .pure (.bin .lss), [.t 9, .c (.int .i64 0)], none⟩,
 ⟨some 11, .pure .move, [.t 10], none⟩,
 ⟨some 12, .pure .move, [.t 1], some (11, false)⟩,
 ⟨some 13, .pure .move, [.t 0], some (11, false)⟩,
 ⟨some 14, .pure .lenS, [.t 13], some (11, false)⟩,
 ⟨some 15, .pure (.bin .geq), [.t 12, .t 14], some (11, false)⟩,
 ⟨some 16, .pure .pick, [.t 11, .c (.bool true), .t 15], none⟩])
 (.cond (.t 16)
 (.seq (.ops [⟨some 4, .pure .move, [.c (.int .i64 0)], none⟩,
 ⟨some 5, .pure .move, [.c (.int .i64 0)], none⟩])
 .ret)
 .skip))
 (.seq (.ops [⟨some 18, .pure .move, [.t 0], none⟩,
 ⟨some 19, .pure .move, [.t 1], none⟩,
 ⟨some 20, .pure .idxStr, [.t 18, .t 19], none⟩,
 ⟨some 21, .pcall 94, [.t 20], none⟩,
 ⟨some 17, .pure .move, [.t 21], none⟩,
 ⟨some 22, .pure (.ext 0), [.t 17], none⟩,
 ⟨some 23, .pure (.ext 1), [.t 17], none⟩,
 ⟨some 6, .pure .move, [.t 22], none⟩,
 ⟨some 4, .pure .move, [.t 23], none⟩])
 (.seq (.seq (.ops [⟨some 24, .pure .move, [.t 6], none⟩,
 ⟨some 25, .pure (.bin .eql), [.t 24, .c (.int .i64 0)], none⟩,
 ⟨some 26, .pure .move, [.t 25], none⟩,
 ⟨some 27, .pure .move, [.t 6], some (26, false)⟩,
 ⟨some 28, .pure .move, [.t 0], some (26, false)⟩,
 ⟨some 29, .pure .lenS, [.t 28], some (26, false)⟩,
 ⟨some 30, .pure .move, [.t 1], some (26, false)⟩,
 ⟨some 31, .pure (.bin .sub), [.t 29, .t 30], some (26, false)⟩,
 ⟨some 32, .pure (.bin .gtr), [.t 27, .t 31], some (26, false)⟩,
 ⟨some 33, .pure .pick, [.t 26, .c (.bool true), .t 32], none⟩])
 (.cond (.t 33)
 (.seq (.ops [⟨some 4, .pure .move, [.c (.int .i64 0)], none⟩,
 ⟨some 5, .pure .move, [.c (.int .i64 0)], none⟩])
 .ret)
 .skip))
 (.seq (.seq (.ops [⟨some 7, .pure .move, [.c (.int .i64 1)], none⟩])
 (.block 0
 (.loop [0, 1, 4, 6, 7]
 (.seq (.seq (.ops [⟨some 34, .pure .move, [.t 7], none⟩,
 ⟨some 35, .pure .move, [.t 6], none⟩,
 ⟨some 36, .pure (.bin .lss), [.t 34, .t 35], none⟩])
 (.cond (.t 36)
 .skip
 (.exit 0)))
 (.seq (.block 1
 (.seq (.ops [⟨some 39, .pure .move, [.t 0], none⟩,
 ⟨some 40, .pure .move, [.t 1], none⟩,
 ⟨some 41, .pure .move, [.t 7], none⟩,
 ⟨some 42, .pure (.bin .add), [.t 40, .t 41], none⟩,
 ⟨some 43, .pure .idxStr, [.t 39, .t 42], none⟩,
 ⟨some 8, .pure .move, [.t 43], none⟩])
 (.seq (.seq (.ops [⟨some 44, .pure .move, [.t 8], none⟩,
 ⟨some 45, .pure (.bin .and), [.t 44, .c (.int .u8 192)], none⟩,
 ⟨some 46, .pure (.bin .neq), [.t 45, .c (.int .u8 128)], none⟩])
 (.cond (.t 46)
 (.seq (.ops [⟨some 4, .pure .move, [.c (.int .i64 0)], none⟩,
 ⟨some 5, .pure .move, [.c (.int .i64 0)], none⟩])
 .ret)
 .skip))
 (.ops [⟨some 47, .pure .move, [.t 4], none⟩,
 ⟨some 48, .pure (.bin .shl), [.t 47, .c (.int .u64 6)], none⟩,
 ⟨some 49, .pure .move, [.t 8], none⟩,
 ⟨some 50, .pure (.bin .and), [.t 49, .c (.int .u8 63)], none⟩,
 ⟨some 51, .pure (.conv .i64), [.t 50], none⟩,
 ⟨some 52, .pure (.bin .or), [.t 48, .t 51], none⟩,
 ⟨some 4, .pure .move, [.t 52], none⟩]))))
 (.ops [⟨some 37, .pure .move, [.t 7], none⟩,
 ⟨some 38, .pure (.bin .add), [.t 37, .c (.int .i64 1)], none⟩,
 ⟨some 7, .pure .move, [.t 38], none⟩]))))))
 (.seq (.seq (.ops [⟨some 53, .pure .move, [.t 4], none⟩,
 ⟨some 54, .pcall 95, [.t 53], none⟩,
 ⟨some 55, .pure (.un .not), [.t 54], none⟩,
 ⟨some 56, .pure .move, [.t 55], none⟩,
 ⟨some 57, .pure .move, [.t 4], some (56, false)⟩,
 ⟨some 58, .pcall 96, [.t 57], some (56, false)⟩,
 ⟨some 59, .pure .move, [.t 6], some (56, false)⟩,
 ⟨some 60, .pure (.bin .neq), [.t 58, .t 59], some (56, false)⟩,
 ⟨some 61, .pure .pick, [.t 56, .c (.bool true), .t 60], none⟩])
 (.cond (.t 61)
 (.seq (.ops [⟨some 4, .pure .move, [.c (.int .i64 0)], none⟩,
 ⟨some 5, .pure .move, [.c (.int .i64 0)], none⟩])
 .ret)
 .skip))
 (.seq (.ops [⟨some 62, .pure .move, [.t 4], none⟩,
 ⟨some 63, .pure .move, [.t 6], none⟩,
 ⟨some 4, .pure .move, [.t 62], none⟩,
 ⟨some 5, .pure .move, [.t 63], none⟩])
 .ret))))))) }
/-- datakit/datakitref01.Zeros -/
def ac90 : AFn :=
 { nt := 21, res := [.tmp 2], body :=
 (.seq (.ops [⟨some 2, .pure .move, [.c (.int .i64 0)], none⟩])
 (.seq (.ops [⟨some 3, .pure .move, [.c (.int .i64 0)], none⟩])
 (.seq (.block 0
 (.loop [0, 3]
 (.seq (.seq (.ops [⟨some 4, .pure .move, [.t 3], none⟩,
 ⟨some 5, .pure .move, [.t 0], none⟩,
 ⟨some 6, .pure .lenS, [.t 5], none⟩,
 ⟨some 7, .pure (.bin .lss), [.t 4, .t 6], none⟩,
 ⟨some 8, .pure .move, [.t 7], none⟩,
 ⟨some 9, .pure .move, [.t 0], some (8, true)⟩,
 ⟨some 10, .pure .move, [.t 0], some (8, true)⟩,
 ⟨some 11, .pure .lenS, [.t 10], some (8, true)⟩,
 ⟨some 12, .pure (.bin .sub), [.t 11, .c (.int .i64 1)], some (8, true)⟩,
 ⟨some 13, .pure .move, [.t 3], some (8, true)⟩,
 ⟨some 14, .pure (.bin .sub), [.t 12, .t 13], some (8, true)⟩,
 ⟨some 15, .pure .idxStr, [.t 9, .t 14], some (8, true)⟩,
 ⟨some 16, .pure (.bin .eql), [.t 15, .c (.int .u8 48)], some (8, true)⟩,
 ⟨some 17, .pure .pick, [.t 8, .t 16, .c (.bool false)], none⟩])
 (.cond (.t 17)
 .skip
 (.exit 0)))
 (.block 1
 (.ops [⟨some 18, .pure .move, [.t 3], none⟩,
 ⟨some 19, .pure (.bin .add), [.t 18, .c (.int .i64 1)], none⟩,
 ⟨some 3, .pure .move, [.t 19], none⟩])))))
 (.seq (.ops [⟨some 20, .pure .move, [.t 3], none⟩,
 ⟨some 2, .pure .move, [.t 20], none⟩])
 .ret)))) }
/-- datakit/datakitref05.dated -/
def ac91 : AFn :=
 { nt := 13, res := [.tmp 2], body :=
 (.seq (.ops [⟨some 2, .pure .move, [.c (.bool false)], none⟩])
 (.seq (.ops [⟨some 3, .pure .move, [.t 0], none⟩,
 ⟨some 4, .pure (.bin .eql), [.t 3, .c (.int .i64 1)], none⟩,
 ⟨some 5, .pure .move, [.t 4], none⟩,
 ⟨some 6, .pure .move, [.t 0], some (5, false)⟩,
 ⟨some 7, .pure (.bin .eql), [.t 6, .c (.int .i64 3)], some (5, false)⟩,
 ⟨some 8, .pure .pick, [.t 5, .c (.bool true), .t 7], none⟩,
 ⟨some 9, .pure .move, [.t 8], none⟩,
 ⟨some 10, .pure .move, [.t 0], some (9, false)⟩,
 ⟨some 11, .pure (.bin .eql), [.t 10, .c (.int .i64 4)], some (9, false)⟩,
 ⟨some 12, .pure .pick, [.t 9, .c (.bool true), .t 11], none⟩,
 ⟨some 2, .pure .move, [.t 12], none⟩])
 .ret)) }
/-- datakit/datakitref05.clocked -/
def ac92 : AFn :=
 { nt := 13, res := [.tmp 2], body :=
 (.seq (.ops [⟨some 2, .pure .move, [.c (.bool false)], none⟩])
 (.seq (.ops [⟨some 3, .pure .move, [.t 0], none⟩,
 ⟨some 4, .pure (.bin .eql), [.t 3, .c (.int .i64 2)], none⟩,
 ⟨some 5, .pure .move, [.t 4], none⟩,
 ⟨some 6, .pure .move, [.t 0], some (5, false)⟩,
 ⟨some 7, .pure (.bin .eql), [.t 6, .c (.int .i64 3)], some (5, false)⟩,
 ⟨some 8, .pure .pick, [.t 5, .c (.bool true), .t 7], none⟩,
 ⟨some 9, .pure .move, [.t 8], none⟩,
 ⟨some 10, .pure .move, [.t 0], some (9, false)⟩,
 ⟨some 11, .pure (.bin .eql), [.t 10, .c (.int .i64 4)], some (9, false)⟩,
 ⟨some 12, .pure .pick, [.t 9, .c (.bool true), .t 11], none⟩,
 ⟨some 2, .pure .move, [.t 12], none⟩])
 .ret)) }
/-- datakit/datakitref03.character -/
def ac93 : AFn :=
 { nt := 17, res := [.tmp 2], body :=
 (.seq (.ops [⟨some 2, .pure .move, [.c (.bool false)], none⟩])
 (.seq (.ops [⟨some 3, .pure .move, [.t 0], none⟩,
 ⟨some 4, .pure (.bin .geq), [.t 3, .c (.int .i64 0)], none⟩,
 ⟨some 5, .pure .move, [.t 4], none⟩,
 ⟨some 6, .pure .move, [.t 0], some (5, true)⟩,
 ⟨some 7, .pure (.bin .leq), [.t 6, .c (.int .i64 1114111)], some (5, true)⟩,
 ⟨some 8, .pure .pick, [.t 5, .t 7, .c (.bool false)], none⟩,
 ⟨some 9, .pure .move, [.t 8], none⟩,
 ⟨some 10, .pure .move, [.t 0], some (9, true)⟩,
 ⟨some 11, .pure (.bin .lss), [.t 10, .c (.int .i64 55296)], some (9, true)⟩,
 ⟨some 12, .pure .move, [.t 11], some (9, true)⟩,
 ⟨some 13, .pure .move, [.t 0], some (12, false)⟩,
 ⟨some 14, .pure (.bin .gtr), [.t 13, .c (.int .i64 57343)], some (12, false)⟩,
 ⟨some 15, .pure .pick, [.t 12, .c (.bool true), .t 14], some (9, true)⟩,
 ⟨some 16, .pure .pick, [.t 9, .t 15, .c (.bool false)], none⟩,
 ⟨some 2, .pure .move, [.t 16], none⟩])
 .ret)) }
/-- datakit/utf.head -/
def ac94 : AFn :=
 { nt := 39, res := [.tmp 2, .tmp 3], body :=
 (.seq (.ops [⟨some 2, .pure .move, [.c (.int .i64 0)], none⟩,
 ⟨some 3, .pure .move, [.c (.int .i64 0)], none⟩])
 (.seq (.block 0
 (.seq (.ops [⟨some 5, .pure .move, [.t 0], none⟩,
 ⟨some 6, .pure (.bin .lss), [.t 5, .c (.int .u8 128)], none⟩,
 ⟨some 4, .pure .move, [.t 6], none⟩])
 (.cond (.t 4)
 (.seq (.ops [⟨some 7, .pure .move, [.t 0], none⟩,
 ⟨some 8, .pure (.conv .i64), [.t 7], none⟩,
 ⟨some 2, .pure .move, [.c (.int .i64 1)], none⟩,
 ⟨some 3, .pure .move, [.t 8], none⟩])
 .ret)
 (.seq (.ops [⟨some 10, .pure .move, [.t 0], none⟩,
 ⟨some 11, .pure (.bin .geq), [.t 10, .c (.int .u8 192)], none⟩,
 ⟨some 12, .pure .move, [.t 11], none⟩,
 ⟨some 13, .pure .move, [.t 0], some (12, true)⟩,
 ⟨some 14, .pure (.bin .lss), [.t 13, .c (.int .u8 224)], some (12, true)⟩,
 ⟨some 15, .pure .pick, [.t 12, .t 14, .c (.bool false)], none⟩,
 ⟨some 9, .pure .move, [.t 15], none⟩])
 (.cond (.t 9)
 (.seq (.ops [⟨some 16, .pure .move, [.t 0], none⟩,
 ⟨some 17, .pure (.bin .and), [.t 16, .c (.int .u8 31)], none⟩,
 ⟨some 18, .pure (.conv .i64), [.t 17], none⟩,
 ⟨some 2, .pure .move, [.c (.int .i64 2)], none⟩,
 ⟨some 3, .pure .move, [.t 18], none⟩])
 .ret)
 (.seq (.ops [⟨some 20, .pure .move, [.t 0], none⟩,
 ⟨some 21, .pure (.bin .geq), [.t 20, .c (.int .u8 224)], none⟩,
 ⟨some 22, .pure .move, [.t 21], none⟩,
 ⟨some 23, .pure .move, [.t 0], some (22, true)⟩,
 ⟨some 24, .pure (.bin .lss), [.t 23, .c (.int .u8 240)], some (22, true)⟩,
 ⟨some 25, .pure .pick, [.t 22, .t 24, .c (.bool false)], none⟩,
 ⟨some 19, .pure .move, [.t 25], none⟩])
 (.cond (.t 19)
 (.seq (.ops [⟨some 26, .pure .move, [.t 0], none⟩,
 ⟨some 27, .pure (.bin .and), [.t 26, .c (.int .u8 15)], none⟩,
 ⟨some 28, .pure (.conv .i64), [.t 27], none⟩,
 ⟨some 2, .pure .move, [.c (.int .i64 3)], none⟩,
 ⟨some 3, .pure .move, [.t 28], none⟩])
 .ret)
 (.seq (.ops [⟨some 30, .pure .move, [.t 0], none⟩,
 ⟨some 31, .pure (.bin .geq), [.t 30, .c (.int .u8 240)], none⟩,
 ⟨some 32, .pure .move, [.t 31], none⟩,
 ⟨some 33, .pure .move, [.t 0], some (32, true)⟩,
 ⟨some 34, .pure (.bin .lss), [.t 33, .c (.int .u8 248)], some (32, true)⟩,
 ⟨some 35, .pure .pick, [.t 32, .t 34, .c (.bool false)], none⟩,
 ⟨some 29, .pure .move, [.t 35], none⟩])
 (.cond (.t 29)
 (.seq (.ops [⟨some 36, .pure .move, [.t 0], none⟩,
 ⟨some 37, .pure (.bin .and), [.t 36, .c (.int .u8 7)], none⟩,
 ⟨some 38, .pure (.conv .i64), [.t 37], none⟩,
 ⟨some 2, .pure .move, [.c (.int .i64 4)], none⟩,
 ⟨some 3, .pure .move, [.t 38], none⟩])
 .ret)
 .skip)))))))))
 (.seq (.ops [⟨some 2, .pure .move, [.c (.int .i64 0)], none⟩,
 ⟨some 3, .pure .move, [.c (.int .i64 0)], none⟩])
 .ret))) }
/-- datakit/utf.scalar -/
def ac95 : AFn :=
 { nt := 17, res := [.tmp 2], body :=
 (.seq (.ops [⟨some 2, .pure .move, [.c (.bool false)], none⟩])
 (.seq (.ops [⟨some 3, .pure .move, [.t 0], none⟩,
 ⟨some 4, .pure (.bin .geq), [.t 3, .c (.int .i64 0)], none⟩,
 ⟨some 5, .pure .move, [.t 4], none⟩,
 ⟨some 6, .pure .move, [.t 0], some (5, true)⟩,
 ⟨some 7, .pure (.bin .leq), [.t 6, .c (.int .i64 1114111)], some (5, true)⟩,
 ⟨some 8, .pure .pick, [.t 5, .t 7, .c (.bool false)], none⟩,
 ⟨some 9, .pure .move, [.t 8], none⟩,
 ⟨some 10, .pure .move, [.t 0], some (9, true)⟩,
 ⟨some 11, .pure (.bin .lss), [.t 10, .c (.int .i64 55296)], some (9, true)⟩,
 ⟨some 12, .pure .move, [.t 11], some (9, true)⟩,
 ⟨some 13, .pure .move, [.t 0], some (12, false)⟩,
 ⟨some 14, .pure (.bin .gtr), [.t 13, .c (.int .i64 57343)], some (12, false)⟩,
 ⟨some 15, .pure .pick, [.t 12, .c (.bool true), .t 14], some (9, true)⟩,
 ⟨some 16, .pure .pick, [.t 9, .t 15, .c (.bool false)], none⟩,
 ⟨some 2, .pure .move, [.t 16], none⟩])
 .ret)) }
/-- datakit/utf.width -/
def ac96 : AFn :=
 { nt := 12, res := [.tmp 2], body :=
 (.seq (.ops [⟨some 2, .pure .move, [.c (.int .i64 0)], none⟩])
 (.seq (.block 0
 (.seq (.ops [⟨some 4, .pure .move, [.t 0], none⟩,
 ⟨some 5, .pure (.bin .lss), [.t 4, .c (.int .i64 128)], none⟩,
 ⟨some 3, .pure .move, [.t 5], none⟩])
 (.cond (.t 3)
 (.seq (.ops [⟨some 2, .pure .move, [.c (.int .i64 1)], none⟩])
 .ret)
 (.seq (.ops [⟨some 7, .pure .move, [.t 0], none⟩,
 ⟨some 8, .pure (.bin .lss), [.t 7, .c (.int .i64 2048)], none⟩,
 ⟨some 6, .pure .move, [.t 8], none⟩])
 (.cond (.t 6)
 (.seq (.ops [⟨some 2, .pure .move, [.c (.int .i64 2)], none⟩])
 .ret)
 (.seq (.ops [⟨some 10, .pure .move, [.t 0], none⟩,
 ⟨some 11, .pure (.bin .lss), [.t 10, .c (.int .i64 65536)], none⟩,
 ⟨some 9, .pure .move, [.t 11], none⟩])
 (.cond (.t 9)
 (.seq (.ops [⟨some 2, .pure .move, [.c (.int .i64 3)], none⟩])
 .ret)
 .skip)))))))
 (.seq (.ops [⟨some 2, .pure .move, [.c (.int .i64 4)], none⟩])
 .ret))) }
/-- datakit/datakitlaw39.near -/
def ac120 : AFn :=
 { nt := 19, res := [.tmp 2], body :=
 (.seq (.ops [⟨some 2, .pure .move, [.c (.bool false)], none⟩])
 (.seq (.seq (.ops [⟨some 4, .pure .move, [.t 0], none⟩,
 ⟨some 5, .pcall 12, [.t 4], none⟩,
 ⟨some 6, .pure (.un .not), [.t 5], none⟩])
 (.cond (.t 6)
 (.seq (.ops [⟨some 2, .pure .move, [.c (.bool false)], none⟩])
 .ret)
 .skip))
 (.seq (.seq (.ops [⟨some 3, .pure .move, [.c (.int .i64 0)], none⟩])
 (.block 0
 (.loop [0, 3]
 (.seq (.seq (.ops [⟨some 7, .pure .move, [.t 3], none⟩,
 ⟨some 8, .pure .move, [.t 0], none⟩,
 ⟨some 9, .pure .lenL, [.t 8], none⟩,
 ⟨some 10, .pure (.bin .lss), [.t 7, .t 9], none⟩])
 (.cond (.t 10)
 .skip
 (.exit 0)))
 (.seq (.block 1
 (.seq (.ops [⟨some 13, .pure .move, [.t 0], none⟩,
 ⟨some 14, .pure .move, [.t 3], none⟩,
 ⟨some 15, .pure (.iaddrS 3), [.t 13, .t 14], none⟩,
 ⟨some 16, .pure (.faddr 2), [.t 15], none⟩,
 ⟨some 17, .read (.load none), [.t 16], none⟩,
 ⟨some 18, .pure (.bin .gtr), [.t 17, .c (.int .i64 200)], none⟩])
 (.cond (.t 18)
 (.seq (.ops [⟨some 2, .pure .move, [.c (.bool false)], none⟩])
 .ret)
 .skip)))
 (.ops [⟨some 11, .pure .move, [.t 3], none⟩,
 ⟨some 12, .pure (.bin .add), [.t 11, .c (.int .i64 1)], none⟩,
 ⟨some 3, .pure .move, [.t 12], none⟩]))))))
 (.seq (.ops [⟨some 2, .pure .move, [.c (.bool true)], none⟩])
 .ret)))) }
/-- datakit/qpath.Put -/
def ac121 : AFn :=
 { nt := 32, res := [.cell 6 (some 13), .tmp 7], body :=
 (.seq (.ops [⟨some 3, .new (.box 13), [.t 0], none⟩,
 ⟨some 5, .new (.box 13), [.t 2], none⟩,
 ⟨some 6, .new (.new 13 [.agg [.int .i64 0, .bool false, .bool false, .str [], .int .i64 0, .int .i64 0, .int .i64 0, .int .i64 0, .int .i64 0, .str [], .snil 1, .snil 13, .snil 14]]), [], none⟩,
 ⟨some 7, .pure .move, [.c (.int .i64 0)], none⟩])
 (.seq (.seq (.ops [⟨some 10, .pure .move, [.t 1], none⟩,
 ⟨some 11, .pure .lenL, [.t 10], none⟩,
 ⟨some 12, .pure (.bin .eql), [.t 11, .c (.int .i64 0)], none⟩])
 (.cond (.t 12)
 (.seq (.ops [⟨some 13, .read (.load (some 13)), [.t 5], none⟩,
 ⟨some 14, .pcall 26, [.t 13], none⟩,
 ⟨none, .eff (.store 13), [.t 6, .t 14], none⟩,
 ⟨some 7, .pure .move, [.c (.int .i64 0)], none⟩])
 .ret)
 .skip))
 (.seq (.ops [⟨some 16, .read (.load (some 13)), [.t 3], none⟩,
 ⟨some 17, .pure .move, [.t 1], none⟩,
 ⟨some 18, .read (.load (some 13)), [.t 5], none⟩,
 ⟨some 19, .pcall 125, [.t 16, .t 17, .t 18], none⟩,
 ⟨some 15, .pure .move, [.t 19], none⟩,
 ⟨some 20, .pure (.ext 0), [.t 15], none⟩,
 ⟨some 21, .pure (.ext 1), [.t 15], none⟩,
 ⟨some 8, .new (.new 13 [.agg [.int .i64 0, .bool false, .bool false, .str [], .int .i64 0, .int .i64 0, .int .i64 0, .int .i64 0, .int .i64 0, .str [], .snil 1, .snil 13, .snil 14]]), [], none⟩,
 ⟨none, .eff (.store 13), [.t 8, .t 20], none⟩,
 ⟨some 9, .pure .move, [.t 21], none⟩])
 (.seq (.seq (.ops [⟨some 22, .pure .move, [.t 9], none⟩,
 ⟨some 23, .pure (.bin .eql), [.t 22, .c (.int .i64 0)], none⟩])
 (.cond (.t 23)
 (.ops [⟨some 24, .read (.load (some 13)), [.t 8], none⟩,
 ⟨some 25, .pcall 126, [.t 24], none⟩,
 ⟨some 9, .pure .move, [.t 25], none⟩])
 .skip))
 (.seq (.seq (.ops [⟨some 26, .pure .move, [.t 9], none⟩,
 ⟨some 27, .pure (.bin .neq), [.t 26, .c (.int .i64 0)], none⟩])
 (.cond (.t 27)
 (.seq (.ops [⟨some 28, .pure (.build [.int .i64 0, .bool false, .bool false, .str [], .int .i64 0, .int .i64 0, .int .i64 0, .int .i64 0, .int .i64 0, .str [], .snil 1, .snil 13, .snil 14] []), [], none⟩,
 ⟨some 29, .pure .move, [.t 9], none⟩,
 ⟨none, .eff (.store 13), [.t 6, .t 28], none⟩,
 ⟨some 7, .pure .move, [.t 29], none⟩])
 .ret)
 .skip))
 (.seq (.ops [⟨some 30, .read (.load (some 13)), [.t 8], none⟩,
 ⟨some 31, .pcall 26, [.t 30], none⟩,
 ⟨none, .eff (.store 13), [.t 6, .t 31], none⟩,
 ⟨some 7, .pure .move, [.c (.int .i64 0)], none⟩])
 .ret)))))) }
/-- datakit/datakitref39.Put -/
def ac122 : AFn :=
 { nt := 30, res := [.cell 6 (some 13), .tmp 7], body :=
 (.seq (.ops [⟨some 3, .new (.box 13), [.t 0], none⟩,
 ⟨some 5, .new (.box 13), [.t 2], none⟩,
 ⟨some 6, .new (.new 13 [.agg [.int .i64 0, .bool false, .bool false, .str [], .int .i64 0, .int .i64 0, .int .i64 0, .int .i64 0, .int .i64 0, .str [], .snil 1, .snil 13, .snil 14]]), [], none⟩,
 ⟨some 7, .pure .move, [.c (.int .i64 0)], none⟩])
 (.seq (.seq (.ops [⟨some 10, .pure .move, [.t 1], none⟩,
 ⟨some 11, .pure .lenL, [.t 10], none⟩,
 ⟨some 12, .pure (.bin .eql), [.t 11, .c (.int .i64 0)], none⟩])
 (.cond (.t 12)
 (.seq (.ops [⟨some 13, .read (.load (some 13)), [.t 5], none⟩,
 ⟨none, .eff (.store 13), [.t 6, .t 13], none⟩,
 ⟨some 7, .pure .move, [.c (.int .i64 0)], none⟩])
 .ret)
 .skip))
 (.seq (.ops [⟨some 15, .read (.load (some 13)), [.t 3], none⟩,
 ⟨some 16, .pure .move, [.t 1], none⟩,
 ⟨some 17, .read (.load (some 13)), [.t 5], none⟩,
 ⟨some 18, .pcall 127, [.t 15, .t 16, .t 17], none⟩,
 ⟨some 14, .pure .move, [.t 18], none⟩,
 ⟨some 19, .pure (.ext 0), [.t 14], none⟩,
 ⟨some 20, .pure (.ext 1), [.t 14], none⟩,
 ⟨some 8, .new (.new 13 [.agg [.int .i64 0, .bool false, .bool false, .str [], .int .i64 0, .int .i64 0, .int .i64 0, .int .i64 0, .int .i64 0, .str [], .snil 1, .snil 13, .snil 14]]), [], none⟩,
 ⟨none, .eff (.store 13), [.t 8, .t 19], none⟩,
 ⟨some 9, .pure .move, [.t 20], none⟩])
 (.seq (.seq (.ops [⟨some 21, .pure .move, [.t 9], none⟩,
 ⟨some 22, .pure (.bin .eql), [.t 21, .c (.int .i64 0)], none⟩])
 (.cond (.t 22)
 (.ops [⟨some 23, .read (.load (some 13)), [.t 8], none⟩,
 ⟨some 24, .pcall 19, [.t 23], none⟩,
 ⟨some 9, .pure .move, [.t 24], none⟩])
 .skip))
 (.seq (.seq (.ops [⟨some 25, .pure .move, [.t 9], none⟩,
 ⟨some 26, .pure (.bin .neq), [.t 25, .c (.int .i64 0)], none⟩])
 (.cond (.t 26)
 (.seq (.ops [⟨some 27, .pure (.build [.int .i64 0, .bool false, .bool false, .str [], .int .i64 0, .int .i64 0, .int .i64 0, .int .i64 0, .int .i64 0, .str [], .snil 1, .snil 13, .snil 14] []), [], none⟩,
 ⟨some 28, .pure .move, [.t 9], none⟩,
 ⟨none, .eff (.store 13), [.t 6, .t 27], none⟩,
 ⟨some 7, .pure .move, [.t 28], none⟩])
 .ret)
 .skip))
 (.seq (.ops [⟨some 29, .read (.load (some 13)), [.t 8], none⟩,
 ⟨none, .eff (.store 13), [.t 6, .t 29], none⟩,
 ⟨some 7, .pure .move, [.c (.int .i64 0)], none⟩])
 .ret)))))) }
/-- datakit/qpath.put -/
def ac125 : AFn :=
 { nt := 99, res := [.cell 6 (some 13), .tmp 7], body :=
 (.seq (.ops [⟨some 3, .new (.box 13), [.t 0], none⟩,
 ⟨some 5, .new (.box 13), [.t 2], none⟩,
 ⟨some 6, .new (.new 13 [.agg [.int .i64 0, .bool false, .bool false, .str [], .int .i64 0, .int .i64 0, .int .i64 0, .int .i64 0, .int .i64 0, .str [], .snil 1, .snil 13, .snil 14]]), [], none⟩,
 ⟨some 7, .pure .move, [.c (.int .i64 0)], none⟩])
 (.seq (.seq (.ops [⟨some 13, .pure .move, [.t 1], none⟩,
 ⟨some 14, .pure .lenL, [.t 13], none⟩,
 ⟨some 15, .pure (.bin .eql), [.t 14, .c (.int .i64 0)], none⟩])
 (.cond (.t 15)
 (.seq (.ops [⟨some 16, .read (.load (some 13)), [.t 5], none⟩,
 ⟨none, .eff (.store 13), [.t 6, .t 16], none⟩,
 ⟨some 7, .pure .move, [.c (.int .i64 0)], none⟩])
 .ret)
 .skip))
 (.seq (.ops [⟨some 17, .pure .move, [.t 1], none⟩,
 ⟨some 18, .pure (.iaddrS 3), [.t 17, .c (.int .i64 0)], none⟩,
 ⟨some 19, .read (.load (some 3)), [.t 18], none⟩,
 ⟨some 8, .new (.new 3 [.agg [.bool false, .str [], .int .i64 0]]), [], none⟩,
 ⟨none, .eff (.store 3), [.t 8, .t 19], none⟩])
 (.seq (.seq (.ops [⟨some 20, .pure (.faddr 0), [.t 3], none⟩,
 ⟨some 21, .read (.load none), [.t 20], none⟩,
 ⟨some 22, .pure (.bin .eql), [.t 21, .c (.int .i64 0)], none⟩])
 (.cond (.t 22)
 (.seq (.ops [⟨some 23, .pure (.faddr 0), [.t 3], none⟩,
 ⟨none, .eff (.store 1), [.t 23, .c (.int .i64 7)], none⟩])
 (.seq (.ops [⟨some 24, .pure (.faddr 0), [.t 8], none⟩,
 ⟨some 25, .read (.load none), [.t 24], none⟩])
 (.cond (.t 25)
 (.ops [⟨some 26, .pure (.faddr 0), [.t 3], none⟩,
 ⟨none, .eff (.store 1), [.t 26, .c (.int .i64 6)], none⟩])
 .skip)))
 .skip))
 (.seq (.seq (.ops [⟨some 27, .read (.load (some 13)), [.t 3], none⟩,
 ⟨some 28, .read (.load (some 3)), [.t 8], none⟩,
 ⟨some 29, .pcall 43, [.t 27, .t 28], none⟩,
 ⟨some 30, .pure (.un .not), [.t 29], none⟩])
 (.cond (.t 30)
 (.seq (.ops [⟨some 31, .pure (.build [.int .i64 0, .bool false, .bool false, .str [], .int .i64 0, .int .i64 0, .int .i64 0, .int .i64 0, .int .i64 0, .str [], .snil 1, .snil 13, .snil 14] []), [], none⟩,
 ⟨none, .eff (.store 13), [.t 6, .t 31], none⟩,
 ⟨some 7, .pure .move, [.c (.int .i64 6)], none⟩])
 .ret)
 .skip))
 (.seq (.draw 1 [[⟨some 33, .read (.load (some 13)), [.t 3], none⟩,
 ⟨some 34, .read (.load (some 3)), [.t 8], none⟩,
 ⟨some 35, .pcall 44, [.t 33, .t 34], none⟩,
 ⟨some 36, .pure .move, [.t 1], none⟩,
 ⟨some 37, .pure (.sliceL 3 true false false), [.t 36, .c (.int .i64 1)], none⟩,
 ⟨some 38, .read (.load (some 13)), [.t 5], none⟩,
 ⟨some 39, .pcall 125, [.t 35, .t 37, .t 38], none⟩,
 ⟨some 32, .pure .move, [.t 39], none⟩,
 ⟨some 40, .pure (.ext 0), [.t 32], none⟩,
 ⟨some 41, .pure (.ext 1), [.t 32], none⟩,
 ⟨some 9, .newAt 0 (.new 13 [.agg [.int .i64 0, .bool false, .bool false, .str [], .int .i64 0, .int .i64 0, .int .i64 0, .int .i64 0, .int .i64 0, .str [], .snil 1, .snil 13, .snil 14]]), [], none⟩,
 ⟨none, .eff (.store 13), [.t 9, .t 40], none⟩,
 ⟨some 10, .pure .move, [.t 41], none⟩]])
 (.seq (.seq (.ops [⟨some 42, .pure .move, [.t 10], none⟩,
 ⟨some 43, .pure (.bin .neq), [.t 42, .c (.int .i64 0)], none⟩])
 (.cond (.t 43)
 (.seq (.ops [⟨some 44, .pure (.build [.int .i64 0, .bool false, .bool false, .str [], .int .i64 0, .int .i64 0, .int .i64 0, .int .i64 0, .int .i64 0, .str [], .snil 1, .snil 13, .snil 14] []), [], none⟩,
 ⟨some 45, .pure .move, [.t 10], none⟩,
 ⟨none, .eff (.store 13), [.t 6, .t 44], none⟩,
 ⟨some 7, .pure .move, [.t 45], none⟩])
 .ret)
 .skip))
 (.seq (.seq (.ops [⟨some 46, .pure (.faddr 0), [.t 8], none⟩,
 ⟨some 47, .read (.load none), [.t 46], none⟩,
 ⟨some 48, .pure (.un .not), [.t 47], none⟩])
 (.cond (.t 48)
 (.seq (.ops [⟨some 49, .pure (.faddr 12), [.t 3], none⟩,
 ⟨some 50, .read (.load none), [.t 49], none⟩,
 ⟨some 51, .call 130, [.t 50], none⟩,
 ⟨some 52, .pure (.faddr 12), [.t 3], none⟩,
 ⟨none, .eff (.store 1), [.t 52, .t 51], none⟩])
 (.seq (.ops [⟨some 53, .pure (.faddr 12), [.t 3], none⟩,
 ⟨some 54, .read (.load none), [.t 53], none⟩,
 ⟨some 55, .pure (.mkfn 132), [.t 8], none⟩,
 ⟨some 56, .call 131, [.t 54, .t 55], none⟩,
 ⟨some 11, .pure .move, [.t 56], none⟩])
 (.seq (.seq (.ops [⟨some 57, .pure .move, [.t 11], none⟩,
 ⟨some 58, .pure (.bin .lss), [.t 57, .c (.int .i64 0)], none⟩])
 (.cond (.t 58)
 (.ops [⟨some 59, .pure (.faddr 12), [.t 3], none⟩,
 ⟨some 60, .read (.load none), [.t 59], none⟩,
 ⟨some 61, .pure (.faddr 1), [.t 8], none⟩,
 ⟨some 62, .read (.load none), [.t 61], none⟩,
 ⟨some 63, .read (.load (some 13)), [.t 9], none⟩,
 ⟨some 64, .pure (.build [.str [], .int .i64 0, .bool false, .bool false, .str [], .int .i64 0, .int .i64 0, .int .i64 0, .int .i64 0, .int .i64 0, .str [], .snil 1, .snil 13, .snil 14] [(0, 1), (1, 13)]), [.t 62, .t 63], none⟩,
 ⟨some 65, .new (.buildSlice 14 [.agg [.str [], .int .i64 0, .bool false, .bool false, .str [], .int .i64 0, .int .i64 0, .int .i64 0, .int .i64 0, .int .i64 0, .str [], .snil 1, .snil 13, .snil 14]] [0]), [.t 64], none⟩,
 ⟨some 66, .eff (.append 14 184), [.t 60, .t 65], none⟩,
 ⟨some 67, .pure (.faddr 12), [.t 3], none⟩,
 ⟨none, .eff (.store 1), [.t 67, .t 66], none⟩])
 (.ops [⟨some 68, .pure (.faddr 12), [.t 3], none⟩,
 ⟨some 69, .read (.load none), [.t 68], none⟩,
 ⟨some 70, .pure .move, [.t 11], none⟩,
 ⟨some 71, .read (.load (some 13)), [.t 9], none⟩,
 ⟨some 72, .pure (.iaddrS 14), [.t 69, .t 70], none⟩,
 ⟨some 73, .pure (.faddr 1), [.t 72], none⟩,
 ⟨none, .eff (.store 13), [.t 73, .t 71], none⟩])))
 (.seq (.ops [⟨some 74, .read (.load (some 13)), [.t 3], none⟩,
 ⟨none, .eff (.store 13), [.t 6, .t 74], none⟩,
 ⟨some 7, .pure .move, [.c (.int .i64 0)], none⟩])
 .ret))))
 .skip))
 (.seq (.seq (.ops [⟨some 75, .pure (.faddr 2), [.t 8], none⟩,
 ⟨some 76, .read (.load none), [.t 75], none⟩,
 ⟨some 77, .pure (.bin .geq), [.t 76, .c (.int .i64 65536)], none⟩])
 (.cond (.t 77)
 (.seq (.ops [⟨some 78, .pure (.build [.int .i64 0, .bool false, .bool false, .str [], .int .i64 0, .int .i64 0, .int .i64 0, .int .i64 0, .int .i64 0, .str [], .snil 1, .snil 13, .snil 14] []), [], none⟩,
 ⟨none, .eff (.store 13), [.t 6, .t 78], none⟩,
 ⟨some 7, .pure .move, [.c (.int .i64 10)], none⟩])
 .ret)
 .skip))
 (.seq (.ops [⟨some 79, .pure (.faddr 11), [.t 3], none⟩,
 ⟨some 80, .read (.load none), [.t 79], none⟩,
 ⟨some 81, .pure .lenL, [.t 80], none⟩,
 ⟨some 82, .pure (.faddr 2), [.t 8], none⟩,
 ⟨some 83, .read (.load none), [.t 82], none⟩,
 ⟨some 84, .pure (.bin .add), [.t 83, .c (.int .i64 1)], none⟩,
 ⟨some 85, .pure (.minmax true), [.t 81, .t 84], none⟩,
 ⟨some 86, .new (.mkSlice 13 168 (.agg [.int .i64 0, .bool false, .bool false, .str [], .int .i64 0, .int .i64 0, .int .i64 0, .int .i64 0, .int .i64 0, .str [], .snil 1, .snil 13, .snil 14])), [.t 85, .t 85], none⟩,
 ⟨some 12, .pure .move, [.t 86], none⟩])
 (.seq (.ops [⟨some 87, .pure .move, [.t 12], none⟩,
 ⟨some 88, .pure (.faddr 11), [.t 3], none⟩,
 ⟨some 89, .read (.load none), [.t 88], none⟩,
 ⟨some 90, .eff (.copy 13), [.t 87, .t 89], none⟩])
 (.seq (.ops [⟨some 91, .pure .move, [.t 12], none⟩,
 ⟨some 92, .pure (.faddr 2), [.t 8], none⟩,
 ⟨some 93, .read (.load none), [.t 92], none⟩,
 ⟨some 94, .read (.load (some 13)), [.t 9], none⟩,
 ⟨some 95, .pure (.iaddrS 13), [.t 91, .t 93], none⟩,
 ⟨none, .eff (.store 13), [.t 95, .t 94], none⟩])
 (.seq (.ops [⟨some 96, .pure .move, [.t 12], none⟩,
 ⟨some 97, .pure (.faddr 11), [.t 3], none⟩,
 ⟨none, .eff (.store 1), [.t 97, .t 96], none⟩])
 (.seq (.ops [⟨some 98, .read (.load (some 13)), [.t 3], none⟩,
 ⟨none, .eff (.store 13), [.t 6, .t 98], none⟩,
 ⟨some 7, .pure .move, [.c (.int .i64 0)], none⟩])
 .ret)))))))))))))) }
/-- datakit/value.Check -/
def ac126 : AFn :=
 { nt := 6, res := [.tmp 2], body :=
 (.seq (.ops [⟨some 1, .new (.box 13), [.t 0], none⟩,
 ⟨some 2, .pure .move, [.c (.int .i64 0)], none⟩])
 (.seq (.ops [⟨some 3, .new (.new 1 [.int .i64 0]), [], none⟩,
 ⟨none, .eff (.store 1), [.t 3, .c (.int .i64 0)], none⟩])
 (.seq (.ops [⟨some 4, .read (.load (some 13)), [.t 1], none⟩,
 ⟨some 5, .call 133, [.t 4, .c (.int .i64 1), .t 3], none⟩,
 ⟨some 2, .pure .move, [.t 5], none⟩])
 .ret))) }
/-- datakit/datakitref39.put -/
def ac127 : AFn :=
 { nt := 110, res := [.cell 6 (some 13), .tmp 7], body :=
 (.seq (.ops [⟨some 3, .new (.box 13), [.t 0], none⟩,
 ⟨some 5, .new (.box 13), [.t 2], none⟩,
 ⟨some 6, .new (.new 13 [.agg [.int .i64 0, .bool false, .bool false, .str [], .int .i64 0, .int .i64 0, .int .i64 0, .int .i64 0, .int .i64 0, .str [], .snil 1, .snil 13, .snil 14]]), [], none⟩,
 ⟨some 7, .pure .move, [.c (.int .i64 0)], none⟩])
 (.seq (.seq (.ops [⟨some 14, .pure .move, [.t 1], none⟩,
 ⟨some 15, .pure .lenL, [.t 14], none⟩,
 ⟨some 16, .pure (.bin .eql), [.t 15, .c (.int .i64 0)], none⟩])
 (.cond (.t 16)
 (.seq (.ops [⟨some 17, .read (.load (some 13)), [.t 5], none⟩,
 ⟨none, .eff (.store 13), [.t 6, .t 17], none⟩,
 ⟨some 7, .pure .move, [.c (.int .i64 0)], none⟩])
 .ret)
 .skip))
 (.seq (.seq (.ops [⟨some 18, .pure (.faddr 0), [.t 3], none⟩,
 ⟨some 19, .read (.load none), [.t 18], none⟩,
 ⟨some 20, .pure (.bin .eql), [.t 19, .c (.int .i64 0)], none⟩,
 ⟨some 21, .pure .move, [.t 20], none⟩,
 ⟨some 22, .pure .move, [.t 1], some (21, true)⟩,
 ⟨some 23, .pure (.iaddrS 3), [.t 22, .c (.int .i64 0)], some (21, true)⟩,
 ⟨some 24, .pure (.faddr 0), [.t 23], some (21, true)⟩,
 ⟨some 25, .read (.load none), [.t 24], some (21, true)⟩,
 ⟨some 26, .pure .pick, [.t 21, .t 25, .c (.bool false)], none⟩])
 (.cond (.t 26)
 (.ops [⟨some 27, .pure (.build [.int .i64 0, .bool false, .bool false, .str [], .int .i64 0, .int .i64 0, .int .i64 0, .int .i64 0, .int .i64 0, .str [], .snil 1, .snil 13, .snil 14] [(0, 1)]), [.c (.int .i64 6)], none⟩,
 ⟨none, .eff (.store 13), [.t 3, .t 27], none⟩])
 (.seq (.ops [⟨some 28, .pure (.faddr 0), [.t 3], none⟩,
 ⟨some 29, .read (.load none), [.t 28], none⟩,
 ⟨some 30, .pure (.bin .eql), [.t 29, .c (.int .i64 0)], none⟩])
 (.cond (.t 30)
 (.ops [⟨some 31, .pure (.build [.int .i64 0, .bool false, .bool false, .str [], .int .i64 0, .int .i64 0, .int .i64 0, .int .i64 0, .int .i64 0, .str [], .snil 1, .snil 13, .snil 14] [(0, 1)]), [.c (.int .i64 7)], none⟩,
 ⟨none, .eff (.store 13), [.t 3, .t 31], none⟩])
 .skip))))
 (.seq (.ops [⟨some 33, .read (.load (some 13)), [.t 3], none⟩,
 ⟨some 34, .pure .move, [.t 1], none⟩,
 ⟨some 35, .pure (.iaddrS 3), [.t 34, .c (.int .i64 0)], none⟩,
 ⟨some 36, .read (.load (some 3)), [.t 35], none⟩,
 ⟨some 37, .pcall 27, [.t 33, .t 36], none⟩,
 ⟨some 32, .pure .move, [.t 37], none⟩,
 ⟨some 38, .pure (.ext 0), [.t 32], none⟩,
 ⟨some 39, .pure (.ext 1), [.t 32], none⟩,
 ⟨some 8, .pure .move, [.t 38], none⟩,
 ⟨some 9, .pure .move, [.t 39], none⟩])
 (.seq (.seq (.ops [⟨some 40, .pure .move, [.t 9], none⟩,
 ⟨some 41, .pure (.bin .eql), [.t 40, .c (.int .i64 6)], none⟩])
 (.cond (.t 41)
 (.seq (.ops [⟨some 42, .pure (.build [.int .i64 0, .bool false, .bool false, .str [], .int .i64 0, .int .i64 0, .int .i64 0, .int .i64 0, .int .i64 0, .str [], .snil 1, .snil 13, .snil 14] []), [], none⟩,
 ⟨some 43, .pure .move, [.t 9], none⟩,
 ⟨none, .eff (.store 13), [.t 6, .t 42], none⟩,
 ⟨some 7, .pure .move, [.t 43], none⟩])
 .ret)
 .skip))
 (.seq (.ops [⟨some 44, .pure (.build [.int .i64 0, .bool false, .bool false, .str [], .int .i64 0, .int .i64 0, .int .i64 0, .int .i64 0, .int .i64 0, .str [], .snil 1, .snil 13, .snil 14] []), [], none⟩,
 ⟨some 10, .new (.new 13 [.agg [.int .i64 0, .bool false, .bool false, .str [], .int .i64 0, .int .i64 0, .int .i64 0, .int .i64 0, .int .i64 0, .str [], .snil 1, .snil 13, .snil 14]]), [], none⟩,
 ⟨none, .eff (.store 13), [.t 10, .t 44], none⟩])
 (.seq (.seq (.ops [⟨some 45, .pure .move, [.t 9], none⟩,
 ⟨some 46, .pure (.bin .eql), [.t 45, .c (.int .i64 0)], none⟩])
 (.cond (.t 46)
 (.ops [⟨some 47, .read (.load (some 13)), [.t 3], none⟩,
 ⟨some 48, .pure .move, [.t 8], none⟩,
 ⟨some 49, .pcall 28, [.t 47, .t 48], none⟩,
 ⟨none, .eff (.store 13), [.t 10, .t 49], none⟩])
 .skip))
 (.seq (.draw 1 [[⟨some 51, .read (.load (some 13)), [.t 10], none⟩,
 ⟨some 52, .pure .move, [.t 1], none⟩,
 ⟨some 53, .pure (.sliceL 3 true false false), [.t 52, .c (.int .i64 1)], none⟩,
 ⟨some 54, .read (.load (some 13)), [.t 5], none⟩,
 ⟨some 55, .pcall 127, [.t 51, .t 53, .t 54], none⟩,
 ⟨some 50, .pure .move, [.t 55], none⟩,
 ⟨some 56, .pure (.ext 0), [.t 50], none⟩,
 ⟨some 57, .pure (.ext 1), [.t 50], none⟩,
 ⟨some 11, .newAt 0 (.new 13 [.agg [.int .i64 0, .bool false, .bool false, .str [], .int .i64 0, .int .i64 0, .int .i64 0, .int .i64 0, .int .i64 0, .str [], .snil 1, .snil 13, .snil 14]]), [], none⟩,
 ⟨none, .eff (.store 13), [.t 11, .t 56], none⟩,
 ⟨some 12, .pure .move, [.t 57], none⟩]])
 (.seq (.seq (.ops [⟨some 58, .pure .move, [.t 12], none⟩,
 ⟨some 59, .pure (.bin .neq), [.t 58, .c (.int .i64 0)], none⟩])
 (.cond (.t 59)
 (.seq (.ops [⟨some 60, .pure (.build [.int .i64 0, .bool false, .bool false, .str [], .int .i64 0, .int .i64 0, .int .i64 0, .int .i64 0, .int .i64 0, .str [], .snil 1, .snil 13, .snil 14] []), [], none⟩,
 ⟨some 61, .pure .move, [.t 12], none⟩,
 ⟨none, .eff (.store 13), [.t 6, .t 60], none⟩,
 ⟨some 7, .pure .move, [.t 61], none⟩])
 .ret)
 .skip))
 (.seq (.block 0
 (.seq (.ops [⟨some 63, .pure .move, [.t 9], none⟩,
 ⟨some 64, .pure (.bin .eql), [.t 63, .c (.int .i64 0)], none⟩,
 ⟨some 62, .pure .move, [.t 64], none⟩])
 (.cond (.t 62)
 (.seq (.ops [⟨some 65, .read (.load (some 13)), [.t 3], none⟩,
 ⟨some 66, .pure .move, [.t 8], none⟩,
 ⟨some 67, .read (.load (some 13)), [.t 11], none⟩,
 ⟨some 68, .pcall 134, [.t 65, .t 66, .t 67], none⟩,
 ⟨none, .eff (.store 13), [.t 6, .t 68], none⟩,
 ⟨some 7, .pure .move, [.c (.int .i64 0)], none⟩])
 .ret)
 (.seq (.ops [⟨some 70, .pure .move, [.t 1], none⟩,
 ⟨some 71, .pure (.iaddrS 3), [.t 70, .c (.int .i64 0)], none⟩,
 ⟨some 72, .pure (.faddr 0), [.t 71], none⟩,
 ⟨some 73, .read (.load none), [.t 72], none⟩,
 ⟨some 74, .pure (.un .not), [.t 73], none⟩,
 ⟨some 69, .pure .move, [.t 74], none⟩])
 (.cond (.t 69)
 (.seq (.ops [⟨some 75, .read (.load (some 13)), [.t 3], none⟩,
 ⟨some 76, .pure .move, [.t 1], none⟩,
 ⟨some 77, .pure (.iaddrS 3), [.t 76, .c (.int .i64 0)], none⟩,
 ⟨some 78, .pure (.faddr 1), [.t 77], none⟩,
 ⟨some 79, .read (.load none), [.t 78], none⟩,
 ⟨some 80, .read (.load (some 13)), [.t 11], none⟩,
 ⟨some 81, .pcall 135, [.t 75, .t 79, .t 80], none⟩,
 ⟨none, .eff (.store 13), [.t 6, .t 81], none⟩,
 ⟨some 7, .pure .move, [.c (.int .i64 0)], none⟩])
 .ret)
 (.seq (.ops [⟨some 83, .pure .move, [.t 1], none⟩,
 ⟨some 84, .pure (.iaddrS 3), [.t 83, .c (.int .i64 0)], none⟩,
 ⟨some 85, .pure (.faddr 2), [.t 84], none⟩,
 ⟨some 86, .read (.load none), [.t 85], none⟩,
 ⟨some 87, .pure (.bin .geq), [.t 86, .c (.int .i64 65536)], none⟩,
 ⟨some 82, .pure .move, [.t 87], none⟩])
 (.cond (.t 82)
 (.seq (.ops [⟨some 88, .pure (.build [.int .i64 0, .bool false, .bool false, .str [], .int .i64 0, .int .i64 0, .int .i64 0, .int .i64 0, .int .i64 0, .str [], .snil 1, .snil 13, .snil 14] []), [], none⟩,
 ⟨none, .eff (.store 13), [.t 6, .t 88], none⟩,
 ⟨some 7, .pure .move, [.c (.int .i64 10)], none⟩])
 .ret)
 .skip)))))))
 (.seq (.ops [⟨some 89, .new (.buildSlice 13 [] []), [], none⟩,
 ⟨some 90, .pure (.faddr 11), [.t 3], none⟩,
 ⟨some 91, .read (.load none), [.t 90], none⟩,
 ⟨some 92, .eff (.append 13 168), [.t 89, .t 91], none⟩,
 ⟨some 13, .pure .move, [.t 92], none⟩])
 (.seq (.block 1
 (.loop [1, 6, 11, 13]
 (.seq (.seq (.ops [⟨some 93, .pure .move, [.t 13], none⟩,
 ⟨some 94, .pure .lenL, [.t 93], none⟩,
 ⟨some 95, .pure .move, [.t 1], none⟩,
 ⟨some 96, .pure (.iaddrS 3), [.t 95, .c (.int .i64 0)], none⟩,
 ⟨some 97, .pure (.faddr 2), [.t 96], none⟩,
 ⟨some 98, .read (.load none), [.t 97], none⟩,
 ⟨some 99, .pure (.bin .lss), [.t 94, .t 98], none⟩])
 (.cond (.t 99)
 .skip
 (.exit 1)))
 (.block 2
 (.ops [⟨some 100, .pure .move, [.t 13], none⟩,
 ⟨some 101, .pure (.build [.int .i64 0, .bool false, .bool false, .str [], .int .i64 0, .int .i64 0, .int .i64 0, .int .i64 0, .int .i64 0, .str [], .snil 1, .snil 13, .snil 14] []), [], none⟩,
 ⟨some 102, .new (.buildSlice 13 [.agg [.int .i64 0, .bool false, .bool false, .str [], .int .i64 0, .int .i64 0, .int .i64 0, .int .i64 0, .int .i64 0, .str [], .snil 1, .snil 13, .snil 14]] [0]), [.t 101], none⟩,
 ⟨some 103, .eff (.append 13 168), [.t 100, .t 102], none⟩,
 ⟨some 13, .pure .move, [.t 103], none⟩])))))
 (.seq (.ops [⟨some 104, .pure .move, [.t 13], none⟩,
 ⟨some 105, .read (.load (some 13)), [.t 11], none⟩,
 ⟨some 106, .new (.buildSlice 13 [.agg [.int .i64 0, .bool false, .bool false, .str [], .int .i64 0, .int .i64 0, .int .i64 0, .int .i64 0, .int .i64 0, .str [], .snil 1, .snil 13, .snil 14]] [0]), [.t 105], none⟩,
 ⟨some 107, .eff (.append 13 168), [.t 104, .t 106], none⟩,
 ⟨some 13, .pure .move, [.t 107], none⟩])
 (.seq (.ops [⟨some 108, .pure .move, [.t 13], none⟩,
 ⟨some 109, .pure (.build [.int .i64 0, .bool false, .bool false, .str [], .int .i64 0, .int .i64 0, .int .i64 0, .int .i64 0, .int .i64 0, .str [], .snil 1, .snil 13, .snil 14] [(0, 1), (11, 1)]), [.c (.int .i64 6), .t 108], none⟩,
 ⟨none, .eff (.store 13), [.t 6, .t 109], none⟩,
 ⟨some 7, .pure .move, [.c (.int .i64 0)], none⟩])
 .ret)))))))))))))) }
/-- slices.IndexFunc[[]datakit/api.Field,datakit/api.Field] -/
def ac131 : AFn :=
 { nt := 19, res := [.tmp 4], body :=
 (.seq (.ops [⟨some 4, .pure .move, [.c (.int .i64 0)], none⟩])
 (.seq (.seq (.ops [⟨some 6, .pure .move, [.t 0], none⟩,
 ⟨some 7, .pure .lenL, [.t 6], none⟩,
 ⟨some 8, .pure .move, [.c (.int .i64 0)], none⟩])
 (.block 0
 (.loop [0, 1, 7, 8]
 (.seq (.ops [⟨some 9, .pure (.bin .lss), [.t 8, .t 7], none⟩])
 (.seq (.cond (.t 9)
 .skip
 (.exit 0))
 (.seq (.block 1
 (.seq (.ops [⟨some 10, .pure .move, [.t 8], none⟩,
 ⟨some 5, .pure .move, [.t 10], none⟩])
 (.seq (.ops [⟨some 11, .pure .move, [.t 1], none⟩,
 ⟨some 12, .pure .move, [.t 0], none⟩,
 ⟨some 13, .pure .move, [.t 5], none⟩,
 ⟨some 14, .pure (.iaddrS 14), [.t 12, .t 13], none⟩,
 ⟨some 15, .read (.load (some 14)), [.t 14], none⟩,
 ⟨some 16, .callv, [.t 11, .t 15], none⟩])
 (.cond (.t 16)
 (.seq (.ops [⟨some 17, .pure .move, [.t 5], none⟩,
 ⟨some 4, .pure .move, [.t 17], none⟩])
 .ret)
 .skip))))
 (.ops [⟨some 18, .pure (.bin .add), [.t 8, .c (.int .i64 1)], none⟩,
 ⟨some 8, .pure .move, [.t 18], none⟩])))))))
 (.seq (.ops [⟨some 4, .pure .move, [.c (.int .i64 (-1))], none⟩])
 .ret))) }
/-- datakit/qpath.put$1 -/
def ac132 : AFn :=
 { nt := 9, res := [.tmp 3], body :=
 (.seq (.ops [⟨some 2, .new (.box 14), [.t 0], none⟩,
 ⟨some 3, .pure .move, [.c (.bool false)], none⟩])
 (.seq (.ops [⟨some 4, .pure (.faddr 0), [.t 2], none⟩,
 ⟨some 5, .read (.load none), [.t 4], none⟩,
 ⟨some 6, .pure (.faddr 1), [.t 1], none⟩,
 ⟨some 7, .read (.load none), [.t 6], none⟩,
 ⟨some 8, .pure (.bin .eql), [.t 5, .t 7], none⟩,
 ⟨some 3, .pure .move, [.t 8], none⟩])
 .ret)) }
/-- datakit/value.check -/
def ac133 : AFn :=
 { nt := 121, res := [.tmp 6], body :=
 (.seq (.ops [⟨some 3, .new (.box 13), [.t 0], none⟩,
 ⟨some 6, .pure .move, [.c (.int .i64 0)], none⟩])
 (.seq (.ops [⟨some 14, .pure .move, [.t 2], none⟩,
 ⟨some 15, .pure .chk, [.t 14], none⟩,
 ⟨some 16, .read (.load none), [.t 15], none⟩,
 ⟨some 17, .pure (.bin .add), [.t 16, .c (.int .i64 1)], none⟩,
 ⟨some 18, .pure .chk, [.t 14], none⟩,
 ⟨none, .eff (.store 1), [.t 18, .t 17], none⟩])
 (.seq (.block 0
 (.seq (.ops [⟨some 20, .pure .move, [.t 1], none⟩,
 ⟨some 21, .pure (.bin .gtr), [.t 20, .c (.int .i64 48)], none⟩,
 ⟨some 19, .pure .move, [.t 21], none⟩])
 (.cond (.t 19)
 (.seq (.ops [⟨some 6, .pure .move, [.c (.int .i64 9)], none⟩])
 .ret)
 (.seq (.ops [⟨some 23, .pure .move, [.t 2], none⟩,
 ⟨some 24, .pure .chk, [.t 23], none⟩,
 ⟨some 25, .read (.load none), [.t 24], none⟩,
 ⟨some 26, .pure (.bin .gtr), [.t 25, .c (.int .i64 65536)], none⟩,
 ⟨some 22, .pure .move, [.t 26], none⟩])
 (.cond (.t 22)
 (.seq (.ops [⟨some 6, .pure .move, [.c (.int .i64 10)], none⟩])
 .ret)
 (.seq (.ops [⟨some 28, .pure (.faddr 0), [.t 3], none⟩,
 ⟨some 29, .read (.load none), [.t 28], none⟩,
 ⟨some 30, .pure (.bin .lss), [.t 29, .c (.int .i64 0)], none⟩,
 ⟨some 31, .pure .move, [.t 30], none⟩,
 ⟨some 32, .pure (.faddr 0), [.t 3], some (31, false)⟩,
 ⟨some 33, .read (.load none), [.t 32], some (31, false)⟩,
 ⟨some 34, .pure (.bin .geq), [.t 33, .c (.int .i64 8)], some (31, false)⟩,
 ⟨some 35, .pure .pick, [.t 31, .c (.bool true), .t 34], none⟩,
 ⟨some 36, .pure .move, [.t 35], none⟩,
 ⟨some 37, .read (.load (some 13)), [.t 3], some (36, false)⟩,
 ⟨some 38, .pcall 139, [.t 37], some (36, false)⟩,
 ⟨some 39, .pure .pick, [.t 36, .c (.bool true), .t 38], none⟩,
 ⟨some 27, .pure .move, [.t 39], none⟩])
 (.cond (.t 27)
 (.seq (.ops [⟨some 6, .pure .move, [.c (.int .i64 6)], none⟩])
 .ret)
 (.seq (.ops [⟨some 41, .pure (.faddr 0), [.t 3], none⟩,
 ⟨some 42, .read (.load none), [.t 41], none⟩,
 ⟨some 43, .pure (.bin .eql), [.t 42, .c (.int .i64 2)], none⟩,
 ⟨some 44, .pure .move, [.t 43], none⟩,
 ⟨some 45, .pure (.faddr 2), [.t 3], some (44, true)⟩,
 ⟨some 46, .read (.load (some 3)), [.t 45], some (44, true)⟩,
 ⟨some 47, .pcall 140, [.t 46], some (44, true)⟩,
 ⟨some 48, .pure (.un .not), [.t 47], some (44, true)⟩,
 ⟨some 49, .pure .pick, [.t 44, .t 48, .c (.bool false)], none⟩,
 ⟨some 50, .pure .move, [.t 49], none⟩,
 ⟨some 51, .pure (.faddr 0), [.t 3], some (50, false)⟩,
 ⟨some 52, .read (.load none), [.t 51], some (50, false)⟩,
 ⟨some 53, .pure (.bin .eql), [.t 52, .c (.int .i64 3)], some (50, false)⟩,
 ⟨some 54, .pure .move, [.t 53], some (50, false)⟩,
 ⟨some 55, .pure (.faddr 5), [.t 3], some (54, true)⟩,
 ⟨some 56, .read (.load (some 4)), [.t 55], some (54, true)⟩,
 ⟨some 57, .pcall 141, [.t 56], some (54, true)⟩,
 ⟨some 58, .pure (.un .not), [.t 57], some (54, true)⟩,
 ⟨some 59, .pure .pick, [.t 54, .t 58, .c (.bool false)], some (50, false)⟩,
 ⟨some 60, .pure .pick, [.t 50, .c (.bool true), .t 59], none⟩,
 ⟨some 40, .pure .move, [.t 60], none⟩])
 (.cond (.t 40)
 (.seq (.ops [⟨some 6, .pure .move, [.c (.int .i64 2)], none⟩])
 .ret)
 (.seq (.ops [⟨some 62, .pure (.faddr 0), [.t 3], none⟩,
 ⟨some 63, .read (.load none), [.t 62], none⟩,
 ⟨some 64, .pure (.bin .eql), [.t 63, .c (.int .i64 4)], none⟩,
 ⟨some 65, .pure .move, [.t 64], none⟩,
 ⟨some 66, .pure (.faddr 9), [.t 3], some (65, true)⟩,
 ⟨some 67, .read (.load none), [.t 66], some (65, true)⟩,
 ⟨some 68, .pcall 46, [.t 67], some (65, true)⟩,
 ⟨some 69, .pure (.un .not), [.t 68], some (65, true)⟩,
 ⟨some 70, .pure .pick, [.t 65, .t 69, .c (.bool false)], none⟩,
 ⟨some 61, .pure .move, [.t 70], none⟩])
 (.cond (.t 61)
 (.seq (.ops [⟨some 6, .pure .move, [.c (.int .i64 5)], none⟩])
 .ret)
 (.seq (.ops [⟨some 72, .pure (.faddr 9), [.t 3], none⟩,
 ⟨some 73, .read (.load none), [.t 72], none⟩,
 ⟨some 74, .pure .lenS, [.t 73], none⟩,
 ⟨some 75, .pure (.bin .gtr), [.t 74, .c (.int .i64 65536)], none⟩,
 ⟨some 76, .pure .move, [.t 75], none⟩,
 ⟨some 77, .pure (.faddr 10), [.t 3], some (76, false)⟩,
 ⟨some 78, .read (.load none), [.t 77], some (76, false)⟩,
 ⟨some 79, .pure .lenL, [.t 78], some (76, false)⟩,
 ⟨some 80, .pure (.bin .gtr), [.t 79, .c (.int .i64 65536)], some (76, false)⟩,
 ⟨some 81, .pure .pick, [.t 76, .c (.bool true), .t 80], none⟩,
 ⟨some 71, .pure .move, [.t 81], none⟩])
 (.cond (.t 71)
 (.seq (.ops [⟨some 6, .pure .move, [.c (.int .i64 10)], none⟩])
 .ret)
 .skip)))))))))))))
 (.seq (.seq (.ops [⟨some 82, .pure (.faddr 12), [.t 3], none⟩,
 ⟨some 83, .read (.load none), [.t 82], none⟩,
 ⟨some 84, .pcall 142, [.t 83], none⟩,
 ⟨some 7, .pure .move, [.t 84], none⟩])
 (.seq (.ops [⟨some 85, .pure .move, [.t 7], none⟩,
 ⟨some 86, .pure (.bin .neq), [.t 85, .c (.int .i64 0)], none⟩])
 (.cond (.t 86)
 (.seq (.ops [⟨some 87, .pure .move, [.t 7], none⟩,
 ⟨some 6, .pure .move, [.t 87], none⟩])
 .ret)
 .skip)))
 (.seq (.seq (.ops [⟨some 88, .pure (.faddr 11), [.t 3], none⟩,
 ⟨some 89, .read (.load none), [.t 88], none⟩,
 ⟨some 90, .pure .lenL, [.t 89], none⟩,
 ⟨some 91, .pure .move, [.c (.int .i64 0)], none⟩])
 (.block 1
 (.loop [1, 2, 3, 89, 90, 91]
 (.seq (.ops [⟨some 92, .pure (.bin .lss), [.t 91, .t 90], none⟩])
 (.seq (.cond (.t 92)
 .skip
 (.exit 1))
 (.seq (.block 2
 (.seq (.ops [⟨some 93, .pure (.iaddrS 13), [.t 89, .t 91], none⟩,
 ⟨some 94, .read (.load (some 13)), [.t 93], none⟩,
 ⟨some 9, .new (.new 13 [.agg [.int .i64 0, .bool false, .bool false, .str [], .int .i64 0, .int .i64 0, .int .i64 0, .int .i64 0, .int .i64 0, .str [], .snil 1, .snil 13, .snil 14]]), [], none⟩,
 ⟨none, .eff (.store 13), [.t 9, .t 94], none⟩])
 (.seq (.ops [⟨some 95, .read (.load (some 13)), [.t 9], none⟩,
 ⟨some 96, .pure .move, [.t 1], none⟩,
 ⟨some 97, .pure (.bin .add), [.t 96, .c (.int .i64 1)], none⟩,
 ⟨some 98, .pure .move, [.t 2], none⟩,
 ⟨some 99, .call 133, [.t 95, .t 97, .t 98], none⟩,
 ⟨some 10, .pure .move, [.t 99], none⟩])
 (.seq (.ops [⟨some 100, .pure .move, [.t 10], none⟩,
 ⟨some 101, .pure (.bin .neq), [.t 100, .c (.int .i64 0)], none⟩])
 (.cond (.t 101)
 (.seq (.ops [⟨some 102, .pure .move, [.t 10], none⟩,
 ⟨some 6, .pure .move, [.t 102], none⟩])
 .ret)
 .skip)))))
 (.ops [⟨some 103, .pure (.bin .add), [.t 91, .c (.int .i64 1)], none⟩,
 ⟨some 91, .pure .move, [.t 103], none⟩])))))))
 (.seq (.seq (.ops [⟨some 104, .pure (.faddr 12), [.t 3], none⟩,
 ⟨some 105, .read (.load none), [.t 104], none⟩,
 ⟨some 106, .pure .lenL, [.t 105], none⟩,
 ⟨some 107, .pure .move, [.c (.int .i64 0)], none⟩])
 (.block 3
 (.loop [1, 2, 105, 106, 107]
 (.seq (.ops [⟨some 108, .pure (.bin .lss), [.t 107, .t 106], none⟩])
 (.seq (.cond (.t 108)
 .skip
 (.exit 3))
 (.seq (.block 4
 (.seq (.ops [⟨some 109, .pure (.iaddrS 14), [.t 105, .t 107], none⟩,
 ⟨some 110, .read (.load (some 14)), [.t 109], none⟩,
 ⟨some 12, .new (.new 14 [.agg [.str [], .int .i64 0, .bool false, .bool false, .str [], .int .i64 0, .int .i64 0, .int .i64 0, .int .i64 0, .int .i64 0, .str [], .snil 1, .snil 13, .snil 14]]), [], none⟩,
 ⟨none, .eff (.store 14), [.t 12, .t 110], none⟩])
 (.seq (.ops [⟨some 111, .pure (.faddr 1), [.t 12], none⟩,
 ⟨some 112, .read (.load (some 13)), [.t 111], none⟩,
 ⟨some 113, .pure .move, [.t 1], none⟩,
 ⟨some 114, .pure (.bin .add), [.t 113, .c (.int .i64 1)], none⟩,
 ⟨some 115, .pure .move, [.t 2], none⟩,
 ⟨some 116, .call 133, [.t 112, .t 114, .t 115], none⟩,
 ⟨some 13, .pure .move, [.t 116], none⟩])
 (.seq (.ops [⟨some 117, .pure .move, [.t 13], none⟩,
 ⟨some 118, .pure (.bin .neq), [.t 117, .c (.int .i64 0)], none⟩])
 (.cond (.t 118)
 (.seq (.ops [⟨some 119, .pure .move, [.t 13], none⟩,
 ⟨some 6, .pure .move, [.t 119], none⟩])
 .ret)
 .skip)))))
 (.ops [⟨some 120, .pure (.bin .add), [.t 107, .c (.int .i64 1)], none⟩,
 ⟨some 107, .pure .move, [.t 120], none⟩])))))))
 (.seq (.ops [⟨some 6, .pure .move, [.c (.int .i64 0)], none⟩])
 .ret))))))) }
/-- datakit/datakitref09.Replace -/
def ac134 : AFn :=
 { nt := 61, res := [.cell 6 (some 13)], body :=
 (.seq (.ops [⟨some 3, .new (.box 13), [.t 0], none⟩,
 ⟨some 5, .new (.box 13), [.t 2], none⟩,
 ⟨some 6, .new (.new 13 [.agg [.int .i64 0, .bool false, .bool false, .str [], .int .i64 0, .int .i64 0, .int .i64 0, .int .i64 0, .int .i64 0, .str [], .snil 1, .snil 13, .snil 14]]), [], none⟩])
 (.seq (.ops [⟨some 12, .pure (.faddr 0), [.t 3], none⟩,
 ⟨some 13, .read (.load none), [.t 12], none⟩,
 ⟨some 14, .pure (.build [.int .i64 0, .bool false, .bool false, .str [], .int .i64 0, .int .i64 0, .int .i64 0, .int .i64 0, .int .i64 0, .str [], .snil 1, .snil 13, .snil 14] [(0, 1)]), [.t 13], none⟩,
 ⟨some 7, .new (.new 13 [.agg [.int .i64 0, .bool false, .bool false, .str [], .int .i64 0, .int .i64 0, .int .i64 0, .int .i64 0, .int .i64 0, .str [], .snil 1, .snil 13, .snil 14]]), [], none⟩,
 ⟨none, .eff (.store 13), [.t 7, .t 14], none⟩])
 (.seq (.seq (.ops [⟨some 8, .pure .move, [.c (.int .i64 0)], none⟩])
 (.block 0
 (.loop [1, 3, 5, 6, 7, 8]
 (.seq (.seq (.ops [⟨some 15, .pure .move, [.t 8], none⟩,
 ⟨some 16, .pure (.faddr 11), [.t 3], none⟩,
 ⟨some 17, .read (.load none), [.t 16], none⟩,
 ⟨some 18, .pure .lenL, [.t 17], none⟩,
 ⟨some 19, .pure (.bin .lss), [.t 15, .t 18], none⟩])
 (.cond (.t 19)
 .skip
 (.exit 0)))
 (.seq (.block 1
 (.seq (.ops [⟨some 22, .pure (.faddr 11), [.t 3], none⟩,
 ⟨some 23, .read (.load none), [.t 22], none⟩,
 ⟨some 24, .pure .move, [.t 8], none⟩,
 ⟨some 25, .pure (.iaddrS 13), [.t 23, .t 24], none⟩,
 ⟨some 26, .read (.load (some 13)), [.t 25], none⟩,
 ⟨some 9, .new (.new 13 [.agg [.int .i64 0, .bool false, .bool false, .str [], .int .i64 0, .int .i64 0, .int .i64 0, .int .i64 0, .int .i64 0, .str [], .snil 1, .snil 13, .snil 14]]), [], none⟩,
 ⟨none, .eff (.store 13), [.t 9, .t 26], none⟩])
 (.seq (.seq (.ops [⟨some 27, .pure .move, [.t 8], none⟩,
 ⟨some 28, .pure .move, [.t 1], none⟩,
 ⟨some 29, .pure (.bin .eql), [.t 27, .t 28], none⟩])
 (.cond (.t 29)
 (.ops [⟨some 30, .read (.load (some 13)), [.t 5], none⟩,
 ⟨none, .eff (.store 13), [.t 9, .t 30], none⟩])
 .skip))
 (.ops [⟨some 31, .pure (.faddr 11), [.t 7], none⟩,
 ⟨some 32, .read (.load none), [.t 31], none⟩,
 ⟨some 33, .read (.load (some 13)), [.t 9], none⟩,
 ⟨some 34, .new (.buildSlice 13 [.agg [.int .i64 0, .bool false, .bool false, .str [], .int .i64 0, .int .i64 0, .int .i64 0, .int .i64 0, .int .i64 0, .str [], .snil 1, .snil 13, .snil 14]] [0]), [.t 33], none⟩,
 ⟨some 35, .eff (.append 13 168), [.t 32, .t 34], none⟩,
 ⟨some 36, .pure (.faddr 11), [.t 7], none⟩,
 ⟨none, .eff (.store 1), [.t 36, .t 35], none⟩]))))
 (.ops [⟨some 20, .pure .move, [.t 8], none⟩,
 ⟨some 21, .pure (.bin .add), [.t 20, .c (.int .i64 1)], none⟩,
 ⟨some 8, .pure .move, [.t 21], none⟩]))))))
 (.seq (.seq (.ops [⟨some 10, .pure .move, [.c (.int .i64 0)], none⟩])
 (.block 2
 (.loop [1, 3, 5, 6, 7, 10]
 (.seq (.seq (.ops [⟨some 37, .pure .move, [.t 10], none⟩,
 ⟨some 38, .pure (.faddr 12), [.t 3], none⟩,
 ⟨some 39, .read (.load none), [.t 38], none⟩,
 ⟨some 40, .pure .lenL, [.t 39], none⟩,
 ⟨some 41, .pure (.bin .lss), [.t 37, .t 40], none⟩])
 (.cond (.t 41)
 .skip
 (.exit 2)))
 (.seq (.block 3
 (.seq (.ops [⟨some 44, .pure (.faddr 12), [.t 3], none⟩,
 ⟨some 45, .read (.load none), [.t 44], none⟩,
 ⟨some 46, .pure .move, [.t 10], none⟩,
 ⟨some 47, .pure (.iaddrS 14), [.t 45, .t 46], none⟩,
 ⟨some 48, .read (.load (some 14)), [.t 47], none⟩,
 ⟨some 11, .new (.new 14 [.agg [.str [], .int .i64 0, .bool false, .bool false, .str [], .int .i64 0, .int .i64 0, .int .i64 0, .int .i64 0, .int .i64 0, .str [], .snil 1, .snil 13, .snil 14]]), [], none⟩,
 ⟨none, .eff (.store 14), [.t 11, .t 48], none⟩])
 (.seq (.seq (.ops [⟨some 49, .pure .move, [.t 10], none⟩,
 ⟨some 50, .pure .move, [.t 1], none⟩,
 ⟨some 51, .pure (.bin .eql), [.t 49, .t 50], none⟩])
 (.cond (.t 51)
 (.ops [⟨some 52, .read (.load (some 13)), [.t 5], none⟩,
 ⟨some 53, .pure (.faddr 1), [.t 11], none⟩,
 ⟨none, .eff (.store 13), [.t 53, .t 52], none⟩])
 .skip))
 (.ops [⟨some 54, .pure (.faddr 12), [.t 7], none⟩,
 ⟨some 55, .read (.load none), [.t 54], none⟩,
 ⟨some 56, .read (.load (some 14)), [.t 11], none⟩,
 ⟨some 57, .new (.buildSlice 14 [.agg [.str [], .int .i64 0, .bool false, .bool false, .str [], .int .i64 0, .int .i64 0, .int .i64 0, .int .i64 0, .int .i64 0, .str [], .snil 1, .snil 13, .snil 14]] [0]), [.t 56], none⟩,
 ⟨some 58, .eff (.append 14 184), [.t 55, .t 57], none⟩,
 ⟨some 59, .pure (.faddr 12), [.t 7], none⟩,
 ⟨none, .eff (.store 1), [.t 59, .t 58], none⟩]))))
 (.ops [⟨some 42, .pure .move, [.t 10], none⟩,
 ⟨some 43, .pure (.bin .add), [.t 42, .c (.int .i64 1)], none⟩,
 ⟨some 10, .pure .move, [.t 43], none⟩]))))))
 (.seq (.ops [⟨some 60, .read (.load (some 13)), [.t 7], none⟩,
 ⟨none, .eff (.store 13), [.t 6, .t 60], none⟩])
 .ret))))) }
/-- datakit/datakitref09.More -/
def ac135 : AFn :=
 { nt := 24, res := [.cell 6 (some 13)], body :=
 (.seq (.ops [⟨some 3, .new (.box 13), [.t 0], none⟩,
 ⟨some 5, .new (.box 13), [.t 2], none⟩,
 ⟨some 6, .new (.new 13 [.agg [.int .i64 0, .bool false, .bool false, .str [], .int .i64 0, .int .i64 0, .int .i64 0, .int .i64 0, .int .i64 0, .str [], .snil 1, .snil 13, .snil 14]]), [], none⟩])
 (.seq (.ops [⟨some 8, .pure (.build [.int .i64 0, .bool false, .bool false, .str [], .int .i64 0, .int .i64 0, .int .i64 0, .int .i64 0, .int .i64 0, .str [], .snil 1, .snil 13, .snil 14] [(0, 1)]), [.c (.int .i64 7)], none⟩,
 ⟨some 7, .new (.new 13 [.agg [.int .i64 0, .bool false, .bool false, .str [], .int .i64 0, .int .i64 0, .int .i64 0, .int .i64 0, .int .i64 0, .str [], .snil 1, .snil 13, .snil 14]]), [], none⟩,
 ⟨none, .eff (.store 13), [.t 7, .t 8], none⟩])
 (.seq (.ops [⟨some 9, .pure (.faddr 12), [.t 7], none⟩,
 ⟨some 10, .read (.load none), [.t 9], none⟩,
 ⟨some 11, .pure (.faddr 12), [.t 3], none⟩,
 ⟨some 12, .read (.load none), [.t 11], none⟩,
 ⟨some 13, .eff (.append 14 184), [.t 10, .t 12], none⟩,
 ⟨some 14, .pure (.faddr 12), [.t 7], none⟩,
 ⟨none, .eff (.store 1), [.t 14, .t 13], none⟩])
 (.seq (.ops [⟨some 15, .pure (.faddr 12), [.t 7], none⟩,
 ⟨some 16, .read (.load none), [.t 15], none⟩,
 ⟨some 17, .pure .move, [.t 1], none⟩,
 ⟨some 18, .read (.load (some 13)), [.t 5], none⟩,
 ⟨some 19, .pure (.build [.str [], .int .i64 0, .bool false, .bool false, .str [], .int .i64 0, .int .i64 0, .int .i64 0, .int .i64 0, .int .i64 0, .str [], .snil 1, .snil 13, .snil 14] [(0, 1), (1, 13)]), [.t 17, .t 18], none⟩,
 ⟨some 20, .new (.buildSlice 14 [.agg [.str [], .int .i64 0, .bool false, .bool false, .str [], .int .i64 0, .int .i64 0, .int .i64 0, .int .i64 0, .int .i64 0, .str [], .snil 1, .snil 13, .snil 14]] [0]), [.t 19], none⟩,
 ⟨some 21, .eff (.append 14 184), [.t 16, .t 20], none⟩,
 ⟨some 22, .pure (.faddr 12), [.t 7], none⟩,
 ⟨none, .eff (.store 1), [.t 22, .t 21], none⟩])
 (.seq (.ops [⟨some 23, .read (.load (some 13)), [.t 7], none⟩,
 ⟨none, .eff (.store 13), [.t 6, .t 23], none⟩])
 .ret))))) }
/-- datakit/value.extra -/
def ac139 : AFn :=
 { nt := 71, res := [.tmp 2], body :=
 (.seq (.ops [⟨some 1, .new (.box 13), [.t 0], none⟩,
 ⟨some 2, .pure .move, [.c (.bool false)], none⟩])
 (.seq (.ops [⟨some 4, .pure (.faddr 0), [.t 1], none⟩,
 ⟨some 5, .read (.load none), [.t 4], none⟩,
 ⟨some 3, .pure .move, [.t 5], none⟩])
 (.seq (.ops [⟨some 6, .pure .move, [.t 3], none⟩,
 ⟨some 7, .pure (.bin .neq), [.t 6, .c (.int .i64 1)], none⟩,
 ⟨some 8, .pure .move, [.t 7], none⟩,
 ⟨some 9, .pure (.faddr 1), [.t 1], some (8, true)⟩,
 ⟨some 10, .read (.load none), [.t 9], some (8, true)⟩,
 ⟨some 11, .pure .pick, [.t 8, .t 10, .c (.bool false)], none⟩,
 ⟨some 12, .pure .move, [.t 11], none⟩,
 ⟨some 13, .pure .move, [.t 3], some (12, false)⟩,
 ⟨some 14, .pure (.bin .neq), [.t 13, .c (.int .i64 2)], some (12, false)⟩,
 ⟨some 15, .pure .move, [.t 14], some (12, false)⟩,
 ⟨some 16, .pure (.faddr 2), [.t 1], some (15, true)⟩,
 ⟨some 17, .read (.load (some 3)), [.t 16], some (15, true)⟩,
 ⟨some 18, .pure (.build [.bool false, .str [], .int .i64 0] []), [], some (15, true)⟩,
 ⟨some 19, .pure (.eqF [.bool, .str, .int] true), [.t 17, .t 18], some (15, true)⟩,
 ⟨some 20, .pure .pick, [.t 15, .t 19, .c (.bool false)], some (12, false)⟩,
 ⟨some 21, .pure .pick, [.t 12, .c (.bool true), .t 20], none⟩,
 ⟨some 22, .pure .move, [.t 21], none⟩,
 ⟨some 23, .pure .move, [.t 3], some (22, false)⟩,
 ⟨some 24, .pure (.bin .neq), [.t 23, .c (.int .i64 3)], some (22, false)⟩,
 ⟨some 25, .pure .move, [.t 24], some (22, false)⟩,
 ⟨some 26, .pure (.faddr 5), [.t 1], some (25, true)⟩,
 ⟨some 27, .read (.load (some 4)), [.t 26], some (25, true)⟩,
 ⟨some 28, .pure (.build [.int .i64 0, .int .i64 0, .int .i64 0, .int .i64 0] []), [], some (25, true)⟩,
 ⟨some 29, .pure (.eqF [.int, .int, .int, .int] true), [.t 27, .t 28], some (25, true)⟩,
 ⟨some 30, .pure .pick, [.t 25, .t 29, .c (.bool false)], some (22, false)⟩,
 ⟨some 31, .pure .pick, [.t 22, .c (.bool true), .t 30], none⟩,
 ⟨some 32, .pure .move, [.t 31], none⟩,
 ⟨some 33, .pure .move, [.t 3], some (32, false)⟩,
 ⟨some 34, .pure (.bin .neq), [.t 33, .c (.int .i64 4)], some (32, false)⟩,
 ⟨some 35, .pure .move, [.t 34], some (32, false)⟩,
 ⟨some 36, .pure (.faddr 9), [.t 1], some (35, true)⟩,
 ⟨some 37, .read (.load none), [.t 36], some (35, true)⟩,
 ⟨some 38, .pure (.bin .neq), [.t 37, .c (.str [])], some (35, true)⟩,
 ⟨some 39, .pure .pick, [.t 35, .t 38, .c (.bool false)], some (32, false)⟩,
 ⟨some 40, .pure .pick, [.t 32, .c (.bool true), .t 39], none⟩,
 ⟨some 41, .pure .move, [.t 40], none⟩,
 ⟨some 42, .pure .move, [.t 3], some (41, false)⟩,
 ⟨some 43, .pure (.bin .neq), [.t 42, .c (.int .i64 5)], some (41, false)⟩,
 ⟨some 44, .pure .move, [.t 43], some (41, false)⟩,
 ⟨some 45, .pure (.faddr 10), [.t 1], some (44, true)⟩,
 ⟨some 46, .read (.load none), [.t 45], some (44, true)⟩,
 ⟨some 47, .pure .lenL, [.t 46], some (44, true)⟩,
 ⟨some 48, .pure (.bin .gtr), [.t 47, .c (.int .i64 0)], some (44, true)⟩,
 ⟨some 49, .pure .pick, [.t 44, .t 48, .c (.bool false)], some (41, false)⟩,
 ⟨some 50, .pure .pick, [.t 41, .c (.bool true), .t 49], none⟩,
 ⟨some 51, .pure .move, [.t 50], none⟩,
 ⟨some 52, .pure .move, [.t 3], some (51, false)⟩,
 ⟨some 53, .pure (.bin .neq), [.t 52, .c (.int .i64 6)], some (51, false)⟩,
 ⟨some 54, .pure .move, [.t 53], some (51, false)⟩,
 ⟨some 55, .pure (.faddr 11), [.t 1], some (54, true)⟩,
 ⟨some 56, .read (.load none), [.t 55], some (54, true)⟩,
 ⟨some 57, .pure .lenL, [.t 56], some (54, true)⟩,
 ⟨some 58, .pure (.bin .gtr), [.t 57, .c (.int .i64 0)], some (54, true)⟩,
 ⟨some 59, .pure .pick, [.t 54, .t 58, .c (.bool false)], some (51, false)⟩,
 ⟨some 60, .pure .pick, [.t 51, .c (.bool true), .t 59], none⟩,
 ⟨some 61, .pure .move, [.t 60], none⟩,
 ⟨some 62, .pure .move, [.t 3], some (61, false)⟩,
 ⟨some 63, .pure (.bin .neq), [.t 62, .c (.int .i64 7)], some (61, false)⟩,
 ⟨some 64, .pure .move, [.t 63], some (61, false)⟩,
 ⟨some 65, .pure (.faddr 12), [.t 1], some (64, true)⟩,
 ⟨some 66, .read (.load none), [.t 65], some (64, true)⟩,
 ⟨some 67, .pure .lenL, [.t 66], some (64, true)⟩,
 ⟨some 68, .pure (.bin .gtr), [.t 67, .c (.int .i64 0)], some (64, true)⟩,
 ⟨some 69, .pure .pick, [.t 64, .t 68, .c (.bool false)], some (61, false)⟩,
 ⟨some 70, .pure .pick, [.t 61, .c (.bool true), .t 69], none⟩,
 ⟨some 2, .pure .move, [.t 70], none⟩])
 .ret))) }
/-- datakit/decimal.Valid -/
def ac140 : AFn :=
 { nt := 34, res := [.tmp 2], body :=
 (.seq (.ops [⟨some 1, .new (.box 3), [.t 0], none⟩,
 ⟨some 2, .pure .move, [.c (.bool false)], none⟩])
 (.seq (.seq (.ops [⟨some 3, .pure (.faddr 1), [.t 1], none⟩,
 ⟨some 4, .read (.load none), [.t 3], none⟩,
 ⟨some 5, .pure (.bin .eql), [.t 4, .c (.str [])], none⟩])
 (.cond (.t 5)
 (.seq (.ops [⟨some 6, .read (.load (some 3)), [.t 1], none⟩,
 ⟨some 7, .pure (.build [.bool false, .str [], .int .i64 0] []), [], none⟩,
 ⟨some 8, .pure (.eqF [.bool, .str, .int] false), [.t 6, .t 7], none⟩,
 ⟨some 2, .pure .move, [.t 8], none⟩])
 .ret)
 .skip))
 (.seq (.ops [⟨some 9, .pure (.faddr 1), [.t 1], none⟩,
 ⟨some 10, .read (.load none), [.t 9], none⟩,
 ⟨some 11, .pcall 149, [.t 10], none⟩,
 ⟨some 12, .pure .move, [.t 11], none⟩,
 ⟨some 13, .pure (.faddr 1), [.t 1], some (12, true)⟩,
 ⟨some 14, .read (.load none), [.t 13], some (12, true)⟩,
 ⟨some 15, .pure .lenS, [.t 14], some (12, true)⟩,
 ⟨some 16, .pure (.bin .leq), [.t 15, .c (.int .i64 120)], some (12, true)⟩,
 ⟨some 17, .pure .pick, [.t 12, .t 16, .c (.bool false)], none⟩,
 ⟨some 18, .pure .move, [.t 17], none⟩,
 ⟨some 19, .pure (.faddr 1), [.t 1], some (18, true)⟩,
 ⟨some 20, .read (.load none), [.t 19], some (18, true)⟩,
 ⟨some 21, .pcall 150, [.t 20], some (18, true)⟩,
 ⟨some 22, .pure (.bin .eql), [.t 21, .c (.int .i64 0)], some (18, true)⟩,
 ⟨some 23, .pure .pick, [.t 18, .t 22, .c (.bool false)], none⟩,
 ⟨some 24, .pure .move, [.t 23], none⟩,
 ⟨some 25, .pure (.faddr 2), [.t 1], some (24, true)⟩,
 ⟨some 26, .read (.load none), [.t 25], some (24, true)⟩,
 ⟨some 27, .pure (.bin .geq), [.t 26, .c (.int .i64 (-400))], some (24, true)⟩,
 ⟨some 28, .pure .pick, [.t 24, .t 27, .c (.bool false)], none⟩,
 ⟨some 29, .pure .move, [.t 28], none⟩,
 ⟨some 30, .pure (.faddr 2), [.t 1], some (29, true)⟩,
 ⟨some 31, .read (.load none), [.t 30], some (29, true)⟩,
 ⟨some 32, .pure (.bin .leq), [.t 31, .c (.int .i64 400)], some (29, true)⟩,
 ⟨some 33, .pure .pick, [.t 29, .t 32, .c (.bool false)], none⟩,
 ⟨some 2, .pure .move, [.t 33], none⟩])
 .ret))) }
/-- datakit/moment.Valid -/
def ac141 : AFn :=
 { nt := 68, res := [.tmp 2], body :=
 (.seq (.ops [⟨some 1, .new (.box 4), [.t 0], none⟩,
 ⟨some 2, .pure .move, [.c (.bool false)], none⟩])
 (.seq (.seq (.ops [⟨some 3, .pure (.faddr 0), [.t 1], none⟩,
 ⟨some 4, .read (.load none), [.t 3], none⟩,
 ⟨some 5, .pure (.bin .lss), [.t 4, .c (.int .i64 1)], none⟩,
 ⟨some 6, .pure .move, [.t 5], none⟩,
 ⟨some 7, .pure (.faddr 0), [.t 1], some (6, false)⟩,
 ⟨some 8, .read (.load none), [.t 7], some (6, false)⟩,
 ⟨some 9, .pure (.bin .gtr), [.t 8, .c (.int .i64 4)], some (6, false)⟩,
 ⟨some 10, .pure .pick, [.t 6, .c (.bool true), .t 9], none⟩,
 ⟨some 11, .pure .move, [.t 10], none⟩,
 ⟨some 12, .pure (.faddr 1), [.t 1], some (11, false)⟩,
 ⟨some 13, .read (.load none), [.t 12], some (11, false)⟩,
 ⟨some 14, .pure (.bin .lss), [.t 13, .c (.int .i64 0)], some (11, false)⟩,
 ⟨some 15, .pure .pick, [.t 11, .c (.bool true), .t 14], none⟩,
 ⟨some 16, .pure .move, [.t 15], none⟩,
 ⟨some 17, .pure (.faddr 1), [.t 1], some (16, false)⟩,
 ⟨some 18, .read (.load none), [.t 17], some (16, false)⟩,
 ⟨some 19, .pure (.bin .gtr), [.t 18, .c (.int .i64 3652058)], some (16, false)⟩,
 ⟨some 20, .pure .pick, [.t 16, .c (.bool true), .t 19], none⟩,
 ⟨some 21, .pure .move, [.t 20], none⟩,
 ⟨some 22, .pure (.faddr 2), [.t 1], some (21, false)⟩,
 ⟨some 23, .read (.load none), [.t 22], some (21, false)⟩,
 ⟨some 24, .pure (.bin .lss), [.t 23, .c (.int .i64 0)], some (21, false)⟩,
 ⟨some 25, .pure .pick, [.t 21, .c (.bool true), .t 24], none⟩,
 ⟨some 26, .pure .move, [.t 25], none⟩,
 ⟨some 27, .pure (.faddr 2), [.t 1], some (26, false)⟩,
 ⟨some 28, .read (.load none), [.t 27], some (26, false)⟩,
 ⟨some 29, .pure (.bin .gtr), [.t 28, .c (.int .i64 86399999999999)], some (26, false)⟩,
 ⟨some 30, .pure .pick, [.t 26, .c (.bool true), .t 29], none⟩,
 ⟨some 31, .pure .move, [.t 30], none⟩,
 ⟨some 32, .pure (.faddr 3), [.t 1], some (31, false)⟩,
 ⟨some 33, .read (.load none), [.t 32], some (31, false)⟩,
 ⟨some 34, .pure (.bin .lss), [.t 33, .c (.int .i64 (-1439))], some (31, false)⟩,
 ⟨some 35, .pure .pick, [.t 31, .c (.bool true), .t 34], none⟩,
 ⟨some 36, .pure .move, [.t 35], none⟩,
 ⟨some 37, .pure (.faddr 3), [.t 1], some (36, false)⟩,
 ⟨some 38, .read (.load none), [.t 37], some (36, false)⟩,
 ⟨some 39, .pure (.bin .gtr), [.t 38, .c (.int .i64 1439)], some (36, false)⟩,
 ⟨some 40, .pure .pick, [.t 36, .c (.bool true), .t 39], none⟩])
 (.cond (.t 40)
 (.seq (.ops [⟨some 2, .pure .move, [.c (.bool false)], none⟩])
 .ret)
 .skip))
 (.seq (.seq (.ops [⟨some 41, .pure (.faddr 0), [.t 1], none⟩,
 ⟨some 42, .read (.load none), [.t 41], none⟩])
 (.block 0
 (.seq (.ops [⟨some 44, .pure (.bin .eql), [.t 42, .c (.int .i64 2)], none⟩,
 ⟨some 43, .pure .move, [.t 44], none⟩])
 (.cond (.t 43)
 (.seq (.ops [⟨some 45, .pure (.faddr 1), [.t 1], none⟩,
 ⟨some 46, .read (.load none), [.t 45], none⟩,
 ⟨some 47, .pure (.bin .eql), [.t 46, .c (.int .i64 0)], none⟩,
 ⟨some 48, .pure .move, [.t 47], none⟩,
 ⟨some 49, .pure (.faddr 3), [.t 1], some (48, true)⟩,
 ⟨some 50, .read (.load none), [.t 49], some (48, true)⟩,
 ⟨some 51, .pure (.bin .eql), [.t 50, .c (.int .i64 0)], some (48, true)⟩,
 ⟨some 52, .pure .pick, [.t 48, .t 51, .c (.bool false)], none⟩,
 ⟨some 2, .pure .move, [.t 52], none⟩])
 .ret)
 (.seq (.ops [⟨some 54, .pure (.bin .eql), [.t 42, .c (.int .i64 1)], none⟩,
 ⟨some 53, .pure .move, [.t 54], none⟩])
 (.cond (.t 53)
 (.seq (.ops [⟨some 55, .pure (.faddr 2), [.t 1], none⟩,
 ⟨some 56, .read (.load none), [.t 55], none⟩,
 ⟨some 57, .pure (.bin .eql), [.t 56, .c (.int .i64 0)], none⟩,
 ⟨some 58, .pure .move, [.t 57], none⟩,
 ⟨some 59, .pure (.faddr 3), [.t 1], some (58, true)⟩,
 ⟨some 60, .read (.load none), [.t 59], some (58, true)⟩,
 ⟨some 61, .pure (.bin .eql), [.t 60, .c (.int .i64 0)], some (58, true)⟩,
 ⟨some 62, .pure .pick, [.t 58, .t 61, .c (.bool false)], none⟩,
 ⟨some 2, .pure .move, [.t 62], none⟩])
 .ret)
 (.seq (.ops [⟨some 64, .pure (.bin .eql), [.t 42, .c (.int .i64 3)], none⟩,
 ⟨some 63, .pure .move, [.t 64], none⟩])
 (.cond (.t 63)
 (.seq (.ops [⟨some 65, .pure (.faddr 3), [.t 1], none⟩,
 ⟨some 66, .read (.load none), [.t 65], none⟩,
 ⟨some 67, .pure (.bin .eql), [.t 66, .c (.int .i64 0)], none⟩,
 ⟨some 2, .pure .move, [.t 67], none⟩])
 .ret)
 .skip))))))))
 (.seq (.ops [⟨some 2, .pure .move, [.c (.bool true)], none⟩])
 .ret)))) }
/-- datakit/value.keys -/
def ac142 : AFn :=
 { nt := 28, res := [.tmp 2], body :=
 (.seq (.ops [⟨some 2, .pure .move, [.c (.int .i64 0)], none⟩])
 (.seq (.ops [⟨some 7, .new .mkMap, [], none⟩,
 ⟨some 3, .pure .move, [.t 7], none⟩])
 (.seq (.seq (.ops [⟨some 8, .pure .move, [.t 0], none⟩,
 ⟨some 9, .pure .lenL, [.t 8], none⟩,
 ⟨some 10, .pure .move, [.c (.int .i64 0)], none⟩])
 (.block 0
 (.loop [3, 8, 9, 10]
 (.seq (.ops [⟨some 11, .pure (.bin .lss), [.t 10, .t 9], none⟩])
 (.seq (.cond (.t 11)
 .skip
 (.exit 0))
 (.seq (.block 1
 (.seq (.ops [⟨some 12, .pure (.iaddrS 14), [.t 8, .t 10], none⟩,
 ⟨some 13, .read (.load (some 14)), [.t 12], none⟩,
 ⟨some 5, .new (.new 14 [.agg [.str [], .int .i64 0, .bool false, .bool false, .str [], .int .i64 0, .int .i64 0, .int .i64 0, .int .i64 0, .int .i64 0, .str [], .snil 1, .snil 13, .snil 14]]), [], none⟩,
 ⟨none, .eff (.store 14), [.t 5, .t 13], none⟩])
 (.seq (.seq (.ops [⟨some 14, .pure (.faddr 0), [.t 5], none⟩,
 ⟨some 15, .read (.load none), [.t 14], none⟩,
 ⟨some 16, .pcall 151, [.t 15], none⟩,
 ⟨some 6, .pure .move, [.t 16], none⟩])
 (.seq (.ops [⟨some 17, .pure .move, [.t 6], none⟩,
 ⟨some 18, .pure (.bin .neq), [.t 17, .c (.int .i64 0)], none⟩])
 (.cond (.t 18)
 (.seq (.ops [⟨some 19, .pure .move, [.t 6], none⟩,
 ⟨some 2, .pure .move, [.t 19], none⟩])
 .ret)
 .skip)))
 (.seq (.seq (.ops [⟨some 20, .pure .move, [.t 3], none⟩,
 ⟨some 21, .pure (.faddr 0), [.t 5], none⟩,
 ⟨some 22, .read (.load none), [.t 21], none⟩,
 ⟨some 23, .read (.lookup (.one .str) (.bool false) false), [.t 20, .t 22], none⟩])
 (.cond (.t 23)
 (.seq (.ops [⟨some 2, .pure .move, [.c (.int .i64 8)], none⟩])
 .ret)
 .skip))
 (.ops [⟨some 24, .pure .move, [.t 3], none⟩,
 ⟨some 25, .pure (.faddr 0), [.t 5], none⟩,
 ⟨some 26, .read (.load none), [.t 25], none⟩,
 ⟨none, .eff (.mapSet (.one .str)), [.t 24, .t 26, .c (.bool true)], none⟩])))))
 (.ops [⟨some 27, .pure (.bin .add), [.t 10, .c (.int .i64 1)], none⟩,
 ⟨some 10, .pure .move, [.t 27], none⟩])))))))
 (.seq (.ops [⟨some 2, .pure .move, [.c (.int .i64 0)], none⟩])
 .ret)))) }
/-- strings.TrimRight -/
def ac148 : AFn :=
 { nt := 37, res := [.tmp 4], body :=
 (.seq (.ops [⟨some 4, .pure .move, [.c (.str [])], none⟩])
 (.seq (.seq (.ops [⟨some 7, .pure .move, [.t 0], none⟩,
 ⟨some 8, .pure (.bin .eql), [.t 7, .c (.str [])], none⟩,
 ⟨some 9, .pure .move, [.t 8], none⟩,
 ⟨some 10, .pure .move, [.t 1], some (9, false)⟩,
 ⟨some 11, .pure (.bin .eql), [.t 10, .c (.str [])], some (9, false)⟩,
 ⟨some 12, .pure .pick, [.t 9, .c (.bool true), .t 11], none⟩])
 (.cond (.t 12)
 (.seq (.ops [⟨some 13, .pure .move, [.t 0], none⟩,
 ⟨some 4, .pure .move, [.t 13], none⟩])
 .ret)
 .skip))
 (.seq (.seq (.ops [⟨some 14, .pure .move, [.t 1], none⟩,
 ⟨some 15, .pure .lenS, [.t 14], none⟩,
 ⟨some 16, .pure (.bin .eql), [.t 15, .c (.int .i64 1)], none⟩,
 ⟨some 17, .pure .move, [.t 16], none⟩,
 ⟨some 18, .pure .move, [.t 1], some (17, true)⟩,
 ⟨some 19, .pure .idxStr, [.t 18, .c (.int .i64 0)], some (17, true)⟩,
 ⟨some 20, .pure (.bin .lss), [.t 19, .c (.int .u8 128)], some (17, true)⟩,
 ⟨some 21, .pure .pick, [.t 17, .t 20, .c (.bool false)], none⟩])
 (.cond (.t 21)
 (.seq (.ops [⟨some 22, .pure .move, [.t 0], none⟩,
 ⟨some 23, .pure .move, [.t 1], none⟩,
 ⟨some 24, .pure .idxStr, [.t 23, .c (.int .i64 0)], none⟩,
 ⟨some 25, .pcall 155, [.t 22, .t 24], none⟩,
 ⟨some 4, .pure .move, [.t 25], none⟩])
 .ret)
 .skip))
 (.seq (.seq (.ops [⟨some 27, .pure .move, [.t 1], none⟩,
 ⟨some 28, .bad, [], none⟩,
 ⟨some 26, .pure .move, [.t 28], none⟩,
 ⟨some 29, .pure (.ext 0), [.t 26], none⟩,
 ⟨some 30, .pure (.ext 1), [.t 26], none⟩,
 ⟨some 5, .new (.new 1 [.bool false, .bool false, .bool false, .bool false, .bool false, .bool false, .bool false, .bool false, .bool false, .bool false, .bool false, .bool false, .bool false, .bool false, .bool false, .bool false, .bool false, .bool false, .bool false, .bool false, .bool false, .bool false, .bool false, .bool false, .bool false, .bool false, .bool false, .bool false, .bool false, .bool false, .bool false, .bool false, .bool false, .bool false, .bool false, .bool false, .bool false, .bool false, .bool false, .bool false, .bool false, .bool false, .bool false, .bool false, .bool false, .bool false, .bool false, .bool false, .bool false, .bool false, .bool false, .bool false, .bool false, .bool false, .bool false, .bool false, .bool false, .bool false, .bool false, .bool false, .bool false, .bool false, .bool false, .bool false, .bool false, .bool false, .bool false, .bool false, .bool false, .bool false, .bool false, .bool false, .bool false, .bool false, .bool false, .bool false, .bool false, .bool false, .bool false, .bool false, .bool false, .bool false, .bool false, .bool false, .bool false, .bool false, .bool false, .bool false, .bool false, .bool false, .bool false, .bool false, .bool false, .bool false, .bool false, .bool false, .bool false, .bool false, .bool false, .bool false, .bool false, .bool false, .bool false, .bool false, .bool false, .bool false, .bool false, .bool false, .bool false, .bool false, .bool false, .bool false, .bool false, .bool false, .bool false, .bool false, .bool false, .bool false, .bool false, .bool false, .bool false, .bool false, .bool false, .bool false, .bool false, .bool false, .bool false, .bool false, .bool false, .bool false, .bool false, .bool false, .bool false, .bool false, .bool false, .bool false, .bool false, .bool false, .bool false, .bool false, .bool false, .bool false, .bool false, .bool false, .bool false, .bool false, .bool false, .bool false, .bool false, .bool false, .bool false, .bool false, .bool false, .bool false, .bool false, .bool false, .bool false, .bool false, .bool false, .bool false, .bool false, .bool false, .bool false, .bool false, .bool false, .bool false, .bool false, .bool false, .bool false, .bool false, .bool false, .bool false, .bool false, .bool false, .bool false, .bool false, .bool false, .bool false, .bool false, .bool false, .bool false, .bool false, .bool false, .bool false, .bool false, .bool false, .bool false, .bool false, .bool false, .bool false, .bool false, .bool false, .bool false, .bool false, .bool false, .bool false, .bool false, .bool false, .bool false, .bool false, .bool false, .bool false, .bool false, .bool false, .bool false, .bool false, .bool false, .bool false, .bool false, .bool false, .bool false, .bool false, .bool false, .bool false, .bool false, .bool false, .bool false, .bool false, .bool false, .bool false, .bool false, .bool false, .bool false, .bool false, .bool false, .bool false, .bool false, .bool false, .bool false, .bool false, .bool false, .bool false, .bool false, .bool false, .bool false, .bool false, .bool false, .bool false, .bool false, .bool false, .bool false, .bool false, .bool false, .bool false, .bool false, .bool false, .bool false, .bool false, .bool false, .bool false, .bool false, .bool false, .bool false, .bool false, .bool false, .bool false]), [], none⟩,
 ⟨none, .eff (.store 256), [.t 5, .t 29], none⟩,
 ⟨some 6, .pure .move, [.t 30], none⟩])
 (.seq (.ops [⟨some 31, .pure .move, [.t 6], none⟩])
 (.cond (.t 31)
 (.seq (.ops [⟨some 32, .pure .move, [.t 0], none⟩,
 ⟨some 33, .bad, [], none⟩,
 ⟨some 4, .pure .move, [.t 33], none⟩])
 .ret)
 .skip)))
 (.seq (.ops [⟨some 34, .pure .move, [.t 0], none⟩,
 ⟨some 35, .pure .move, [.t 1], none⟩,
 ⟨some 36, .bad, [], none⟩,
 ⟨some 4, .pure .move, [.t 36], none⟩])
 .ret))))) }
/-- datakit/digits.Valid -/
def ac149 : AFn :=
 { nt := 19, res := [.tmp 2], body :=
 (.seq (.ops [⟨some 2, .pure .move, [.c (.bool false)], none⟩])
 (.seq (.ops [⟨some 3, .pure .move, [.t 0], none⟩,
 ⟨some 4, .pure .lenS, [.t 3], none⟩,
 ⟨some 5, .pure (.bin .leq), [.t 4, .c (.int .i64 600)], none⟩,
 ⟨some 6, .pure .move, [.t 5], none⟩,
 ⟨some 7, .pure .move, [.t 0], some (6, true)⟩,
 ⟨some 8, .pcall 158, [.t 7], some (6, true)⟩,
 ⟨some 9, .pure .pick, [.t 6, .t 8, .c (.bool false)], none⟩,
 ⟨some 10, .pure .move, [.t 9], none⟩,
 ⟨some 11, .pure .move, [.t 0], some (10, true)⟩,
 ⟨some 12, .pure (.bin .eql), [.t 11, .c (.str [])], some (10, true)⟩,
 ⟨some 13, .pure .move, [.t 12], some (10, true)⟩,
 ⟨some 14, .pure .move, [.t 0], some (13, false)⟩,
 ⟨some 15, .pure .idxStr, [.t 14, .c (.int .i64 0)], some (13, false)⟩,
 ⟨some 16, .pure (.bin .neq), [.t 15, .c (.int .u8 48)], some (13, false)⟩,
 ⟨some 17, .pure .pick, [.t 13, .c (.bool true), .t 16], some (10, true)⟩,
 ⟨some 18, .pure .pick, [.t 10, .t 17, .c (.bool false)], none⟩,
 ⟨some 2, .pure .move, [.t 18], none⟩])
 .ret)) }
/-- datakit/digits.Zeros -/
def ac150 : AFn :=
 { nt := 9, res := [.tmp 2], body :=
 (.seq (.ops [⟨some 2, .pure .move, [.c (.int .i64 0)], none⟩])
 (.seq (.ops [⟨some 3, .pure .move, [.t 0], none⟩,
 ⟨some 4, .pure .lenS, [.t 3], none⟩,
 ⟨some 5, .pure .move, [.t 0], none⟩,
 ⟨some 6, .pcall 148, [.t 5, .c (.str [48])], none⟩,
 ⟨some 7, .pure .lenS, [.t 6], none⟩,
 ⟨some 8, .pure (.bin .sub), [.t 4, .t 7], none⟩,
 ⟨some 2, .pure .move, [.t 8], none⟩])
 .ret)) }
/-- datakit/value.key -/
def ac151 : AFn :=
 { nt := 9, res := [.tmp 2], body :=
 (.seq (.ops [⟨some 2, .pure .move, [.c (.int .i64 0)], none⟩])
 (.seq (.seq (.ops [⟨some 3, .pure .move, [.t 0], none⟩,
 ⟨some 4, .pcall 46, [.t 3], none⟩,
 ⟨some 5, .pure (.un .not), [.t 4], none⟩])
 (.cond (.t 5)
 (.seq (.ops [⟨some 2, .pure .move, [.c (.int .i64 5)], none⟩])
 .ret)
 .skip))
 (.seq (.seq (.ops [⟨some 6, .pure .move, [.t 0], none⟩,
 ⟨some 7, .pure .lenS, [.t 6], none⟩,
 ⟨some 8, .pure (.bin .gtr), [.t 7, .c (.int .i64 1024)], none⟩])
 (.cond (.t 8)
 (.seq (.ops [⟨some 2, .pure .move, [.c (.int .i64 10)], none⟩])
 .ret)
 .skip))
 (.seq (.ops [⟨some 2, .pure .move, [.c (.int .i64 0)], none⟩])
 .ret)))) }
/-- strings.trimRightByte -/
def ac155 : AFn :=
 { nt := 23, res := [.tmp 4], body :=
 (.seq (.ops [⟨some 4, .pure .move, [.c (.str [])], none⟩])
 (.seq (.block 0
 (.loop [0, 1]
 (.seq (.seq (.ops [⟨some 5, .pure .move, [.t 0], none⟩,
 ⟨some 6, .pure .lenS, [.t 5], none⟩,
 ⟨some 7, .pure (.bin .gtr), [.t 6, .c (.int .i64 0)], none⟩,
 ⟨some 8, .pure .move, [.t 7], none⟩,
 ⟨some 9, .pure .move, [.t 0], some (8, true)⟩,
 ⟨some 10, .pure .move, [.t 0], some (8, true)⟩,
 ⟨some 11, .pure .lenS, [.t 10], some (8, true)⟩,
 ⟨some 12, .pure (.bin .sub), [.t 11, .c (.int .i64 1)], some (8, true)⟩,
 ⟨some 13, .pure .idxStr, [.t 9, .t 12], some (8, true)⟩,
 ⟨some 14, .pure .move, [.t 1], some (8, true)⟩,
 ⟨some 15, .pure (.bin .eql), [.t 13, .t 14], some (8, true)⟩,
 ⟨some 16, .pure .pick, [.t 8, .t 15, .c (.bool false)], none⟩])
 (.cond (.t 16)
 .skip
 (.exit 0)))
 (.block 1
 (.ops [⟨some 17, .pure .move, [.t 0], none⟩,
 ⟨some 18, .pure .move, [.t 0], none⟩,
 ⟨some 19, .pure .lenS, [.t 18], none⟩,
 ⟨some 20, .pure (.bin .sub), [.t 19, .c (.int .i64 1)], none⟩,
 ⟨some 21, .pure (.sliceS false true), [.t 17, .t 20], none⟩,
 ⟨some 0, .pure .move, [.t 21], none⟩])))))
 (.seq (.ops [⟨some 22, .pure .move, [.t 0], none⟩,
 ⟨some 4, .pure .move, [.t 22], none⟩])
 .ret))) }
/-- datakit/digits.all -/
def ac158 : AFn :=
 { nt := 20, res := [.tmp 2], body :=
 (.seq (.ops [⟨some 2, .pure .move, [.c (.bool false)], none⟩])
 (.seq (.seq (.ops [⟨some 4, .pure .move, [.t 0], none⟩,
 ⟨some 5, .pure .lenS, [.t 4], none⟩,
 ⟨some 6, .pure .move, [.c (.int .i64 0)], none⟩])
 (.block 0
 (.loop [0, 5, 6]
 (.seq (.ops [⟨some 7, .pure (.bin .lss), [.t 6, .t 5], none⟩])
 (.seq (.cond (.t 7)
 .skip
 (.exit 0))
 (.seq (.block 1
 (.seq (.ops [⟨some 8, .pure .move, [.t 6], none⟩,
 ⟨some 3, .pure .move, [.t 8], none⟩])
 (.seq (.ops [⟨some 9, .pure .move, [.t 0], none⟩,
 ⟨some 10, .pure .move, [.t 3], none⟩,
 ⟨some 11, .pure .idxStr, [.t 9, .t 10], none⟩,
 ⟨some 12, .pure (.bin .lss), [.t 11, .c (.int .u8 48)], none⟩,
 ⟨some 13, .pure .move, [.t 12], none⟩,
 ⟨some 14, .pure .move, [.t 0], some (13, false)⟩,
 ⟨some 15, .pure .move, [.t 3], some (13, false)⟩,
 ⟨some 16, .pure .idxStr, [.t 14, .t 15], some (13, false)⟩,
 ⟨some 17, .pure (.bin .gtr), [.t 16, .c (.int .u8 57)], some (13, false)⟩,
 ⟨some 18, .pure .pick, [.t 13, .c (.bool true), .t 17], none⟩])
 (.cond (.t 18)
 (.seq (.ops [⟨some 2, .pure .move, [.c (.bool false)], none⟩])
 .ret)
 .skip))))
 (.ops [⟨some 19, .pure (.bin .add), [.t 6, .c (.int .i64 1)], none⟩,
 ⟨some 6, .pure .move, [.t 19], none⟩])))))))
 (.seq (.ops [⟨some 2, .pure .move, [.c (.bool true)], none⟩])
 .ret))) }
/-- datakit/datakitlaw39.QpathModifies -/
def ac174 : AFn :=
 { nt := 47, res := [.tmp 4], body :=
 (.seq (.ops [⟨some 2, .new (.box 13), [.t 0], none⟩,
 ⟨some 4, .pure .move, [.c (.bool false)], none⟩])
 (.seq (.seq (.ops [⟨some 10, .read (.load (some 13)), [.t 2], none⟩,
 ⟨some 11, .pcall 6, [.t 10], none⟩,
 ⟨some 12, .pure (.un .not), [.t 11], none⟩,
 ⟨some 13, .pure .move, [.t 12], none⟩,
 ⟨some 14, .pure .move, [.t 1], some (13, false)⟩,
 ⟨some 15, .pure .lenL, [.t 14], some (13, false)⟩,
 ⟨some 16, .pure (.bin .gtr), [.t 15, .c (.int .i64 20)], some (13, false)⟩,
 ⟨some 17, .pure .pick, [.t 13, .c (.bool true), .t 16], none⟩])
 (.cond (.t 17)
 (.seq (.ops [⟨some 4, .pure .move, [.c (.bool true)], none⟩])
 .ret)
 .skip))
 (.seq (.seq (.ops [⟨some 5, .pure .move, [.c (.int .i64 0)], none⟩])
 (.block 0
 (.loop [1, 2, 5]
 (.seq (.seq (.ops [⟨some 18, .pure .move, [.t 5], none⟩,
 ⟨some 19, .pure .move, [.t 1], none⟩,
 ⟨some 20, .pure .lenL, [.t 19], none⟩,
 ⟨some 21, .pure (.bin .lss), [.t 18, .t 20], none⟩])
 (.cond (.t 21)
 .skip
 (.exit 0)))
 (.seq (.block 1
 (.seq (.ops [⟨some 24, .pure .move, [.t 1], none⟩,
 ⟨some 25, .pure .move, [.t 5], none⟩,
 ⟨some 26, .pure (.iaddrS 1), [.t 24, .t 25], none⟩,
 ⟨some 27, .read (.load none), [.t 26], none⟩,
 ⟨some 28, .pcall 120, [.t 27], none⟩,
 ⟨some 29, .pure (.un .not), [.t 28], none⟩])
 (.cond (.t 29)
 (.seq (.ops [⟨some 4, .pure .move, [.c (.bool true)], none⟩])
 .ret)
 .skip)))
 (.ops [⟨some 22, .pure .move, [.t 5], none⟩,
 ⟨some 23, .pure (.bin .add), [.t 22, .c (.int .i64 1)], none⟩,
 ⟨some 5, .pure .move, [.t 23], none⟩]))))))
 (.seq (.ops [⟨some 31, .read (.load (some 13)), [.t 2], none⟩,
 ⟨some 32, .pure .move, [.t 1], none⟩,
 ⟨some 33, .pcall 175, [.t 31, .t 32, .c (.fn 176 [])], none⟩,
 ⟨some 30, .pure .move, [.t 33], none⟩,
 ⟨some 34, .pure (.ext 0), [.t 30], none⟩,
 ⟨some 35, .pure (.ext 1), [.t 30], none⟩,
 ⟨some 6, .new (.new 13 [.agg [.int .i64 0, .bool false, .bool false, .str [], .int .i64 0, .int .i64 0, .int .i64 0, .int .i64 0, .int .i64 0, .str [], .snil 1, .snil 13, .snil 14]]), [], none⟩,
 ⟨none, .eff (.store 13), [.t 6, .t 34], none⟩,
 ⟨some 7, .pure .move, [.t 35], none⟩])
 (.seq (.ops [⟨some 37, .read (.load (some 13)), [.t 2], none⟩,
 ⟨some 38, .pure .move, [.t 1], none⟩,
 ⟨some 39, .pcall 177, [.t 37, .t 38], none⟩,
 ⟨some 36, .pure .move, [.t 39], none⟩,
 ⟨some 40, .pure (.ext 0), [.t 36], none⟩,
 ⟨some 41, .pure (.ext 1), [.t 36], none⟩,
 ⟨some 8, .new (.new 13 [.agg [.int .i64 0, .bool false, .bool false, .str [], .int .i64 0, .int .i64 0, .int .i64 0, .int .i64 0, .int .i64 0, .str [], .snil 1, .snil 13, .snil 14]]), [], none⟩,
 ⟨none, .eff (.store 13), [.t 8, .t 40], none⟩,
 ⟨some 9, .pure .move, [.t 41], none⟩])
 (.seq (.ops [⟨some 42, .read (.load (some 13)), [.t 6], none⟩,
 ⟨some 43, .pure .move, [.t 7], none⟩,
 ⟨some 44, .read (.load (some 13)), [.t 8], none⟩,
 ⟨some 45, .pure .move, [.t 9], none⟩,
 ⟨some 46, .pcall 15, [.t 42, .t 43, .t 44, .t 45], none⟩,
 ⟨some 4, .pure .move, [.t 46], none⟩])
 .ret)))))) }
/-- datakit/qpath.Modify -/
def ac175 : AFn :=
 { nt := 65, res := [.cell 6 (some 13), .tmp 7], body :=
 (.seq (.ops [⟨some 3, .new (.box 13), [.t 0], none⟩,
 ⟨some 6, .new (.new 13 [.agg [.int .i64 0, .bool false, .bool false, .str [], .int .i64 0, .int .i64 0, .int .i64 0, .int .i64 0, .int .i64 0, .str [], .snil 1, .snil 13, .snil 14]]), [], none⟩,
 ⟨some 7, .pure .move, [.c (.int .i64 0)], none⟩])
 (.seq (.ops [⟨some 8, .pure .move, [.c (.snil 1)], none⟩])
 (.seq (.seq (.ops [⟨some 15, .pure .move, [.t 1], none⟩,
 ⟨some 16, .pure .lenL, [.t 15], none⟩,
 ⟨some 17, .pure .move, [.c (.int .i64 0)], none⟩])
 (.block 0
 (.loop [2, 3, 6, 8, 15, 16, 17]
 (.seq (.ops [⟨some 18, .pure (.bin .lss), [.t 17, .t 16], none⟩])
 (.seq (.cond (.t 18)
 .skip
 (.exit 0))
 (.seq (.block 1
 (.seq (.ops [⟨some 19, .pure (.iaddrS 1), [.t 15, .t 17], none⟩,
 ⟨some 20, .read (.load none), [.t 19], none⟩,
 ⟨some 10, .pure .move, [.t 20], none⟩])
 (.seq (.ops [⟨some 22, .read (.load (some 13)), [.t 3], none⟩,
 ⟨some 23, .pure .move, [.t 10], none⟩,
 ⟨some 24, .pcall 13, [.t 22, .t 23], none⟩,
 ⟨some 21, .pure .move, [.t 24], none⟩,
 ⟨some 25, .pure (.ext 0), [.t 21], none⟩,
 ⟨some 26, .pure (.ext 1), [.t 21], none⟩,
 ⟨some 11, .new (.new 13 [.agg [.int .i64 0, .bool false, .bool false, .str [], .int .i64 0, .int .i64 0, .int .i64 0, .int .i64 0, .int .i64 0, .str [], .snil 1, .snil 13, .snil 14]]), [], none⟩,
 ⟨none, .eff (.store 13), [.t 11, .t 25], none⟩,
 ⟨some 12, .pure .move, [.t 26], none⟩])
 (.seq (.seq (.ops [⟨some 27, .pure .move, [.t 12], none⟩,
 ⟨some 28, .pure (.bin .neq), [.t 27, .c (.int .i64 0)], none⟩])
 (.cond (.t 28)
 (.seq (.ops [⟨some 29, .pure (.build [.int .i64 0, .bool false, .bool false, .str [], .int .i64 0, .int .i64 0, .int .i64 0, .int .i64 0, .int .i64 0, .str [], .snil 1, .snil 13, .snil 14] []), [], none⟩,
 ⟨some 30, .pure .move, [.t 12], none⟩,
 ⟨none, .eff (.store 13), [.t 6, .t 29], none⟩,
 ⟨some 7, .pure .move, [.t 30], none⟩])
 .ret)
 .skip))
 (.seq (.ops [⟨some 32, .pure .move, [.t 2], none⟩,
 ⟨some 33, .read (.load (some 13)), [.t 11], none⟩,
 ⟨some 34, .callv, [.t 32, .t 33], none⟩,
 ⟨some 31, .pure .move, [.t 34], none⟩,
 ⟨some 35, .pure (.ext 0), [.t 31], none⟩,
 ⟨some 36, .pure (.ext 1), [.t 31], none⟩,
 ⟨some 37, .pure (.ext 2), [.t 31], none⟩,
 ⟨some 13, .new (.new 13 [.agg [.int .i64 0, .bool false, .bool false, .str [], .int .i64 0, .int .i64 0, .int .i64 0, .int .i64 0, .int .i64 0, .str [], .snil 1, .snil 13, .snil 14]]), [], none⟩,
 ⟨none, .eff (.store 13), [.t 13, .t 35], none⟩,
 ⟨some 14, .pure .move, [.t 36], none⟩,
 ⟨some 12, .pure .move, [.t 37], none⟩])
 (.seq (.seq (.ops [⟨some 38, .pure .move, [.t 12], none⟩,
 ⟨some 39, .pure (.bin .neq), [.t 38, .c (.int .i64 0)], none⟩])
 (.cond (.t 39)
 (.seq (.ops [⟨some 40, .pure (.build [.int .i64 0, .bool false, .bool false, .str [], .int .i64 0, .int .i64 0, .int .i64 0, .int .i64 0, .int .i64 0, .str [], .snil 1, .snil 13, .snil 14] []), [], none⟩,
 ⟨some 41, .pure .move, [.t 12], none⟩,
 ⟨none, .eff (.store 13), [.t 6, .t 40], none⟩,
 ⟨some 7, .pure .move, [.t 41], none⟩])
 .ret)
 .skip))
 (.seq (.seq (.ops [⟨some 42, .pure .move, [.t 14], none⟩,
 ⟨some 43, .pure (.un .not), [.t 42], none⟩])
 (.cond (.t 43)
 (.seq (.ops [⟨some 44, .pure .move, [.t 8], none⟩,
 ⟨some 45, .pure .move, [.t 10], none⟩,
 ⟨some 46, .new (.buildSlice 1 [.snil 3] [0]), [.t 45], none⟩,
 ⟨some 47, .eff (.append 1 24), [.t 44, .t 46], none⟩,
 ⟨some 8, .pure .move, [.t 47], none⟩])
 (.exit 1))
 .skip))
 (.seq (.ops [⟨some 49, .read (.load (some 13)), [.t 3], none⟩,
 ⟨some 50, .pure .move, [.t 10], none⟩,
 ⟨some 51, .read (.load (some 13)), [.t 13], none⟩,
 ⟨some 52, .pcall 121, [.t 49, .t 50, .t 51], none⟩,
 ⟨some 48, .pure .move, [.t 52], none⟩,
 ⟨some 53, .pure (.ext 0), [.t 48], none⟩,
 ⟨some 54, .pure (.ext 1), [.t 48], none⟩,
 ⟨none, .eff (.store 13), [.t 3, .t 53], none⟩,
 ⟨some 12, .pure .move, [.t 54], none⟩])
 (.seq (.ops [⟨some 55, .pure .move, [.t 12], none⟩,
 ⟨some 56, .pure (.bin .neq), [.t 55, .c (.int .i64 0)], none⟩])
 (.cond (.t 56)
 (.seq (.ops [⟨some 57, .pure (.build [.int .i64 0, .bool false, .bool false, .str [], .int .i64 0, .int .i64 0, .int .i64 0, .int .i64 0, .int .i64 0, .str [], .snil 1, .snil 13, .snil 14] []), [], none⟩,
 ⟨some 58, .pure .move, [.t 12], none⟩,
 ⟨none, .eff (.store 13), [.t 6, .t 57], none⟩,
 ⟨some 7, .pure .move, [.t 58], none⟩])
 .ret)
 .skip))))))))))
 (.ops [⟨some 59, .pure (.bin .add), [.t 17, .c (.int .i64 1)], none⟩,
 ⟨some 17, .pure .move, [.t 59], none⟩])))))))
 (.seq (.ops [⟨some 60, .read (.load (some 13)), [.t 3], none⟩,
 ⟨some 61, .pure .move, [.t 8], none⟩,
 ⟨some 62, .pcall 16, [.t 60, .t 61], none⟩,
 ⟨some 63, .pure (.ext 0), [.t 62], none⟩,
 ⟨some 64, .pure (.ext 1), [.t 62], none⟩,
 ⟨none, .eff (.store 13), [.t 6, .t 63], none⟩,
 ⟨some 7, .pure .move, [.t 64], none⟩])
 .ret)))) }
/-- datakit/datakitlaw39.turn -/
def ac176 : AFn :=
 { nt := 17, res := [.cell 2 (some 13), .tmp 3, .tmp 4], body :=
 (.seq (.ops [⟨some 1, .new (.box 13), [.t 0], none⟩,
 ⟨some 2, .new (.new 13 [.agg [.int .i64 0, .bool false, .bool false, .str [], .int .i64 0, .int .i64 0, .int .i64 0, .int .i64 0, .int .i64 0, .str [], .snil 1, .snil 13, .snil 14]]), [], none⟩,
 ⟨some 3, .pure .move, [.c (.bool false)], none⟩,
 ⟨some 4, .pure .move, [.c (.int .i64 0)], none⟩])
 (.seq (.ops [⟨some 9, .read (.load (some 13)), [.t 1], none⟩,
 ⟨some 10, .pcall 178, [.t 9], none⟩,
 ⟨some 8, .pure .move, [.t 10], none⟩,
 ⟨some 11, .pure (.ext 0), [.t 8], none⟩,
 ⟨some 12, .pure (.ext 1), [.t 8], none⟩,
 ⟨some 13, .pure (.ext 2), [.t 8], none⟩,
 ⟨some 5, .new (.new 13 [.agg [.int .i64 0, .bool false, .bool false, .str [], .int .i64 0, .int .i64 0, .int .i64 0, .int .i64 0, .int .i64 0, .str [], .snil 1, .snil 13, .snil 14]]), [], none⟩,
 ⟨none, .eff (.store 13), [.t 5, .t 11], none⟩,
 ⟨some 6, .pure .move, [.t 12], none⟩,
 ⟨some 7, .pure .move, [.t 13], none⟩])
 (.seq (.ops [⟨some 14, .read (.load (some 13)), [.t 5], none⟩,
 ⟨some 15, .pure .move, [.t 6], none⟩,
 ⟨some 16, .pure .move, [.t 7], none⟩,
 ⟨none, .eff (.store 13), [.t 2, .t 14], none⟩,
 ⟨some 3, .pure .move, [.t 15], none⟩,
 ⟨some 4, .pure .move, [.t 16], none⟩])
 .ret))) }
/-- datakit/datakitref39.Modify -/
def ac177 : AFn :=
 { nt := 73, res := [.cell 4 (some 13), .tmp 5], body :=
 (.seq (.ops [⟨some 2, .new (.box 13), [.t 0], none⟩,
 ⟨some 4, .new (.new 13 [.agg [.int .i64 0, .bool false, .bool false, .str [], .int .i64 0, .int .i64 0, .int .i64 0, .int .i64 0, .int .i64 0, .str [], .snil 1, .snil 13, .snil 14]]), [], none⟩,
 ⟨some 5, .pure .move, [.c (.int .i64 0)], none⟩])
 (.seq (.ops [⟨some 6, .pure .move, [.c (.snil 1)], none⟩])
 (.seq (.seq (.ops [⟨some 7, .pure .move, [.c (.int .i64 0)], none⟩])
 (.block 0
 (.loop [1, 2, 4, 6, 7]
 (.seq (.seq (.ops [⟨some 15, .pure .move, [.t 7], none⟩,
 ⟨some 16, .pure .move, [.t 1], none⟩,
 ⟨some 17, .pure .lenL, [.t 16], none⟩,
 ⟨some 18, .pure (.bin .lss), [.t 15, .t 17], none⟩])
 (.cond (.t 18)
 .skip
 (.exit 0)))
 (.seq (.block 1
 (.seq (.draw 1 [[⟨some 22, .read (.load (some 13)), [.t 2], none⟩,
 ⟨some 23, .pure .move, [.t 1], none⟩,
 ⟨some 24, .pure .move, [.t 7], none⟩,
 ⟨some 25, .pure (.iaddrS 1), [.t 23, .t 24], none⟩,
 ⟨some 26, .read (.load none), [.t 25], none⟩,
 ⟨some 27, .pcall 14, [.t 22, .t 26], none⟩,
 ⟨some 21, .pure .move, [.t 27], none⟩,
 ⟨some 28, .pure (.ext 0), [.t 21], none⟩,
 ⟨some 29, .pure (.ext 1), [.t 21], none⟩,
 ⟨some 8, .newAt 0 (.new 13 [.agg [.int .i64 0, .bool false, .bool false, .str [], .int .i64 0, .int .i64 0, .int .i64 0, .int .i64 0, .int .i64 0, .str [], .snil 1, .snil 13, .snil 14]]), [], none⟩,
 ⟨none, .eff (.store 13), [.t 8, .t 28], none⟩,
 ⟨some 9, .pure .move, [.t 29], none⟩]])
 (.seq (.seq (.ops [⟨some 30, .pure .move, [.t 9], none⟩,
 ⟨some 31, .pure (.bin .neq), [.t 30, .c (.int .i64 0)], none⟩])
 (.cond (.t 31)
 (.seq (.ops [⟨some 32, .pure (.build [.int .i64 0, .bool false, .bool false, .str [], .int .i64 0, .int .i64 0, .int .i64 0, .int .i64 0, .int .i64 0, .str [], .snil 1, .snil 13, .snil 14] []), [], none⟩,
 ⟨some 33, .pure .move, [.t 9], none⟩,
 ⟨none, .eff (.store 13), [.t 4, .t 32], none⟩,
 ⟨some 5, .pure .move, [.t 33], none⟩])
 .ret)
 .skip))
 (.seq (.ops [⟨some 35, .read (.load (some 13)), [.t 8], none⟩,
 ⟨some 36, .pcall 178, [.t 35], none⟩,
 ⟨some 34, .pure .move, [.t 36], none⟩,
 ⟨some 37, .pure (.ext 0), [.t 34], none⟩,
 ⟨some 38, .pure (.ext 1), [.t 34], none⟩,
 ⟨some 39, .pure (.ext 2), [.t 34], none⟩,
 ⟨some 10, .new (.new 13 [.agg [.int .i64 0, .bool false, .bool false, .str [], .int .i64 0, .int .i64 0, .int .i64 0, .int .i64 0, .int .i64 0, .str [], .snil 1, .snil 13, .snil 14]]), [], none⟩,
 ⟨none, .eff (.store 13), [.t 10, .t 37], none⟩,
 ⟨some 11, .pure .move, [.t 38], none⟩,
 ⟨some 12, .pure .move, [.t 39], none⟩])
 (.seq (.seq (.ops [⟨some 40, .pure .move, [.t 12], none⟩,
 ⟨some 41, .pure (.bin .neq), [.t 40, .c (.int .i64 0)], none⟩])
 (.cond (.t 41)
 (.seq (.ops [⟨some 42, .pure (.build [.int .i64 0, .bool false, .bool false, .str [], .int .i64 0, .int .i64 0, .int .i64 0, .int .i64 0, .int .i64 0, .str [], .snil 1, .snil 13, .snil 14] []), [], none⟩,
 ⟨some 43, .pure .move, [.t 12], none⟩,
 ⟨none, .eff (.store 13), [.t 4, .t 42], none⟩,
 ⟨some 5, .pure .move, [.t 43], none⟩])
 .ret)
 .skip))
 (.seq (.seq (.ops [⟨some 44, .pure .move, [.t 11], none⟩,
 ⟨some 45, .pure (.un .not), [.t 44], none⟩])
 (.cond (.t 45)
 (.seq (.ops [⟨some 46, .pure .move, [.t 6], none⟩,
 ⟨some 47, .pure .move, [.t 1], none⟩,
 ⟨some 48, .pure .move, [.t 7], none⟩,
 ⟨some 49, .pure (.iaddrS 1), [.t 47, .t 48], none⟩,
 ⟨some 50, .read (.load none), [.t 49], none⟩,
 ⟨some 51, .new (.buildSlice 1 [.snil 3] [0]), [.t 50], none⟩,
 ⟨some 52, .eff (.append 1 24), [.t 46, .t 51], none⟩,
 ⟨some 6, .pure .move, [.t 52], none⟩])
 (.exit 1))
 .skip))
 (.seq (.draw 1 [[⟨some 54, .read (.load (some 13)), [.t 2], none⟩,
 ⟨some 55, .pure .move, [.t 1], none⟩,
 ⟨some 56, .pure .move, [.t 7], none⟩,
 ⟨some 57, .pure (.iaddrS 1), [.t 55, .t 56], none⟩,
 ⟨some 58, .read (.load none), [.t 57], none⟩,
 ⟨some 59, .read (.load (some 13)), [.t 10], none⟩,
 ⟨some 60, .pcall 122, [.t 54, .t 58, .t 59], none⟩,
 ⟨some 53, .pure .move, [.t 60], none⟩,
 ⟨some 61, .pure (.ext 0), [.t 53], none⟩,
 ⟨some 62, .pure (.ext 1), [.t 53], none⟩,
 ⟨some 13, .newAt 0 (.new 13 [.agg [.int .i64 0, .bool false, .bool false, .str [], .int .i64 0, .int .i64 0, .int .i64 0, .int .i64 0, .int .i64 0, .str [], .snil 1, .snil 13, .snil 14]]), [], none⟩,
 ⟨none, .eff (.store 13), [.t 13, .t 61], none⟩,
 ⟨some 14, .pure .move, [.t 62], none⟩]])
 (.seq (.seq (.ops [⟨some 63, .pure .move, [.t 14], none⟩,
 ⟨some 64, .pure (.bin .neq), [.t 63, .c (.int .i64 0)], none⟩])
 (.cond (.t 64)
 (.seq (.ops [⟨some 65, .pure (.build [.int .i64 0, .bool false, .bool false, .str [], .int .i64 0, .int .i64 0, .int .i64 0, .int .i64 0, .int .i64 0, .str [], .snil 1, .snil 13, .snil 14] []), [], none⟩,
 ⟨some 66, .pure .move, [.t 14], none⟩,
 ⟨none, .eff (.store 13), [.t 4, .t 65], none⟩,
 ⟨some 5, .pure .move, [.t 66], none⟩])
 .ret)
 .skip))
 (.ops [⟨some 67, .read (.load (some 13)), [.t 13], none⟩,
 ⟨none, .eff (.store 13), [.t 2, .t 67], none⟩])))))))))
 (.ops [⟨some 19, .pure .move, [.t 7], none⟩,
 ⟨some 20, .pure (.bin .add), [.t 19, .c (.int .i64 1)], none⟩,
 ⟨some 7, .pure .move, [.t 20], none⟩]))))))
 (.seq (.ops [⟨some 68, .read (.load (some 13)), [.t 2], none⟩,
 ⟨some 69, .pure .move, [.t 6], none⟩,
 ⟨some 70, .pcall 17, [.t 68, .t 69], none⟩,
 ⟨some 71, .pure (.ext 0), [.t 70], none⟩,
 ⟨some 72, .pure (.ext 1), [.t 70], none⟩,
 ⟨none, .eff (.store 13), [.t 4, .t 71], none⟩,
 ⟨some 5, .pure .move, [.t 72], none⟩])
 .ret)))) }
/-- datakit/datakitref39.Turn -/
def ac178 : AFn :=
 { nt := 28, res := [.cell 2 (some 13), .tmp 3, .tmp 4], body :=
 (.seq (.ops [⟨some 1, .new (.box 13), [.t 0], none⟩,
 ⟨some 2, .new (.new 13 [.agg [.int .i64 0, .bool false, .bool false, .str [], .int .i64 0, .int .i64 0, .int .i64 0, .int .i64 0, .int .i64 0, .str [], .snil 1, .snil 13, .snil 14]]), [], none⟩,
 ⟨some 3, .pure .move, [.c (.bool false)], none⟩,
 ⟨some 4, .pure .move, [.c (.int .i64 0)], none⟩])
 (.seq (.block 0
 (.seq (.ops [⟨some 6, .pure (.faddr 0), [.t 1], none⟩,
 ⟨some 7, .read (.load none), [.t 6], none⟩,
 ⟨some 8, .pure (.bin .eql), [.t 7, .c (.int .i64 1)], none⟩,
 ⟨some 5, .pure .move, [.t 8], none⟩])
 (.cond (.t 5)
 (.seq (.ops [⟨some 9, .pure (.build [.int .i64 0, .bool false, .bool false, .str [], .int .i64 0, .int .i64 0, .int .i64 0, .int .i64 0, .int .i64 0, .str [], .snil 1, .snil 13, .snil 14] []), [], none⟩,
 ⟨none, .eff (.store 13), [.t 2, .t 9], none⟩,
 ⟨some 3, .pure .move, [.c (.bool false)], none⟩,
 ⟨some 4, .pure .move, [.c (.int .i64 0)], none⟩])
 .ret)
 (.seq (.ops [⟨some 11, .pure (.faddr 0), [.t 1], none⟩,
 ⟨some 12, .read (.load none), [.t 11], none⟩,
 ⟨some 13, .pure (.bin .eql), [.t 12, .c (.int .i64 4)], none⟩,
 ⟨some 14, .pure .move, [.t 13], none⟩,
 ⟨some 15, .pure (.faddr 9), [.t 1], some (14, true)⟩,
 ⟨some 16, .read (.load none), [.t 15], some (14, true)⟩,
 ⟨some 17, .pure (.bin .eql), [.t 16, .c (.str [115, 116, 111, 112])], some (14, true)⟩,
 ⟨some 18, .pure .pick, [.t 14, .t 17, .c (.bool false)], none⟩,
 ⟨some 10, .pure .move, [.t 18], none⟩])
 (.cond (.t 10)
 (.seq (.ops [⟨some 19, .pure (.build [.int .i64 0, .bool false, .bool false, .str [], .int .i64 0, .int .i64 0, .int .i64 0, .int .i64 0, .int .i64 0, .str [], .snil 1, .snil 13, .snil 14] []), [], none⟩,
 ⟨none, .eff (.store 13), [.t 2, .t 19], none⟩,
 ⟨some 3, .pure .move, [.c (.bool false)], none⟩,
 ⟨some 4, .pure .move, [.c (.int .i64 19)], none⟩])
 .ret)
 (.seq (.ops [⟨some 21, .pure (.faddr 0), [.t 1], none⟩,
 ⟨some 22, .read (.load none), [.t 21], none⟩,
 ⟨some 23, .pure (.bin .eql), [.t 22, .c (.int .i64 0)], none⟩,
 ⟨some 20, .pure .move, [.t 23], none⟩])
 (.cond (.t 20)
 (.seq (.ops [⟨some 24, .pure (.build [.int .i64 0, .bool false, .bool false, .str [], .int .i64 0, .int .i64 0, .int .i64 0, .int .i64 0, .int .i64 0, .str [], .snil 1, .snil 13, .snil 14] [(0, 1), (9, 1)]), [.c (.int .i64 4), .c (.str [110, 101, 119])], none⟩,
 ⟨none, .eff (.store 13), [.t 2, .t 24], none⟩,
 ⟨some 3, .pure .move, [.c (.bool true)], none⟩,
 ⟨some 4, .pure .move, [.c (.int .i64 0)], none⟩])
 .ret)
 .skip)))))))
 (.seq (.ops [⟨some 25, .read (.load (some 13)), [.t 1], none⟩,
 ⟨some 26, .new (.buildSlice 13 [.agg [.int .i64 0, .bool false, .bool false, .str [], .int .i64 0, .int .i64 0, .int .i64 0, .int .i64 0, .int .i64 0, .str [], .snil 1, .snil 13, .snil 14]] [0]), [.t 25], none⟩,
 ⟨some 27, .pure (.build [.int .i64 0, .bool false, .bool false, .str [], .int .i64 0, .int .i64 0, .int .i64 0, .int .i64 0, .int .i64 0, .str [], .snil 1, .snil 13, .snil 14] [(0, 1), (11, 1)]), [.c (.int .i64 6), .t 26], none⟩,
 ⟨none, .eff (.store 13), [.t 2, .t 27], none⟩,
 ⟨some 3, .pure .move, [.c (.bool true)], none⟩,
 ⟨some 4, .pure .move, [.c (.int .i64 0)], none⟩])
 .ret))) }
def code : Nat → Option AFn
 | 6 => some ac6
 | 11 => some ac11
 | 12 => some ac12
 | 13 => some ac13
 | 14 => some ac14
 | 15 => some ac15
 | 16 => some ac16
 | 17 => some ac17
 | 18 => some ac18
 | 19 => some ac19
 | 24 => some ac24
 | 25 => some ac25
 | 26 => some ac26
 | 27 => some ac27
 | 28 => some ac28
 | 29 => some ac29
 | 30 => some ac30
 | 31 => some ac31
 | 33 => some ac33
 | 34 => some ac34
 | 35 => some ac35
 | 36 => some ac36
 | 37 => some ac37
 | 38 => some ac38
 | 39 => some ac39
 | 42 => some ac42
 | 43 => some ac43
 | 44 => some ac44
 | 45 => some ac45
 | 46 => some ac46
 | 47 => some ac47
 | 50 => some ac50
 | 51 => some ac51
 | 52 => some ac52
 | 53 => some ac53
 | 54 => some ac54
 | 55 => some ac55
 | 56 => some ac56
 | 57 => some ac57
 | 58 => some ac58
 | 59 => some ac59
 | 60 => some ac60
 | 61 => some ac61
 | 63 => some ac63
 | 74 => some ac74
 | 75 => some ac75
 | 76 => some ac76
 | 77 => some ac77
 | 78 => some ac78
 | 79 => some ac79
 | 80 => some ac80
 | 81 => some ac81
 | 82 => some ac82
 | 83 => some ac83
 | 84 => some ac84
 | 90 => some ac90
 | 91 => some ac91
 | 92 => some ac92
 | 93 => some ac93
 | 94 => some ac94
 | 95 => some ac95
 | 96 => some ac96
 | 120 => some ac120
 | 121 => some ac121
 | 122 => some ac122
 | 125 => some ac125
 | 126 => some ac126
 | 127 => some ac127
 | 131 => some ac131
 | 132 => some ac132
 | 133 => some ac133
 | 134 => some ac134
 | 135 => some ac135
 | 139 => some ac139
 | 140 => some ac140
 | 141 => some ac141
 | 142 => some ac142
 | 148 => some ac148
 | 149 => some ac149
 | 150 => some ac150
 | 151 => some ac151
 | 155 => some ac155
 | 158 => some ac158
 | 174 => some ac174
 | 175 => some ac175
 | 176 => some ac176
 | 177 => some ac177
 | 178 => some ac178
 | _ => none
def clR : Nat → Option (Nat × Nat)
 | 130 => some (14, 184)
 | _ => none
def clP : Nat → Option (Nat × Nat)
 | 62 => some (1, 1)
 | _ => none
def C0 : Ctx := mkCtx code clR clP
end Ago
