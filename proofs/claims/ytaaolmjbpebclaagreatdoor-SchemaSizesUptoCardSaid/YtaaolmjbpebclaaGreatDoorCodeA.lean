/- The abstract code of the functions, printed by program. -/
import Derived.Test.YtaaolmjbpebclaaGreatDoorCodeZ
set_option linter.unusedSimpArgs false
set_option linter.unusedVariables false
set_option maxRecDepth 100000
namespace Ago
/-- strings.IndexByte -/
def ac162 : AFn :=
 { nt := 8, res := [.tmp 4], body :=
 (.seq (.ops [⟨some 4, .pure .move, [.c (.int .i64 0)], none⟩])
 (.seq (.ops [⟨some 5, .pure .move, [.t 0], none⟩,
 ⟨some 6, .pure .move, [.t 1], none⟩,
 ⟨some 7, .pcall 167, [.t 5, .t 6], none⟩,
 ⟨some 4, .pure .move, [.t 7], none⟩])
 .ret)) }
/-- internal/stringslite.IndexByte -/
def ac167 : AFn :=
 { nt := 8, res := [.tmp 4], body :=
 (.seq (.ops [⟨some 4, .pure .move, [.c (.int .i64 0)], none⟩])
 (.seq (.ops [⟨some 5, .pure .move, [.t 0], none⟩,
 ⟨some 6, .pure .move, [.t 1], none⟩,
 ⟨some 7, .bad, [], none⟩,
 ⟨some 4, .pure .move, [.t 7], none⟩])
 .ret)) }
/-- datakit/numset.Valid -/
def ac229 : AFn :=
 { nt := 20, res := [.tmp 2], body :=
 (.seq (.ops [⟨some 1, .new (.box 1), [.t 0], none⟩,
 ⟨some 2, .pure .move, [.c (.bool false)], none⟩])
 (.seq (.seq (.ops [⟨some 5, .pure (.faddr 0), [.t 1], none⟩,
 ⟨some 6, .read (.load none), [.t 5], none⟩,
 ⟨some 7, .pure .lenL, [.t 6], none⟩,
 ⟨some 8, .pure (.bin .gtr), [.t 7, .c (.int .i64 256)], none⟩])
 (.cond (.t 8)
 (.seq (.ops [⟨some 2, .pure .move, [.c (.bool false)], none⟩])
 .ret)
 .skip))
 (.seq (.seq (.ops [⟨some 9, .pure (.faddr 0), [.t 1], none⟩,
 ⟨some 10, .read (.load none), [.t 9], none⟩,
 ⟨some 11, .pure .lenL, [.t 10], none⟩,
 ⟨some 12, .pure .move, [.c (.int .i64 0)], none⟩])
 (.block 0
 (.loop [10, 11, 12]
 (.seq (.ops [⟨some 13, .pure (.bin .lss), [.t 12, .t 11], none⟩])
 (.seq (.cond (.t 13)
 .skip
 (.exit 0))
 (.seq (.block 1
 (.seq (.ops [⟨some 14, .pure (.iaddrS 11), [.t 10, .t 12], none⟩,
 ⟨some 15, .read (.load (some 11)), [.t 14], none⟩,
 ⟨some 4, .new (.new 11 [.agg [.bool false, .bool false, .str [], .int .i64 0, .bool false, .bool false, .bool false, .str [], .int .i64 0, .bool false, .int .i64 0]]), [], none⟩,
 ⟨none, .eff (.store 11), [.t 4, .t 15], none⟩])
 (.seq (.ops [⟨some 16, .read (.load (some 11)), [.t 4], none⟩,
 ⟨some 17, .pcall 250, [.t 16], none⟩,
 ⟨some 18, .pure (.un .not), [.t 17], none⟩])
 (.cond (.t 18)
 (.seq (.ops [⟨some 2, .pure .move, [.c (.bool false)], none⟩])
 .ret)
 .skip))))
 (.ops [⟨some 19, .pure (.bin .add), [.t 12, .c (.int .i64 1)], none⟩,
 ⟨some 12, .pure .move, [.t 19], none⟩])))))))
 (.seq (.ops [⟨some 2, .pure .move, [.c (.bool true)], none⟩])
 .ret)))) }
/-- datakit/numset.validPart -/
def ac250 : AFn :=
 { nt := 21, res := [.tmp 2], body :=
 (.seq (.ops [⟨some 1, .new (.box 11), [.t 0], none⟩,
 ⟨some 2, .pure .move, [.c (.bool false)], none⟩])
 (.seq (.ops [⟨some 3, .pure (.faddr 0), [.t 1], none⟩,
 ⟨some 4, .read (.load (some 5)), [.t 3], none⟩,
 ⟨some 5, .pcall 262, [.t 4], none⟩,
 ⟨some 6, .pure .move, [.t 5], none⟩,
 ⟨some 7, .pure (.faddr 5), [.t 1], some (6, true)⟩,
 ⟨some 8, .read (.load (some 5)), [.t 7], some (6, true)⟩,
 ⟨some 9, .pcall 262, [.t 8], some (6, true)⟩,
 ⟨some 10, .pure .pick, [.t 6, .t 9, .c (.bool false)], none⟩,
 ⟨some 11, .pure .move, [.t 10], none⟩,
 ⟨some 12, .pure (.faddr 10), [.t 1], some (11, true)⟩,
 ⟨some 13, .read (.load none), [.t 12], some (11, true)⟩,
 ⟨some 14, .pure (.bin .geq), [.t 13, .c (.int .i64 0)], some (11, true)⟩,
 ⟨some 15, .pure .pick, [.t 11, .t 14, .c (.bool false)], none⟩,
 ⟨some 16, .pure .move, [.t 15], none⟩,
 ⟨some 17, .pure (.faddr 10), [.t 1], some (16, true)⟩,
 ⟨some 18, .read (.load none), [.t 17], some (16, true)⟩,
 ⟨some 19, .pure (.bin .leq), [.t 18, .c (.int .i64 2)], some (16, true)⟩,
 ⟨some 20, .pure .pick, [.t 16, .t 19, .c (.bool false)], none⟩,
 ⟨some 2, .pure .move, [.t 20], none⟩])
 .ret)) }
/-- datakit/value.same -/
def ac254 : AFn :=
 { nt := 80, res := [.tmp 8], body :=
 (.seq (.ops [⟨some 4, .new (.box 13), [.t 0], none⟩,
 ⟨some 5, .new (.box 13), [.t 1], none⟩,
 ⟨some 6, .new (.box 1), [.t 2], none⟩,
 ⟨some 7, .new (.box 1), [.t 3], none⟩,
 ⟨some 8, .pure .move, [.c (.bool false)], none⟩])
 (.seq (.seq (.ops [⟨some 12, .pure (.faddr 0), [.t 4], none⟩,
 ⟨some 13, .read (.load none), [.t 12], none⟩,
 ⟨some 14, .pure (.faddr 0), [.t 5], none⟩,
 ⟨some 15, .read (.load none), [.t 14], none⟩,
 ⟨some 16, .pure (.bin .neq), [.t 13, .t 15], none⟩,
 ⟨some 17, .pure .move, [.t 16], none⟩,
 ⟨some 18, .pure (.faddr 1), [.t 4], some (17, false)⟩,
 ⟨some 19, .read (.load none), [.t 18], some (17, false)⟩,
 ⟨some 20, .pure (.faddr 1), [.t 5], some (17, false)⟩,
 ⟨some 21, .read (.load none), [.t 20], some (17, false)⟩,
 ⟨some 22, .pure (.eqB true), [.t 19, .t 21], some (17, false)⟩,
 ⟨some 23, .pure .pick, [.t 17, .c (.bool true), .t 22], none⟩,
 ⟨some 24, .pure .move, [.t 23], none⟩,
 ⟨some 25, .pure (.faddr 2), [.t 4], some (24, false)⟩,
 ⟨some 26, .read (.load (some 3)), [.t 25], some (24, false)⟩,
 ⟨some 27, .pure (.faddr 2), [.t 5], some (24, false)⟩,
 ⟨some 28, .read (.load (some 3)), [.t 27], some (24, false)⟩,
 ⟨some 29, .pure (.eqF [.bool, .str, .int] true), [.t 26, .t 28], some (24, false)⟩,
 ⟨some 30, .pure .pick, [.t 24, .c (.bool true), .t 29], none⟩,
 ⟨some 31, .pure .move, [.t 30], none⟩,
 ⟨some 32, .pure (.faddr 5), [.t 4], some (31, false)⟩,
 ⟨some 33, .read (.load (some 4)), [.t 32], some (31, false)⟩,
 ⟨some 34, .pure (.faddr 5), [.t 5], some (31, false)⟩,
 ⟨some 35, .read (.load (some 4)), [.t 34], some (31, false)⟩,
 ⟨some 36, .pure (.eqF [.int, .int, .int, .int] true), [.t 33, .t 35], some (31, false)⟩,
 ⟨some 37, .pure .pick, [.t 31, .c (.bool true), .t 36], none⟩,
 ⟨some 38, .pure .move, [.t 37], none⟩,
 ⟨some 39, .pure (.faddr 9), [.t 4], some (38, false)⟩,
 ⟨some 40, .read (.load none), [.t 39], some (38, false)⟩,
 ⟨some 41, .pure (.faddr 9), [.t 5], some (38, false)⟩,
 ⟨some 42, .read (.load none), [.t 41], some (38, false)⟩,
 ⟨some 43, .pure (.bin .neq), [.t 40, .t 42], some (38, false)⟩,
 ⟨some 44, .pure .pick, [.t 38, .c (.bool true), .t 43], none⟩,
 ⟨some 45, .pure .move, [.t 44], none⟩,
 ⟨some 46, .pure (.faddr 10), [.t 4], some (45, false)⟩,
 ⟨some 47, .read (.load none), [.t 46], some (45, false)⟩,
 ⟨some 48, .pure (.faddr 10), [.t 5], some (45, false)⟩,
 ⟨some 49, .read (.load none), [.t 48], some (45, false)⟩,
 ⟨some 50, .call 265, [.t 47, .t 49], some (45, false)⟩,
 ⟨some 51, .pure (.un .not), [.t 50], some (45, false)⟩,
 ⟨some 52, .pure .pick, [.t 45, .c (.bool true), .t 51], none⟩,
 ⟨some 53, .pure .move, [.t 52], none⟩,
 ⟨some 54, .read (.load none), [.t 7], some (53, false)⟩,
 ⟨some 55, .pure (.bin .lss), [.t 54, .c (.int .i64 1)], some (53, false)⟩,
 ⟨some 56, .pure .pick, [.t 53, .c (.bool true), .t 55], none⟩])
 (.cond (.t 56)
 (.seq (.ops [⟨some 8, .pure .move, [.c (.bool false)], none⟩])
 .ret)
 .skip))
 (.seq (.ops [⟨some 57, .pure (.faddr 12), [.t 4], none⟩,
 ⟨some 58, .read (.load none), [.t 57], none⟩,
 ⟨some 59, .pure (.faddr 12), [.t 5], none⟩,
 ⟨some 60, .read (.load none), [.t 59], none⟩,
 ⟨some 9, .pure .move, [.t 58], none⟩,
 ⟨some 10, .pure .move, [.t 60], none⟩])
 (.seq (.seq (.ops [⟨some 61, .read (.load none), [.t 6], none⟩,
 ⟨some 62, .pure (.un .not), [.t 61], none⟩])
 (.cond (.t 62)
 (.ops [⟨some 63, .read (.load (some 13)), [.t 4], none⟩,
 ⟨some 64, .pcall 266, [.t 63], none⟩,
 ⟨some 65, .read (.load (some 13)), [.t 5], none⟩,
 ⟨some 66, .pcall 266, [.t 65], none⟩,
 ⟨some 9, .pure .move, [.t 64], none⟩,
 ⟨some 10, .pure .move, [.t 66], none⟩])
 .skip))
 (.seq (.ops [⟨some 67, .pure (.mkfn 267), [.t 6, .t 7], none⟩,
 ⟨some 11, .new (.new 1 [.nilf]), [], none⟩,
 ⟨none, .eff (.store 1), [.t 11, .t 67], none⟩])
 (.seq (.ops [⟨some 68, .pure (.faddr 11), [.t 4], none⟩,
 ⟨some 69, .read (.load none), [.t 68], none⟩,
 ⟨some 70, .pure (.faddr 11), [.t 5], none⟩,
 ⟨some 71, .read (.load none), [.t 70], none⟩,
 ⟨some 72, .read (.load none), [.t 11], none⟩,
 ⟨some 73, .call 268, [.t 69, .t 71, .t 72], none⟩,
 ⟨some 74, .pure .move, [.t 73], none⟩,
 ⟨some 75, .pure .move, [.t 9], some (74, true)⟩,
 ⟨some 76, .pure .move, [.t 10], some (74, true)⟩,
 ⟨some 77, .pure (.mkfn 270), [.t 11], some (74, true)⟩,
 ⟨some 78, .call 269, [.t 75, .t 76, .t 77], some (74, true)⟩,
 ⟨some 79, .pure .pick, [.t 74, .t 78, .c (.bool false)], none⟩,
 ⟨some 8, .pure .move, [.t 79], none⟩])
 .ret)))))) }
/-- strings.Compare -/
def ac257 : AFn :=
 { nt := 8, res := [.tmp 4], body :=
 (.seq (.ops [⟨some 4, .pure .move, [.c (.int .i64 0)], none⟩])
 (.seq (.ops [⟨some 5, .pure .move, [.t 0], none⟩,
 ⟨some 6, .pure .move, [.t 1], none⟩,
 ⟨some 7, .pcall 272, [.t 5, .t 6], none⟩,
 ⟨some 4, .pure .move, [.t 7], none⟩])
 .ret)) }
/-- datakit/numset.validBound -/
def ac262 : AFn :=
 { nt := 12, res := [.tmp 2], body :=
 (.seq (.ops [⟨some 1, .new (.box 5), [.t 0], none⟩,
 ⟨some 2, .pure .move, [.c (.bool false)], none⟩])
 (.seq (.seq (.ops [⟨some 3, .pure (.faddr 0), [.t 1], none⟩,
 ⟨some 4, .read (.load none), [.t 3], none⟩,
 ⟨some 5, .pure (.un .not), [.t 4], none⟩])
 (.cond (.t 5)
 (.seq (.ops [⟨some 6, .read (.load (some 5)), [.t 1], none⟩,
 ⟨some 7, .pure (.build [.bool false, .bool false, .str [], .int .i64 0, .bool false] []), [], none⟩,
 ⟨some 8, .pure (.eqF [.bool, .bool, .str, .int, .bool] false), [.t 6, .t 7], none⟩,
 ⟨some 2, .pure .move, [.t 8], none⟩])
 .ret)
 .skip))
 (.seq (.ops [⟨some 9, .pure (.faddr 1), [.t 1], none⟩,
 ⟨some 10, .read (.load (some 3)), [.t 9], none⟩,
 ⟨some 11, .pcall 140, [.t 10], none⟩,
 ⟨some 2, .pure .move, [.t 11], none⟩])
 .ret))) }
/-- slices.Equal[[]byte,byte] -/
def ac265 : AFn :=
 { nt := 26, res := [.tmp 4], body :=
 (.seq (.ops [⟨some 4, .pure .move, [.c (.bool false)], none⟩])
 (.seq (.seq (.ops [⟨some 6, .pure .move, [.t 0], none⟩,
 ⟨some 7, .pure .lenL, [.t 6], none⟩,
 ⟨some 8, .pure .move, [.t 1], none⟩,
 ⟨some 9, .pure .lenL, [.t 8], none⟩,
 ⟨some 10, .pure (.bin .neq), [.t 7, .t 9], none⟩])
 (.cond (.t 10)
 (.seq (.ops [⟨some 4, .pure .move, [.c (.bool false)], none⟩])
 .ret)
 .skip))
 (.seq (.seq (.ops [⟨some 11, .pure .move, [.t 0], none⟩,
 ⟨some 12, .pure .lenL, [.t 11], none⟩,
 ⟨some 13, .pure .move, [.c (.int .i64 0)], none⟩])
 (.block 0
 (.loop [0, 1, 12, 13]
 (.seq (.ops [⟨some 14, .pure (.bin .lss), [.t 13, .t 12], none⟩])
 (.seq (.cond (.t 14)
 .skip
 (.exit 0))
 (.seq (.block 1
 (.seq (.ops [⟨some 15, .pure .move, [.t 13], none⟩,
 ⟨some 5, .pure .move, [.t 15], none⟩])
 (.seq (.ops [⟨some 16, .pure .move, [.t 0], none⟩,
 ⟨some 17, .pure .move, [.t 5], none⟩,
 ⟨some 18, .pure (.iaddrS 1), [.t 16, .t 17], none⟩,
 ⟨some 19, .read (.load none), [.t 18], none⟩,
 ⟨some 20, .pure .move, [.t 1], none⟩,
 ⟨some 21, .pure .move, [.t 5], none⟩,
 ⟨some 22, .pure (.iaddrS 1), [.t 20, .t 21], none⟩,
 ⟨some 23, .read (.load none), [.t 22], none⟩,
 ⟨some 24, .pure (.bin .neq), [.t 19, .t 23], none⟩])
 (.cond (.t 24)
 (.seq (.ops [⟨some 4, .pure .move, [.c (.bool false)], none⟩])
 .ret)
 .skip))))
 (.ops [⟨some 25, .pure (.bin .add), [.t 13, .c (.int .i64 1)], none⟩,
 ⟨some 13, .pure .move, [.t 25], none⟩])))))))
 (.seq (.ops [⟨some 4, .pure .move, [.c (.bool true)], none⟩])
 .ret)))) }
/-- datakit/value.sorted -/
def ac266 : AFn :=
 { nt := 10, res := [.tmp 2], body :=
 (.seq (.ops [⟨some 1, .new (.box 13), [.t 0], none⟩,
 ⟨some 2, .pure .move, [.c (.snil 14)], none⟩])
 (.seq (.ops [⟨some 4, .pure (.faddr 12), [.t 1], none⟩,
 ⟨some 5, .read (.load none), [.t 4], none⟩,
 ⟨some 6, .call 130, [.t 5], none⟩,
 ⟨some 3, .pure .move, [.t 6], none⟩])
 (.seq (.ops [⟨some 7, .pure .move, [.t 3], none⟩,
 ⟨some 8, .call 274, [.t 7, .c (.fn 275 [])], none⟩])
 (.seq (.ops [⟨some 9, .pure .move, [.t 3], none⟩,
 ⟨some 2, .pure .move, [.t 9], none⟩])
 .ret)))) }
/-- datakit/value.same$1 -/
def ac267 : AFn :=
 { nt := 13, res := [.tmp 6], body :=
 (.seq (.ops [⟨some 4, .new (.box 13), [.t 0], none⟩,
 ⟨some 5, .new (.box 13), [.t 1], none⟩,
 ⟨some 6, .pure .move, [.c (.bool false)], none⟩])
 (.seq (.ops [⟨some 7, .read (.load (some 13)), [.t 4], none⟩,
 ⟨some 8, .read (.load (some 13)), [.t 5], none⟩,
 ⟨some 9, .read (.load none), [.t 2], none⟩,
 ⟨some 10, .read (.load none), [.t 3], none⟩,
 ⟨some 11, .pure (.bin .sub), [.t 10, .c (.int .i64 1)], none⟩,
 ⟨some 12, .pcall 254, [.t 7, .t 8, .t 9, .t 11], none⟩,
 ⟨some 6, .pure .move, [.t 12], none⟩])
 .ret)) }
/-- slices.EqualFunc[[]datakit/api.Value,[]datakit/api.Value,datakit/api.Value,datakit/api.Value] -/
def ac268 : AFn :=
 { nt := 32, res := [.tmp 6], body :=
 (.seq (.ops [⟨some 6, .pure .move, [.c (.bool false)], none⟩])
 (.seq (.seq (.ops [⟨some 10, .pure .move, [.t 0], none⟩,
 ⟨some 11, .pure .lenL, [.t 10], none⟩,
 ⟨some 12, .pure .move, [.t 1], none⟩,
 ⟨some 13, .pure .lenL, [.t 12], none⟩,
 ⟨some 14, .pure (.bin .neq), [.t 11, .t 13], none⟩])
 (.cond (.t 14)
 (.seq (.ops [⟨some 6, .pure .move, [.c (.bool false)], none⟩])
 .ret)
 .skip))
 (.seq (.seq (.ops [⟨some 15, .pure .move, [.t 0], none⟩,
 ⟨some 16, .pure .lenL, [.t 15], none⟩,
 ⟨some 17, .pure .move, [.c (.int .i64 0)], none⟩])
 (.block 0
 (.loop [1, 2, 15, 16, 17]
 (.seq (.ops [⟨some 18, .pure (.bin .lss), [.t 17, .t 16], none⟩])
 (.seq (.cond (.t 18)
 .skip
 (.exit 0))
 (.seq (.block 1
 (.seq (.ops [⟨some 19, .pure .move, [.t 17], none⟩,
 ⟨some 20, .pure (.iaddrS 13), [.t 15, .t 17], none⟩,
 ⟨some 21, .read (.load (some 13)), [.t 20], none⟩,
 ⟨some 8, .new (.new 13 [.agg [.int .i64 0, .bool false, .bool false, .str [], .int .i64 0, .int .i64 0, .int .i64 0, .int .i64 0, .int .i64 0, .str [], .snil 1, .snil 13, .snil 14]]), [], none⟩,
 ⟨some 7, .pure .move, [.t 19], none⟩,
 ⟨none, .eff (.store 13), [.t 8, .t 21], none⟩])
 (.seq (.ops [⟨some 22, .pure .move, [.t 1], none⟩,
 ⟨some 23, .pure .move, [.t 7], none⟩,
 ⟨some 24, .pure (.iaddrS 13), [.t 22, .t 23], none⟩,
 ⟨some 25, .read (.load (some 13)), [.t 24], none⟩,
 ⟨some 9, .new (.new 13 [.agg [.int .i64 0, .bool false, .bool false, .str [], .int .i64 0, .int .i64 0, .int .i64 0, .int .i64 0, .int .i64 0, .str [], .snil 1, .snil 13, .snil 14]]), [], none⟩,
 ⟨none, .eff (.store 13), [.t 9, .t 25], none⟩])
 (.seq (.ops [⟨some 26, .pure .move, [.t 2], none⟩,
 ⟨some 27, .read (.load (some 13)), [.t 8], none⟩,
 ⟨some 28, .read (.load (some 13)), [.t 9], none⟩,
 ⟨some 29, .callv, [.t 26, .t 27, .t 28], none⟩,
 ⟨some 30, .pure (.un .not), [.t 29], none⟩])
 (.cond (.t 30)
 (.seq (.ops [⟨some 6, .pure .move, [.c (.bool false)], none⟩])
 .ret)
 .skip)))))
 (.ops [⟨some 31, .pure (.bin .add), [.t 17, .c (.int .i64 1)], none⟩,
 ⟨some 17, .pure .move, [.t 31], none⟩])))))))
 (.seq (.ops [⟨some 6, .pure .move, [.c (.bool true)], none⟩])
 .ret)))) }
/-- slices.EqualFunc[[]datakit/api.Field,[]datakit/api.Field,datakit/api.Field,datakit/api.Field] -/
def ac269 : AFn :=
 { nt := 32, res := [.tmp 6], body :=
 (.seq (.ops [⟨some 6, .pure .move, [.c (.bool false)], none⟩])
 (.seq (.seq (.ops [⟨some 10, .pure .move, [.t 0], none⟩,
 ⟨some 11, .pure .lenL, [.t 10], none⟩,
 ⟨some 12, .pure .move, [.t 1], none⟩,
 ⟨some 13, .pure .lenL, [.t 12], none⟩,
 ⟨some 14, .pure (.bin .neq), [.t 11, .t 13], none⟩])
 (.cond (.t 14)
 (.seq (.ops [⟨some 6, .pure .move, [.c (.bool false)], none⟩])
 .ret)
 .skip))
 (.seq (.seq (.ops [⟨some 15, .pure .move, [.t 0], none⟩,
 ⟨some 16, .pure .lenL, [.t 15], none⟩,
 ⟨some 17, .pure .move, [.c (.int .i64 0)], none⟩])
 (.block 0
 (.loop [1, 2, 15, 16, 17]
 (.seq (.ops [⟨some 18, .pure (.bin .lss), [.t 17, .t 16], none⟩])
 (.seq (.cond (.t 18)
 .skip
 (.exit 0))
 (.seq (.block 1
 (.seq (.ops [⟨some 19, .pure .move, [.t 17], none⟩,
 ⟨some 20, .pure (.iaddrS 14), [.t 15, .t 17], none⟩,
 ⟨some 21, .read (.load (some 14)), [.t 20], none⟩,
 ⟨some 8, .new (.new 14 [.agg [.str [], .int .i64 0, .bool false, .bool false, .str [], .int .i64 0, .int .i64 0, .int .i64 0, .int .i64 0, .int .i64 0, .str [], .snil 1, .snil 13, .snil 14]]), [], none⟩,
 ⟨some 7, .pure .move, [.t 19], none⟩,
 ⟨none, .eff (.store 14), [.t 8, .t 21], none⟩])
 (.seq (.ops [⟨some 22, .pure .move, [.t 1], none⟩,
 ⟨some 23, .pure .move, [.t 7], none⟩,
 ⟨some 24, .pure (.iaddrS 14), [.t 22, .t 23], none⟩,
 ⟨some 25, .read (.load (some 14)), [.t 24], none⟩,
 ⟨some 9, .new (.new 14 [.agg [.str [], .int .i64 0, .bool false, .bool false, .str [], .int .i64 0, .int .i64 0, .int .i64 0, .int .i64 0, .int .i64 0, .str [], .snil 1, .snil 13, .snil 14]]), [], none⟩,
 ⟨none, .eff (.store 14), [.t 9, .t 25], none⟩])
 (.seq (.ops [⟨some 26, .pure .move, [.t 2], none⟩,
 ⟨some 27, .read (.load (some 14)), [.t 8], none⟩,
 ⟨some 28, .read (.load (some 14)), [.t 9], none⟩,
 ⟨some 29, .callv, [.t 26, .t 27, .t 28], none⟩,
 ⟨some 30, .pure (.un .not), [.t 29], none⟩])
 (.cond (.t 30)
 (.seq (.ops [⟨some 6, .pure .move, [.c (.bool false)], none⟩])
 .ret)
 .skip)))))
 (.ops [⟨some 31, .pure (.bin .add), [.t 17, .c (.int .i64 1)], none⟩,
 ⟨some 17, .pure .move, [.t 31], none⟩])))))))
 (.seq (.ops [⟨some 6, .pure .move, [.c (.bool true)], none⟩])
 .ret)))) }
/-- datakit/value.same$2 -/
def ac270 : AFn :=
 { nt := 19, res := [.tmp 5], body :=
 (.seq (.ops [⟨some 3, .new (.box 14), [.t 0], none⟩,
 ⟨some 4, .new (.box 14), [.t 1], none⟩,
 ⟨some 5, .pure .move, [.c (.bool false)], none⟩])
 (.seq (.ops [⟨some 6, .pure (.faddr 0), [.t 3], none⟩,
 ⟨some 7, .read (.load none), [.t 6], none⟩,
 ⟨some 8, .pure (.faddr 0), [.t 4], none⟩,
 ⟨some 9, .read (.load none), [.t 8], none⟩,
 ⟨some 10, .pure (.bin .eql), [.t 7, .t 9], none⟩,
 ⟨some 11, .pure .move, [.t 10], none⟩,
 ⟨some 12, .read (.load none), [.t 2], some (11, true)⟩,
 ⟨some 13, .pure (.faddr 1), [.t 3], some (11, true)⟩,
 ⟨some 14, .read (.load (some 13)), [.t 13], some (11, true)⟩,
 ⟨some 15, .pure (.faddr 1), [.t 4], some (11, true)⟩,
 ⟨some 16, .read (.load (some 13)), [.t 15], some (11, true)⟩,
 ⟨some 17, .callv, [.t 12, .t 14, .t 16], some (11, true)⟩,
 ⟨some 18, .pure .pick, [.t 11, .t 17, .c (.bool false)], none⟩,
 ⟨some 5, .pure .move, [.t 18], none⟩])
 .ret)) }
/-- slices.SortStableFunc[[]datakit/api.Field,datakit/api.Field] -/
def ac274 : AFn :=
 { nt := 9, res := [], body :=
 (.ops [⟨some 4, .pure .move, [.t 0], none⟩,
 ⟨some 5, .pure .move, [.t 0], none⟩,
 ⟨some 6, .pure .lenL, [.t 5], none⟩,
 ⟨some 7, .pure .move, [.t 1], none⟩,
 ⟨some 8, .call 287, [.t 4, .t 6, .t 7], none⟩]) }
/-- datakit/value.sorted$1 -/
def ac275 : AFn :=
 { nt := 10, res := [.tmp 4], body :=
 (.seq (.ops [⟨some 2, .new (.box 14), [.t 0], none⟩,
 ⟨some 3, .new (.box 14), [.t 1], none⟩,
 ⟨some 4, .pure .move, [.c (.int .i64 0)], none⟩])
 (.seq (.ops [⟨some 5, .pure (.faddr 0), [.t 2], none⟩,
 ⟨some 6, .read (.load none), [.t 5], none⟩,
 ⟨some 7, .pure (.faddr 0), [.t 3], none⟩,
 ⟨some 8, .read (.load none), [.t 7], none⟩,
 ⟨some 9, .pcall 257, [.t 6, .t 8], none⟩,
 ⟨some 4, .pure .move, [.t 9], none⟩])
 .ret)) }
/-- slices.stableCmpFunc[datakit/api.Field] -/
def ac287 : AFn :=
 { nt := 63, res := [], body :=
 (.seq (.ops [⟨some 6, .pure .move, [.c (.int .i64 20)], none⟩])
 (.seq (.ops [⟨some 10, .pure .move, [.t 6], none⟩,
 ⟨some 7, .pure .move, [.c (.int .i64 0)], none⟩,
 ⟨some 8, .pure .move, [.t 10], none⟩])
 (.seq (.block 0
 (.loop [0, 1, 2, 6, 7, 8]
 (.seq (.seq (.ops [⟨some 11, .pure .move, [.t 8], none⟩,
 ⟨some 12, .pure .move, [.t 1], none⟩,
 ⟨some 13, .pure (.bin .leq), [.t 11, .t 12], none⟩])
 (.cond (.t 13)
 .skip
 (.exit 0)))
 (.block 1
 (.seq (.ops [⟨some 14, .pure .move, [.t 0], none⟩,
 ⟨some 15, .pure .move, [.t 7], none⟩,
 ⟨some 16, .pure .move, [.t 8], none⟩,
 ⟨some 17, .pure .move, [.t 2], none⟩,
 ⟨some 18, .call 292, [.t 14, .t 15, .t 16, .t 17], none⟩])
 (.seq (.ops [⟨some 19, .pure .move, [.t 8], none⟩,
 ⟨some 7, .pure .move, [.t 19], none⟩])
 (.ops [⟨some 20, .pure .move, [.t 8], none⟩,
 ⟨some 21, .pure .move, [.t 6], none⟩,
 ⟨some 22, .pure (.bin .add), [.t 20, .t 21], none⟩,
 ⟨some 8, .pure .move, [.t 22], none⟩])))))))
 (.seq (.ops [⟨some 23, .pure .move, [.t 0], none⟩,
 ⟨some 24, .pure .move, [.t 7], none⟩,
 ⟨some 25, .pure .move, [.t 1], none⟩,
 ⟨some 26, .pure .move, [.t 2], none⟩,
 ⟨some 27, .call 292, [.t 23, .t 24, .t 25, .t 26], none⟩])
 (.block 2
 (.loop [0, 1, 2, 6]
 (.seq (.seq (.ops [⟨some 28, .pure .move, [.t 6], none⟩,
 ⟨some 29, .pure .move, [.t 1], none⟩,
 ⟨some 30, .pure (.bin .lss), [.t 28, .t 29], none⟩])
 (.cond (.t 30)
 .skip
 (.exit 2)))
 (.block 3
 (.seq (.ops [⟨some 31, .pure .move, [.t 6], none⟩,
 ⟨some 32, .pure (.bin .mul), [.c (.int .i64 2), .t 31], none⟩,
 ⟨some 7, .pure .move, [.c (.int .i64 0)], none⟩,
 ⟨some 8, .pure .move, [.t 32], none⟩])
 (.seq (.block 4
 (.loop [0, 1, 2, 6, 7, 8]
 (.seq (.seq (.ops [⟨some 33, .pure .move, [.t 8], none⟩,
 ⟨some 34, .pure .move, [.t 1], none⟩,
 ⟨some 35, .pure (.bin .leq), [.t 33, .t 34], none⟩])
 (.cond (.t 35)
 .skip
 (.exit 4)))
 (.block 5
 (.seq (.ops [⟨some 36, .pure .move, [.t 0], none⟩,
 ⟨some 37, .pure .move, [.t 7], none⟩,
 ⟨some 38, .pure .move, [.t 7], none⟩,
 ⟨some 39, .pure .move, [.t 6], none⟩,
 ⟨some 40, .pure (.bin .add), [.t 38, .t 39], none⟩,
 ⟨some 41, .pure .move, [.t 8], none⟩,
 ⟨some 42, .pure .move, [.t 2], none⟩,
 ⟨some 43, .call 293, [.t 36, .t 37, .t 40, .t 41, .t 42], none⟩])
 (.seq (.ops [⟨some 44, .pure .move, [.t 8], none⟩,
 ⟨some 7, .pure .move, [.t 44], none⟩])
 (.ops [⟨some 45, .pure .move, [.t 8], none⟩,
 ⟨some 46, .pure .move, [.t 6], none⟩,
 ⟨some 47, .pure (.bin .mul), [.c (.int .i64 2), .t 46], none⟩,
 ⟨some 48, .pure (.bin .add), [.t 45, .t 47], none⟩,
 ⟨some 8, .pure .move, [.t 48], none⟩])))))))
 (.seq (.seq (.ops [⟨some 49, .pure .move, [.t 7], none⟩,
 ⟨some 50, .pure .move, [.t 6], none⟩,
 ⟨some 51, .pure (.bin .add), [.t 49, .t 50], none⟩,
 ⟨some 9, .pure .move, [.t 51], none⟩])
 (.seq (.ops [⟨some 52, .pure .move, [.t 9], none⟩,
 ⟨some 53, .pure .move, [.t 1], none⟩,
 ⟨some 54, .pure (.bin .lss), [.t 52, .t 53], none⟩])
 (.cond (.t 54)
 (.ops [⟨some 55, .pure .move, [.t 0], none⟩,
 ⟨some 56, .pure .move, [.t 7], none⟩,
 ⟨some 57, .pure .move, [.t 9], none⟩,
 ⟨some 58, .pure .move, [.t 1], none⟩,
 ⟨some 59, .pure .move, [.t 2], none⟩,
 ⟨some 60, .call 293, [.t 55, .t 56, .t 57, .t 58, .t 59], none⟩])
 .skip)))
 (.ops [⟨some 61, .pure .move, [.t 6], none⟩,
 ⟨some 62, .pure (.bin .mul), [.t 61, .c (.int .i64 2)], none⟩,
 ⟨some 6, .pure .move, [.t 62], none⟩])))))))))))) }
/-- slices.insertionSortCmpFunc[datakit/api.Field] -/
def ac292 : AFn :=
 { nt := 53, res := [], body :=
 (.seq (.ops [⟨some 10, .pure .move, [.t 1], none⟩,
 ⟨some 11, .pure (.bin .add), [.t 10, .c (.int .i64 1)], none⟩,
 ⟨some 8, .pure .move, [.t 11], none⟩])
 (.block 0
 (.loop [0, 1, 2, 3, 8]
 (.seq (.seq (.ops [⟨some 12, .pure .move, [.t 8], none⟩,
 ⟨some 13, .pure .move, [.t 2], none⟩,
 ⟨some 14, .pure (.bin .lss), [.t 12, .t 13], none⟩])
 (.cond (.t 14)
 .skip
 (.exit 0)))
 (.seq (.block 1
 (.seq (.ops [⟨some 17, .pure .move, [.t 8], none⟩,
 ⟨some 9, .pure .move, [.t 17], none⟩])
 (.block 2
 (.loop [0, 1, 2, 3, 8, 9]
 (.seq (.seq (.ops [⟨some 18, .pure .move, [.t 9], none⟩,
 ⟨some 19, .pure .move, [.t 1], none⟩,
 ⟨some 20, .pure (.bin .gtr), [.t 18, .t 19], none⟩,
 ⟨some 21, .pure .move, [.t 20], none⟩,
 ⟨some 22, .pure .move, [.t 3], some (21, true)⟩,
 ⟨some 23, .pure .move, [.t 0], some (21, true)⟩,
 ⟨some 24, .pure .move, [.t 9], some (21, true)⟩,
 ⟨some 25, .pure (.iaddrS 14), [.t 23, .t 24], some (21, true)⟩,
 ⟨some 26, .read (.load (some 14)), [.t 25], some (21, true)⟩,
 ⟨some 27, .pure .move, [.t 0], some (21, true)⟩,
 ⟨some 28, .pure .move, [.t 9], some (21, true)⟩,
 ⟨some 29, .pure (.bin .sub), [.t 28, .c (.int .i64 1)], some (21, true)⟩,
 ⟨some 30, .pure (.iaddrS 14), [.t 27, .t 29], some (21, true)⟩,
 ⟨some 31, .read (.load (some 14)), [.t 30], some (21, true)⟩,
 ⟨some 32, .callv, [.t 22, .t 26, .t 31], some (21, true)⟩,
 ⟨some 33, .pure (.bin .lss), [.t 32, .c (.int .i64 0)], some (21, true)⟩,
 ⟨some 34, .pure .pick, [.t 21, .t 33, .c (.bool false)], none⟩])
 (.cond (.t 34)
 .skip
 (.exit 2)))
 (.seq (.block 3
 (.ops [⟨some 37, .pure .move, [.t 0], none⟩,
 ⟨some 38, .pure .move, [.t 9], none⟩,
 ⟨some 39, .pure .move, [.t 0], none⟩,
 ⟨some 40, .pure .move, [.t 9], none⟩,
 ⟨some 41, .pure (.bin .sub), [.t 40, .c (.int .i64 1)], none⟩,
 ⟨some 42, .pure .move, [.t 0], none⟩,
 ⟨some 43, .pure .move, [.t 9], none⟩,
 ⟨some 44, .pure (.bin .sub), [.t 43, .c (.int .i64 1)], none⟩,
 ⟨some 45, .pure (.iaddrS 14), [.t 42, .t 44], none⟩,
 ⟨some 46, .read (.load (some 14)), [.t 45], none⟩,
 ⟨some 47, .pure .move, [.t 0], none⟩,
 ⟨some 48, .pure .move, [.t 9], none⟩,
 ⟨some 49, .pure (.iaddrS 14), [.t 47, .t 48], none⟩,
 ⟨some 50, .read (.load (some 14)), [.t 49], none⟩,
 ⟨some 51, .pure (.iaddrS 14), [.t 37, .t 38], none⟩,
 ⟨none, .eff (.store 14), [.t 51, .t 46], none⟩,
 ⟨some 52, .pure (.iaddrS 14), [.t 39, .t 41], none⟩,
 ⟨none, .eff (.store 14), [.t 52, .t 50], none⟩]))
 (.ops [⟨some 35, .pure .move, [.t 9], none⟩,
 ⟨some 36, .pure (.bin .sub), [.t 35, .c (.int .i64 1)], none⟩,
 ⟨some 9, .pure .move, [.t 36], none⟩])))))))
 (.ops [⟨some 15, .pure .move, [.t 8], none⟩,
 ⟨some 16, .pure (.bin .add), [.t 15, .c (.int .i64 1)], none⟩,
 ⟨some 8, .pure .move, [.t 16], none⟩])))))) }
/-- slices.symMergeCmpFunc[datakit/api.Field] -/
def ac293 : AFn :=
 { nt := 220, res := [], body :=
 (.seq (.seq (.ops [⟨some 25, .pure .move, [.t 2], none⟩,
 ⟨some 26, .pure .move, [.t 1], none⟩,
 ⟨some 27, .pure (.bin .sub), [.t 25, .t 26], none⟩,
 ⟨some 28, .pure (.bin .eql), [.t 27, .c (.int .i64 1)], none⟩])
 (.cond (.t 28)
 (.seq (.ops [⟨some 29, .pure .move, [.t 2], none⟩,
 ⟨some 10, .pure .move, [.t 29], none⟩])
 (.seq (.ops [⟨some 30, .pure .move, [.t 3], none⟩,
 ⟨some 11, .pure .move, [.t 30], none⟩])
 (.seq (.block 0
 (.loop [0, 1, 4, 10, 11]
 (.seq (.seq (.ops [⟨some 31, .pure .move, [.t 10], none⟩,
 ⟨some 32, .pure .move, [.t 11], none⟩,
 ⟨some 33, .pure (.bin .lss), [.t 31, .t 32], none⟩])
 (.cond (.t 33)
 .skip
 (.exit 0)))
 (.block 1
 (.seq (.ops [⟨some 34, .pure .move, [.t 10], none⟩,
 ⟨some 35, .pure .move, [.t 11], none⟩,
 ⟨some 36, .pure (.bin .add), [.t 34, .t 35], none⟩,
 ⟨some 37, .pure (.conv .u64), [.t 36], none⟩,
 ⟨some 38, .pure (.bin .shr), [.t 37, .c (.int .u64 1)], none⟩,
 ⟨some 39, .pure (.conv .i64), [.t 38], none⟩,
 ⟨some 12, .pure .move, [.t 39], none⟩])
 (.seq (.ops [⟨some 40, .pure .move, [.t 4], none⟩,
 ⟨some 41, .pure .move, [.t 0], none⟩,
 ⟨some 42, .pure .move, [.t 12], none⟩,
 ⟨some 43, .pure (.iaddrS 14), [.t 41, .t 42], none⟩,
 ⟨some 44, .read (.load (some 14)), [.t 43], none⟩,
 ⟨some 45, .pure .move, [.t 0], none⟩,
 ⟨some 46, .pure .move, [.t 1], none⟩,
 ⟨some 47, .pure (.iaddrS 14), [.t 45, .t 46], none⟩,
 ⟨some 48, .read (.load (some 14)), [.t 47], none⟩,
 ⟨some 49, .callv, [.t 40, .t 44, .t 48], none⟩,
 ⟨some 50, .pure (.bin .lss), [.t 49, .c (.int .i64 0)], none⟩])
 (.cond (.t 50)
 (.ops [⟨some 51, .pure .move, [.t 12], none⟩,
 ⟨some 52, .pure (.bin .add), [.t 51, .c (.int .i64 1)], none⟩,
 ⟨some 10, .pure .move, [.t 52], none⟩])
 (.ops [⟨some 53, .pure .move, [.t 12], none⟩,
 ⟨some 11, .pure .move, [.t 53], none⟩]))))))))
 (.seq (.seq (.ops [⟨some 54, .pure .move, [.t 1], none⟩,
 ⟨some 13, .pure .move, [.t 54], none⟩])
 (.block 2
 (.loop [0, 10, 13]
 (.seq (.seq (.ops [⟨some 55, .pure .move, [.t 13], none⟩,
 ⟨some 56, .pure .move, [.t 10], none⟩,
 ⟨some 57, .pure (.bin .sub), [.t 56, .c (.int .i64 1)], none⟩,
 ⟨some 58, .pure (.bin .lss), [.t 55, .t 57], none⟩])
 (.cond (.t 58)
 .skip
 (.exit 2)))
 (.seq (.block 3
 (.ops [⟨some 61, .pure .move, [.t 0], none⟩,
 ⟨some 62, .pure .move, [.t 13], none⟩,
 ⟨some 63, .pure .move, [.t 0], none⟩,
 ⟨some 64, .pure .move, [.t 13], none⟩,
 ⟨some 65, .pure (.bin .add), [.t 64, .c (.int .i64 1)], none⟩,
 ⟨some 66, .pure .move, [.t 0], none⟩,
 ⟨some 67, .pure .move, [.t 13], none⟩,
 ⟨some 68, .pure (.bin .add), [.t 67, .c (.int .i64 1)], none⟩,
 ⟨some 69, .pure (.iaddrS 14), [.t 66, .t 68], none⟩,
 ⟨some 70, .read (.load (some 14)), [.t 69], none⟩,
 ⟨some 71, .pure .move, [.t 0], none⟩,
 ⟨some 72, .pure .move, [.t 13], none⟩,
 ⟨some 73, .pure (.iaddrS 14), [.t 71, .t 72], none⟩,
 ⟨some 74, .read (.load (some 14)), [.t 73], none⟩,
 ⟨some 75, .pure (.iaddrS 14), [.t 61, .t 62], none⟩,
 ⟨none, .eff (.store 14), [.t 75, .t 70], none⟩,
 ⟨some 76, .pure (.iaddrS 14), [.t 63, .t 65], none⟩,
 ⟨none, .eff (.store 14), [.t 76, .t 74], none⟩]))
 (.ops [⟨some 59, .pure .move, [.t 13], none⟩,
 ⟨some 60, .pure (.bin .add), [.t 59, .c (.int .i64 1)], none⟩,
 ⟨some 13, .pure .move, [.t 60], none⟩]))))))
 .ret))))
 .skip))
 (.seq (.seq (.ops [⟨some 77, .pure .move, [.t 3], none⟩,
 ⟨some 78, .pure .move, [.t 2], none⟩,
 ⟨some 79, .pure (.bin .sub), [.t 77, .t 78], none⟩,
 ⟨some 80, .pure (.bin .eql), [.t 79, .c (.int .i64 1)], none⟩])
 (.cond (.t 80)
 (.seq (.ops [⟨some 81, .pure .move, [.t 1], none⟩,
 ⟨some 14, .pure .move, [.t 81], none⟩])
 (.seq (.ops [⟨some 82, .pure .move, [.t 2], none⟩,
 ⟨some 15, .pure .move, [.t 82], none⟩])
 (.seq (.block 4
 (.loop [0, 2, 4, 14, 15]
 (.seq (.seq (.ops [⟨some 83, .pure .move, [.t 14], none⟩,
 ⟨some 84, .pure .move, [.t 15], none⟩,
 ⟨some 85, .pure (.bin .lss), [.t 83, .t 84], none⟩])
 (.cond (.t 85)
 .skip
 (.exit 4)))
 (.block 5
 (.seq (.ops [⟨some 86, .pure .move, [.t 14], none⟩,
 ⟨some 87, .pure .move, [.t 15], none⟩,
 ⟨some 88, .pure (.bin .add), [.t 86, .t 87], none⟩,
 ⟨some 89, .pure (.conv .u64), [.t 88], none⟩,
 ⟨some 90, .pure (.bin .shr), [.t 89, .c (.int .u64 1)], none⟩,
 ⟨some 91, .pure (.conv .i64), [.t 90], none⟩,
 ⟨some 16, .pure .move, [.t 91], none⟩])
 (.seq (.ops [⟨some 92, .pure .move, [.t 4], none⟩,
 ⟨some 93, .pure .move, [.t 0], none⟩,
 ⟨some 94, .pure .move, [.t 2], none⟩,
 ⟨some 95, .pure (.iaddrS 14), [.t 93, .t 94], none⟩,
 ⟨some 96, .read (.load (some 14)), [.t 95], none⟩,
 ⟨some 97, .pure .move, [.t 0], none⟩,
 ⟨some 98, .pure .move, [.t 16], none⟩,
 ⟨some 99, .pure (.iaddrS 14), [.t 97, .t 98], none⟩,
 ⟨some 100, .read (.load (some 14)), [.t 99], none⟩,
 ⟨some 101, .callv, [.t 92, .t 96, .t 100], none⟩,
 ⟨some 102, .pure (.bin .lss), [.t 101, .c (.int .i64 0)], none⟩,
 ⟨some 103, .pure (.un .not), [.t 102], none⟩])
 (.cond (.t 103)
 (.ops [⟨some 104, .pure .move, [.t 16], none⟩,
 ⟨some 105, .pure (.bin .add), [.t 104, .c (.int .i64 1)], none⟩,
 ⟨some 14, .pure .move, [.t 105], none⟩])
 (.ops [⟨some 106, .pure .move, [.t 16], none⟩,
 ⟨some 15, .pure .move, [.t 106], none⟩]))))))))
 (.seq (.seq (.ops [⟨some 107, .pure .move, [.t 2], none⟩,
 ⟨some 17, .pure .move, [.t 107], none⟩])
 (.block 6
 (.loop [0, 14, 17]
 (.seq (.seq (.ops [⟨some 108, .pure .move, [.t 17], none⟩,
 ⟨some 109, .pure .move, [.t 14], none⟩,
 ⟨some 110, .pure (.bin .gtr), [.t 108, .t 109], none⟩])
 (.cond (.t 110)
 .skip
 (.exit 6)))
 (.seq (.block 7
 (.ops [⟨some 113, .pure .move, [.t 0], none⟩,
 ⟨some 114, .pure .move, [.t 17], none⟩,
 ⟨some 115, .pure .move, [.t 0], none⟩,
 ⟨some 116, .pure .move, [.t 17], none⟩,
 ⟨some 117, .pure (.bin .sub), [.t 116, .c (.int .i64 1)], none⟩,
 ⟨some 118, .pure .move, [.t 0], none⟩,
 ⟨some 119, .pure .move, [.t 17], none⟩,
 ⟨some 120, .pure (.bin .sub), [.t 119, .c (.int .i64 1)], none⟩,
 ⟨some 121, .pure (.iaddrS 14), [.t 118, .t 120], none⟩,
 ⟨some 122, .read (.load (some 14)), [.t 121], none⟩,
 ⟨some 123, .pure .move, [.t 0], none⟩,
 ⟨some 124, .pure .move, [.t 17], none⟩,
 ⟨some 125, .pure (.iaddrS 14), [.t 123, .t 124], none⟩,
 ⟨some 126, .read (.load (some 14)), [.t 125], none⟩,
 ⟨some 127, .pure (.iaddrS 14), [.t 113, .t 114], none⟩,
 ⟨none, .eff (.store 14), [.t 127, .t 122], none⟩,
 ⟨some 128, .pure (.iaddrS 14), [.t 115, .t 117], none⟩,
 ⟨none, .eff (.store 14), [.t 128, .t 126], none⟩]))
 (.ops [⟨some 111, .pure .move, [.t 17], none⟩,
 ⟨some 112, .pure (.bin .sub), [.t 111, .c (.int .i64 1)], none⟩,
 ⟨some 17, .pure .move, [.t 112], none⟩]))))))
 .ret))))
 .skip))
 (.seq (.ops [⟨some 129, .pure .move, [.t 1], none⟩,
 ⟨some 130, .pure .move, [.t 3], none⟩,
 ⟨some 131, .pure (.bin .add), [.t 129, .t 130], none⟩,
 ⟨some 132, .pure (.conv .u64), [.t 131], none⟩,
 ⟨some 133, .pure (.bin .shr), [.t 132, .c (.int .u64 1)], none⟩,
 ⟨some 134, .pure (.conv .i64), [.t 133], none⟩,
 ⟨some 18, .pure .move, [.t 134], none⟩])
 (.seq (.ops [⟨some 135, .pure .move, [.t 18], none⟩,
 ⟨some 136, .pure .move, [.t 2], none⟩,
 ⟨some 137, .pure (.bin .add), [.t 135, .t 136], none⟩,
 ⟨some 19, .pure .move, [.t 137], none⟩])
 (.seq (.ops [⟨some 20, .pure .move, [.c (.int .i64 0)], none⟩,
 ⟨some 21, .pure .move, [.c (.int .i64 0)], none⟩])
 (.seq (.seq (.ops [⟨some 138, .pure .move, [.t 2], none⟩,
 ⟨some 139, .pure .move, [.t 18], none⟩,
 ⟨some 140, .pure (.bin .gtr), [.t 138, .t 139], none⟩])
 (.cond (.t 140)
 (.seq (.ops [⟨some 141, .pure .move, [.t 19], none⟩,
 ⟨some 142, .pure .move, [.t 3], none⟩,
 ⟨some 143, .pure (.bin .sub), [.t 141, .t 142], none⟩,
 ⟨some 20, .pure .move, [.t 143], none⟩])
 (.ops [⟨some 144, .pure .move, [.t 18], none⟩,
 ⟨some 21, .pure .move, [.t 144], none⟩]))
 (.seq (.ops [⟨some 145, .pure .move, [.t 1], none⟩,
 ⟨some 20, .pure .move, [.t 145], none⟩])
 (.ops [⟨some 146, .pure .move, [.t 2], none⟩,
 ⟨some 21, .pure .move, [.t 146], none⟩]))))
 (.seq (.ops [⟨some 147, .pure .move, [.t 19], none⟩,
 ⟨some 148, .pure (.bin .sub), [.t 147, .c (.int .i64 1)], none⟩,
 ⟨some 22, .pure .move, [.t 148], none⟩])
 (.seq (.block 8
 (.loop [0, 1, 2, 3, 4, 18, 19, 20, 21, 22]
 (.seq (.seq (.ops [⟨some 149, .pure .move, [.t 20], none⟩,
 ⟨some 150, .pure .move, [.t 21], none⟩,
 ⟨some 151, .pure (.bin .lss), [.t 149, .t 150], none⟩])
 (.cond (.t 151)
 .skip
 (.exit 8)))
 (.block 9
 (.seq (.ops [⟨some 152, .pure .move, [.t 20], none⟩,
 ⟨some 153, .pure .move, [.t 21], none⟩,
 ⟨some 154, .pure (.bin .add), [.t 152, .t 153], none⟩,
 ⟨some 155, .pure (.conv .u64), [.t 154], none⟩,
 ⟨some 156, .pure (.bin .shr), [.t 155, .c (.int .u64 1)], none⟩,
 ⟨some 157, .pure (.conv .i64), [.t 156], none⟩,
 ⟨some 23, .pure .move, [.t 157], none⟩])
 (.seq (.ops [⟨some 158, .pure .move, [.t 4], none⟩,
 ⟨some 159, .pure .move, [.t 0], none⟩,
 ⟨some 160, .pure .move, [.t 22], none⟩,
 ⟨some 161, .pure .move, [.t 23], none⟩,
 ⟨some 162, .pure (.bin .sub), [.t 160, .t 161], none⟩,
 ⟨some 163, .pure (.iaddrS 14), [.t 159, .t 162], none⟩,
 ⟨some 164, .read (.load (some 14)), [.t 163], none⟩,
 ⟨some 165, .pure .move, [.t 0], none⟩,
 ⟨some 166, .pure .move, [.t 23], none⟩,
 ⟨some 167, .pure (.iaddrS 14), [.t 165, .t 166], none⟩,
 ⟨some 168, .read (.load (some 14)), [.t 167], none⟩,
 ⟨some 169, .callv, [.t 158, .t 164, .t 168], none⟩,
 ⟨some 170, .pure (.bin .lss), [.t 169, .c (.int .i64 0)], none⟩,
 ⟨some 171, .pure (.un .not), [.t 170], none⟩])
 (.cond (.t 171)
 (.ops [⟨some 172, .pure .move, [.t 23], none⟩,
 ⟨some 173, .pure (.bin .add), [.t 172, .c (.int .i64 1)], none⟩,
 ⟨some 20, .pure .move, [.t 173], none⟩])
 (.ops [⟨some 174, .pure .move, [.t 23], none⟩,
 ⟨some 21, .pure .move, [.t 174], none⟩]))))))))
 (.seq (.ops [⟨some 175, .pure .move, [.t 19], none⟩,
 ⟨some 176, .pure .move, [.t 20], none⟩,
 ⟨some 177, .pure (.bin .sub), [.t 175, .t 176], none⟩,
 ⟨some 24, .pure .move, [.t 177], none⟩])
 (.seq (.seq (.ops [⟨some 178, .pure .move, [.t 20], none⟩,
 ⟨some 179, .pure .move, [.t 2], none⟩,
 ⟨some 180, .pure (.bin .lss), [.t 178, .t 179], none⟩,
 ⟨some 181, .pure .move, [.t 180], none⟩,
 ⟨some 182, .pure .move, [.t 2], some (181, true)⟩,
 ⟨some 183, .pure .move, [.t 24], some (181, true)⟩,
 ⟨some 184, .pure (.bin .lss), [.t 182, .t 183], some (181, true)⟩,
 ⟨some 185, .pure .pick, [.t 181, .t 184, .c (.bool false)], none⟩])
 (.cond (.t 185)
 (.ops [⟨some 186, .pure .move, [.t 0], none⟩,
 ⟨some 187, .pure .move, [.t 20], none⟩,
 ⟨some 188, .pure .move, [.t 2], none⟩,
 ⟨some 189, .pure .move, [.t 24], none⟩,
 ⟨some 190, .pure .move, [.t 4], none⟩,
 ⟨some 191, .call 301, [.t 186, .t 187, .t 188, .t 189, .t 190], none⟩])
 .skip))
 (.seq (.seq (.ops [⟨some 192, .pure .move, [.t 1], none⟩,
 ⟨some 193, .pure .move, [.t 20], none⟩,
 ⟨some 194, .pure (.bin .lss), [.t 192, .t 193], none⟩,
 ⟨some 195, .pure .move, [.t 194], none⟩,
 ⟨some 196, .pure .move, [.t 20], some (195, true)⟩,
 ⟨some 197, .pure .move, [.t 18], some (195, true)⟩,
 ⟨some 198, .pure (.bin .lss), [.t 196, .t 197], some (195, true)⟩,
 ⟨some 199, .pure .pick, [.t 195, .t 198, .c (.bool false)], none⟩])
 (.cond (.t 199)
 (.ops [⟨some 200, .pure .move, [.t 0], none⟩,
 ⟨some 201, .pure .move, [.t 1], none⟩,
 ⟨some 202, .pure .move, [.t 20], none⟩,
 ⟨some 203, .pure .move, [.t 18], none⟩,
 ⟨some 204, .pure .move, [.t 4], none⟩,
 ⟨some 205, .call 293, [.t 200, .t 201, .t 202, .t 203, .t 204], none⟩])
 .skip))
 (.seq (.ops [⟨some 206, .pure .move, [.t 18], none⟩,
 ⟨some 207, .pure .move, [.t 24], none⟩,
 ⟨some 208, .pure (.bin .lss), [.t 206, .t 207], none⟩,
 ⟨some 209, .pure .move, [.t 208], none⟩,
 ⟨some 210, .pure .move, [.t 24], some (209, true)⟩,
 ⟨some 211, .pure .move, [.t 3], some (209, true)⟩,
 ⟨some 212, .pure (.bin .lss), [.t 210, .t 211], some (209, true)⟩,
 ⟨some 213, .pure .pick, [.t 209, .t 212, .c (.bool false)], none⟩])
 (.cond (.t 213)
 (.ops [⟨some 214, .pure .move, [.t 0], none⟩,
 ⟨some 215, .pure .move, [.t 18], none⟩,
 ⟨some 216, .pure .move, [.t 24], none⟩,
 ⟨some 217, .pure .move, [.t 3], none⟩,
 ⟨some 218, .pure .move, [.t 4], none⟩,
 ⟨some 219, .call 293, [.t 214, .t 215, .t 216, .t 217, .t 218], none⟩])
 .skip))))))))))))) }
/-- (*strings.Builder).WriteString -/
def ac298 : AFn :=
 { nt := 19, res := [.tmp 4, .tmp 5], body :=
 (.seq (.ops [⟨some 4, .pure .move, [.c (.int .i64 0)], none⟩,
 ⟨some 5, .pure .move, [.c (.nili)], none⟩])
 (.seq (.ops [⟨some 6, .pure .move, [.t 0], none⟩,
 ⟨some 7, .bad, [], none⟩])
 (.seq (.ops [⟨some 8, .pure .move, [.t 0], none⟩,
 ⟨some 9, .pure .move, [.t 0], none⟩,
 ⟨some 10, .pure .chk, [.t 9], none⟩,
 ⟨some 11, .pure (.faddr 1), [.t 10], none⟩,
 ⟨some 12, .read (.load none), [.t 11], none⟩,
 ⟨some 13, .pure .move, [.t 1], none⟩,
 ⟨some 14, .eff .appendStr, [.t 12, .t 13], none⟩,
 ⟨some 15, .pure .chk, [.t 8], none⟩,
 ⟨some 16, .pure (.faddr 1), [.t 15], none⟩,
 ⟨none, .eff (.store 1), [.t 16, .t 14], none⟩])
 (.seq (.ops [⟨some 17, .pure .move, [.t 1], none⟩,
 ⟨some 18, .pure .lenS, [.t 17], none⟩,
 ⟨some 4, .pure .move, [.t 18], none⟩,
 ⟨some 5, .pure .move, [.c (.nili)], none⟩])
 .ret)))) }
/-- (*strings.Builder).String -/
def ac300 : AFn :=
 { nt := 14, res := [.tmp 2], body :=
 (.seq (.ops [⟨some 2, .pure .move, [.c (.str [])], none⟩])
 (.seq (.draw 0 [[⟨some 3, .pure .move, [.t 0], none⟩,
 ⟨some 4, .pure .chk, [.t 3], none⟩,
 ⟨some 5, .pure (.faddr 1), [.t 4], none⟩,
 ⟨some 6, .read (.load none), [.t 5], none⟩,
 ⟨some 8, .pure .move, [.t 0], none⟩,
 ⟨some 9, .pure .chk, [.t 8], none⟩,
 ⟨some 10, .pure (.faddr 1), [.t 9], none⟩,
 ⟨some 7, .bad, [], none⟩,
 ⟨some 11, .read (.load none), [.t 10], none⟩,
 ⟨some 12, .pure .lenL, [.t 11], none⟩,
 ⟨some 13, .bad, [], none⟩,
 ⟨some 2, .pure .move, [.t 13], none⟩],
 [⟨some 3, .pure .move, [.t 0], none⟩,
 ⟨some 4, .pure .chk, [.t 3], none⟩,
 ⟨some 5, .pure (.faddr 1), [.t 4], none⟩,
 ⟨some 6, .read (.load none), [.t 5], none⟩,
 ⟨some 8, .pure .move, [.t 0], none⟩,
 ⟨some 9, .pure .chk, [.t 8], none⟩,
 ⟨some 10, .pure (.faddr 1), [.t 9], none⟩,
 ⟨some 11, .read (.load none), [.t 10], none⟩,
 ⟨some 7, .bad, [], none⟩,
 ⟨some 12, .pure .lenL, [.t 11], none⟩,
 ⟨some 13, .bad, [], none⟩,
 ⟨some 2, .pure .move, [.t 13], none⟩]])
 .ret)) }
/-- slices.rotateCmpFunc[datakit/api.Field] -/
def ac301 : AFn :=
 { nt := 58, res := [], body :=
 (.seq (.ops [⟨some 12, .pure .move, [.t 2], none⟩,
 ⟨some 13, .pure .move, [.t 1], none⟩,
 ⟨some 14, .pure (.bin .sub), [.t 12, .t 13], none⟩,
 ⟨some 10, .pure .move, [.t 14], none⟩])
 (.seq (.ops [⟨some 15, .pure .move, [.t 3], none⟩,
 ⟨some 16, .pure .move, [.t 2], none⟩,
 ⟨some 17, .pure (.bin .sub), [.t 15, .t 16], none⟩,
 ⟨some 11, .pure .move, [.t 17], none⟩])
 (.seq (.block 0
 (.loop [0, 2, 4, 10, 11]
 (.seq (.seq (.ops [⟨some 18, .pure .move, [.t 10], none⟩,
 ⟨some 19, .pure .move, [.t 11], none⟩,
 ⟨some 20, .pure (.bin .neq), [.t 18, .t 19], none⟩])
 (.cond (.t 20)
 .skip
 (.exit 0)))
 (.block 1
 (.seq (.ops [⟨some 21, .pure .move, [.t 10], none⟩,
 ⟨some 22, .pure .move, [.t 11], none⟩,
 ⟨some 23, .pure (.bin .gtr), [.t 21, .t 22], none⟩])
 (.cond (.t 23)
 (.seq (.ops [⟨some 24, .pure .move, [.t 0], none⟩,
 ⟨some 25, .pure .move, [.t 2], none⟩,
 ⟨some 26, .pure .move, [.t 10], none⟩,
 ⟨some 27, .pure (.bin .sub), [.t 25, .t 26], none⟩,
 ⟨some 28, .pure .move, [.t 2], none⟩,
 ⟨some 29, .pure .move, [.t 11], none⟩,
 ⟨some 30, .pure .move, [.t 4], none⟩,
 ⟨some 31, .call 307, [.t 24, .t 27, .t 28, .t 29, .t 30], none⟩])
 (.ops [⟨some 32, .pure .move, [.t 10], none⟩,
 ⟨some 33, .pure .move, [.t 11], none⟩,
 ⟨some 34, .pure (.bin .sub), [.t 32, .t 33], none⟩,
 ⟨some 10, .pure .move, [.t 34], none⟩]))
 (.seq (.ops [⟨some 35, .pure .move, [.t 0], none⟩,
 ⟨some 36, .pure .move, [.t 2], none⟩,
 ⟨some 37, .pure .move, [.t 10], none⟩,
 ⟨some 38, .pure (.bin .sub), [.t 36, .t 37], none⟩,
 ⟨some 39, .pure .move, [.t 2], none⟩,
 ⟨some 40, .pure .move, [.t 11], none⟩,
 ⟨some 41, .pure (.bin .add), [.t 39, .t 40], none⟩,
 ⟨some 42, .pure .move, [.t 10], none⟩,
 ⟨some 43, .pure (.bin .sub), [.t 41, .t 42], none⟩,
 ⟨some 44, .pure .move, [.t 10], none⟩,
 ⟨some 45, .pure .move, [.t 4], none⟩,
 ⟨some 46, .call 307, [.t 35, .t 38, .t 43, .t 44, .t 45], none⟩])
 (.ops [⟨some 47, .pure .move, [.t 11], none⟩,
 ⟨some 48, .pure .move, [.t 10], none⟩,
 ⟨some 49, .pure (.bin .sub), [.t 47, .t 48], none⟩,
 ⟨some 11, .pure .move, [.t 49], none⟩]))))))))
 (.ops [⟨some 50, .pure .move, [.t 0], none⟩,
 ⟨some 51, .pure .move, [.t 2], none⟩,
 ⟨some 52, .pure .move, [.t 10], none⟩,
 ⟨some 53, .pure (.bin .sub), [.t 51, .t 52], none⟩,
 ⟨some 54, .pure .move, [.t 2], none⟩,
 ⟨some 55, .pure .move, [.t 10], none⟩,
 ⟨some 56, .pure .move, [.t 4], none⟩,
 ⟨some 57, .call 307, [.t 50, .t 53, .t 54, .t 55, .t 56], none⟩])))) }
/-- slices.swapRangeCmpFunc[datakit/api.Field] -/
def ac307 : AFn :=
 { nt := 38, res := [], body :=
 (.seq (.ops [⟨some 10, .pure .move, [.c (.int .i64 0)], none⟩])
 (.block 0
 (.loop [0, 1, 2, 3, 10]
 (.seq (.seq (.ops [⟨some 11, .pure .move, [.t 10], none⟩,
 ⟨some 12, .pure .move, [.t 3], none⟩,
 ⟨some 13, .pure (.bin .lss), [.t 11, .t 12], none⟩])
 (.cond (.t 13)
 .skip
 (.exit 0)))
 (.seq (.block 1
 (.ops [⟨some 16, .pure .move, [.t 0], none⟩,
 ⟨some 17, .pure .move, [.t 1], none⟩,
 ⟨some 18, .pure .move, [.t 10], none⟩,
 ⟨some 19, .pure (.bin .add), [.t 17, .t 18], none⟩,
 ⟨some 20, .pure .move, [.t 0], none⟩,
 ⟨some 21, .pure .move, [.t 2], none⟩,
 ⟨some 22, .pure .move, [.t 10], none⟩,
 ⟨some 23, .pure (.bin .add), [.t 21, .t 22], none⟩,
 ⟨some 24, .pure .move, [.t 0], none⟩,
 ⟨some 25, .pure .move, [.t 2], none⟩,
 ⟨some 26, .pure .move, [.t 10], none⟩,
 ⟨some 27, .pure (.bin .add), [.t 25, .t 26], none⟩,
 ⟨some 28, .pure (.iaddrS 14), [.t 24, .t 27], none⟩,
 ⟨some 29, .read (.load (some 14)), [.t 28], none⟩,
 ⟨some 30, .pure .move, [.t 0], none⟩,
 ⟨some 31, .pure .move, [.t 1], none⟩,
 ⟨some 32, .pure .move, [.t 10], none⟩,
 ⟨some 33, .pure (.bin .add), [.t 31, .t 32], none⟩,
 ⟨some 34, .pure (.iaddrS 14), [.t 30, .t 33], none⟩,
 ⟨some 35, .read (.load (some 14)), [.t 34], none⟩,
 ⟨some 36, .pure (.iaddrS 14), [.t 16, .t 19], none⟩,
 ⟨none, .eff (.store 14), [.t 36, .t 29], none⟩,
 ⟨some 37, .pure (.iaddrS 14), [.t 20, .t 23], none⟩,
 ⟨none, .eff (.store 14), [.t 37, .t 35], none⟩]))
 (.ops [⟨some 14, .pure .move, [.t 10], none⟩,
 ⟨some 15, .pure (.bin .add), [.t 14, .c (.int .i64 1)], none⟩,
 ⟨some 10, .pure .move, [.t 15], none⟩])))))) }
/-- datakit/datakitref15.Size -/
def ac357 : AFn :=
 { nt := 5, res := [.tmp 2], body :=
 (.seq (.ops [⟨some 1, .new (.box 6), [.t 0], none⟩,
 ⟨some 2, .pure .move, [.c (.int .i64 0)], none⟩])
 (.seq (.ops [⟨some 3, .read (.load (some 6)), [.t 1], none⟩,
 ⟨some 4, .pcall 376, [.t 3, .c (.int .i64 48)], none⟩,
 ⟨some 2, .pure .move, [.t 4], none⟩])
 .ret)) }
/-- datakit/regex.Valid -/
def ac358 : AFn :=
 { nt := 10, res := [.tmp 2], body :=
 (.seq (.ops [⟨some 1, .new (.box 6), [.t 0], none⟩,
 ⟨some 2, .pure .move, [.c (.bool false)], none⟩])
 (.seq (.ops [⟨some 3, .read (.load (some 6)), [.t 1], none⟩,
 ⟨some 4, .pcall 377, [.t 3, .c (.int .i64 48)], none⟩,
 ⟨some 5, .pure .move, [.t 4], none⟩,
 ⟨some 6, .read (.load (some 6)), [.t 1], some (5, true)⟩,
 ⟨some 7, .pcall 378, [.t 6, .c (.int .i64 48)], some (5, true)⟩,
 ⟨some 8, .pure (.bin .leq), [.t 7, .c (.int .i64 512)], some (5, true)⟩,
 ⟨some 9, .pure .pick, [.t 5, .t 8, .c (.bool false)], none⟩,
 ⟨some 2, .pure .move, [.t 9], none⟩])
 .ret)) }
/-- strconv.Itoa -/
def ac371 : AFn :=
 { nt := 5, res := [.tmp 2], body :=
 (.seq (.ops [⟨some 2, .pure .move, [.c (.str [])], none⟩])
 (.seq (.ops [⟨some 3, .pure .move, [.t 0], none⟩,
 ⟨some 4, .pcall 395, [.t 3], none⟩,
 ⟨some 2, .pure .move, [.t 4], none⟩])
 .ret)) }
/-- datakit/datakitref15.count -/
def ac376 : AFn :=
 { nt := 27, res := [.tmp 4], body :=
 (.seq (.ops [⟨some 2, .new (.box 6), [.t 0], none⟩,
 ⟨some 4, .pure .move, [.c (.int .i64 0)], none⟩])
 (.seq (.seq (.ops [⟨some 7, .pure .move, [.t 1], none⟩,
 ⟨some 8, .pure (.bin .lss), [.t 7, .c (.int .i64 1)], none⟩])
 (.cond (.t 8)
 (.seq (.ops [⟨some 4, .pure .move, [.c (.int .i64 0)], none⟩])
 .ret)
 .skip))
 (.seq (.ops [⟨some 5, .pure .move, [.c (.int .i64 1)], none⟩])
 (.seq (.seq (.ops [⟨some 6, .pure .move, [.c (.int .i64 0)], none⟩])
 (.block 0
 (.loop [1, 2, 5, 6]
 (.seq (.seq (.ops [⟨some 9, .pure .move, [.t 6], none⟩,
 ⟨some 10, .pure (.faddr 5), [.t 2], none⟩,
 ⟨some 11, .read (.load none), [.t 10], none⟩,
 ⟨some 12, .pure .lenL, [.t 11], none⟩,
 ⟨some 13, .pure (.bin .lss), [.t 9, .t 12], none⟩])
 (.cond (.t 13)
 .skip
 (.exit 0)))
 (.seq (.block 1
 (.ops [⟨some 16, .pure .move, [.t 5], none⟩,
 ⟨some 17, .pure (.faddr 5), [.t 2], none⟩,
 ⟨some 18, .read (.load none), [.t 17], none⟩,
 ⟨some 19, .pure .move, [.t 6], none⟩,
 ⟨some 20, .pure (.iaddrS 6), [.t 18, .t 19], none⟩,
 ⟨some 21, .read (.load (some 6)), [.t 20], none⟩,
 ⟨some 22, .pure .move, [.t 1], none⟩,
 ⟨some 23, .pure (.bin .sub), [.t 22, .c (.int .i64 1)], none⟩,
 ⟨some 24, .pcall 376, [.t 21, .t 23], none⟩,
 ⟨some 25, .pure (.bin .add), [.t 16, .t 24], none⟩,
 ⟨some 5, .pure .move, [.t 25], none⟩]))
 (.ops [⟨some 14, .pure .move, [.t 6], none⟩,
 ⟨some 15, .pure (.bin .add), [.t 14, .c (.int .i64 1)], none⟩,
 ⟨some 6, .pure .move, [.t 15], none⟩]))))))
 (.seq (.ops [⟨some 26, .pure .move, [.t 5], none⟩,
 ⟨some 4, .pure .move, [.t 26], none⟩])
 .ret))))) }
/-- datakit/regex.sound -/
def ac377 : AFn :=
 { nt := 27, res := [.tmp 4], body :=
 (.seq (.ops [⟨some 2, .new (.box 6), [.t 0], none⟩,
 ⟨some 4, .pure .move, [.c (.bool false)], none⟩])
 (.seq (.seq (.ops [⟨some 7, .pure .move, [.t 1], none⟩,
 ⟨some 8, .pure (.bin .lss), [.t 7, .c (.int .i64 1)], none⟩,
 ⟨some 9, .pure .move, [.t 8], none⟩,
 ⟨some 10, .read (.load (some 6)), [.t 2], some (9, false)⟩,
 ⟨some 11, .pcall 396, [.t 10], some (9, false)⟩,
 ⟨some 12, .pure (.un .not), [.t 11], some (9, false)⟩,
 ⟨some 13, .pure .pick, [.t 9, .c (.bool true), .t 12], none⟩])
 (.cond (.t 13)
 (.seq (.ops [⟨some 4, .pure .move, [.c (.bool false)], none⟩])
 .ret)
 .skip))
 (.seq (.seq (.ops [⟨some 14, .pure (.faddr 5), [.t 2], none⟩,
 ⟨some 15, .read (.load none), [.t 14], none⟩,
 ⟨some 16, .pure .lenL, [.t 15], none⟩,
 ⟨some 17, .pure .move, [.c (.int .i64 0)], none⟩])
 (.block 0
 (.loop [1, 15, 16, 17]
 (.seq (.ops [⟨some 18, .pure (.bin .lss), [.t 17, .t 16], none⟩])
 (.seq (.cond (.t 18)
 .skip
 (.exit 0))
 (.seq (.block 1
 (.seq (.ops [⟨some 19, .pure (.iaddrS 6), [.t 15, .t 17], none⟩,
 ⟨some 20, .read (.load (some 6)), [.t 19], none⟩,
 ⟨some 6, .new (.new 6 [.agg [.int .i64 0, .int .i64 0, .int .i64 0, .int .i64 0, .int .i64 0, .snil 6]]), [], none⟩,
 ⟨none, .eff (.store 6), [.t 6, .t 20], none⟩])
 (.seq (.ops [⟨some 21, .read (.load (some 6)), [.t 6], none⟩,
 ⟨some 22, .pure .move, [.t 1], none⟩,
 ⟨some 23, .pure (.bin .sub), [.t 22, .c (.int .i64 1)], none⟩,
 ⟨some 24, .pcall 377, [.t 21, .t 23], none⟩,
 ⟨some 25, .pure (.un .not), [.t 24], none⟩])
 (.cond (.t 25)
 (.seq (.ops [⟨some 4, .pure .move, [.c (.bool false)], none⟩])
 .ret)
 .skip))))
 (.ops [⟨some 26, .pure (.bin .add), [.t 17, .c (.int .i64 1)], none⟩,
 ⟨some 17, .pure .move, [.t 26], none⟩])))))))
 (.seq (.ops [⟨some 4, .pure .move, [.c (.bool true)], none⟩])
 .ret)))) }
/-- datakit/regex.size -/
def ac378 : AFn :=
 { nt := 25, res := [.tmp 4], body :=
 (.seq (.ops [⟨some 2, .new (.box 6), [.t 0], none⟩,
 ⟨some 4, .pure .move, [.c (.int .i64 0)], none⟩])
 (.seq (.seq (.ops [⟨some 8, .pure .move, [.t 1], none⟩,
 ⟨some 9, .pure (.bin .lss), [.t 8, .c (.int .i64 1)], none⟩])
 (.cond (.t 9)
 (.seq (.ops [⟨some 4, .pure .move, [.c (.int .i64 0)], none⟩])
 .ret)
 .skip))
 (.seq (.ops [⟨some 5, .pure .move, [.c (.int .i64 1)], none⟩])
 (.seq (.seq (.ops [⟨some 10, .pure (.faddr 5), [.t 2], none⟩,
 ⟨some 11, .read (.load none), [.t 10], none⟩,
 ⟨some 12, .pure .lenL, [.t 11], none⟩,
 ⟨some 13, .pure .move, [.c (.int .i64 0)], none⟩])
 (.block 0
 (.loop [1, 5, 11, 12, 13]
 (.seq (.ops [⟨some 14, .pure (.bin .lss), [.t 13, .t 12], none⟩])
 (.seq (.cond (.t 14)
 .skip
 (.exit 0))
 (.seq (.block 1
 (.seq (.ops [⟨some 15, .pure (.iaddrS 6), [.t 11, .t 13], none⟩,
 ⟨some 16, .read (.load (some 6)), [.t 15], none⟩,
 ⟨some 7, .new (.new 6 [.agg [.int .i64 0, .int .i64 0, .int .i64 0, .int .i64 0, .int .i64 0, .snil 6]]), [], none⟩,
 ⟨none, .eff (.store 6), [.t 7, .t 16], none⟩])
 (.ops [⟨some 17, .pure .move, [.t 5], none⟩,
 ⟨some 18, .read (.load (some 6)), [.t 7], none⟩,
 ⟨some 19, .pure .move, [.t 1], none⟩,
 ⟨some 20, .pure (.bin .sub), [.t 19, .c (.int .i64 1)], none⟩,
 ⟨some 21, .pcall 378, [.t 18, .t 20], none⟩,
 ⟨some 22, .pure (.bin .add), [.t 17, .t 21], none⟩,
 ⟨some 5, .pure .move, [.t 22], none⟩])))
 (.ops [⟨some 23, .pure (.bin .add), [.t 13, .c (.int .i64 1)], none⟩,
 ⟨some 13, .pure .move, [.t 23], none⟩])))))))
 (.seq (.ops [⟨some 24, .pure .move, [.t 5], none⟩,
 ⟨some 4, .pure .move, [.t 24], none⟩])
 .ret))))) }
/-- internal/strconv.Itoa -/
def ac395 : AFn :=
 { nt := 5, res := [.tmp 2], body :=
 (.seq (.ops [⟨some 2, .pure .move, [.c (.str [])], none⟩])
 (.seq (.ops [⟨some 3, .pure .move, [.t 0], none⟩,
 ⟨some 4, .pcall 404, [.t 3, .c (.int .i64 10)], none⟩,
 ⟨some 2, .pure .move, [.t 4], none⟩])
 .ret)) }
/-- datakit/regex.form -/
def ac396 : AFn :=
 { nt := 104, res := [.tmp 2], body :=
 (.seq (.ops [⟨some 1, .new (.box 6), [.t 0], none⟩,
 ⟨some 2, .pure .move, [.c (.bool false)], none⟩])
 (.seq (.ops [⟨some 4, .pure (.faddr 5), [.t 1], none⟩,
 ⟨some 5, .read (.load none), [.t 4], none⟩,
 ⟨some 6, .pure .lenL, [.t 5], none⟩,
 ⟨some 3, .pure .move, [.t 6], none⟩])
 (.seq (.seq (.ops [⟨some 7, .pure (.faddr 0), [.t 1], none⟩,
 ⟨some 8, .read (.load none), [.t 7], none⟩,
 ⟨some 9, .pure (.bin .neq), [.t 8, .c (.int .i64 2)], none⟩,
 ⟨some 10, .pure .move, [.t 9], none⟩,
 ⟨some 11, .pure (.faddr 1), [.t 1], some (10, true)⟩,
 ⟨some 12, .read (.load none), [.t 11], some (10, true)⟩,
 ⟨some 13, .pure (.bin .neq), [.t 12, .c (.int .i64 0)], some (10, true)⟩,
 ⟨some 14, .pure .move, [.t 13], some (10, true)⟩,
 ⟨some 15, .pure (.faddr 2), [.t 1], some (14, false)⟩,
 ⟨some 16, .read (.load none), [.t 15], some (14, false)⟩,
 ⟨some 17, .pure (.bin .neq), [.t 16, .c (.int .i64 0)], some (14, false)⟩,
 ⟨some 18, .pure .pick, [.t 14, .c (.bool true), .t 17], some (10, true)⟩,
 ⟨some 19, .pure .pick, [.t 10, .t 18, .c (.bool false)], none⟩,
 ⟨some 20, .pure .move, [.t 19], none⟩,
 ⟨some 21, .pure (.faddr 0), [.t 1], some (20, false)⟩,
 ⟨some 22, .read (.load none), [.t 21], some (20, false)⟩,
 ⟨some 23, .pure (.bin .neq), [.t 22, .c (.int .i64 5)], some (20, false)⟩,
 ⟨some 24, .pure .move, [.t 23], some (20, false)⟩,
 ⟨some 25, .pure (.faddr 3), [.t 1], some (24, true)⟩,
 ⟨some 26, .read (.load none), [.t 25], some (24, true)⟩,
 ⟨some 27, .pure (.bin .neq), [.t 26, .c (.int .i64 0)], some (24, true)⟩,
 ⟨some 28, .pure .move, [.t 27], some (24, true)⟩,
 ⟨some 29, .pure (.faddr 4), [.t 1], some (28, false)⟩,
 ⟨some 30, .read (.load none), [.t 29], some (28, false)⟩,
 ⟨some 31, .pure (.bin .neq), [.t 30, .c (.int .i64 0)], some (28, false)⟩,
 ⟨some 32, .pure .pick, [.t 28, .c (.bool true), .t 31], some (24, true)⟩,
 ⟨some 33, .pure .pick, [.t 24, .t 32, .c (.bool false)], some (20, false)⟩,
 ⟨some 34, .pure .pick, [.t 20, .c (.bool true), .t 33], none⟩])
 (.cond (.t 34)
 (.seq (.ops [⟨some 2, .pure .move, [.c (.bool false)], none⟩])
 .ret)
 .skip))
 (.seq (.seq (.ops [⟨some 35, .pure (.faddr 0), [.t 1], none⟩,
 ⟨some 36, .read (.load none), [.t 35], none⟩])
 (.block 0
 (.seq (.seq (.ops [⟨some 38, .pure (.bin .eql), [.t 36, .c (.int .i64 0)], none⟩,
 ⟨some 37, .pure .move, [.t 38], none⟩])
 (.cond (.t 37)
 .skip
 (.ops [⟨some 39, .pure (.bin .eql), [.t 36, .c (.int .i64 1)], none⟩,
 ⟨some 37, .pure .move, [.t 39], none⟩])))
 (.cond (.t 37)
 (.seq (.ops [⟨some 40, .pure .move, [.t 3], none⟩,
 ⟨some 41, .pure (.bin .eql), [.t 40, .c (.int .i64 0)], none⟩,
 ⟨some 2, .pure .move, [.t 41], none⟩])
 .ret)
 (.seq (.ops [⟨some 43, .pure (.bin .eql), [.t 36, .c (.int .i64 2)], none⟩,
 ⟨some 42, .pure .move, [.t 43], none⟩])
 (.cond (.t 42)
 (.seq (.ops [⟨some 44, .pure .move, [.t 3], none⟩,
 ⟨some 45, .pure (.bin .eql), [.t 44, .c (.int .i64 0)], none⟩,
 ⟨some 46, .pure .move, [.t 45], none⟩,
 ⟨some 47, .pure (.faddr 1), [.t 1], some (46, true)⟩,
 ⟨some 48, .read (.load none), [.t 47], some (46, true)⟩,
 ⟨some 49, .pure (.bin .geq), [.t 48, .c (.int .i64 0)], some (46, true)⟩,
 ⟨some 50, .pure .pick, [.t 46, .t 49, .c (.bool false)], none⟩,
 ⟨some 51, .pure .move, [.t 50], none⟩,
 ⟨some 52, .pure (.faddr 1), [.t 1], some (51, true)⟩,
 ⟨some 53, .read (.load none), [.t 52], some (51, true)⟩,
 ⟨some 54, .pure (.faddr 2), [.t 1], some (51, true)⟩,
 ⟨some 55, .read (.load none), [.t 54], some (51, true)⟩,
 ⟨some 56, .pure (.bin .leq), [.t 53, .t 55], some (51, true)⟩,
 ⟨some 57, .pure .pick, [.t 51, .t 56, .c (.bool false)], none⟩,
 ⟨some 58, .pure .move, [.t 57], none⟩,
 ⟨some 59, .pure (.faddr 2), [.t 1], some (58, true)⟩,
 ⟨some 60, .read (.load none), [.t 59], some (58, true)⟩,
 ⟨some 61, .pure (.bin .leq), [.t 60, .c (.int .i64 255)], some (58, true)⟩,
 ⟨some 62, .pure .pick, [.t 58, .t 61, .c (.bool false)], none⟩,
 ⟨some 2, .pure .move, [.t 62], none⟩])
 .ret)
 (.seq (.seq (.ops [⟨some 64, .pure (.bin .eql), [.t 36, .c (.int .i64 3)], none⟩,
 ⟨some 63, .pure .move, [.t 64], none⟩])
 (.cond (.t 63)
 .skip
 (.seq (.ops [⟨some 65, .pure (.bin .eql), [.t 36, .c (.int .i64 4)], none⟩,
 ⟨some 63, .pure .move, [.t 65], none⟩])
 (.cond (.t 63)
 .skip
 (.ops [⟨some 66, .pure (.bin .eql), [.t 36, .c (.int .i64 6)], none⟩,
 ⟨some 63, .pure .move, [.t 66], none⟩])))))
 (.cond (.t 63)
 (.seq (.ops [⟨some 67, .pure .move, [.t 3], none⟩,
 ⟨some 68, .pure (.bin .geq), [.t 67, .c (.int .i64 2)], none⟩,
 ⟨some 2, .pure .move, [.t 68], none⟩])
 .ret)
 (.seq (.ops [⟨some 70, .pure (.bin .eql), [.t 36, .c (.int .i64 7)], none⟩,
 ⟨some 69, .pure .move, [.t 70], none⟩])
 (.cond (.t 69)
 (.seq (.ops [⟨some 71, .pure .move, [.t 3], none⟩,
 ⟨some 72, .pure (.bin .eql), [.t 71, .c (.int .i64 1)], none⟩,
 ⟨some 2, .pure .move, [.t 72], none⟩])
 .ret)
 (.seq (.ops [⟨some 74, .pure (.bin .eql), [.t 36, .c (.int .i64 5)], none⟩,
 ⟨some 73, .pure .move, [.t 74], none⟩])
 (.cond (.t 73)
 (.seq (.ops [⟨some 75, .pure .move, [.t 3], none⟩,
 ⟨some 76, .pure (.bin .eql), [.t 75, .c (.int .i64 1)], none⟩,
 ⟨some 77, .pure .move, [.t 76], none⟩,
 ⟨some 78, .pure (.faddr 3), [.t 1], some (77, true)⟩,
 ⟨some 79, .read (.load none), [.t 78], some (77, true)⟩,
 ⟨some 80, .pure (.bin .geq), [.t 79, .c (.int .i64 0)], some (77, true)⟩,
 ⟨some 81, .pure .pick, [.t 77, .t 80, .c (.bool false)], none⟩,
 ⟨some 82, .pure .move, [.t 81], none⟩,
 ⟨some 83, .pure (.faddr 3), [.t 1], some (82, true)⟩,
 ⟨some 84, .read (.load none), [.t 83], some (82, true)⟩,
 ⟨some 85, .pure (.bin .leq), [.t 84, .c (.int .i64 64)], some (82, true)⟩,
 ⟨some 86, .pure .pick, [.t 82, .t 85, .c (.bool false)], none⟩,
 ⟨some 87, .pure .move, [.t 86], none⟩,
 ⟨some 88, .pure (.faddr 4), [.t 1], some (87, true)⟩,
 ⟨some 89, .read (.load none), [.t 88], some (87, true)⟩,
 ⟨some 90, .pure (.bin .eql), [.t 89, .c (.int .i64 (-1))], some (87, true)⟩,
 ⟨some 91, .pure .move, [.t 90], some (87, true)⟩,
 ⟨some 92, .pure (.faddr 4), [.t 1], some (91, false)⟩,
 ⟨some 93, .read (.load none), [.t 92], some (91, false)⟩,
 ⟨some 94, .pure (.faddr 3), [.t 1], some (91, false)⟩,
 ⟨some 95, .read (.load none), [.t 94], some (91, false)⟩,
 ⟨some 96, .pure (.bin .geq), [.t 93, .t 95], some (91, false)⟩,
 ⟨some 97, .pure .move, [.t 96], some (91, false)⟩,
 ⟨some 98, .pure (.faddr 4), [.t 1], some (97, true)⟩,
 ⟨some 99, .read (.load none), [.t 98], some (97, true)⟩,
 ⟨some 100, .pure (.bin .leq), [.t 99, .c (.int .i64 64)], some (97, true)⟩,
 ⟨some 101, .pure .pick, [.t 97, .t 100, .c (.bool false)], some (91, false)⟩,
 ⟨some 102, .pure .pick, [.t 91, .c (.bool true), .t 101], some (87, true)⟩,
 ⟨some 103, .pure .pick, [.t 87, .t 102, .c (.bool false)], none⟩,
 ⟨some 2, .pure .move, [.t 103], none⟩])
 .ret)
 .skip))))))))))))
 (.seq (.ops [⟨some 2, .pure .move, [.c (.bool false)], none⟩])
 .ret))))) }
/-- internal/strconv.FormatInt -/
def ac404 : AFn :=
 { nt := 54, res := [.tmp 4], body :=
 (.seq (.ops [⟨some 4, .pure .move, [.c (.str [])], none⟩])
 (.seq (.seq (.ops [⟨some 10, .pure .move, [.t 1], none⟩,
 ⟨some 11, .pure (.bin .eql), [.t 10, .c (.int .i64 10)], none⟩])
 (.cond (.t 11)
 (.seq (.seq (.ops [⟨some 12, .pure .move, [.t 0], none⟩,
 ⟨some 13, .pure (.bin .leq), [.c (.int .i64 0), .t 12], none⟩,
 ⟨some 14, .pure .move, [.t 13], none⟩,
 ⟨some 15, .pure .move, [.t 0], some (14, true)⟩,
 ⟨some 16, .pure (.bin .lss), [.t 15, .c (.int .i64 100)], some (14, true)⟩,
 ⟨some 17, .pure .pick, [.t 14, .t 16, .c (.bool false)], none⟩])
 (.cond (.t 17)
 (.seq (.ops [⟨some 18, .pure .move, [.t 0], none⟩,
 ⟨some 19, .pcall 419, [.t 18], none⟩,
 ⟨some 4, .pure .move, [.t 19], none⟩])
 .ret)
 .skip))
 (.seq (.ops [⟨some 5, .new (.new 1 [.int .u8 0, .int .u8 0, .int .u8 0, .int .u8 0, .int .u8 0, .int .u8 0, .int .u8 0, .int .u8 0, .int .u8 0, .int .u8 0, .int .u8 0, .int .u8 0, .int .u8 0, .int .u8 0, .int .u8 0, .int .u8 0, .int .u8 0, .int .u8 0, .int .u8 0, .int .u8 0, .int .u8 0, .int .u8 0, .int .u8 0, .int .u8 0]), [], none⟩])
 (.seq (.ops [⟨some 20, .pure .move, [.t 0], none⟩,
 ⟨some 21, .pure (.conv .u64), [.t 20], none⟩,
 ⟨some 6, .pure .move, [.t 21], none⟩])
 (.seq (.seq (.ops [⟨some 22, .pure .move, [.t 0], none⟩,
 ⟨some 23, .pure (.bin .lss), [.t 22, .c (.int .i64 0)], none⟩])
 (.cond (.t 23)
 (.ops [⟨some 24, .pure .move, [.t 6], none⟩,
 ⟨some 25, .pure (.un .neg), [.t 24], none⟩,
 ⟨some 6, .pure .move, [.t 25], none⟩])
 .skip))
 (.seq (.ops [⟨some 26, .pure .move, [.t 6], none⟩,
 ⟨some 27, .pcall 420, [.t 26], none⟩,
 ⟨some 7, .pure .move, [.t 27], none⟩])
 (.seq (.ops [⟨some 28, .pure .move, [.t 7], none⟩,
 ⟨some 29, .pure (.bin .add), [.c (.int .i64 1), .t 28], none⟩,
 ⟨some 30, .bad, [], none⟩,
 ⟨some 31, .pure .move, [.t 6], none⟩,
 ⟨some 32, .pcall 421, [.t 30, .t 31], none⟩])
 (.seq (.seq (.ops [⟨some 33, .pure .move, [.t 0], none⟩,
 ⟨some 34, .pure (.bin .lss), [.t 33, .c (.int .i64 0)], none⟩])
 (.cond (.t 34)
 (.seq (.ops [⟨some 35, .pure (.iaddrA 24 1), [.t 5, .c (.int .i64 0)], none⟩,
 ⟨none, .eff (.store 1), [.t 35, .c (.int .u8 45)], none⟩])
 (.seq (.ops [⟨some 36, .pure .move, [.t 7], none⟩,
 ⟨some 37, .pure (.bin .add), [.c (.int .i64 1), .t 36], none⟩,
 ⟨some 38, .bad, [], none⟩,
 ⟨some 39, .read .bytesStr, [.t 38], none⟩,
 ⟨some 4, .pure .move, [.t 39], none⟩])
 .ret))
 .skip))
 (.seq (.ops [⟨some 40, .pure .move, [.t 7], none⟩,
 ⟨some 41, .pure (.bin .add), [.c (.int .i64 1), .t 40], none⟩,
 ⟨some 42, .bad, [], none⟩,
 ⟨some 43, .read .bytesStr, [.t 42], none⟩,
 ⟨some 4, .pure .move, [.t 43], none⟩])
 .ret))))))))
 .skip))
 (.seq (.ops [⟨some 45, .pure .move, [.t 0], none⟩,
 ⟨some 46, .pure (.conv .u64), [.t 45], none⟩,
 ⟨some 47, .pure .move, [.t 1], none⟩,
 ⟨some 48, .pure .move, [.t 0], none⟩,
 ⟨some 49, .pure (.bin .lss), [.t 48, .c (.int .i64 0)], none⟩,
 ⟨some 50, .pcall 422, [.c (.snil 1), .t 46, .t 47, .t 49, .c (.bool false)], none⟩,
 ⟨some 44, .pure .move, [.t 50], none⟩,
 ⟨some 51, .pure (.ext 0), [.t 44], none⟩,
 ⟨some 52, .pure (.ext 1), [.t 44], none⟩,
 ⟨some 8, .pure .move, [.t 51], none⟩,
 ⟨some 9, .pure .move, [.t 52], none⟩])
 (.seq (.ops [⟨some 53, .pure .move, [.t 9], none⟩,
 ⟨some 4, .pure .move, [.t 53], none⟩])
 .ret)))) }
/-- internal/strconv.small -/
def ac419 : AFn :=
 { nt := 15, res := [.tmp 2], body :=
 (.seq (.ops [⟨some 2, .pure .move, [.c (.str [])], none⟩])
 (.seq (.seq (.ops [⟨some 3, .pure .move, [.t 0], none⟩,
 ⟨some 4, .pure (.bin .lss), [.t 3, .c (.int .i64 10)], none⟩])
 (.cond (.t 4)
 (.seq (.ops [⟨some 5, .pure .move, [.t 0], none⟩,
 ⟨some 6, .pure .move, [.t 0], none⟩,
 ⟨some 7, .pure (.bin .add), [.t 6, .c (.int .i64 1)], none⟩,
 ⟨some 8, .pure (.sliceS true true), [.c (.str [48, 49, 50, 51, 52, 53, 54, 55, 56, 57, 97, 98, 99, 100, 101, 102, 103, 104, 105, 106, 107, 108, 109, 110, 111, 112, 113, 114, 115, 116, 117, 118, 119, 120, 121, 122]), .t 5, .t 7], none⟩,
 ⟨some 2, .pure .move, [.t 8], none⟩])
 .ret)
 .skip))
 (.seq (.ops [⟨some 9, .pure .move, [.t 0], none⟩,
 ⟨some 10, .pure (.bin .mul), [.t 9, .c (.int .i64 2)], none⟩,
 ⟨some 11, .pure .move, [.t 0], none⟩,
 ⟨some 12, .pure (.bin .mul), [.t 11, .c (.int .i64 2)], none⟩,
 ⟨some 13, .pure (.bin .add), [.t 12, .c (.int .i64 2)], none⟩,
 ⟨some 14, .pure (.sliceS true true), [.c (.str [48, 48, 48, 49, 48, 50, 48, 51, 48, 52, 48, 53, 48, 54, 48, 55, 48, 56, 48, 57, 49, 48, 49, 49, 49, 50, 49, 51, 49, 52, 49, 53, 49, 54, 49, 55, 49, 56, 49, 57, 50, 48, 50, 49, 50, 50, 50, 51, 50, 52, 50, 53, 50, 54, 50, 55, 50, 56, 50, 57, 51, 48, 51, 49, 51, 50, 51, 51, 51, 52, 51, 53, 51, 54, 51, 55, 51, 56, 51, 57, 52, 48, 52, 49, 52, 50, 52, 51, 52, 52, 52, 53, 52, 54, 52, 55, 52, 56, 52, 57, 53, 48, 53, 49, 53, 50, 53, 51, 53, 52, 53, 53, 53, 54, 53, 55, 53, 56, 53, 57, 54, 48, 54, 49, 54, 50, 54, 51, 54, 52, 54, 53, 54, 54, 54, 55, 54, 56, 54, 57, 55, 48, 55, 49, 55, 50, 55, 51, 55, 52, 55, 53, 55, 54, 55, 55, 55, 56, 55, 57, 56, 48, 56, 49, 56, 50, 56, 51, 56, 52, 56, 53, 56, 54, 56, 55, 56, 56, 56, 57, 57, 48, 57, 49, 57, 50, 57, 51, 57, 52, 57, 53, 57, 54, 57, 55, 57, 56, 57, 57]), .t 10, .t 13], none⟩,
 ⟨some 2, .pure .move, [.t 14], none⟩])
 .ret))) }
/-- internal/strconv.numDigits -/
def ac420 : AFn :=
 { nt := 15, res := [.tmp 2], body :=
 (.seq (.ops [⟨some 2, .pure .move, [.c (.int .i64 0)], none⟩])
 (.seq (.ops [⟨some 4, .pure .move, [.t 0], none⟩,
 ⟨some 5, .pcall 73, [.t 4], none⟩,
 ⟨some 6, .pcall 428, [.t 5], none⟩,
 ⟨some 3, .pure .move, [.t 6], none⟩])
 (.seq (.ops [⟨some 7, .pure .move, [.t 3], none⟩,
 ⟨some 8, .pure .move, [.t 0], none⟩,
 ⟨some 9, .pure .move, [.t 3], none⟩,
 ⟨some 10, .bad, [], none⟩,
 ⟨some 11, .read (.load none), [.t 10], none⟩,
 ⟨some 12, .pure (.bin .geq), [.t 8, .t 11], none⟩,
 ⟨some 13, .pcall 429, [.t 12], none⟩,
 ⟨some 14, .pure (.bin .add), [.t 7, .t 13], none⟩,
 ⟨some 2, .pure .move, [.t 14], none⟩])
 .ret))) }
/-- internal/strconv.formatBase10 -/
def ac421 : AFn :=
 { nt := 167, res := [], body :=
 (.seq (.ops [⟨some 17, .pure .move, [.t 0], none⟩,
 ⟨some 18, .pure .lenL, [.t 17], none⟩,
 ⟨some 4, .pure .move, [.t 18], none⟩])
 (.seq (.block 0
 (.loop [0, 1, 4]
 (.seq (.seq (.ops [⟨some 19, .pure .move, [.t 4], none⟩,
 ⟨some 20, .pure (.bin .geq), [.t 19, .c (.int .i64 8)], none⟩])
 (.cond (.t 20)
 .skip
 (.exit 0)))
 (.block 1
 (.seq (.ops [⟨some 21, .pure .move, [.t 1], none⟩,
 ⟨some 22, .pure (.bin .rem), [.t 21, .c (.int .u64 100000000)], none⟩,
 ⟨some 23, .pure (.conv .u32), [.t 22], none⟩,
 ⟨some 5, .pure .move, [.t 23], none⟩])
 (.seq (.ops [⟨some 24, .pure .move, [.t 1], none⟩,
 ⟨some 25, .pure (.bin .quo), [.t 24, .c (.int .u64 100000000)], none⟩,
 ⟨some 1, .pure .move, [.t 25], none⟩])
 (.seq (.ops [⟨some 26, .pure .move, [.t 5], none⟩,
 ⟨some 27, .pure (.bin .quo), [.t 26, .c (.int .u32 10000)], none⟩,
 ⟨some 28, .pure .move, [.t 5], none⟩,
 ⟨some 29, .pure (.bin .rem), [.t 28, .c (.int .u32 10000)], none⟩,
 ⟨some 6, .pure .move, [.t 27], none⟩,
 ⟨some 7, .pure .move, [.t 29], none⟩])
 (.seq (.ops [⟨some 30, .pure .move, [.t 7], none⟩,
 ⟨some 31, .pure (.bin .quo), [.t 30, .c (.int .u32 100)], none⟩,
 ⟨some 32, .pure (.bin .mul), [.t 31, .c (.int .u32 2)], none⟩,
 ⟨some 33, .pure .move, [.t 7], none⟩,
 ⟨some 34, .pure (.bin .rem), [.t 33, .c (.int .u32 100)], none⟩,
 ⟨some 35, .pure (.bin .mul), [.t 34, .c (.int .u32 2)], none⟩,
 ⟨some 8, .pure .move, [.t 32], none⟩,
 ⟨some 9, .pure .move, [.t 35], none⟩])
 (.seq (.ops [⟨some 36, .pure .move, [.t 6], none⟩,
 ⟨some 37, .pure (.bin .quo), [.t 36, .c (.int .u32 100)], none⟩,
 ⟨some 38, .pure (.bin .mul), [.t 37, .c (.int .u32 2)], none⟩,
 ⟨some 39, .pure .move, [.t 6], none⟩,
 ⟨some 40, .pure (.bin .rem), [.t 39, .c (.int .u32 100)], none⟩,
 ⟨some 41, .pure (.bin .mul), [.t 40, .c (.int .u32 2)], none⟩,
 ⟨some 10, .pure .move, [.t 38], none⟩,
 ⟨some 11, .pure .move, [.t 41], none⟩])
 (.seq (.ops [⟨some 42, .pure .move, [.t 0], none⟩,
 ⟨some 43, .pure .move, [.t 4], none⟩,
 ⟨some 44, .pure (.bin .sub), [.t 43, .c (.int .i64 1)], none⟩,
 ⟨some 45, .pure .move, [.t 0], none⟩,
 ⟨some 46, .pure .move, [.t 4], none⟩,
 ⟨some 47, .pure (.bin .sub), [.t 46, .c (.int .i64 2)], none⟩,
 ⟨some 48, .pure .move, [.t 9], none⟩,
 ⟨some 49, .pure (.bin .add), [.t 48, .c (.int .u32 1)], none⟩,
 ⟨some 50, .pure .idxStr, [.c (.str [48, 48, 48, 49, 48, 50, 48, 51, 48, 52, 48, 53, 48, 54, 48, 55, 48, 56, 48, 57, 49, 48, 49, 49, 49, 50, 49, 51, 49, 52, 49, 53, 49, 54, 49, 55, 49, 56, 49, 57, 50, 48, 50, 49, 50, 50, 50, 51, 50, 52, 50, 53, 50, 54, 50, 55, 50, 56, 50, 57, 51, 48, 51, 49, 51, 50, 51, 51, 51, 52, 51, 53, 51, 54, 51, 55, 51, 56, 51, 57, 52, 48, 52, 49, 52, 50, 52, 51, 52, 52, 52, 53, 52, 54, 52, 55, 52, 56, 52, 57, 53, 48, 53, 49, 53, 50, 53, 51, 53, 52, 53, 53, 53, 54, 53, 55, 53, 56, 53, 57, 54, 48, 54, 49, 54, 50, 54, 51, 54, 52, 54, 53, 54, 54, 54, 55, 54, 56, 54, 57, 55, 48, 55, 49, 55, 50, 55, 51, 55, 52, 55, 53, 55, 54, 55, 55, 55, 56, 55, 57, 56, 48, 56, 49, 56, 50, 56, 51, 56, 52, 56, 53, 56, 54, 56, 55, 56, 56, 56, 57, 57, 48, 57, 49, 57, 50, 57, 51, 57, 52, 57, 53, 57, 54, 57, 55, 57, 56, 57, 57]), .t 49], none⟩,
 ⟨some 51, .pure .move, [.t 9], none⟩,
 ⟨some 52, .pure .idxStr, [.c (.str [48, 48, 48, 49, 48, 50, 48, 51, 48, 52, 48, 53, 48, 54, 48, 55, 48, 56, 48, 57, 49, 48, 49, 49, 49, 50, 49, 51, 49, 52, 49, 53, 49, 54, 49, 55, 49, 56, 49, 57, 50, 48, 50, 49, 50, 50, 50, 51, 50, 52, 50, 53, 50, 54, 50, 55, 50, 56, 50, 57, 51, 48, 51, 49, 51, 50, 51, 51, 51, 52, 51, 53, 51, 54, 51, 55, 51, 56, 51, 57, 52, 48, 52, 49, 52, 50, 52, 51, 52, 52, 52, 53, 52, 54, 52, 55, 52, 56, 52, 57, 53, 48, 53, 49, 53, 50, 53, 51, 53, 52, 53, 53, 53, 54, 53, 55, 53, 56, 53, 57, 54, 48, 54, 49, 54, 50, 54, 51, 54, 52, 54, 53, 54, 54, 54, 55, 54, 56, 54, 57, 55, 48, 55, 49, 55, 50, 55, 51, 55, 52, 55, 53, 55, 54, 55, 55, 55, 56, 55, 57, 56, 48, 56, 49, 56, 50, 56, 51, 56, 52, 56, 53, 56, 54, 56, 55, 56, 56, 56, 57, 57, 48, 57, 49, 57, 50, 57, 51, 57, 52, 57, 53, 57, 54, 57, 55, 57, 56, 57, 57]), .t 51], none⟩,
 ⟨some 53, .pure (.iaddrS 1), [.t 42, .t 44], none⟩,
 ⟨none, .eff (.store 1), [.t 53, .t 50], none⟩,
 ⟨some 54, .pure (.iaddrS 1), [.t 45, .t 47], none⟩,
 ⟨none, .eff (.store 1), [.t 54, .t 52], none⟩])
 (.seq (.ops [⟨some 55, .pure .move, [.t 0], none⟩,
 ⟨some 56, .pure .move, [.t 4], none⟩,
 ⟨some 57, .pure (.bin .sub), [.t 56, .c (.int .i64 3)], none⟩,
 ⟨some 58, .pure .move, [.t 0], none⟩,
 ⟨some 59, .pure .move, [.t 4], none⟩,
 ⟨some 60, .pure (.bin .sub), [.t 59, .c (.int .i64 4)], none⟩,
 ⟨some 61, .pure .move, [.t 8], none⟩,
 ⟨some 62, .pure (.bin .add), [.t 61, .c (.int .u32 1)], none⟩,
 ⟨some 63, .pure .idxStr, [.c (.str [48, 48, 48, 49, 48, 50, 48, 51, 48, 52, 48, 53, 48, 54, 48, 55, 48, 56, 48, 57, 49, 48, 49, 49, 49, 50, 49, 51, 49, 52, 49, 53, 49, 54, 49, 55, 49, 56, 49, 57, 50, 48, 50, 49, 50, 50, 50, 51, 50, 52, 50, 53, 50, 54, 50, 55, 50, 56, 50, 57, 51, 48, 51, 49, 51, 50, 51, 51, 51, 52, 51, 53, 51, 54, 51, 55, 51, 56, 51, 57, 52, 48, 52, 49, 52, 50, 52, 51, 52, 52, 52, 53, 52, 54, 52, 55, 52, 56, 52, 57, 53, 48, 53, 49, 53, 50, 53, 51, 53, 52, 53, 53, 53, 54, 53, 55, 53, 56, 53, 57, 54, 48, 54, 49, 54, 50, 54, 51, 54, 52, 54, 53, 54, 54, 54, 55, 54, 56, 54, 57, 55, 48, 55, 49, 55, 50, 55, 51, 55, 52, 55, 53, 55, 54, 55, 55, 55, 56, 55, 57, 56, 48, 56, 49, 56, 50, 56, 51, 56, 52, 56, 53, 56, 54, 56, 55, 56, 56, 56, 57, 57, 48, 57, 49, 57, 50, 57, 51, 57, 52, 57, 53, 57, 54, 57, 55, 57, 56, 57, 57]), .t 62], none⟩,
 ⟨some 64, .pure .move, [.t 8], none⟩,
 ⟨some 65, .pure .idxStr, [.c (.str [48, 48, 48, 49, 48, 50, 48, 51, 48, 52, 48, 53, 48, 54, 48, 55, 48, 56, 48, 57, 49, 48, 49, 49, 49, 50, 49, 51, 49, 52, 49, 53, 49, 54, 49, 55, 49, 56, 49, 57, 50, 48, 50, 49, 50, 50, 50, 51, 50, 52, 50, 53, 50, 54, 50, 55, 50, 56, 50, 57, 51, 48, 51, 49, 51, 50, 51, 51, 51, 52, 51, 53, 51, 54, 51, 55, 51, 56, 51, 57, 52, 48, 52, 49, 52, 50, 52, 51, 52, 52, 52, 53, 52, 54, 52, 55, 52, 56, 52, 57, 53, 48, 53, 49, 53, 50, 53, 51, 53, 52, 53, 53, 53, 54, 53, 55, 53, 56, 53, 57, 54, 48, 54, 49, 54, 50, 54, 51, 54, 52, 54, 53, 54, 54, 54, 55, 54, 56, 54, 57, 55, 48, 55, 49, 55, 50, 55, 51, 55, 52, 55, 53, 55, 54, 55, 55, 55, 56, 55, 57, 56, 48, 56, 49, 56, 50, 56, 51, 56, 52, 56, 53, 56, 54, 56, 55, 56, 56, 56, 57, 57, 48, 57, 49, 57, 50, 57, 51, 57, 52, 57, 53, 57, 54, 57, 55, 57, 56, 57, 57]), .t 64], none⟩,
 ⟨some 66, .pure (.iaddrS 1), [.t 55, .t 57], none⟩,
 ⟨none, .eff (.store 1), [.t 66, .t 63], none⟩,
 ⟨some 67, .pure (.iaddrS 1), [.t 58, .t 60], none⟩,
 ⟨none, .eff (.store 1), [.t 67, .t 65], none⟩])
 (.seq (.ops [⟨some 68, .pure .move, [.t 0], none⟩,
 ⟨some 69, .pure .move, [.t 4], none⟩,
 ⟨some 70, .pure (.bin .sub), [.t 69, .c (.int .i64 5)], none⟩,
 ⟨some 71, .pure .move, [.t 0], none⟩,
 ⟨some 72, .pure .move, [.t 4], none⟩,
 ⟨some 73, .pure (.bin .sub), [.t 72, .c (.int .i64 6)], none⟩,
 ⟨some 74, .pure .move, [.t 11], none⟩,
 ⟨some 75, .pure (.bin .add), [.t 74, .c (.int .u32 1)], none⟩,
 ⟨some 76, .pure .idxStr, [.c (.str [48, 48, 48, 49, 48, 50, 48, 51, 48, 52, 48, 53, 48, 54, 48, 55, 48, 56, 48, 57, 49, 48, 49, 49, 49, 50, 49, 51, 49, 52, 49, 53, 49, 54, 49, 55, 49, 56, 49, 57, 50, 48, 50, 49, 50, 50, 50, 51, 50, 52, 50, 53, 50, 54, 50, 55, 50, 56, 50, 57, 51, 48, 51, 49, 51, 50, 51, 51, 51, 52, 51, 53, 51, 54, 51, 55, 51, 56, 51, 57, 52, 48, 52, 49, 52, 50, 52, 51, 52, 52, 52, 53, 52, 54, 52, 55, 52, 56, 52, 57, 53, 48, 53, 49, 53, 50, 53, 51, 53, 52, 53, 53, 53, 54, 53, 55, 53, 56, 53, 57, 54, 48, 54, 49, 54, 50, 54, 51, 54, 52, 54, 53, 54, 54, 54, 55, 54, 56, 54, 57, 55, 48, 55, 49, 55, 50, 55, 51, 55, 52, 55, 53, 55, 54, 55, 55, 55, 56, 55, 57, 56, 48, 56, 49, 56, 50, 56, 51, 56, 52, 56, 53, 56, 54, 56, 55, 56, 56, 56, 57, 57, 48, 57, 49, 57, 50, 57, 51, 57, 52, 57, 53, 57, 54, 57, 55, 57, 56, 57, 57]), .t 75], none⟩,
 ⟨some 77, .pure .move, [.t 11], none⟩,
 ⟨some 78, .pure .idxStr, [.c (.str [48, 48, 48, 49, 48, 50, 48, 51, 48, 52, 48, 53, 48, 54, 48, 55, 48, 56, 48, 57, 49, 48, 49, 49, 49, 50, 49, 51, 49, 52, 49, 53, 49, 54, 49, 55, 49, 56, 49, 57, 50, 48, 50, 49, 50, 50, 50, 51, 50, 52, 50, 53, 50, 54, 50, 55, 50, 56, 50, 57, 51, 48, 51, 49, 51, 50, 51, 51, 51, 52, 51, 53, 51, 54, 51, 55, 51, 56, 51, 57, 52, 48, 52, 49, 52, 50, 52, 51, 52, 52, 52, 53, 52, 54, 52, 55, 52, 56, 52, 57, 53, 48, 53, 49, 53, 50, 53, 51, 53, 52, 53, 53, 53, 54, 53, 55, 53, 56, 53, 57, 54, 48, 54, 49, 54, 50, 54, 51, 54, 52, 54, 53, 54, 54, 54, 55, 54, 56, 54, 57, 55, 48, 55, 49, 55, 50, 55, 51, 55, 52, 55, 53, 55, 54, 55, 55, 55, 56, 55, 57, 56, 48, 56, 49, 56, 50, 56, 51, 56, 52, 56, 53, 56, 54, 56, 55, 56, 56, 56, 57, 57, 48, 57, 49, 57, 50, 57, 51, 57, 52, 57, 53, 57, 54, 57, 55, 57, 56, 57, 57]), .t 77], none⟩,
 ⟨some 79, .pure (.iaddrS 1), [.t 68, .t 70], none⟩,
 ⟨none, .eff (.store 1), [.t 79, .t 76], none⟩,
 ⟨some 80, .pure (.iaddrS 1), [.t 71, .t 73], none⟩,
 ⟨none, .eff (.store 1), [.t 80, .t 78], none⟩])
 (.seq (.ops [⟨some 81, .pure .move, [.t 0], none⟩,
 ⟨some 82, .pure .move, [.t 4], none⟩,
 ⟨some 83, .pure (.bin .sub), [.t 82, .c (.int .i64 7)], none⟩,
 ⟨some 84, .pure .move, [.t 0], none⟩,
 ⟨some 85, .pure .move, [.t 4], none⟩,
 ⟨some 86, .pure (.bin .sub), [.t 85, .c (.int .i64 8)], none⟩,
 ⟨some 87, .pure .move, [.t 10], none⟩,
 ⟨some 88, .pure (.bin .add), [.t 87, .c (.int .u32 1)], none⟩,
 ⟨some 89, .pure .idxStr, [.c (.str [48, 48, 48, 49, 48, 50, 48, 51, 48, 52, 48, 53, 48, 54, 48, 55, 48, 56, 48, 57, 49, 48, 49, 49, 49, 50, 49, 51, 49, 52, 49, 53, 49, 54, 49, 55, 49, 56, 49, 57, 50, 48, 50, 49, 50, 50, 50, 51, 50, 52, 50, 53, 50, 54, 50, 55, 50, 56, 50, 57, 51, 48, 51, 49, 51, 50, 51, 51, 51, 52, 51, 53, 51, 54, 51, 55, 51, 56, 51, 57, 52, 48, 52, 49, 52, 50, 52, 51, 52, 52, 52, 53, 52, 54, 52, 55, 52, 56, 52, 57, 53, 48, 53, 49, 53, 50, 53, 51, 53, 52, 53, 53, 53, 54, 53, 55, 53, 56, 53, 57, 54, 48, 54, 49, 54, 50, 54, 51, 54, 52, 54, 53, 54, 54, 54, 55, 54, 56, 54, 57, 55, 48, 55, 49, 55, 50, 55, 51, 55, 52, 55, 53, 55, 54, 55, 55, 55, 56, 55, 57, 56, 48, 56, 49, 56, 50, 56, 51, 56, 52, 56, 53, 56, 54, 56, 55, 56, 56, 56, 57, 57, 48, 57, 49, 57, 50, 57, 51, 57, 52, 57, 53, 57, 54, 57, 55, 57, 56, 57, 57]), .t 88], none⟩,
 ⟨some 90, .pure .move, [.t 10], none⟩,
 ⟨some 91, .pure .idxStr, [.c (.str [48, 48, 48, 49, 48, 50, 48, 51, 48, 52, 48, 53, 48, 54, 48, 55, 48, 56, 48, 57, 49, 48, 49, 49, 49, 50, 49, 51, 49, 52, 49, 53, 49, 54, 49, 55, 49, 56, 49, 57, 50, 48, 50, 49, 50, 50, 50, 51, 50, 52, 50, 53, 50, 54, 50, 55, 50, 56, 50, 57, 51, 48, 51, 49, 51, 50, 51, 51, 51, 52, 51, 53, 51, 54, 51, 55, 51, 56, 51, 57, 52, 48, 52, 49, 52, 50, 52, 51, 52, 52, 52, 53, 52, 54, 52, 55, 52, 56, 52, 57, 53, 48, 53, 49, 53, 50, 53, 51, 53, 52, 53, 53, 53, 54, 53, 55, 53, 56, 53, 57, 54, 48, 54, 49, 54, 50, 54, 51, 54, 52, 54, 53, 54, 54, 54, 55, 54, 56, 54, 57, 55, 48, 55, 49, 55, 50, 55, 51, 55, 52, 55, 53, 55, 54, 55, 55, 55, 56, 55, 57, 56, 48, 56, 49, 56, 50, 56, 51, 56, 52, 56, 53, 56, 54, 56, 55, 56, 56, 56, 57, 57, 48, 57, 49, 57, 50, 57, 51, 57, 52, 57, 53, 57, 54, 57, 55, 57, 56, 57, 57]), .t 90], none⟩,
 ⟨some 92, .pure (.iaddrS 1), [.t 81, .t 83], none⟩,
 ⟨none, .eff (.store 1), [.t 92, .t 89], none⟩,
 ⟨some 93, .pure (.iaddrS 1), [.t 84, .t 86], none⟩,
 ⟨none, .eff (.store 1), [.t 93, .t 91], none⟩])
 (.ops [⟨some 94, .pure .move, [.t 4], none⟩,
 ⟨some 95, .pure (.bin .sub), [.t 94, .c (.int .i64 8)], none⟩,
 ⟨some 4, .pure .move, [.t 95], none⟩]))))))))))))))
 (.seq (.ops [⟨some 96, .pure .move, [.t 1], none⟩,
 ⟨some 97, .pure (.conv .u32), [.t 96], none⟩,
 ⟨some 12, .pure .move, [.t 97], none⟩])
 (.seq (.seq (.ops [⟨some 98, .pure .move, [.t 4], none⟩,
 ⟨some 99, .pure (.bin .geq), [.t 98, .c (.int .i64 4)], none⟩])
 (.cond (.t 99)
 (.seq (.ops [⟨some 100, .pure .move, [.t 12], none⟩,
 ⟨some 101, .pure (.bin .rem), [.t 100, .c (.int .u32 10000)], none⟩,
 ⟨some 13, .pure .move, [.t 101], none⟩])
 (.seq (.ops [⟨some 102, .pure .move, [.t 12], none⟩,
 ⟨some 103, .pure (.bin .quo), [.t 102, .c (.int .u32 10000)], none⟩,
 ⟨some 12, .pure .move, [.t 103], none⟩])
 (.seq (.ops [⟨some 104, .pure .move, [.t 13], none⟩,
 ⟨some 105, .pure (.bin .quo), [.t 104, .c (.int .u32 100)], none⟩,
 ⟨some 106, .pure (.bin .mul), [.t 105, .c (.int .u32 2)], none⟩,
 ⟨some 107, .pure .move, [.t 13], none⟩,
 ⟨some 108, .pure (.bin .rem), [.t 107, .c (.int .u32 100)], none⟩,
 ⟨some 109, .pure (.bin .mul), [.t 108, .c (.int .u32 2)], none⟩,
 ⟨some 14, .pure .move, [.t 106], none⟩,
 ⟨some 15, .pure .move, [.t 109], none⟩])
 (.seq (.ops [⟨some 110, .pure .move, [.t 0], none⟩,
 ⟨some 111, .pure .move, [.t 4], none⟩,
 ⟨some 112, .pure (.bin .sub), [.t 111, .c (.int .i64 1)], none⟩,
 ⟨some 113, .pure .move, [.t 0], none⟩,
 ⟨some 114, .pure .move, [.t 4], none⟩,
 ⟨some 115, .pure (.bin .sub), [.t 114, .c (.int .i64 2)], none⟩,
 ⟨some 116, .pure .move, [.t 15], none⟩,
 ⟨some 117, .pure (.bin .add), [.t 116, .c (.int .u32 1)], none⟩,
 ⟨some 118, .pure .idxStr, [.c (.str [48, 48, 48, 49, 48, 50, 48, 51, 48, 52, 48, 53, 48, 54, 48, 55, 48, 56, 48, 57, 49, 48, 49, 49, 49, 50, 49, 51, 49, 52, 49, 53, 49, 54, 49, 55, 49, 56, 49, 57, 50, 48, 50, 49, 50, 50, 50, 51, 50, 52, 50, 53, 50, 54, 50, 55, 50, 56, 50, 57, 51, 48, 51, 49, 51, 50, 51, 51, 51, 52, 51, 53, 51, 54, 51, 55, 51, 56, 51, 57, 52, 48, 52, 49, 52, 50, 52, 51, 52, 52, 52, 53, 52, 54, 52, 55, 52, 56, 52, 57, 53, 48, 53, 49, 53, 50, 53, 51, 53, 52, 53, 53, 53, 54, 53, 55, 53, 56, 53, 57, 54, 48, 54, 49, 54, 50, 54, 51, 54, 52, 54, 53, 54, 54, 54, 55, 54, 56, 54, 57, 55, 48, 55, 49, 55, 50, 55, 51, 55, 52, 55, 53, 55, 54, 55, 55, 55, 56, 55, 57, 56, 48, 56, 49, 56, 50, 56, 51, 56, 52, 56, 53, 56, 54, 56, 55, 56, 56, 56, 57, 57, 48, 57, 49, 57, 50, 57, 51, 57, 52, 57, 53, 57, 54, 57, 55, 57, 56, 57, 57]), .t 117], none⟩,
 ⟨some 119, .pure .move, [.t 15], none⟩,
 ⟨some 120, .pure .idxStr, [.c (.str [48, 48, 48, 49, 48, 50, 48, 51, 48, 52, 48, 53, 48, 54, 48, 55, 48, 56, 48, 57, 49, 48, 49, 49, 49, 50, 49, 51, 49, 52, 49, 53, 49, 54, 49, 55, 49, 56, 49, 57, 50, 48, 50, 49, 50, 50, 50, 51, 50, 52, 50, 53, 50, 54, 50, 55, 50, 56, 50, 57, 51, 48, 51, 49, 51, 50, 51, 51, 51, 52, 51, 53, 51, 54, 51, 55, 51, 56, 51, 57, 52, 48, 52, 49, 52, 50, 52, 51, 52, 52, 52, 53, 52, 54, 52, 55, 52, 56, 52, 57, 53, 48, 53, 49, 53, 50, 53, 51, 53, 52, 53, 53, 53, 54, 53, 55, 53, 56, 53, 57, 54, 48, 54, 49, 54, 50, 54, 51, 54, 52, 54, 53, 54, 54, 54, 55, 54, 56, 54, 57, 55, 48, 55, 49, 55, 50, 55, 51, 55, 52, 55, 53, 55, 54, 55, 55, 55, 56, 55, 57, 56, 48, 56, 49, 56, 50, 56, 51, 56, 52, 56, 53, 56, 54, 56, 55, 56, 56, 56, 57, 57, 48, 57, 49, 57, 50, 57, 51, 57, 52, 57, 53, 57, 54, 57, 55, 57, 56, 57, 57]), .t 119], none⟩,
 ⟨some 121, .pure (.iaddrS 1), [.t 110, .t 112], none⟩,
 ⟨none, .eff (.store 1), [.t 121, .t 118], none⟩,
 ⟨some 122, .pure (.iaddrS 1), [.t 113, .t 115], none⟩,
 ⟨none, .eff (.store 1), [.t 122, .t 120], none⟩])
 (.seq (.ops [⟨some 123, .pure .move, [.t 0], none⟩,
 ⟨some 124, .pure .move, [.t 4], none⟩,
 ⟨some 125, .pure (.bin .sub), [.t 124, .c (.int .i64 3)], none⟩,
 ⟨some 126, .pure .move, [.t 0], none⟩,
 ⟨some 127, .pure .move, [.t 4], none⟩,
 ⟨some 128, .pure (.bin .sub), [.t 127, .c (.int .i64 4)], none⟩,
 ⟨some 129, .pure .move, [.t 14], none⟩,
 ⟨some 130, .pure (.bin .add), [.t 129, .c (.int .u32 1)], none⟩,
 ⟨some 131, .pure .idxStr, [.c (.str [48, 48, 48, 49, 48, 50, 48, 51, 48, 52, 48, 53, 48, 54, 48, 55, 48, 56, 48, 57, 49, 48, 49, 49, 49, 50, 49, 51, 49, 52, 49, 53, 49, 54, 49, 55, 49, 56, 49, 57, 50, 48, 50, 49, 50, 50, 50, 51, 50, 52, 50, 53, 50, 54, 50, 55, 50, 56, 50, 57, 51, 48, 51, 49, 51, 50, 51, 51, 51, 52, 51, 53, 51, 54, 51, 55, 51, 56, 51, 57, 52, 48, 52, 49, 52, 50, 52, 51, 52, 52, 52, 53, 52, 54, 52, 55, 52, 56, 52, 57, 53, 48, 53, 49, 53, 50, 53, 51, 53, 52, 53, 53, 53, 54, 53, 55, 53, 56, 53, 57, 54, 48, 54, 49, 54, 50, 54, 51, 54, 52, 54, 53, 54, 54, 54, 55, 54, 56, 54, 57, 55, 48, 55, 49, 55, 50, 55, 51, 55, 52, 55, 53, 55, 54, 55, 55, 55, 56, 55, 57, 56, 48, 56, 49, 56, 50, 56, 51, 56, 52, 56, 53, 56, 54, 56, 55, 56, 56, 56, 57, 57, 48, 57, 49, 57, 50, 57, 51, 57, 52, 57, 53, 57, 54, 57, 55, 57, 56, 57, 57]), .t 130], none⟩,
 ⟨some 132, .pure .move, [.t 14], none⟩,
 ⟨some 133, .pure .idxStr, [.c (.str [48, 48, 48, 49, 48, 50, 48, 51, 48, 52, 48, 53, 48, 54, 48, 55, 48, 56, 48, 57, 49, 48, 49, 49, 49, 50, 49, 51, 49, 52, 49, 53, 49, 54, 49, 55, 49, 56, 49, 57, 50, 48, 50, 49, 50, 50, 50, 51, 50, 52, 50, 53, 50, 54, 50, 55, 50, 56, 50, 57, 51, 48, 51, 49, 51, 50, 51, 51, 51, 52, 51, 53, 51, 54, 51, 55, 51, 56, 51, 57, 52, 48, 52, 49, 52, 50, 52, 51, 52, 52, 52, 53, 52, 54, 52, 55, 52, 56, 52, 57, 53, 48, 53, 49, 53, 50, 53, 51, 53, 52, 53, 53, 53, 54, 53, 55, 53, 56, 53, 57, 54, 48, 54, 49, 54, 50, 54, 51, 54, 52, 54, 53, 54, 54, 54, 55, 54, 56, 54, 57, 55, 48, 55, 49, 55, 50, 55, 51, 55, 52, 55, 53, 55, 54, 55, 55, 55, 56, 55, 57, 56, 48, 56, 49, 56, 50, 56, 51, 56, 52, 56, 53, 56, 54, 56, 55, 56, 56, 56, 57, 57, 48, 57, 49, 57, 50, 57, 51, 57, 52, 57, 53, 57, 54, 57, 55, 57, 56, 57, 57]), .t 132], none⟩,
 ⟨some 134, .pure (.iaddrS 1), [.t 123, .t 125], none⟩,
 ⟨none, .eff (.store 1), [.t 134, .t 131], none⟩,
 ⟨some 135, .pure (.iaddrS 1), [.t 126, .t 128], none⟩,
 ⟨none, .eff (.store 1), [.t 135, .t 133], none⟩])
 (.ops [⟨some 136, .pure .move, [.t 4], none⟩,
 ⟨some 137, .pure (.bin .sub), [.t 136, .c (.int .i64 4)], none⟩,
 ⟨some 4, .pure .move, [.t 137], none⟩]))))))
 .skip))
 (.seq (.seq (.ops [⟨some 138, .pure .move, [.t 4], none⟩,
 ⟨some 139, .pure (.bin .geq), [.t 138, .c (.int .i64 2)], none⟩])
 (.cond (.t 139)
 (.seq (.ops [⟨some 140, .pure .move, [.t 12], none⟩,
 ⟨some 141, .pure (.bin .rem), [.t 140, .c (.int .u32 100)], none⟩,
 ⟨some 142, .pure (.bin .mul), [.t 141, .c (.int .u32 2)], none⟩,
 ⟨some 16, .pure .move, [.t 142], none⟩])
 (.seq (.ops [⟨some 143, .pure .move, [.t 12], none⟩,
 ⟨some 144, .pure (.bin .quo), [.t 143, .c (.int .u32 100)], none⟩,
 ⟨some 12, .pure .move, [.t 144], none⟩])
 (.seq (.ops [⟨some 145, .pure .move, [.t 0], none⟩,
 ⟨some 146, .pure .move, [.t 4], none⟩,
 ⟨some 147, .pure (.bin .sub), [.t 146, .c (.int .i64 1)], none⟩,
 ⟨some 148, .pure .move, [.t 0], none⟩,
 ⟨some 149, .pure .move, [.t 4], none⟩,
 ⟨some 150, .pure (.bin .sub), [.t 149, .c (.int .i64 2)], none⟩,
 ⟨some 151, .pure .move, [.t 16], none⟩,
 ⟨some 152, .pure (.bin .add), [.t 151, .c (.int .u32 1)], none⟩,
 ⟨some 153, .pure .idxStr, [.c (.str [48, 48, 48, 49, 48, 50, 48, 51, 48, 52, 48, 53, 48, 54, 48, 55, 48, 56, 48, 57, 49, 48, 49, 49, 49, 50, 49, 51, 49, 52, 49, 53, 49, 54, 49, 55, 49, 56, 49, 57, 50, 48, 50, 49, 50, 50, 50, 51, 50, 52, 50, 53, 50, 54, 50, 55, 50, 56, 50, 57, 51, 48, 51, 49, 51, 50, 51, 51, 51, 52, 51, 53, 51, 54, 51, 55, 51, 56, 51, 57, 52, 48, 52, 49, 52, 50, 52, 51, 52, 52, 52, 53, 52, 54, 52, 55, 52, 56, 52, 57, 53, 48, 53, 49, 53, 50, 53, 51, 53, 52, 53, 53, 53, 54, 53, 55, 53, 56, 53, 57, 54, 48, 54, 49, 54, 50, 54, 51, 54, 52, 54, 53, 54, 54, 54, 55, 54, 56, 54, 57, 55, 48, 55, 49, 55, 50, 55, 51, 55, 52, 55, 53, 55, 54, 55, 55, 55, 56, 55, 57, 56, 48, 56, 49, 56, 50, 56, 51, 56, 52, 56, 53, 56, 54, 56, 55, 56, 56, 56, 57, 57, 48, 57, 49, 57, 50, 57, 51, 57, 52, 57, 53, 57, 54, 57, 55, 57, 56, 57, 57]), .t 152], none⟩,
 ⟨some 154, .pure .move, [.t 16], none⟩,
 ⟨some 155, .pure .idxStr, [.c (.str [48, 48, 48, 49, 48, 50, 48, 51, 48, 52, 48, 53, 48, 54, 48, 55, 48, 56, 48, 57, 49, 48, 49, 49, 49, 50, 49, 51, 49, 52, 49, 53, 49, 54, 49, 55, 49, 56, 49, 57, 50, 48, 50, 49, 50, 50, 50, 51, 50, 52, 50, 53, 50, 54, 50, 55, 50, 56, 50, 57, 51, 48, 51, 49, 51, 50, 51, 51, 51, 52, 51, 53, 51, 54, 51, 55, 51, 56, 51, 57, 52, 48, 52, 49, 52, 50, 52, 51, 52, 52, 52, 53, 52, 54, 52, 55, 52, 56, 52, 57, 53, 48, 53, 49, 53, 50, 53, 51, 53, 52, 53, 53, 53, 54, 53, 55, 53, 56, 53, 57, 54, 48, 54, 49, 54, 50, 54, 51, 54, 52, 54, 53, 54, 54, 54, 55, 54, 56, 54, 57, 55, 48, 55, 49, 55, 50, 55, 51, 55, 52, 55, 53, 55, 54, 55, 55, 55, 56, 55, 57, 56, 48, 56, 49, 56, 50, 56, 51, 56, 52, 56, 53, 56, 54, 56, 55, 56, 56, 56, 57, 57, 48, 57, 49, 57, 50, 57, 51, 57, 52, 57, 53, 57, 54, 57, 55, 57, 56, 57, 57]), .t 154], none⟩,
 ⟨some 156, .pure (.iaddrS 1), [.t 145, .t 147], none⟩,
 ⟨none, .eff (.store 1), [.t 156, .t 153], none⟩,
 ⟨some 157, .pure (.iaddrS 1), [.t 148, .t 150], none⟩,
 ⟨none, .eff (.store 1), [.t 157, .t 155], none⟩])
 (.ops [⟨some 158, .pure .move, [.t 4], none⟩,
 ⟨some 159, .pure (.bin .sub), [.t 158, .c (.int .i64 2)], none⟩,
 ⟨some 4, .pure .move, [.t 159], none⟩]))))
 .skip))
 (.seq (.ops [⟨some 160, .pure .move, [.t 4], none⟩,
 ⟨some 161, .pure (.bin .gtr), [.t 160, .c (.int .i64 0)], none⟩])
 (.cond (.t 161)
 (.ops [⟨some 162, .pure .move, [.t 0], none⟩,
 ⟨some 163, .pure .move, [.t 12], none⟩,
 ⟨some 164, .pure (.bin .add), [.c (.int .u32 48), .t 163], none⟩,
 ⟨some 165, .pure (.conv .u8), [.t 164], none⟩,
 ⟨some 166, .pure (.iaddrS 1), [.t 162, .c (.int .i64 0)], none⟩,
 ⟨none, .eff (.store 1), [.t 166, .t 165], none⟩])
 .skip))))))) }
/-- internal/strconv.formatBits -/
def ac422 : AFn :=
 { nt := 102, res := [.tmp 10, .tmp 11], body :=
 (.seq (.ops [⟨some 10, .pure .move, [.c (.snil 1)], none⟩,
 ⟨some 11, .pure .move, [.c (.str [])], none⟩])
 (.seq (.seq (.ops [⟨some 19, .pure .move, [.t 2], none⟩,
 ⟨some 20, .pure (.bin .lss), [.t 19, .c (.int .i64 2)], none⟩,
 ⟨some 21, .pure .move, [.t 20], none⟩,
 ⟨some 22, .pure .move, [.t 2], some (21, false)⟩,
 ⟨some 23, .pure (.bin .eql), [.t 22, .c (.int .i64 10)], some (21, false)⟩,
 ⟨some 24, .pure .pick, [.t 21, .c (.bool true), .t 23], none⟩,
 ⟨some 25, .pure .move, [.t 24], none⟩,
 ⟨some 26, .pure .move, [.t 2], some (25, false)⟩,
 ⟨some 27, .pure (.bin .gtr), [.t 26, .c (.int .i64 36)], some (25, false)⟩,
 ⟨some 28, .pure .pick, [.t 25, .c (.bool true), .t 27], none⟩])
 (.cond (.t 28)
 (.ops [⟨some 29, .pure (.mkifc 9), [.c (.str [115, 116, 114, 99, 111, 110, 118, 58, 32, 105, 108, 108, 101, 103, 97, 108, 32, 65, 112, 112, 101, 110, 100, 73, 110, 116, 47, 70, 111, 114, 109, 97, 116, 73, 110, 116, 32, 98, 97, 115, 101])], none⟩,
 ⟨none, .bad, [], none⟩])
 .skip))
 (.seq (.ops [⟨some 12, .new (.new 1 [.int .u8 0, .int .u8 0, .int .u8 0, .int .u8 0, .int .u8 0, .int .u8 0, .int .u8 0, .int .u8 0, .int .u8 0, .int .u8 0, .int .u8 0, .int .u8 0, .int .u8 0, .int .u8 0, .int .u8 0, .int .u8 0, .int .u8 0, .int .u8 0, .int .u8 0, .int .u8 0, .int .u8 0, .int .u8 0, .int .u8 0, .int .u8 0, .int .u8 0, .int .u8 0, .int .u8 0, .int .u8 0, .int .u8 0, .int .u8 0, .int .u8 0, .int .u8 0, .int .u8 0, .int .u8 0, .int .u8 0, .int .u8 0, .int .u8 0, .int .u8 0, .int .u8 0, .int .u8 0, .int .u8 0, .int .u8 0, .int .u8 0, .int .u8 0, .int .u8 0, .int .u8 0, .int .u8 0, .int .u8 0, .int .u8 0, .int .u8 0, .int .u8 0, .int .u8 0, .int .u8 0, .int .u8 0, .int .u8 0, .int .u8 0, .int .u8 0, .int .u8 0, .int .u8 0, .int .u8 0, .int .u8 0, .int .u8 0, .int .u8 0, .int .u8 0, .int .u8 0]), [], none⟩])
 (.seq (.ops [⟨some 13, .pure .move, [.c (.int .i64 65)], none⟩])
 (.seq (.seq (.ops [⟨some 30, .pure .move, [.t 3], none⟩])
 (.cond (.t 30)
 (.ops [⟨some 31, .pure .move, [.t 1], none⟩,
 ⟨some 32, .pure (.un .neg), [.t 31], none⟩,
 ⟨some 1, .pure .move, [.t 32], none⟩])
 .skip))
 (.seq (.seq (.ops [⟨some 33, .pure .move, [.t 2], none⟩,
 ⟨some 34, .pcall 430, [.t 33], none⟩])
 (.cond (.t 34)
 (.seq (.ops [⟨some 35, .pure .move, [.t 2], none⟩,
 ⟨some 36, .pure (.conv .u64), [.t 35], none⟩,
 ⟨some 37, .pcall 431, [.t 36], none⟩,
 ⟨some 38, .pure (.conv .u64), [.t 37], none⟩,
 ⟨some 14, .pure .move, [.t 38], none⟩])
 (.seq (.ops [⟨some 39, .pure .move, [.t 2], none⟩,
 ⟨some 40, .pure (.conv .u64), [.t 39], none⟩,
 ⟨some 15, .pure .move, [.t 40], none⟩])
 (.seq (.ops [⟨some 41, .pure .move, [.t 2], none⟩,
 ⟨some 42, .pure (.conv .u64), [.t 41], none⟩,
 ⟨some 43, .pure (.bin .sub), [.t 42, .c (.int .u64 1)], none⟩,
 ⟨some 16, .pure .move, [.t 43], none⟩])
 (.seq (.block 0
 (.loop [0, 1, 3, 4, 10, 11, 12, 13, 14, 15, 16]
 (.seq (.seq (.ops [⟨some 44, .pure .move, [.t 1], none⟩,
 ⟨some 45, .pure .move, [.t 15], none⟩,
 ⟨some 46, .pure (.bin .geq), [.t 44, .t 45], none⟩])
 (.cond (.t 46)
 .skip
 (.exit 0)))
 (.block 1
 (.seq (.ops [⟨some 47, .pure .move, [.t 13], none⟩,
 ⟨some 48, .pure (.bin .sub), [.t 47, .c (.int .i64 1)], none⟩,
 ⟨some 13, .pure .move, [.t 48], none⟩])
 (.seq (.ops [⟨some 49, .pure .move, [.t 13], none⟩,
 ⟨some 50, .pure .move, [.t 1], none⟩,
 ⟨some 51, .pure .move, [.t 16], none⟩,
 ⟨some 52, .pure (.bin .and), [.t 50, .t 51], none⟩,
 ⟨some 53, .pure .idxStr, [.c (.str [48, 49, 50, 51, 52, 53, 54, 55, 56, 57, 97, 98, 99, 100, 101, 102, 103, 104, 105, 106, 107, 108, 109, 110, 111, 112, 113, 114, 115, 116, 117, 118, 119, 120, 121, 122]), .t 52], none⟩,
 ⟨some 54, .pure (.iaddrA 65 1), [.t 12, .t 49], none⟩,
 ⟨none, .eff (.store 1), [.t 54, .t 53], none⟩])
 (.ops [⟨some 55, .pure .move, [.t 1], none⟩,
 ⟨some 56, .pure .move, [.t 14], none⟩,
 ⟨some 57, .pure (.bin .shr), [.t 55, .t 56], none⟩,
 ⟨some 1, .pure .move, [.t 57], none⟩])))))))
 (.seq (.ops [⟨some 58, .pure .move, [.t 13], none⟩,
 ⟨some 59, .pure (.bin .sub), [.t 58, .c (.int .i64 1)], none⟩,
 ⟨some 13, .pure .move, [.t 59], none⟩])
 (.ops [⟨some 60, .pure .move, [.t 13], none⟩,
 ⟨some 61, .pure .move, [.t 1], none⟩,
 ⟨some 62, .pure .idxStr, [.c (.str [48, 49, 50, 51, 52, 53, 54, 55, 56, 57, 97, 98, 99, 100, 101, 102, 103, 104, 105, 106, 107, 108, 109, 110, 111, 112, 113, 114, 115, 116, 117, 118, 119, 120, 121, 122]), .t 61], none⟩,
 ⟨some 63, .pure (.iaddrA 65 1), [.t 12, .t 60], none⟩,
 ⟨none, .eff (.store 1), [.t 63, .t 62], none⟩]))))))
 (.seq (.ops [⟨some 64, .pure .move, [.t 2], none⟩,
 ⟨some 65, .pure (.conv .u64), [.t 64], none⟩,
 ⟨some 17, .pure .move, [.t 65], none⟩])
 (.seq (.block 2
 (.loop [0, 1, 3, 4, 10, 11, 12, 13, 17]
 (.seq (.seq (.ops [⟨some 66, .pure .move, [.t 1], none⟩,
 ⟨some 67, .pure .move, [.t 17], none⟩,
 ⟨some 68, .pure (.bin .geq), [.t 66, .t 67], none⟩])
 (.cond (.t 68)
 .skip
 (.exit 2)))
 (.block 3
 (.seq (.ops [⟨some 69, .pure .move, [.t 13], none⟩,
 ⟨some 70, .pure (.bin .sub), [.t 69, .c (.int .i64 1)], none⟩,
 ⟨some 13, .pure .move, [.t 70], none⟩])
 (.seq (.ops [⟨some 71, .pure .move, [.t 1], none⟩,
 ⟨some 72, .pure .move, [.t 17], none⟩,
 ⟨some 73, .pure (.bin .quo), [.t 71, .t 72], none⟩,
 ⟨some 18, .pure .move, [.t 73], none⟩])
 (.seq (.ops [⟨some 74, .pure .move, [.t 13], none⟩,
 ⟨some 75, .pure .move, [.t 1], none⟩,
 ⟨some 76, .pure .move, [.t 18], none⟩,
 ⟨some 77, .pure .move, [.t 17], none⟩,
 ⟨some 78, .pure (.bin .mul), [.t 76, .t 77], none⟩,
 ⟨some 79, .pure (.bin .sub), [.t 75, .t 78], none⟩,
 ⟨some 80, .pure .idxStr, [.c (.str [48, 49, 50, 51, 52, 53, 54, 55, 56, 57, 97, 98, 99, 100, 101, 102, 103, 104, 105, 106, 107, 108, 109, 110, 111, 112, 113, 114, 115, 116, 117, 118, 119, 120, 121, 122]), .t 79], none⟩,
 ⟨some 81, .pure (.iaddrA 65 1), [.t 12, .t 74], none⟩,
 ⟨none, .eff (.store 1), [.t 81, .t 80], none⟩])
 (.ops [⟨some 82, .pure .move, [.t 18], none⟩,
 ⟨some 1, .pure .move, [.t 82], none⟩]))))))))
 (.seq (.ops [⟨some 83, .pure .move, [.t 13], none⟩,
 ⟨some 84, .pure (.bin .sub), [.t 83, .c (.int .i64 1)], none⟩,
 ⟨some 13, .pure .move, [.t 84], none⟩])
 (.ops [⟨some 85, .pure .move, [.t 13], none⟩,
 ⟨some 86, .pure .move, [.t 1], none⟩,
 ⟨some 87, .pure .idxStr, [.c (.str [48, 49, 50, 51, 52, 53, 54, 55, 56, 57, 97, 98, 99, 100, 101, 102, 103, 104, 105, 106, 107, 108, 109, 110, 111, 112, 113, 114, 115, 116, 117, 118, 119, 120, 121, 122]), .t 86], none⟩,
 ⟨some 88, .pure (.iaddrA 65 1), [.t 12, .t 85], none⟩,
 ⟨none, .eff (.store 1), [.t 88, .t 87], none⟩]))))))
 (.seq (.seq (.ops [⟨some 89, .pure .move, [.t 3], none⟩])
 (.cond (.t 89)
 (.seq (.ops [⟨some 90, .pure .move, [.t 13], none⟩,
 ⟨some 91, .pure (.bin .sub), [.t 90, .c (.int .i64 1)], none⟩,
 ⟨some 13, .pure .move, [.t 91], none⟩])
 (.ops [⟨some 92, .pure .move, [.t 13], none⟩,
 ⟨some 93, .pure (.iaddrA 65 1), [.t 12, .t 92], none⟩,
 ⟨none, .eff (.store 1), [.t 93, .c (.int .u8 45)], none⟩]))
 .skip))
 (.seq (.seq (.ops [⟨some 94, .pure .move, [.t 4], none⟩])
 (.cond (.t 94)
 (.seq (.ops [⟨some 95, .pure .move, [.t 0], none⟩,
 ⟨some 96, .pure .move, [.t 13], none⟩,
 ⟨some 97, .bad, [], none⟩,
 ⟨some 98, .eff (.append 1 1), [.t 95, .t 97], none⟩,
 ⟨some 10, .pure .move, [.t 98], none⟩])
 .ret)
 .skip))
 (.seq (.ops [⟨some 99, .pure .move, [.t 13], none⟩,
 ⟨some 100, .bad, [], none⟩,
 ⟨some 101, .read .bytesStr, [.t 100], none⟩,
 ⟨some 11, .pure .move, [.t 101], none⟩])
 .ret))))))))) }
/-- internal/strconv.log10Pow2 -/
def ac428 : AFn :=
 { nt := 6, res := [.tmp 2], body :=
 (.seq (.ops [⟨some 2, .pure .move, [.c (.int .i64 0)], none⟩])
 (.seq (.ops [⟨some 3, .pure .move, [.t 0], none⟩,
 ⟨some 4, .pure (.bin .mul), [.t 3, .c (.int .i64 78913)], none⟩,
 ⟨some 5, .pure (.bin .shr), [.t 4, .c (.int .u64 18)], none⟩,
 ⟨some 2, .pure .move, [.t 5], none⟩])
 .ret)) }
/-- internal/strconv.bool2[int] -/
def ac429 : AFn :=
 { nt := 4, res := [.tmp 2], body :=
 (.seq (.ops [⟨some 2, .pure .move, [.c (.int .i64 0)], none⟩])
 (.seq (.seq (.ops [⟨some 3, .pure .move, [.t 0], none⟩])
 (.cond (.t 3)
 (.seq (.ops [⟨some 2, .pure .move, [.c (.int .i64 1)], none⟩])
 .ret)
 .skip))
 (.seq (.ops [⟨some 2, .pure .move, [.c (.int .i64 0)], none⟩])
 .ret))) }
/-- internal/strconv.isPowerOfTwo -/
def ac430 : AFn :=
 { nt := 8, res := [.tmp 2], body :=
 (.seq (.ops [⟨some 2, .pure .move, [.c (.bool false)], none⟩])
 (.seq (.ops [⟨some 3, .pure .move, [.t 0], none⟩,
 ⟨some 4, .pure .move, [.t 0], none⟩,
 ⟨some 5, .pure (.bin .sub), [.t 4, .c (.int .i64 1)], none⟩,
 ⟨some 6, .pure (.bin .and), [.t 3, .t 5], none⟩,
 ⟨some 7, .pure (.bin .eql), [.t 6, .c (.int .i64 0)], none⟩,
 ⟨some 2, .pure .move, [.t 7], none⟩])
 .ret)) }
/-- math/bits.TrailingZeros -/
def ac431 : AFn :=
 { nt := 8, res := [.tmp 2], body :=
 (.seq (.ops [⟨some 2, .pure .move, [.c (.int .i64 0)], none⟩])
 (.seq (.cond (.c (.bool false))
 (.seq (.ops [⟨some 3, .pure .move, [.t 0], none⟩,
 ⟨some 4, .pure (.conv .u32), [.t 3], none⟩,
 ⟨some 5, .pcall 434, [.t 4], none⟩,
 ⟨some 2, .pure .move, [.t 5], none⟩])
 .ret)
 .skip)
 (.seq (.ops [⟨some 6, .pure .move, [.t 0], none⟩,
 ⟨some 7, .pcall 435, [.t 6], none⟩,
 ⟨some 2, .pure .move, [.t 7], none⟩])
 .ret))) }
/-- math/bits.TrailingZeros32 -/
def ac434 : AFn :=
 { nt := 14, res := [.tmp 2], body :=
 (.seq (.ops [⟨some 2, .pure .move, [.c (.int .i64 0)], none⟩])
 (.seq (.seq (.ops [⟨some 3, .pure .move, [.t 0], none⟩,
 ⟨some 4, .pure (.bin .eql), [.t 3, .c (.int .u32 0)], none⟩])
 (.cond (.t 4)
 (.seq (.ops [⟨some 2, .pure .move, [.c (.int .i64 32)], none⟩])
 .ret)
 .skip))
 (.seq (.ops [⟨some 5, .pure .move, [.t 0], none⟩,
 ⟨some 6, .pure .move, [.t 0], none⟩,
 ⟨some 7, .pure (.un .neg), [.t 6], none⟩,
 ⟨some 8, .pure (.bin .and), [.t 5, .t 7], none⟩,
 ⟨some 9, .pure (.bin .mul), [.t 8, .c (.int .u32 125613361)], none⟩,
 ⟨some 10, .pure (.bin .shr), [.t 9, .c (.int .u64 27)], none⟩,
 ⟨some 11, .bad, [], none⟩,
 ⟨some 12, .read (.load none), [.t 11], none⟩,
 ⟨some 13, .pure (.conv .i64), [.t 12], none⟩,
 ⟨some 2, .pure .move, [.t 13], none⟩])
 .ret))) }
/-- math/bits.TrailingZeros64 -/
def ac435 : AFn :=
 { nt := 14, res := [.tmp 2], body :=
 (.seq (.ops [⟨some 2, .pure .move, [.c (.int .i64 0)], none⟩])
 (.seq (.seq (.ops [⟨some 3, .pure .move, [.t 0], none⟩,
 ⟨some 4, .pure (.bin .eql), [.t 3, .c (.int .u64 0)], none⟩])
 (.cond (.t 4)
 (.seq (.ops [⟨some 2, .pure .move, [.c (.int .i64 64)], none⟩])
 .ret)
 .skip))
 (.seq (.ops [⟨some 5, .pure .move, [.t 0], none⟩,
 ⟨some 6, .pure .move, [.t 0], none⟩,
 ⟨some 7, .pure (.un .neg), [.t 6], none⟩,
 ⟨some 8, .pure (.bin .and), [.t 5, .t 7], none⟩,
 ⟨some 9, .pure (.bin .mul), [.t 8, .c (.int .u64 285870213051353865)], none⟩,
 ⟨some 10, .pure (.bin .shr), [.t 9, .c (.int .u64 58)], none⟩,
 ⟨some 11, .bad, [], none⟩,
 ⟨some 12, .read (.load none), [.t 11], none⟩,
 ⟨some 13, .pure (.conv .i64), [.t 12], none⟩,
 ⟨some 2, .pure .move, [.t 13], none⟩])
 .ret))) }
/-- datakit/datakitlaw45.SchemaSizes -/
def ac452 : AFn :=
 { nt := 23, res := [.tmp 2], body :=
 (.seq (.ops [⟨some 1, .new (.box 15), [.t 0], none⟩,
 ⟨some 2, .pure .move, [.c (.bool false)], none⟩])
 (.seq (.ops [⟨some 3, .read (.load (some 15)), [.t 1], none⟩,
 ⟨some 4, .pcall 480, [.t 3], none⟩,
 ⟨some 5, .pure (.un .not), [.t 4], none⟩,
 ⟨some 6, .pure .move, [.t 5], none⟩,
 ⟨some 7, .read (.load (some 15)), [.t 1], some (6, false)⟩,
 ⟨some 8, .pcall 481, [.t 7], some (6, false)⟩,
 ⟨some 9, .read (.load (some 15)), [.t 1], some (6, false)⟩,
 ⟨some 10, .pcall 474, [.t 9], some (6, false)⟩,
 ⟨some 11, .pure (.bin .eql), [.t 8, .t 10], some (6, false)⟩,
 ⟨some 12, .pure .move, [.t 11], some (6, false)⟩,
 ⟨some 13, .read (.load (some 15)), [.t 1], some (12, true)⟩,
 ⟨some 14, .pcall 483, [.t 13], some (12, true)⟩,
 ⟨some 15, .read (.load (some 15)), [.t 1], some (12, true)⟩,
 ⟨some 16, .pcall 484, [.t 15], some (12, true)⟩,
 ⟨some 17, .pcall 482, [.t 14, .t 16], some (12, true)⟩,
 ⟨some 18, .pure .pick, [.t 12, .t 17, .c (.bool false)], some (6, false)⟩,
 ⟨some 19, .pure .pick, [.t 6, .c (.bool true), .t 18], none⟩,
 ⟨some 20, .pure .move, [.t 19], none⟩,
 ⟨some 21, .pcall 456, [], some (20, true)⟩,
 ⟨some 22, .pure .pick, [.t 20, .t 21, .c (.bool false)], none⟩,
 ⟨some 2, .pure .move, [.t 22], none⟩])
 .ret)) }
/-- datakit/schema.Check -/
def ac454 : AFn :=
 { nt := 85, res := [.tmp 2], body :=
 (.seq (.ops [⟨some 1, .new (.box 16), [.t 0], none⟩,
 ⟨some 2, .pure .move, [.c (.int .i64 0)], none⟩])
 (.seq (.ops [⟨some 3, .new (.new 1 [.bool false]), [], none⟩,
 ⟨some 4, .new (.new 1 [.int .i64 0]), [], none⟩,
 ⟨none, .eff (.store 1), [.t 3, .c (.bool false)], none⟩,
 ⟨none, .eff (.store 1), [.t 4, .c (.int .i64 0)], none⟩])
 (.seq (.ops [⟨some 14, .pure (.mkfn 485), [.t 1, .t 3, .t 4], none⟩,
 ⟨some 5, .pure .move, [.t 14], none⟩])
 (.seq (.seq (.ops [⟨some 15, .pure (.faddr 0), [.t 1], none⟩,
 ⟨some 16, .read (.load none), [.t 15], none⟩,
 ⟨some 17, .pure .lenL, [.t 16], none⟩,
 ⟨some 18, .pure .move, [.c (.int .i64 0)], none⟩])
 (.block 0
 (.loop [1, 3, 4, 5, 16, 17, 18]
 (.seq (.ops [⟨some 19, .pure (.bin .lss), [.t 18, .t 17], none⟩])
 (.seq (.cond (.t 19)
 .skip
 (.exit 0))
 (.seq (.block 1
 (.seq (.ops [⟨some 20, .pure .move, [.t 18], none⟩,
 ⟨some 21, .pure (.iaddrS 16), [.t 16, .t 18], none⟩,
 ⟨some 22, .read (.load (some 16)), [.t 21], none⟩,
 ⟨some 7, .new (.new 16 [.agg [.str [], .int .i64 0, .int .i64 0, .int .i64 0, .int .i64 0, .str [], .snil 11, .int .i64 0, .int .i64 0, .int .i64 0, .int .i64 0, .int .i64 0, .snil 6, .snil 13, .snil 17, .snil 15]]), [], none⟩,
 ⟨some 6, .pure .move, [.t 20], none⟩,
 ⟨none, .eff (.store 16), [.t 7, .t 22], none⟩])
 (.seq (.seq (.ops [⟨some 23, .pure (.faddr 0), [.t 7], none⟩,
 ⟨some 24, .read (.load none), [.t 23], none⟩,
 ⟨some 25, .pure .lenS, [.t 24], none⟩,
 ⟨some 26, .pure (.bin .lss), [.t 25, .c (.int .i64 1)], none⟩,
 ⟨some 27, .pure .move, [.t 26], none⟩,
 ⟨some 28, .pure (.faddr 0), [.t 7], some (27, false)⟩,
 ⟨some 29, .read (.load none), [.t 28], some (27, false)⟩,
 ⟨some 30, .pure .lenS, [.t 29], some (27, false)⟩,
 ⟨some 31, .pure (.bin .gtr), [.t 30, .c (.int .i64 64)], some (27, false)⟩,
 ⟨some 32, .pure .pick, [.t 27, .c (.bool true), .t 31], none⟩,
 ⟨some 33, .pure .move, [.t 32], none⟩,
 ⟨some 34, .pure (.faddr 0), [.t 7], some (33, false)⟩,
 ⟨some 35, .read (.load none), [.t 34], some (33, false)⟩,
 ⟨some 36, .pcall 46, [.t 35], some (33, false)⟩,
 ⟨some 37, .pure (.un .not), [.t 36], some (33, false)⟩,
 ⟨some 38, .pure .pick, [.t 33, .c (.bool true), .t 37], none⟩])
 (.cond (.t 38)
 (.seq (.ops [⟨some 2, .pure .move, [.c (.int .i64 1)], none⟩])
 .ret)
 .skip))
 (.seq (.seq (.ops [⟨some 39, .pure (.faddr 0), [.t 1], none⟩,
 ⟨some 40, .read (.load none), [.t 39], none⟩,
 ⟨some 41, .pure .move, [.t 6], none⟩,
 ⟨some 42, .pure (.sliceL 16 false true false), [.t 40, .t 41], none⟩,
 ⟨some 43, .pure .lenL, [.t 42], none⟩,
 ⟨some 44, .pure .move, [.c (.int .i64 0)], none⟩])
 (.block 2
 (.loop [1, 3, 4, 5, 7, 16, 17, 18, 42, 43, 44]
 (.seq (.ops [⟨some 45, .pure (.bin .lss), [.t 44, .t 43], none⟩])
 (.seq (.cond (.t 45)
 .skip
 (.exit 2))
 (.seq (.block 3
 (.seq (.ops [⟨some 46, .pure (.iaddrS 16), [.t 42, .t 44], none⟩,
 ⟨some 47, .read (.load (some 16)), [.t 46], none⟩,
 ⟨some 9, .new (.new 16 [.agg [.str [], .int .i64 0, .int .i64 0, .int .i64 0, .int .i64 0, .str [], .snil 11, .int .i64 0, .int .i64 0, .int .i64 0, .int .i64 0, .int .i64 0, .snil 6, .snil 13, .snil 17, .snil 15]]), [], none⟩,
 ⟨none, .eff (.store 16), [.t 9, .t 47], none⟩])
 (.seq (.ops [⟨some 48, .pure (.faddr 0), [.t 9], none⟩,
 ⟨some 49, .read (.load none), [.t 48], none⟩,
 ⟨some 50, .pure (.faddr 0), [.t 7], none⟩,
 ⟨some 51, .read (.load none), [.t 50], none⟩,
 ⟨some 52, .pure (.bin .eql), [.t 49, .t 51], none⟩])
 (.cond (.t 52)
 (.seq (.ops [⟨some 2, .pure .move, [.c (.int .i64 8)], none⟩])
 .ret)
 .skip))))
 (.ops [⟨some 53, .pure (.bin .add), [.t 44, .c (.int .i64 1)], none⟩,
 ⟨some 44, .pure .move, [.t 53], none⟩])))))))
 (.seq (.ops [⟨some 54, .pure .move, [.t 5], none⟩,
 ⟨some 55, .pure (.faddr 1), [.t 7], none⟩,
 ⟨some 56, .read (.load (some 15)), [.t 55], none⟩,
 ⟨some 57, .callv, [.t 54, .t 56], none⟩,
 ⟨some 10, .pure .move, [.t 57], none⟩])
 (.seq (.ops [⟨some 58, .pure .move, [.t 10], none⟩,
 ⟨some 59, .pure (.bin .neq), [.t 58, .c (.int .i64 0)], none⟩])
 (.cond (.t 59)
 (.seq (.ops [⟨some 60, .pure .move, [.t 10], none⟩,
 ⟨some 2, .pure .move, [.t 60], none⟩])
 .ret)
 .skip)))))))
 (.ops [⟨some 61, .pure (.bin .add), [.t 18, .c (.int .i64 1)], none⟩,
 ⟨some 18, .pure .move, [.t 61], none⟩])))))))
 (.seq (.seq (.ops [⟨some 62, .pure .move, [.t 5], none⟩,
 ⟨some 63, .pure (.faddr 1), [.t 1], none⟩,
 ⟨some 64, .read (.load (some 15)), [.t 63], none⟩,
 ⟨some 65, .callv, [.t 62, .t 64], none⟩,
 ⟨some 11, .pure .move, [.t 65], none⟩])
 (.seq (.ops [⟨some 66, .pure .move, [.t 11], none⟩,
 ⟨some 67, .pure (.bin .neq), [.t 66, .c (.int .i64 0)], none⟩])
 (.cond (.t 67)
 (.seq (.ops [⟨some 68, .pure .move, [.t 11], none⟩,
 ⟨some 2, .pure .move, [.t 68], none⟩])
 .ret)
 .skip)))
 (.seq (.seq (.ops [⟨some 69, .read (.load none), [.t 3], none⟩])
 (.cond (.t 69)
 (.seq (.ops [⟨some 2, .pure .move, [.c (.int .i64 9)], none⟩])
 .ret)
 .skip))
 (.seq (.seq (.ops [⟨some 70, .read (.load none), [.t 4], none⟩,
 ⟨some 71, .pure (.bin .gtr), [.t 70, .c (.int .i64 1024)], none⟩,
 ⟨some 72, .pure .move, [.t 71], none⟩,
 ⟨some 73, .pure (.faddr 0), [.t 1], some (72, false)⟩,
 ⟨some 74, .read (.load none), [.t 73], some (72, false)⟩,
 ⟨some 75, .pure .lenL, [.t 74], some (72, false)⟩,
 ⟨some 76, .pure (.bin .gtr), [.t 75, .c (.int .i64 64)], some (72, false)⟩,
 ⟨some 77, .pure .pick, [.t 72, .c (.bool true), .t 76], none⟩])
 (.cond (.t 77)
 (.seq (.ops [⟨some 2, .pure .move, [.c (.int .i64 10)], none⟩])
 .ret)
 .skip))
 (.seq (.seq (.ops [⟨some 79, .read (.load (some 16)), [.t 1], none⟩,
 ⟨some 80, .pcall 459, [.t 79], none⟩,
 ⟨some 78, .pure .move, [.t 80], none⟩,
 ⟨some 81, .pure (.ext 0), [.t 78], none⟩,
 ⟨some 82, .pure (.ext 1), [.t 78], none⟩,
 ⟨some 12, .pure .move, [.t 81], none⟩,
 ⟨some 13, .pure .move, [.t 82], none⟩])
 (.seq (.ops [⟨some 83, .pure .move, [.t 13], none⟩,
 ⟨some 84, .pure (.un .not), [.t 83], none⟩])
 (.cond (.t 84)
 (.seq (.ops [⟨some 2, .pure .move, [.c (.int .i64 23)], none⟩])
 .ret)
 .skip)))
 (.seq (.ops [⟨some 2, .pure .move, [.c (.int .i64 0)], none⟩])
 .ret))))))))) }
/-- datakit/datakitlaw45.awake -/
def ac456 : AFn :=
 { nt := 64, res := [.tmp 0], body :=
 (.seq (.ops [⟨some 0, .pure .move, [.c (.bool false)], none⟩])
 (.seq (.ops [⟨some 10, .pure (.build [.int .i64 0, .int .i64 0, .int .i64 0, .int .i64 0, .str [], .snil 11, .int .i64 0, .int .i64 0, .int .i64 0, .int .i64 0, .int .i64 0, .snil 6, .snil 13, .snil 17, .snil 15] [(0, 1), (4, 1)]), [.c (.int .i64 14), .c (.str [97])], none⟩,
 ⟨some 1, .new (.new 15 [.agg [.int .i64 0, .int .i64 0, .int .i64 0, .int .i64 0, .str [], .snil 11, .int .i64 0, .int .i64 0, .int .i64 0, .int .i64 0, .int .i64 0, .snil 6, .snil 13, .snil 17, .snil 15]]), [], none⟩,
 ⟨none, .eff (.store 15), [.t 1, .t 10], none⟩])
 (.seq (.ops [⟨some 11, .pcall 489, [], none⟩,
 ⟨some 12, .pure (.build [.str [], .int .i64 0, .int .i64 0, .int .i64 0, .int .i64 0, .str [], .snil 11, .int .i64 0, .int .i64 0, .int .i64 0, .int .i64 0, .int .i64 0, .snil 6, .snil 13, .snil 17, .snil 15] [(0, 1), (1, 15)]), [.c (.str [116, 114, 101, 101]), .t 11], none⟩,
 ⟨some 13, .new (.buildSlice 16 [.agg [.str [], .int .i64 0, .int .i64 0, .int .i64 0, .int .i64 0, .str [], .snil 11, .int .i64 0, .int .i64 0, .int .i64 0, .int .i64 0, .int .i64 0, .snil 6, .snil 13, .snil 17, .snil 15]] [0]), [.t 12], none⟩,
 ⟨some 14, .pure (.build [.int .i64 0, .int .i64 0, .int .i64 0, .int .i64 0, .str [], .snil 11, .int .i64 0, .int .i64 0, .int .i64 0, .int .i64 0, .int .i64 0, .snil 6, .snil 13, .snil 17, .snil 15] [(0, 1)]), [.c (.int .i64 1)], none⟩,
 ⟨some 15, .pure (.build [.snil 16, .int .i64 0, .int .i64 0, .int .i64 0, .int .i64 0, .str [], .snil 11, .int .i64 0, .int .i64 0, .int .i64 0, .int .i64 0, .int .i64 0, .snil 6, .snil 13, .snil 17, .snil 15] [(0, 1), (1, 15)]), [.t 13, .t 14], none⟩,
 ⟨some 2, .new (.new 16 [.agg [.snil 16, .int .i64 0, .int .i64 0, .int .i64 0, .int .i64 0, .str [], .snil 11, .int .i64 0, .int .i64 0, .int .i64 0, .int .i64 0, .int .i64 0, .snil 6, .snil 13, .snil 17, .snil 15]]), [], none⟩,
 ⟨none, .eff (.store 16), [.t 2, .t 15], none⟩])
 (.seq (.ops [⟨some 16, .read (.load (some 15)), [.t 1], none⟩,
 ⟨some 17, .pure (.build [.int .i64 0, .int .i64 0, .int .i64 0, .int .i64 0, .str [], .snil 11, .int .i64 0, .int .i64 0, .int .i64 0, .int .i64 0, .int .i64 0, .snil 6, .snil 13, .snil 17, .snil 15] [(0, 1)]), [.c (.int .i64 1)], none⟩,
 ⟨some 18, .new (.buildSlice 15 [.agg [.int .i64 0, .int .i64 0, .int .i64 0, .int .i64 0, .str [], .snil 11, .int .i64 0, .int .i64 0, .int .i64 0, .int .i64 0, .int .i64 0, .snil 6, .snil 13, .snil 17, .snil 15], .agg [.int .i64 0, .int .i64 0, .int .i64 0, .int .i64 0, .str [], .snil 11, .int .i64 0, .int .i64 0, .int .i64 0, .int .i64 0, .int .i64 0, .snil 6, .snil 13, .snil 17, .snil 15]] [0, 1]), [.t 16, .t 17], none⟩,
 ⟨some 19, .pure (.build [.int .i64 0, .int .i64 0, .int .i64 0, .int .i64 0, .str [], .snil 11, .int .i64 0, .int .i64 0, .int .i64 0, .int .i64 0, .int .i64 0, .snil 6, .snil 13, .snil 17, .snil 15] [(0, 1), (14, 1)]), [.c (.int .i64 12), .t 18], none⟩,
 ⟨some 20, .pure (.build [.str [], .int .i64 0, .int .i64 0, .int .i64 0, .int .i64 0, .str [], .snil 11, .int .i64 0, .int .i64 0, .int .i64 0, .int .i64 0, .int .i64 0, .snil 6, .snil 13, .snil 17, .snil 15] [(0, 1), (1, 15)]), [.c (.str [97]), .t 19], none⟩,
 ⟨some 21, .new (.buildSlice 16 [.agg [.str [], .int .i64 0, .int .i64 0, .int .i64 0, .int .i64 0, .str [], .snil 11, .int .i64 0, .int .i64 0, .int .i64 0, .int .i64 0, .int .i64 0, .snil 6, .snil 13, .snil 17, .snil 15]] [0]), [.t 20], none⟩,
 ⟨some 22, .read (.load (some 15)), [.t 1], none⟩,
 ⟨some 23, .pure (.build [.snil 16, .int .i64 0, .int .i64 0, .int .i64 0, .int .i64 0, .str [], .snil 11, .int .i64 0, .int .i64 0, .int .i64 0, .int .i64 0, .int .i64 0, .snil 6, .snil 13, .snil 17, .snil 15] [(0, 1), (1, 15)]), [.t 21, .t 22], none⟩,
 ⟨some 3, .new (.new 16 [.agg [.snil 16, .int .i64 0, .int .i64 0, .int .i64 0, .int .i64 0, .str [], .snil 11, .int .i64 0, .int .i64 0, .int .i64 0, .int .i64 0, .int .i64 0, .snil 6, .snil 13, .snil 17, .snil 15]]), [], none⟩,
 ⟨none, .eff (.store 16), [.t 3, .t 23], none⟩])
 (.seq (.ops [⟨some 25, .read (.load (some 16)), [.t 2], none⟩,
 ⟨some 26, .pcall 462, [.t 25], none⟩,
 ⟨some 24, .pure .move, [.t 26], none⟩,
 ⟨some 27, .pure (.ext 0), [.t 24], none⟩,
 ⟨some 28, .pure (.ext 1), [.t 24], none⟩,
 ⟨some 4, .new (.new 13 [.agg [.int .i64 0, .bool false, .bool false, .str [], .int .i64 0, .int .i64 0, .int .i64 0, .int .i64 0, .int .i64 0, .str [], .snil 1, .snil 13, .snil 14]]), [], none⟩,
 ⟨none, .eff (.store 13), [.t 4, .t 27], none⟩,
 ⟨some 5, .pure .move, [.t 28], none⟩])
 (.seq (.ops [⟨some 30, .read (.load (some 13)), [.t 4], none⟩,
 ⟨some 31, .pcall 464, [.t 30], none⟩,
 ⟨some 29, .pure .move, [.t 31], none⟩,
 ⟨some 32, .pure (.ext 0), [.t 29], none⟩,
 ⟨some 33, .pure (.ext 1), [.t 29], none⟩,
 ⟨some 6, .new (.new 16 [.agg [.snil 16, .int .i64 0, .int .i64 0, .int .i64 0, .int .i64 0, .str [], .snil 11, .int .i64 0, .int .i64 0, .int .i64 0, .int .i64 0, .int .i64 0, .snil 6, .snil 13, .snil 17, .snil 15]]), [], none⟩,
 ⟨none, .eff (.store 16), [.t 6, .t 32], none⟩,
 ⟨some 7, .pure .move, [.t 33], none⟩])
 (.seq (.ops [⟨some 35, .pure (.build [.int .i64 0, .bool false, .bool false, .str [], .int .i64 0, .int .i64 0, .int .i64 0, .int .i64 0, .int .i64 0, .str [], .snil 1, .snil 13, .snil 14] [(0, 1)]), [.c (.int .i64 1)], none⟩,
 ⟨some 36, .pcall 464, [.t 35], none⟩,
 ⟨some 34, .pure .move, [.t 36], none⟩,
 ⟨some 37, .pure (.ext 0), [.t 34], none⟩,
 ⟨some 38, .pure (.ext 1), [.t 34], none⟩,
 ⟨some 8, .new (.new 16 [.agg [.snil 16, .int .i64 0, .int .i64 0, .int .i64 0, .int .i64 0, .str [], .snil 11, .int .i64 0, .int .i64 0, .int .i64 0, .int .i64 0, .int .i64 0, .snil 6, .snil 13, .snil 17, .snil 15]]), [], none⟩,
 ⟨none, .eff (.store 16), [.t 8, .t 37], none⟩,
 ⟨some 9, .pure .move, [.t 38], none⟩])
 (.seq (.ops [⟨some 39, .read (.load (some 16)), [.t 2], none⟩,
 ⟨some 40, .pcall 454, [.t 39], none⟩,
 ⟨some 41, .pure (.bin .eql), [.t 40, .c (.int .i64 0)], none⟩,
 ⟨some 42, .pure .move, [.t 41], none⟩,
 ⟨some 43, .read (.load (some 16)), [.t 3], some (42, true)⟩,
 ⟨some 44, .pcall 454, [.t 43], some (42, true)⟩,
 ⟨some 45, .pure (.bin .eql), [.t 44, .c (.int .i64 23)], some (42, true)⟩,
 ⟨some 46, .pure .pick, [.t 42, .t 45, .c (.bool false)], none⟩,
 ⟨some 47, .pure .move, [.t 46], none⟩,
 ⟨some 48, .pure .move, [.t 5], some (47, true)⟩,
 ⟨some 49, .pure (.bin .eql), [.t 48, .c (.int .i64 0)], some (47, true)⟩,
 ⟨some 50, .pure .pick, [.t 47, .t 49, .c (.bool false)], none⟩,
 ⟨some 51, .pure .move, [.t 50], none⟩,
 ⟨some 52, .pure .move, [.t 7], some (51, true)⟩,
 ⟨some 53, .pure (.bin .eql), [.t 52, .c (.int .i64 0)], some (51, true)⟩,
 ⟨some 54, .pure .pick, [.t 51, .t 53, .c (.bool false)], none⟩,
 ⟨some 55, .pure .move, [.t 54], none⟩,
 ⟨some 56, .read (.load (some 16)), [.t 6], some (55, true)⟩,
 ⟨some 57, .read (.load (some 16)), [.t 2], some (55, true)⟩,
 ⟨some 58, .pcall 466, [.t 56, .t 57], some (55, true)⟩,
 ⟨some 59, .pure .pick, [.t 55, .t 58, .c (.bool false)], none⟩,
 ⟨some 60, .pure .move, [.t 59], none⟩,
 ⟨some 61, .pure .move, [.t 9], some (60, true)⟩,
 ⟨some 62, .pure (.bin .eql), [.t 61, .c (.int .i64 3)], some (60, true)⟩,
 ⟨some 63, .pure .pick, [.t 60, .t 62, .c (.bool false)], none⟩,
 ⟨some 0, .pure .move, [.t 63], none⟩])
 .ret)))))))) }
/-- datakit/schema.Lookup -/
def ac457 : AFn :=
 { nt := 24, res := [.cell 4 (some 15), .tmp 5], body :=
 (.seq (.ops [⟨some 2, .new (.box 16), [.t 0], none⟩,
 ⟨some 4, .new (.new 15 [.agg [.int .i64 0, .int .i64 0, .int .i64 0, .int .i64 0, .str [], .snil 11, .int .i64 0, .int .i64 0, .int .i64 0, .int .i64 0, .int .i64 0, .snil 6, .snil 13, .snil 17, .snil 15]]), [], none⟩,
 ⟨some 5, .pure .move, [.c (.bool false)], none⟩])
 (.seq (.seq (.ops [⟨some 8, .pure (.faddr 0), [.t 2], none⟩,
 ⟨some 9, .read (.load none), [.t 8], none⟩,
 ⟨some 10, .pure .lenL, [.t 9], none⟩,
 ⟨some 11, .pure .move, [.c (.int .i64 0)], none⟩])
 (.block 0
 (.loop [1, 4, 9, 10, 11]
 (.seq (.ops [⟨some 12, .pure (.bin .lss), [.t 11, .t 10], none⟩])
 (.seq (.cond (.t 12)
 .skip
 (.exit 0))
 (.seq (.block 1
 (.seq (.ops [⟨some 13, .pure (.iaddrS 16), [.t 9, .t 11], none⟩,
 ⟨some 14, .read (.load (some 16)), [.t 13], none⟩,
 ⟨some 7, .new (.new 16 [.agg [.str [], .int .i64 0, .int .i64 0, .int .i64 0, .int .i64 0, .str [], .snil 11, .int .i64 0, .int .i64 0, .int .i64 0, .int .i64 0, .int .i64 0, .snil 6, .snil 13, .snil 17, .snil 15]]), [], none⟩,
 ⟨none, .eff (.store 16), [.t 7, .t 14], none⟩])
 (.seq (.ops [⟨some 15, .pure (.faddr 0), [.t 7], none⟩,
 ⟨some 16, .read (.load none), [.t 15], none⟩,
 ⟨some 17, .pure .move, [.t 1], none⟩,
 ⟨some 18, .pure (.bin .eql), [.t 16, .t 17], none⟩])
 (.cond (.t 18)
 (.seq (.ops [⟨some 19, .pure (.faddr 1), [.t 7], none⟩,
 ⟨some 20, .read (.load (some 15)), [.t 19], none⟩,
 ⟨some 21, .pcall 490, [.t 20], none⟩,
 ⟨none, .eff (.store 15), [.t 4, .t 21], none⟩,
 ⟨some 5, .pure .move, [.c (.bool true)], none⟩])
 .ret)
 .skip))))
 (.ops [⟨some 22, .pure (.bin .add), [.t 11, .c (.int .i64 1)], none⟩,
 ⟨some 11, .pure .move, [.t 22], none⟩])))))))
 (.seq (.ops [⟨some 23, .pure (.build [.int .i64 0, .int .i64 0, .int .i64 0, .int .i64 0, .str [], .snil 11, .int .i64 0, .int .i64 0, .int .i64 0, .int .i64 0, .int .i64 0, .snil 6, .snil 13, .snil 17, .snil 15] []), [], none⟩,
 ⟨none, .eff (.store 15), [.t 4, .t 23], none⟩,
 ⟨some 5, .pure .move, [.c (.bool false)], none⟩])
 .ret))) }
/-- datakit/schema.Guarded -/
def ac459 : AFn :=
 { nt := 79, res := [.tmp 2, .tmp 3], body :=
 (.seq (.ops [⟨some 1, .new (.box 16), [.t 0], none⟩,
 ⟨some 2, .pure .move, [.c (.str [])], none⟩,
 ⟨some 3, .pure .move, [.c (.bool false)], none⟩])
 (.seq (.ops [⟨some 14, .new .mkMap, [], none⟩,
 ⟨some 4, .pure .move, [.t 14], none⟩])
 (.seq (.seq (.ops [⟨some 15, .pure (.faddr 0), [.t 1], none⟩,
 ⟨some 16, .read (.load none), [.t 15], none⟩,
 ⟨some 17, .pure .lenL, [.t 16], none⟩,
 ⟨some 18, .pure .move, [.c (.int .i64 0)], none⟩])
 (.block 0
 (.loop [1, 4, 16, 17, 18]
 (.seq (.ops [⟨some 19, .pure (.bin .lss), [.t 18, .t 17], none⟩])
 (.seq (.cond (.t 19)
 .skip
 (.exit 0))
 (.seq (.block 1
 (.seq (.ops [⟨some 20, .pure (.iaddrS 16), [.t 16, .t 18], none⟩,
 ⟨some 21, .read (.load (some 16)), [.t 20], none⟩,
 ⟨some 6, .new (.new 16 [.agg [.str [], .int .i64 0, .int .i64 0, .int .i64 0, .int .i64 0, .str [], .snil 11, .int .i64 0, .int .i64 0, .int .i64 0, .int .i64 0, .int .i64 0, .snil 6, .snil 13, .snil 17, .snil 15]]), [], none⟩,
 ⟨none, .eff (.store 16), [.t 6, .t 21], none⟩])
 (.seq (.ops [⟨some 23, .pure .move, [.t 4], none⟩,
 ⟨some 24, .pure (.faddr 0), [.t 6], none⟩,
 ⟨some 25, .read (.load none), [.t 24], none⟩,
 ⟨some 26, .read (.lookup (.one .str) (.snil 1) true), [.t 23, .t 25], none⟩,
 ⟨some 22, .pure .move, [.t 26], none⟩,
 ⟨some 27, .pure (.ext 0), [.t 22], none⟩,
 ⟨some 28, .pure (.ext 1), [.t 22], none⟩,
 ⟨some 7, .pure .move, [.t 27], none⟩,
 ⟨some 8, .pure .move, [.t 28], none⟩])
 (.seq (.ops [⟨some 29, .pure .move, [.t 8], none⟩,
 ⟨some 30, .pure (.un .not), [.t 29], none⟩])
 (.cond (.t 30)
 (.draw 0 [[⟨some 31, .pure .move, [.t 4], none⟩,
 ⟨some 32, .pure (.faddr 0), [.t 6], none⟩,
 ⟨some 34, .pure (.faddr 1), [.t 6], none⟩,
 ⟨some 35, .read (.load (some 15)), [.t 34], none⟩,
 ⟨some 33, .read (.load none), [.t 32], none⟩,
 ⟨some 36, .call 491, [.c (.snil 1), .t 35, .c (.int .i64 48), .c (.bool true)], none⟩,
 ⟨none, .eff (.mapSet (.one .str)), [.t 31, .t 33, .t 36], none⟩],
 [⟨some 31, .pure .move, [.t 4], none⟩,
 ⟨some 32, .pure (.faddr 0), [.t 6], none⟩,
 ⟨some 34, .pure (.faddr 1), [.t 6], none⟩,
 ⟨some 35, .read (.load (some 15)), [.t 34], none⟩,
 ⟨some 36, .call 491, [.c (.snil 1), .t 35, .c (.int .i64 48), .c (.bool true)], none⟩,
 ⟨some 33, .read (.load none), [.t 32], none⟩,
 ⟨none, .eff (.mapSet (.one .str)), [.t 31, .t 33, .t 36], none⟩]])
 .skip)))))
 (.ops [⟨some 37, .pure (.bin .add), [.t 18, .c (.int .i64 1)], none⟩,
 ⟨some 18, .pure .move, [.t 37], none⟩])))))))
 (.seq (.seq (.ops [⟨some 38, .pure (.faddr 0), [.t 1], none⟩,
 ⟨some 39, .read (.load none), [.t 38], none⟩,
 ⟨some 40, .pure .lenL, [.t 39], none⟩,
 ⟨some 41, .pure .move, [.c (.int .i64 0)], none⟩])
 (.block 2
 (.loop [4, 39, 40, 41]
 (.seq (.ops [⟨some 42, .pure (.bin .lss), [.t 41, .t 40], none⟩])
 (.seq (.cond (.t 42)
 .skip
 (.exit 2))
 (.seq (.block 3
 (.seq (.ops [⟨some 43, .pure (.iaddrS 16), [.t 39, .t 41], none⟩,
 ⟨some 44, .read (.load (some 16)), [.t 43], none⟩,
 ⟨some 10, .new (.new 16 [.agg [.str [], .int .i64 0, .int .i64 0, .int .i64 0, .int .i64 0, .str [], .snil 11, .int .i64 0, .int .i64 0, .int .i64 0, .int .i64 0, .int .i64 0, .snil 6, .snil 13, .snil 17, .snil 15]]), [], none⟩,
 ⟨none, .eff (.store 16), [.t 10, .t 44], none⟩])
 (.seq (.ops [⟨some 45, .pure .move, [.t 4], none⟩,
 ⟨some 46, .pure (.faddr 0), [.t 10], none⟩,
 ⟨some 47, .read (.load none), [.t 46], none⟩,
 ⟨some 48, .read (.lookup (.one .str) (.snil 1) false), [.t 45, .t 47], none⟩,
 ⟨some 49, .call 214, [.t 48], none⟩,
 ⟨some 11, .pure .move, [.t 49], none⟩])
 (.seq (.ops [⟨some 50, .new .mkMap, [], none⟩,
 ⟨some 12, .pure .move, [.t 50], none⟩])
 (.block 4
 (.loop [4, 10, 11, 12, 39, 40, 41]
 (.seq (.seq (.ops [⟨some 51, .pure .move, [.t 11], none⟩,
 ⟨some 52, .pure .lenL, [.t 51], none⟩,
 ⟨some 53, .pure (.bin .gtr), [.t 52, .c (.int .i64 0)], none⟩])
 (.cond (.t 53)
 .skip
 (.exit 4)))
 (.block 5
 (.seq (.ops [⟨some 54, .pure .move, [.t 11], none⟩,
 ⟨some 55, .pure (.iaddrS 1), [.t 54, .c (.int .i64 0)], none⟩,
 ⟨some 56, .read (.load none), [.t 55], none⟩,
 ⟨some 13, .pure .move, [.t 56], none⟩])
 (.seq (.ops [⟨some 57, .pure .move, [.t 11], none⟩,
 ⟨some 58, .pure (.sliceL 1 true false false), [.t 57, .c (.int .i64 1)], none⟩,
 ⟨some 11, .pure .move, [.t 58], none⟩])
 (.seq (.seq (.ops [⟨some 59, .pure .move, [.t 13], none⟩,
 ⟨some 60, .pure (.faddr 0), [.t 10], none⟩,
 ⟨some 61, .read (.load none), [.t 60], none⟩,
 ⟨some 62, .pure (.bin .eql), [.t 59, .t 61], none⟩])
 (.cond (.t 62)
 (.seq (.ops [⟨some 63, .pure (.faddr 0), [.t 10], none⟩,
 ⟨some 64, .read (.load none), [.t 63], none⟩,
 ⟨some 2, .pure .move, [.t 64], none⟩,
 ⟨some 3, .pure .move, [.c (.bool false)], none⟩])
 .ret)
 .skip))
 (.seq (.ops [⟨some 65, .pure .move, [.t 12], none⟩,
 ⟨some 66, .pure .move, [.t 13], none⟩,
 ⟨some 67, .read (.lookup (.one .str) (.int .i64 0) false), [.t 65, .t 66], none⟩,
 ⟨some 68, .pure (.bin .add), [.t 67, .c (.int .i64 1)], none⟩,
 ⟨none, .eff (.mapSet (.one .str)), [.t 65, .t 66, .t 68], none⟩])
 (.seq (.ops [⟨some 69, .pure .move, [.t 12], none⟩,
 ⟨some 70, .pure .move, [.t 13], none⟩,
 ⟨some 71, .read (.lookup (.one .str) (.int .i64 0) false), [.t 69, .t 70], none⟩,
 ⟨some 72, .pure (.bin .eql), [.t 71, .c (.int .i64 1)], none⟩])
 (.cond (.t 72)
 (.ops [⟨some 73, .pure .move, [.t 11], none⟩,
 ⟨some 74, .pure .move, [.t 4], none⟩,
 ⟨some 75, .pure .move, [.t 13], none⟩,
 ⟨some 76, .read (.lookup (.one .str) (.snil 1) false), [.t 74, .t 75], none⟩,
 ⟨some 77, .eff (.append 1 16), [.t 73, .t 76], none⟩,
 ⟨some 11, .pure .move, [.t 77], none⟩])
 .skip))))))))))))))
 (.ops [⟨some 78, .pure (.bin .add), [.t 41, .c (.int .i64 1)], none⟩,
 ⟨some 41, .pure .move, [.t 78], none⟩])))))))
 (.seq (.ops [⟨some 2, .pure .move, [.c (.str [])], none⟩,
 ⟨some 3, .pure .move, [.c (.bool true)], none⟩])
 .ret))))) }
/-- datakit/datakitref45.Same -/
def ac461 : AFn :=
 { nt := 8, res := [.tmp 4], body :=
 (.seq (.ops [⟨some 2, .new (.box 15), [.t 0], none⟩,
 ⟨some 3, .new (.box 15), [.t 1], none⟩,
 ⟨some 4, .pure .move, [.c (.bool false)], none⟩])
 (.seq (.ops [⟨some 5, .read (.load (some 15)), [.t 2], none⟩,
 ⟨some 6, .read (.load (some 15)), [.t 3], none⟩,
 ⟨some 7, .pcall 494, [.t 5, .t 6, .c (.int .i64 48)], none⟩,
 ⟨some 4, .pure .move, [.t 7], none⟩])
 .ret)) }
/-- datakit/schema.Write -/
def ac462 : AFn :=
 { nt := 22, res := [.cell 2 (some 13), .tmp 3], body :=
 (.seq (.ops [⟨some 1, .new (.box 16), [.t 0], none⟩,
 ⟨some 2, .new (.new 13 [.agg [.int .i64 0, .bool false, .bool false, .str [], .int .i64 0, .int .i64 0, .int .i64 0, .int .i64 0, .int .i64 0, .str [], .snil 1, .snil 13, .snil 14]]), [], none⟩,
 ⟨some 3, .pure .move, [.c (.int .i64 0)], none⟩])
 (.seq (.seq (.ops [⟨some 7, .read (.load (some 16)), [.t 1], none⟩,
 ⟨some 8, .pcall 454, [.t 7], none⟩,
 ⟨some 4, .pure .move, [.t 8], none⟩])
 (.seq (.ops [⟨some 9, .pure .move, [.t 4], none⟩,
 ⟨some 10, .pure (.bin .neq), [.t 9, .c (.int .i64 0)], none⟩])
 (.cond (.t 10)
 (.seq (.ops [⟨some 11, .pure (.build [.int .i64 0, .bool false, .bool false, .str [], .int .i64 0, .int .i64 0, .int .i64 0, .int .i64 0, .int .i64 0, .str [], .snil 1, .snil 13, .snil 14] []), [], none⟩,
 ⟨some 12, .pure .move, [.t 4], none⟩,
 ⟨none, .eff (.store 13), [.t 2, .t 11], none⟩,
 ⟨some 3, .pure .move, [.t 12], none⟩])
 .ret)
 .skip)))
 (.seq (.ops [⟨some 13, .read (.load (some 16)), [.t 1], none⟩,
 ⟨some 14, .pcall 495, [.t 13], none⟩,
 ⟨some 5, .new (.new 13 [.agg [.int .i64 0, .bool false, .bool false, .str [], .int .i64 0, .int .i64 0, .int .i64 0, .int .i64 0, .int .i64 0, .str [], .snil 1, .snil 13, .snil 14]]), [], none⟩,
 ⟨none, .eff (.store 13), [.t 5, .t 14], none⟩])
 (.seq (.seq (.ops [⟨some 15, .read (.load (some 13)), [.t 5], none⟩,
 ⟨some 16, .pcall 126, [.t 15], none⟩,
 ⟨some 6, .pure .move, [.t 16], none⟩])
 (.seq (.ops [⟨some 17, .pure .move, [.t 6], none⟩,
 ⟨some 18, .pure (.bin .neq), [.t 17, .c (.int .i64 0)], none⟩])
 (.cond (.t 18)
 (.seq (.ops [⟨some 19, .pure (.build [.int .i64 0, .bool false, .bool false, .str [], .int .i64 0, .int .i64 0, .int .i64 0, .int .i64 0, .int .i64 0, .str [], .snil 1, .snil 13, .snil 14] []), [], none⟩,
 ⟨some 20, .pure .move, [.t 6], none⟩,
 ⟨none, .eff (.store 13), [.t 2, .t 19], none⟩,
 ⟨some 3, .pure .move, [.t 20], none⟩])
 .ret)
 .skip)))
 (.seq (.ops [⟨some 21, .read (.load (some 13)), [.t 5], none⟩,
 ⟨none, .eff (.store 13), [.t 2, .t 21], none⟩,
 ⟨some 3, .pure .move, [.c (.int .i64 0)], none⟩])
 .ret))))) }
/-- datakit/schema.Read -/
def ac464 : AFn :=
 { nt := 73, res := [.cell 2 (some 16), .tmp 3], body :=
 (.seq (.ops [⟨some 1, .new (.box 13), [.t 0], none⟩,
 ⟨some 2, .new (.new 16 [.agg [.snil 16, .int .i64 0, .int .i64 0, .int .i64 0, .int .i64 0, .str [], .snil 11, .int .i64 0, .int .i64 0, .int .i64 0, .int .i64 0, .int .i64 0, .snil 6, .snil 13, .snil 17, .snil 15]]), [], none⟩,
 ⟨some 3, .pure .move, [.c (.int .i64 0)], none⟩])
 (.seq (.seq (.ops [⟨some 11, .read (.load (some 13)), [.t 1], none⟩,
 ⟨some 12, .pcall 126, [.t 11], none⟩,
 ⟨some 13, .pure (.bin .neq), [.t 12, .c (.int .i64 0)], none⟩,
 ⟨some 14, .pure .move, [.t 13], none⟩,
 ⟨some 15, .pure (.faddr 0), [.t 1], some (14, false)⟩,
 ⟨some 16, .read (.load none), [.t 15], some (14, false)⟩,
 ⟨some 17, .pure (.bin .neq), [.t 16, .c (.int .i64 7)], some (14, false)⟩,
 ⟨some 18, .pure .pick, [.t 14, .c (.bool true), .t 17], none⟩,
 ⟨some 19, .pure .move, [.t 18], none⟩,
 ⟨some 20, .pure (.faddr 12), [.t 1], some (19, false)⟩,
 ⟨some 21, .read (.load none), [.t 20], some (19, false)⟩,
 ⟨some 22, .pure .lenL, [.t 21], some (19, false)⟩,
 ⟨some 23, .pure (.bin .neq), [.t 22, .c (.int .i64 2)], some (19, false)⟩,
 ⟨some 24, .pure .pick, [.t 19, .c (.bool true), .t 23], none⟩])
 (.cond (.t 24)
 (.seq (.ops [⟨some 25, .pure (.build [.snil 16, .int .i64 0, .int .i64 0, .int .i64 0, .int .i64 0, .str [], .snil 11, .int .i64 0, .int .i64 0, .int .i64 0, .int .i64 0, .int .i64 0, .snil 6, .snil 13, .snil 17, .snil 15] []), [], none⟩,
 ⟨none, .eff (.store 16), [.t 2, .t 25], none⟩,
 ⟨some 3, .pure .move, [.c (.int .i64 3)], none⟩])
 .ret)
 .skip))
 (.seq (.draw 2 [[⟨some 26, .pure (.faddr 12), [.t 1], none⟩,
 ⟨some 27, .read (.load none), [.t 26], none⟩,
 ⟨some 28, .pure (.iaddrS 14), [.t 27, .c (.int .i64 0)], none⟩,
 ⟨some 29, .pure (.faddr 1), [.t 28], none⟩,
 ⟨some 30, .read (.load (some 13)), [.t 29], none⟩,
 ⟨some 31, .pure (.faddr 12), [.t 1], none⟩,
 ⟨some 4, .newAt 0 (.new 13 [.agg [.int .i64 0, .bool false, .bool false, .str [], .int .i64 0, .int .i64 0, .int .i64 0, .int .i64 0, .int .i64 0, .str [], .snil 1, .snil 13, .snil 14]]), [], none⟩,
 ⟨some 5, .newAt 1 (.new 13 [.agg [.int .i64 0, .bool false, .bool false, .str [], .int .i64 0, .int .i64 0, .int .i64 0, .int .i64 0, .int .i64 0, .str [], .snil 1, .snil 13, .snil 14]]), [], none⟩,
 ⟨some 32, .read (.load none), [.t 31], none⟩,
 ⟨some 33, .pure (.iaddrS 14), [.t 32, .c (.int .i64 1)], none⟩,
 ⟨some 34, .pure (.faddr 1), [.t 33], none⟩,
 ⟨some 35, .read (.load (some 13)), [.t 34], none⟩,
 ⟨none, .eff (.store 13), [.t 4, .t 30], none⟩,
 ⟨none, .eff (.store 13), [.t 5, .t 35], none⟩],
 [⟨some 26, .pure (.faddr 12), [.t 1], none⟩,
 ⟨some 27, .read (.load none), [.t 26], none⟩,
 ⟨some 28, .pure (.iaddrS 14), [.t 27, .c (.int .i64 0)], none⟩,
 ⟨some 29, .pure (.faddr 1), [.t 28], none⟩,
 ⟨some 30, .read (.load (some 13)), [.t 29], none⟩,
 ⟨some 31, .pure (.faddr 12), [.t 1], none⟩,
 ⟨some 4, .newAt 0 (.new 13 [.agg [.int .i64 0, .bool false, .bool false, .str [], .int .i64 0, .int .i64 0, .int .i64 0, .int .i64 0, .int .i64 0, .str [], .snil 1, .snil 13, .snil 14]]), [], none⟩,
 ⟨some 5, .newAt 1 (.new 13 [.agg [.int .i64 0, .bool false, .bool false, .str [], .int .i64 0, .int .i64 0, .int .i64 0, .int .i64 0, .int .i64 0, .str [], .snil 1, .snil 13, .snil 14]]), [], none⟩,
 ⟨some 32, .read (.load none), [.t 31], none⟩,
 ⟨some 33, .pure (.iaddrS 14), [.t 32, .c (.int .i64 1)], none⟩,
 ⟨some 34, .pure (.faddr 1), [.t 33], none⟩,
 ⟨none, .eff (.store 13), [.t 4, .t 30], none⟩,
 ⟨some 35, .read (.load (some 13)), [.t 34], none⟩,
 ⟨none, .eff (.store 13), [.t 5, .t 35], none⟩],
 [⟨some 26, .pure (.faddr 12), [.t 1], none⟩,
 ⟨some 27, .read (.load none), [.t 26], none⟩,
 ⟨some 28, .pure (.iaddrS 14), [.t 27, .c (.int .i64 0)], none⟩,
 ⟨some 29, .pure (.faddr 1), [.t 28], none⟩,
 ⟨some 30, .read (.load (some 13)), [.t 29], none⟩,
 ⟨some 31, .pure (.faddr 12), [.t 1], none⟩,
 ⟨some 4, .newAt 0 (.new 13 [.agg [.int .i64 0, .bool false, .bool false, .str [], .int .i64 0, .int .i64 0, .int .i64 0, .int .i64 0, .int .i64 0, .str [], .snil 1, .snil 13, .snil 14]]), [], none⟩,
 ⟨some 5, .newAt 1 (.new 13 [.agg [.int .i64 0, .bool false, .bool false, .str [], .int .i64 0, .int .i64 0, .int .i64 0, .int .i64 0, .int .i64 0, .str [], .snil 1, .snil 13, .snil 14]]), [], none⟩,
 ⟨none, .eff (.store 13), [.t 4, .t 30], none⟩,
 ⟨some 32, .read (.load none), [.t 31], none⟩,
 ⟨some 33, .pure (.iaddrS 14), [.t 32, .c (.int .i64 1)], none⟩,
 ⟨some 34, .pure (.faddr 1), [.t 33], none⟩,
 ⟨some 35, .read (.load (some 13)), [.t 34], none⟩,
 ⟨none, .eff (.store 13), [.t 5, .t 35], none⟩]])
 (.seq (.ops [⟨some 6, .new (.new 16 [.agg [.snil 16, .int .i64 0, .int .i64 0, .int .i64 0, .int .i64 0, .str [], .snil 11, .int .i64 0, .int .i64 0, .int .i64 0, .int .i64 0, .int .i64 0, .snil 6, .snil 13, .snil 17, .snil 15]]), [], none⟩])
 (.seq (.seq (.ops [⟨some 36, .pure (.faddr 12), [.t 4], none⟩,
 ⟨some 37, .read (.load none), [.t 36], none⟩,
 ⟨some 38, .pure .lenL, [.t 37], none⟩,
 ⟨some 39, .pure .move, [.c (.int .i64 0)], none⟩])
 (.block 0
 (.loop [1, 2, 5, 6, 37, 38, 39]
 (.seq (.ops [⟨some 40, .pure (.bin .lss), [.t 39, .t 38], none⟩])
 (.seq (.cond (.t 40)
 .skip
 (.exit 0))
 (.seq (.block 1
 (.seq (.ops [⟨some 41, .pure (.iaddrS 14), [.t 37, .t 39], none⟩,
 ⟨some 42, .read (.load (some 14)), [.t 41], none⟩,
 ⟨some 8, .new (.new 14 [.agg [.str [], .int .i64 0, .bool false, .bool false, .str [], .int .i64 0, .int .i64 0, .int .i64 0, .int .i64 0, .int .i64 0, .str [], .snil 1, .snil 13, .snil 14]]), [], none⟩,
 ⟨none, .eff (.store 14), [.t 8, .t 42], none⟩])
 (.draw 1 [[⟨some 43, .pure (.faddr 0), [.t 6], none⟩,
 ⟨some 44, .read (.load none), [.t 43], none⟩,
 ⟨some 45, .pure (.faddr 0), [.t 8], none⟩,
 ⟨some 46, .read (.load none), [.t 45], none⟩,
 ⟨some 47, .pure (.faddr 1), [.t 8], none⟩,
 ⟨some 48, .read (.load (some 13)), [.t 47], none⟩,
 ⟨some 49, .pcall 497, [.t 48], none⟩,
 ⟨some 50, .pure (.build [.str [], .int .i64 0, .int .i64 0, .int .i64 0, .int .i64 0, .str [], .snil 11, .int .i64 0, .int .i64 0, .int .i64 0, .int .i64 0, .int .i64 0, .snil 6, .snil 13, .snil 17, .snil 15] [(0, 1), (1, 15)]), [.t 46, .t 49], none⟩,
 ⟨some 51, .newAt 0 (.buildSlice 16 [.agg [.str [], .int .i64 0, .int .i64 0, .int .i64 0, .int .i64 0, .str [], .snil 11, .int .i64 0, .int .i64 0, .int .i64 0, .int .i64 0, .int .i64 0, .snil 6, .snil 13, .snil 17, .snil 15]] [0]), [.t 50], none⟩,
 ⟨some 52, .eff (.append 16 224), [.t 44, .t 51], none⟩,
 ⟨some 53, .pure (.faddr 0), [.t 6], none⟩,
 ⟨none, .eff (.store 1), [.t 53, .t 52], none⟩]])))
 (.ops [⟨some 54, .pure (.bin .add), [.t 39, .c (.int .i64 1)], none⟩,
 ⟨some 39, .pure .move, [.t 54], none⟩])))))))
 (.seq (.ops [⟨some 55, .read (.load (some 13)), [.t 5], none⟩,
 ⟨some 56, .pcall 497, [.t 55], none⟩,
 ⟨some 57, .pure (.faddr 1), [.t 6], none⟩,
 ⟨none, .eff (.store 15), [.t 57, .t 56], none⟩])
 (.seq (.ops [⟨some 59, .read (.load (some 16)), [.t 6], none⟩,
 ⟨some 60, .pcall 462, [.t 59], none⟩,
 ⟨some 58, .pure .move, [.t 60], none⟩,
 ⟨some 61, .pure (.ext 0), [.t 58], none⟩,
 ⟨some 62, .pure (.ext 1), [.t 58], none⟩,
 ⟨some 9, .new (.new 13 [.agg [.int .i64 0, .bool false, .bool false, .str [], .int .i64 0, .int .i64 0, .int .i64 0, .int .i64 0, .int .i64 0, .str [], .snil 1, .snil 13, .snil 14]]), [], none⟩,
 ⟨none, .eff (.store 13), [.t 9, .t 61], none⟩,
 ⟨some 10, .pure .move, [.t 62], none⟩])
 (.seq (.seq (.ops [⟨some 63, .pure .move, [.t 10], none⟩,
 ⟨some 64, .pure (.bin .neq), [.t 63, .c (.int .i64 0)], none⟩,
 ⟨some 65, .pure .move, [.t 64], none⟩,
 ⟨some 66, .read (.load (some 13)), [.t 1], some (65, false)⟩,
 ⟨some 67, .read (.load (some 13)), [.t 9], some (65, false)⟩,
 ⟨some 68, .pcall 498, [.t 66, .t 67], some (65, false)⟩,
 ⟨some 69, .pure (.un .not), [.t 68], some (65, false)⟩,
 ⟨some 70, .pure .pick, [.t 65, .c (.bool true), .t 69], none⟩])
 (.cond (.t 70)
 (.seq (.ops [⟨some 71, .pure (.build [.snil 16, .int .i64 0, .int .i64 0, .int .i64 0, .int .i64 0, .str [], .snil 11, .int .i64 0, .int .i64 0, .int .i64 0, .int .i64 0, .int .i64 0, .snil 6, .snil 13, .snil 17, .snil 15] []), [], none⟩,
 ⟨none, .eff (.store 16), [.t 2, .t 71], none⟩,
 ⟨some 3, .pure .move, [.c (.int .i64 3)], none⟩])
 .ret)
 .skip))
 (.seq (.ops [⟨some 72, .read (.load (some 16)), [.t 6], none⟩,
 ⟨none, .eff (.store 16), [.t 2, .t 72], none⟩,
 ⟨some 3, .pure .move, [.c (.int .i64 0)], none⟩])
 .ret))))))))) }
/-- datakit/datakitref45.SameAll -/
def ac466 : AFn :=
 { nt := 57, res := [.tmp 4], body :=
 (.seq (.ops [⟨some 2, .new (.box 16), [.t 0], none⟩,
 ⟨some 3, .new (.box 16), [.t 1], none⟩,
 ⟨some 4, .pure .move, [.c (.bool false)], none⟩])
 (.seq (.seq (.ops [⟨some 6, .pure (.faddr 0), [.t 2], none⟩,
 ⟨some 7, .read (.load none), [.t 6], none⟩,
 ⟨some 8, .pure .lenL, [.t 7], none⟩,
 ⟨some 9, .pure (.faddr 0), [.t 3], none⟩,
 ⟨some 10, .read (.load none), [.t 9], none⟩,
 ⟨some 11, .pure .lenL, [.t 10], none⟩,
 ⟨some 12, .pure (.bin .neq), [.t 8, .t 11], none⟩,
 ⟨some 13, .pure .move, [.t 12], none⟩,
 ⟨some 14, .pure (.faddr 1), [.t 2], some (13, false)⟩,
 ⟨some 15, .read (.load (some 15)), [.t 14], some (13, false)⟩,
 ⟨some 16, .pure (.faddr 1), [.t 3], some (13, false)⟩,
 ⟨some 17, .read (.load (some 15)), [.t 16], some (13, false)⟩,
 ⟨some 18, .pcall 461, [.t 15, .t 17], some (13, false)⟩,
 ⟨some 19, .pure (.un .not), [.t 18], some (13, false)⟩,
 ⟨some 20, .pure .pick, [.t 13, .c (.bool true), .t 19], none⟩])
 (.cond (.t 20)
 (.seq (.ops [⟨some 4, .pure .move, [.c (.bool false)], none⟩])
 .ret)
 .skip))
 (.seq (.seq (.ops [⟨some 5, .pure .move, [.c (.int .i64 0)], none⟩])
 (.block 0
 (.loop [2, 3, 5]
 (.seq (.seq (.ops [⟨some 21, .pure .move, [.t 5], none⟩,
 ⟨some 22, .pure (.faddr 0), [.t 2], none⟩,
 ⟨some 23, .read (.load none), [.t 22], none⟩,
 ⟨some 24, .pure .lenL, [.t 23], none⟩,
 ⟨some 25, .pure (.bin .lss), [.t 21, .t 24], none⟩])
 (.cond (.t 25)
 .skip
 (.exit 0)))
 (.seq (.block 1
 (.seq (.ops [⟨some 28, .pure (.faddr 0), [.t 2], none⟩,
 ⟨some 29, .read (.load none), [.t 28], none⟩,
 ⟨some 30, .pure .move, [.t 5], none⟩,
 ⟨some 31, .pure (.iaddrS 16), [.t 29, .t 30], none⟩,
 ⟨some 32, .pure (.faddr 0), [.t 31], none⟩,
 ⟨some 33, .read (.load none), [.t 32], none⟩,
 ⟨some 34, .pure (.faddr 0), [.t 3], none⟩,
 ⟨some 35, .read (.load none), [.t 34], none⟩,
 ⟨some 36, .pure .move, [.t 5], none⟩,
 ⟨some 37, .pure (.iaddrS 16), [.t 35, .t 36], none⟩,
 ⟨some 38, .pure (.faddr 0), [.t 37], none⟩,
 ⟨some 39, .read (.load none), [.t 38], none⟩,
 ⟨some 40, .pure (.bin .neq), [.t 33, .t 39], none⟩,
 ⟨some 41, .pure .move, [.t 40], none⟩,
 ⟨some 42, .pure (.faddr 0), [.t 2], some (41, false)⟩,
 ⟨some 43, .read (.load none), [.t 42], some (41, false)⟩,
 ⟨some 44, .pure .move, [.t 5], some (41, false)⟩,
 ⟨some 45, .pure (.iaddrS 16), [.t 43, .t 44], some (41, false)⟩,
 ⟨some 46, .pure (.faddr 1), [.t 45], some (41, false)⟩,
 ⟨some 47, .read (.load (some 15)), [.t 46], some (41, false)⟩,
 ⟨some 48, .pure (.faddr 0), [.t 3], some (41, false)⟩,
 ⟨some 49, .read (.load none), [.t 48], some (41, false)⟩,
 ⟨some 50, .pure .move, [.t 5], some (41, false)⟩,
 ⟨some 51, .pure (.iaddrS 16), [.t 49, .t 50], some (41, false)⟩,
 ⟨some 52, .pure (.faddr 1), [.t 51], some (41, false)⟩,
 ⟨some 53, .read (.load (some 15)), [.t 52], some (41, false)⟩,
 ⟨some 54, .pcall 461, [.t 47, .t 53], some (41, false)⟩,
 ⟨some 55, .pure (.un .not), [.t 54], some (41, false)⟩,
 ⟨some 56, .pure .pick, [.t 41, .c (.bool true), .t 55], none⟩])
 (.cond (.t 56)
 (.seq (.ops [⟨some 4, .pure .move, [.c (.bool false)], none⟩])
 .ret)
 .skip)))
 (.ops [⟨some 26, .pure .move, [.t 5], none⟩,
 ⟨some 27, .pure (.bin .add), [.t 26, .c (.int .i64 1)], none⟩,
 ⟨some 5, .pure .move, [.t 27], none⟩]))))))
 (.seq (.ops [⟨some 4, .pure .move, [.c (.bool true)], none⟩])
 .ret)))) }
/-- datakit/datakitref45.Size -/
def ac474 : AFn :=
 { nt := 5, res := [.tmp 2], body :=
 (.seq (.ops [⟨some 1, .new (.box 15), [.t 0], none⟩,
 ⟨some 2, .pure .move, [.c (.int .i64 0)], none⟩])
 (.seq (.ops [⟨some 3, .read (.load (some 15)), [.t 1], none⟩,
 ⟨some 4, .pcall 507, [.t 3, .c (.int .i64 48)], none⟩,
 ⟨some 2, .pure .move, [.t 4], none⟩])
 .ret)) }
/-- datakit/datakitlaw45.Small -/
def ac480 : AFn :=
 { nt := 10, res := [.tmp 2], body :=
 (.seq (.ops [⟨some 1, .new (.box 15), [.t 0], none⟩,
 ⟨some 2, .pure .move, [.c (.bool false)], none⟩])
 (.seq (.ops [⟨some 3, .read (.load (some 15)), [.t 1], none⟩,
 ⟨some 4, .pcall 508, [.t 3, .c (.int .i64 50)], none⟩,
 ⟨some 5, .pure .move, [.t 4], none⟩,
 ⟨some 6, .read (.load (some 15)), [.t 1], some (5, true)⟩,
 ⟨some 7, .pcall 474, [.t 6], some (5, true)⟩,
 ⟨some 8, .pure (.bin .leq), [.t 7, .c (.int .i64 1100)], some (5, true)⟩,
 ⟨some 9, .pure .pick, [.t 5, .t 8, .c (.bool false)], none⟩,
 ⟨some 2, .pure .move, [.t 9], none⟩])
 .ret)) }
/-- datakit/schema.Size -/
def ac481 : AFn :=
 { nt := 5, res := [.tmp 2], body :=
 (.seq (.ops [⟨some 1, .new (.box 15), [.t 0], none⟩,
 ⟨some 2, .pure .move, [.c (.int .i64 0)], none⟩])
 (.seq (.ops [⟨some 3, .read (.load (some 15)), [.t 1], none⟩,
 ⟨some 4, .pcall 509, [.t 3, .c (.int .i64 48)], none⟩,
 ⟨some 2, .pure .move, [.t 4], none⟩])
 .ret)) }
/-- datakit/datakitlaw45.strings -/
def ac482 : AFn :=
 { nt := 26, res := [.tmp 4], body :=
 (.seq (.ops [⟨some 4, .pure .move, [.c (.bool false)], none⟩])
 (.seq (.seq (.ops [⟨some 6, .pure .move, [.t 0], none⟩,
 ⟨some 7, .pure .lenL, [.t 6], none⟩,
 ⟨some 8, .pure .move, [.t 1], none⟩,
 ⟨some 9, .pure .lenL, [.t 8], none⟩,
 ⟨some 10, .pure (.bin .neq), [.t 7, .t 9], none⟩])
 (.cond (.t 10)
 (.seq (.ops [⟨some 4, .pure .move, [.c (.bool false)], none⟩])
 .ret)
 .skip))
 (.seq (.seq (.ops [⟨some 5, .pure .move, [.c (.int .i64 0)], none⟩])
 (.block 0
 (.loop [0, 1, 5]
 (.seq (.seq (.ops [⟨some 11, .pure .move, [.t 5], none⟩,
 ⟨some 12, .pure .move, [.t 0], none⟩,
 ⟨some 13, .pure .lenL, [.t 12], none⟩,
 ⟨some 14, .pure (.bin .lss), [.t 11, .t 13], none⟩])
 (.cond (.t 14)
 .skip
 (.exit 0)))
 (.seq (.block 1
 (.seq (.ops [⟨some 17, .pure .move, [.t 0], none⟩,
 ⟨some 18, .pure .move, [.t 5], none⟩,
 ⟨some 19, .pure (.iaddrS 1), [.t 17, .t 18], none⟩,
 ⟨some 20, .read (.load none), [.t 19], none⟩,
 ⟨some 21, .pure .move, [.t 1], none⟩,
 ⟨some 22, .pure .move, [.t 5], none⟩,
 ⟨some 23, .pure (.iaddrS 1), [.t 21, .t 22], none⟩,
 ⟨some 24, .read (.load none), [.t 23], none⟩,
 ⟨some 25, .pure (.bin .neq), [.t 20, .t 24], none⟩])
 (.cond (.t 25)
 (.seq (.ops [⟨some 4, .pure .move, [.c (.bool false)], none⟩])
 .ret)
 .skip)))
 (.ops [⟨some 15, .pure .move, [.t 5], none⟩,
 ⟨some 16, .pure (.bin .add), [.t 15, .c (.int .i64 1)], none⟩,
 ⟨some 5, .pure .move, [.t 16], none⟩]))))))
 (.seq (.ops [⟨some 4, .pure .move, [.c (.bool true)], none⟩])
 .ret)))) }
/-- datakit/schema.Refs -/
def ac483 : AFn :=
 { nt := 10, res := [.tmp 2], body :=
 (.seq (.ops [⟨some 1, .new (.box 15), [.t 0], none⟩,
 ⟨some 2, .pure .move, [.c (.snil 1)], none⟩])
 (.seq (.ops [⟨some 4, .read (.load (some 15)), [.t 1], none⟩,
 ⟨some 5, .call 491, [.c (.snil 1), .t 4, .c (.int .i64 48), .c (.bool false)], none⟩,
 ⟨some 3, .pure .move, [.t 5], none⟩])
 (.seq (.ops [⟨some 6, .pure .move, [.t 3], none⟩,
 ⟨some 7, .call 510, [.t 6], none⟩])
 (.seq (.ops [⟨some 8, .pure .move, [.t 3], none⟩,
 ⟨some 9, .call 511, [.t 8], none⟩,
 ⟨some 2, .pure .move, [.t 9], none⟩])
 .ret)))) }
/-- datakit/datakitref45.Refs -/
def ac484 : AFn :=
 { nt := 5, res := [.tmp 2], body :=
 (.seq (.ops [⟨some 1, .new (.box 15), [.t 0], none⟩,
 ⟨some 2, .pure .move, [.c (.snil 1)], none⟩])
 (.seq (.ops [⟨some 3, .read (.load (some 15)), [.t 1], none⟩,
 ⟨some 4, .pcall 512, [.t 3, .c (.int .i64 48), .c (.bool false)], none⟩,
 ⟨some 2, .pure .move, [.t 4], none⟩])
 .ret)) }
/-- datakit/schema.Check$1 -/
def ac485 : AFn :=
 { nt := 23, res := [.tmp 5], body :=
 (.seq (.ops [⟨some 4, .new (.box 15), [.t 0], none⟩,
 ⟨some 5, .pure .move, [.c (.int .i64 0)], none⟩])
 (.seq (.ops [⟨some 9, .read (.load (some 16)), [.t 1], none⟩,
 ⟨some 10, .read (.load (some 15)), [.t 4], none⟩,
 ⟨some 11, .pcall 486, [.t 9, .t 10, .c (.int .i64 1)], none⟩,
 ⟨some 8, .pure .move, [.t 11], none⟩,
 ⟨some 12, .pure (.ext 0), [.t 8], none⟩,
 ⟨some 13, .pure (.ext 1), [.t 8], none⟩,
 ⟨some 6, .pure .move, [.t 12], none⟩,
 ⟨some 7, .pure .move, [.t 13], none⟩])
 (.seq (.ops [⟨some 14, .read (.load none), [.t 2], none⟩,
 ⟨some 15, .pure .move, [.t 14], none⟩,
 ⟨some 16, .pure .move, [.t 6], some (15, false)⟩,
 ⟨some 17, .pure .pick, [.t 15, .c (.bool true), .t 16], none⟩,
 ⟨none, .eff (.store 1), [.t 2, .t 17], none⟩])
 (.seq (.ops [⟨some 18, .read (.load none), [.t 3], none⟩,
 ⟨some 19, .read (.load (some 15)), [.t 4], none⟩,
 ⟨some 20, .pcall 481, [.t 19], none⟩,
 ⟨some 21, .pure (.bin .add), [.t 18, .t 20], none⟩,
 ⟨none, .eff (.store 1), [.t 3, .t 21], none⟩])
 (.seq (.ops [⟨some 22, .pure .move, [.t 7], none⟩,
 ⟨some 5, .pure .move, [.t 22], none⟩])
 .ret))))) }
/-- datakit/schema.tree -/
def ac486 : AFn :=
 { nt := 46, res := [.tmp 6, .tmp 7], body :=
 (.seq (.ops [⟨some 3, .new (.box 16), [.t 0], none⟩,
 ⟨some 4, .new (.box 15), [.t 1], none⟩,
 ⟨some 6, .pure .move, [.c (.bool false)], none⟩,
 ⟨some 7, .pure .move, [.c (.int .i64 0)], none⟩])
 (.seq (.seq (.ops [⟨some 14, .pure .move, [.t 2], none⟩,
 ⟨some 15, .pure (.bin .gtr), [.t 14, .c (.int .i64 48)], none⟩])
 (.cond (.t 15)
 (.seq (.ops [⟨some 6, .pure .move, [.c (.bool true)], none⟩,
 ⟨some 7, .pure .move, [.c (.int .i64 0)], none⟩])
 .ret)
 .skip))
 (.seq (.seq (.ops [⟨some 16, .read (.load (some 16)), [.t 3], none⟩,
 ⟨some 17, .read (.load (some 15)), [.t 4], none⟩,
 ⟨some 18, .pcall 513, [.t 16, .t 17], none⟩,
 ⟨some 8, .pure .move, [.t 18], none⟩])
 (.seq (.ops [⟨some 19, .pure .move, [.t 8], none⟩,
 ⟨some 20, .pure (.bin .neq), [.t 19, .c (.int .i64 0)], none⟩])
 (.cond (.t 20)
 (.seq (.ops [⟨some 21, .pure .move, [.t 8], none⟩,
 ⟨some 6, .pure .move, [.c (.bool false)], none⟩,
 ⟨some 7, .pure .move, [.t 21], none⟩])
 .ret)
 .skip)))
 (.seq (.ops [⟨some 9, .pure .move, [.c (.bool false)], none⟩])
 (.seq (.seq (.ops [⟨some 22, .read (.load (some 15)), [.t 4], none⟩,
 ⟨some 23, .pcall 514, [.t 22], none⟩,
 ⟨some 24, .pure .lenL, [.t 23], none⟩,
 ⟨some 25, .pure .move, [.c (.int .i64 0)], none⟩])
 (.block 0
 (.loop [2, 3, 9, 23, 24, 25]
 (.seq (.ops [⟨some 26, .pure (.bin .lss), [.t 25, .t 24], none⟩])
 (.seq (.cond (.t 26)
 .skip
 (.exit 0))
 (.seq (.block 1
 (.seq (.ops [⟨some 27, .pure (.iaddrS 15), [.t 23, .t 25], none⟩,
 ⟨some 28, .read (.load (some 15)), [.t 27], none⟩,
 ⟨some 11, .new (.new 15 [.agg [.int .i64 0, .int .i64 0, .int .i64 0, .int .i64 0, .str [], .snil 11, .int .i64 0, .int .i64 0, .int .i64 0, .int .i64 0, .int .i64 0, .snil 6, .snil 13, .snil 17, .snil 15]]), [], none⟩,
 ⟨none, .eff (.store 15), [.t 11, .t 28], none⟩])
 (.seq (.ops [⟨some 30, .read (.load (some 16)), [.t 3], none⟩,
 ⟨some 31, .read (.load (some 15)), [.t 11], none⟩,
 ⟨some 32, .pure .move, [.t 2], none⟩,
 ⟨some 33, .pure (.bin .add), [.t 32, .c (.int .i64 1)], none⟩,
 ⟨some 34, .pcall 486, [.t 30, .t 31, .t 33], none⟩,
 ⟨some 29, .pure .move, [.t 34], none⟩,
 ⟨some 35, .pure (.ext 0), [.t 29], none⟩,
 ⟨some 36, .pure (.ext 1), [.t 29], none⟩,
 ⟨some 12, .pure .move, [.t 35], none⟩,
 ⟨some 13, .pure .move, [.t 36], none⟩])
 (.seq (.seq (.ops [⟨some 37, .pure .move, [.t 13], none⟩,
 ⟨some 38, .pure (.bin .neq), [.t 37, .c (.int .i64 0)], none⟩])
 (.cond (.t 38)
 (.seq (.ops [⟨some 39, .pure .move, [.t 13], none⟩,
 ⟨some 6, .pure .move, [.c (.bool false)], none⟩,
 ⟨some 7, .pure .move, [.t 39], none⟩])
 .ret)
 .skip))
 (.ops [⟨some 40, .pure .move, [.t 9], none⟩,
 ⟨some 41, .pure .move, [.t 40], none⟩,
 ⟨some 42, .pure .move, [.t 12], some (41, false)⟩,
 ⟨some 43, .pure .pick, [.t 41, .c (.bool true), .t 42], none⟩,
 ⟨some 9, .pure .move, [.t 43], none⟩])))))
 (.ops [⟨some 44, .pure (.bin .add), [.t 25, .c (.int .i64 1)], none⟩,
 ⟨some 25, .pure .move, [.t 44], none⟩])))))))
 (.seq (.ops [⟨some 45, .pure .move, [.t 9], none⟩,
 ⟨some 6, .pure .move, [.t 45], none⟩,
 ⟨some 7, .pure .move, [.c (.int .i64 0)], none⟩])
 .ret)))))) }
/-- datakit/datakitlaw45.tree -/
def ac489 : AFn :=
 { nt := 11, res := [.cell 0 (some 15)], body :=
 (.seq (.ops [⟨some 0, .new (.new 15 [.agg [.int .i64 0, .int .i64 0, .int .i64 0, .int .i64 0, .str [], .snil 11, .int .i64 0, .int .i64 0, .int .i64 0, .int .i64 0, .int .i64 0, .snil 6, .snil 13, .snil 17, .snil 15]]), [], none⟩])
 (.seq (.ops [⟨some 2, .pure (.build [.int .i64 0, .int .i64 0, .int .i64 0, .int .i64 0, .str [], .snil 11, .int .i64 0, .int .i64 0, .int .i64 0, .int .i64 0, .int .i64 0, .snil 6, .snil 13, .snil 17, .snil 15] [(0, 1), (4, 1)]), [.c (.int .i64 14), .c (.str [116, 114, 101, 101])], none⟩,
 ⟨some 1, .new (.new 15 [.agg [.int .i64 0, .int .i64 0, .int .i64 0, .int .i64 0, .str [], .snil 11, .int .i64 0, .int .i64 0, .int .i64 0, .int .i64 0, .int .i64 0, .snil 6, .snil 13, .snil 17, .snil 15]]), [], none⟩,
 ⟨none, .eff (.store 15), [.t 1, .t 2], none⟩])
 (.seq (.ops [⟨some 3, .read (.load (some 15)), [.t 1], none⟩,
 ⟨some 4, .pure (.build [.str [], .bool false, .int .i64 0, .int .i64 0, .int .i64 0, .int .i64 0, .str [], .snil 11, .int .i64 0, .int .i64 0, .int .i64 0, .int .i64 0, .int .i64 0, .snil 6, .snil 13, .snil 17, .snil 15] [(0, 1), (2, 15)]), [.c (.str [108, 101, 102, 116]), .t 3], none⟩,
 ⟨some 5, .read (.load (some 15)), [.t 1], none⟩,
 ⟨some 6, .pure (.build [.str [], .bool false, .int .i64 0, .int .i64 0, .int .i64 0, .int .i64 0, .str [], .snil 11, .int .i64 0, .int .i64 0, .int .i64 0, .int .i64 0, .int .i64 0, .snil 6, .snil 13, .snil 17, .snil 15] [(0, 1), (2, 15)]), [.c (.str [114, 105, 103, 104, 116]), .t 5], none⟩,
 ⟨some 7, .new (.buildSlice 17 [.agg [.str [], .bool false, .int .i64 0, .int .i64 0, .int .i64 0, .int .i64 0, .str [], .snil 11, .int .i64 0, .int .i64 0, .int .i64 0, .int .i64 0, .int .i64 0, .snil 6, .snil 13, .snil 17, .snil 15], .agg [.str [], .bool false, .int .i64 0, .int .i64 0, .int .i64 0, .int .i64 0, .str [], .snil 11, .int .i64 0, .int .i64 0, .int .i64 0, .int .i64 0, .int .i64 0, .snil 6, .snil 13, .snil 17, .snil 15]] [0, 1]), [.t 4, .t 6], none⟩,
 ⟨some 8, .pure (.build [.int .i64 0, .int .i64 0, .int .i64 0, .int .i64 0, .str [], .snil 11, .int .i64 0, .int .i64 0, .int .i64 0, .int .i64 0, .int .i64 0, .snil 6, .snil 13, .snil 17, .snil 15] [(0, 1)]), [.c (.int .i64 2)], none⟩,
 ⟨some 9, .new (.buildSlice 15 [.agg [.int .i64 0, .int .i64 0, .int .i64 0, .int .i64 0, .str [], .snil 11, .int .i64 0, .int .i64 0, .int .i64 0, .int .i64 0, .int .i64 0, .snil 6, .snil 13, .snil 17, .snil 15]] [0]), [.t 8], none⟩,
 ⟨some 10, .pure (.build [.int .i64 0, .int .i64 0, .int .i64 0, .int .i64 0, .str [], .snil 11, .int .i64 0, .int .i64 0, .int .i64 0, .int .i64 0, .int .i64 0, .snil 6, .snil 13, .snil 17, .snil 15] [(0, 1), (13, 1), (14, 1)]), [.c (.int .i64 10), .t 7, .t 9], none⟩,
 ⟨none, .eff (.store 15), [.t 0, .t 10], none⟩])
 .ret))) }
/-- datakit/schema.clone -/
def ac490 : AFn :=
 { nt := 82, res := [.cell 2 (some 15)], body :=
 (.seq (.ops [⟨some 1, .new (.box 15), [.t 0], none⟩,
 ⟨some 2, .new (.new 15 [.agg [.int .i64 0, .int .i64 0, .int .i64 0, .int .i64 0, .str [], .snil 11, .int .i64 0, .int .i64 0, .int .i64 0, .int .i64 0, .int .i64 0, .snil 6, .snil 13, .snil 17, .snil 15]]), [], none⟩])
 (.seq (.ops [⟨some 6, .pure (.faddr 5), [.t 1], none⟩,
 ⟨some 7, .pure (.faddr 0), [.t 6], none⟩,
 ⟨some 8, .read (.load none), [.t 7], none⟩,
 ⟨some 9, .call 216, [.t 8], none⟩,
 ⟨some 10, .pure (.faddr 5), [.t 1], none⟩,
 ⟨some 11, .pure (.faddr 0), [.t 10], none⟩,
 ⟨none, .eff (.store 1), [.t 11, .t 9], none⟩])
 (.seq (.ops [⟨some 12, .pure (.faddr 6), [.t 1], none⟩,
 ⟨some 13, .read (.load (some 6)), [.t 12], none⟩,
 ⟨some 14, .pcall 517, [.t 13], none⟩,
 ⟨some 15, .pure (.faddr 6), [.t 1], none⟩,
 ⟨none, .eff (.store 6), [.t 15, .t 14], none⟩])
 (.seq (.ops [⟨some 16, .pure (.faddr 12), [.t 1], none⟩,
 ⟨some 17, .read (.load none), [.t 16], none⟩,
 ⟨some 18, .call 518, [.t 17], none⟩,
 ⟨some 19, .pure (.faddr 12), [.t 1], none⟩,
 ⟨none, .eff (.store 1), [.t 19, .t 18], none⟩])
 (.seq (.seq (.ops [⟨some 20, .pure (.faddr 12), [.t 1], none⟩,
 ⟨some 21, .read (.load none), [.t 20], none⟩,
 ⟨some 22, .pure .lenL, [.t 21], none⟩,
 ⟨some 23, .pure .move, [.c (.int .i64 0)], none⟩])
 (.block 0
 (.loop [1, 2, 22, 23]
 (.seq (.ops [⟨some 24, .pure (.bin .lss), [.t 23, .t 22], none⟩])
 (.seq (.cond (.t 24)
 .skip
 (.exit 0))
 (.seq (.block 1
 (.seq (.ops [⟨some 25, .pure .move, [.t 23], none⟩,
 ⟨some 3, .pure .move, [.t 25], none⟩])
 (.ops [⟨some 26, .pure (.faddr 12), [.t 1], none⟩,
 ⟨some 27, .read (.load none), [.t 26], none⟩,
 ⟨some 28, .pure .move, [.t 3], none⟩,
 ⟨some 29, .pure (.faddr 12), [.t 1], none⟩,
 ⟨some 30, .read (.load none), [.t 29], none⟩,
 ⟨some 31, .pure .move, [.t 3], none⟩,
 ⟨some 32, .pure (.iaddrS 13), [.t 30, .t 31], none⟩,
 ⟨some 33, .read (.load (some 13)), [.t 32], none⟩,
 ⟨some 34, .pcall 26, [.t 33], none⟩,
 ⟨some 35, .pure (.iaddrS 13), [.t 27, .t 28], none⟩,
 ⟨none, .eff (.store 13), [.t 35, .t 34], none⟩])))
 (.ops [⟨some 36, .pure (.bin .add), [.t 23, .c (.int .i64 1)], none⟩,
 ⟨some 23, .pure .move, [.t 36], none⟩])))))))
 (.seq (.ops [⟨some 37, .pure (.faddr 13), [.t 1], none⟩,
 ⟨some 38, .read (.load none), [.t 37], none⟩,
 ⟨some 39, .call 519, [.t 38], none⟩,
 ⟨some 40, .pure (.faddr 13), [.t 1], none⟩,
 ⟨none, .eff (.store 1), [.t 40, .t 39], none⟩])
 (.seq (.seq (.ops [⟨some 41, .pure (.faddr 13), [.t 1], none⟩,
 ⟨some 42, .read (.load none), [.t 41], none⟩,
 ⟨some 43, .pure .lenL, [.t 42], none⟩,
 ⟨some 44, .pure .move, [.c (.int .i64 0)], none⟩])
 (.block 2
 (.loop [1, 2, 43, 44]
 (.seq (.ops [⟨some 45, .pure (.bin .lss), [.t 44, .t 43], none⟩])
 (.seq (.cond (.t 45)
 .skip
 (.exit 2))
 (.seq (.block 3
 (.seq (.ops [⟨some 46, .pure .move, [.t 44], none⟩,
 ⟨some 4, .pure .move, [.t 46], none⟩])
 (.ops [⟨some 47, .pure (.faddr 13), [.t 1], none⟩,
 ⟨some 48, .read (.load none), [.t 47], none⟩,
 ⟨some 49, .pure .move, [.t 4], none⟩,
 ⟨some 50, .pure (.faddr 13), [.t 1], none⟩,
 ⟨some 51, .read (.load none), [.t 50], none⟩,
 ⟨some 52, .pure .move, [.t 4], none⟩,
 ⟨some 53, .pure (.iaddrS 17), [.t 51, .t 52], none⟩,
 ⟨some 54, .pure (.faddr 2), [.t 53], none⟩,
 ⟨some 55, .read (.load (some 15)), [.t 54], none⟩,
 ⟨some 56, .pcall 490, [.t 55], none⟩,
 ⟨some 57, .pure (.iaddrS 17), [.t 48, .t 49], none⟩,
 ⟨some 58, .pure (.faddr 2), [.t 57], none⟩,
 ⟨none, .eff (.store 15), [.t 58, .t 56], none⟩])))
 (.ops [⟨some 59, .pure (.bin .add), [.t 44, .c (.int .i64 1)], none⟩,
 ⟨some 44, .pure .move, [.t 59], none⟩])))))))
 (.seq (.ops [⟨some 60, .pure (.faddr 14), [.t 1], none⟩,
 ⟨some 61, .read (.load none), [.t 60], none⟩,
 ⟨some 62, .call 520, [.t 61], none⟩,
 ⟨some 63, .pure (.faddr 14), [.t 1], none⟩,
 ⟨none, .eff (.store 1), [.t 63, .t 62], none⟩])
 (.seq (.seq (.ops [⟨some 64, .pure (.faddr 14), [.t 1], none⟩,
 ⟨some 65, .read (.load none), [.t 64], none⟩,
 ⟨some 66, .pure .lenL, [.t 65], none⟩,
 ⟨some 67, .pure .move, [.c (.int .i64 0)], none⟩])
 (.block 4
 (.loop [1, 2, 66, 67]
 (.seq (.ops [⟨some 68, .pure (.bin .lss), [.t 67, .t 66], none⟩])
 (.seq (.cond (.t 68)
 .skip
 (.exit 4))
 (.seq (.block 5
 (.seq (.ops [⟨some 69, .pure .move, [.t 67], none⟩,
 ⟨some 5, .pure .move, [.t 69], none⟩])
 (.ops [⟨some 70, .pure (.faddr 14), [.t 1], none⟩,
 ⟨some 71, .read (.load none), [.t 70], none⟩,
 ⟨some 72, .pure .move, [.t 5], none⟩,
 ⟨some 73, .pure (.faddr 14), [.t 1], none⟩,
 ⟨some 74, .read (.load none), [.t 73], none⟩,
 ⟨some 75, .pure .move, [.t 5], none⟩,
 ⟨some 76, .pure (.iaddrS 15), [.t 74, .t 75], none⟩,
 ⟨some 77, .read (.load (some 15)), [.t 76], none⟩,
 ⟨some 78, .pcall 490, [.t 77], none⟩,
 ⟨some 79, .pure (.iaddrS 15), [.t 71, .t 72], none⟩,
 ⟨none, .eff (.store 15), [.t 79, .t 78], none⟩])))
 (.ops [⟨some 80, .pure (.bin .add), [.t 67, .c (.int .i64 1)], none⟩,
 ⟨some 67, .pure .move, [.t 80], none⟩])))))))
 (.seq (.ops [⟨some 81, .read (.load (some 15)), [.t 1], none⟩,
 ⟨none, .eff (.store 15), [.t 2, .t 81], none⟩])
 .ret)))))))))) }
/-- datakit/schema.refs -/
def ac491 : AFn :=
 { nt := 49, res := [.tmp 8], body :=
 (.seq (.ops [⟨some 5, .new (.box 15), [.t 1], none⟩,
 ⟨some 8, .pure .move, [.c (.snil 1)], none⟩])
 (.seq (.seq (.ops [⟨some 11, .pure .move, [.t 2], none⟩,
 ⟨some 12, .pure (.bin .lss), [.t 11, .c (.int .i64 1)], none⟩])
 (.cond (.t 12)
 (.seq (.ops [⟨some 13, .pure .move, [.t 0], none⟩,
 ⟨some 8, .pure .move, [.t 13], none⟩])
 .ret)
 .skip))
 (.seq (.seq (.ops [⟨some 14, .pure (.faddr 0), [.t 5], none⟩,
 ⟨some 15, .read (.load none), [.t 14], none⟩,
 ⟨some 16, .pure (.bin .eql), [.t 15, .c (.int .i64 14)], none⟩])
 (.cond (.t 16)
 (.ops [⟨some 17, .pure .move, [.t 0], none⟩,
 ⟨some 18, .pure (.faddr 4), [.t 5], none⟩,
 ⟨some 19, .read (.load none), [.t 18], none⟩,
 ⟨some 20, .new (.buildSlice 1 [.str []] [0]), [.t 19], none⟩,
 ⟨some 21, .eff (.append 1 16), [.t 17, .t 20], none⟩,
 ⟨some 0, .pure .move, [.t 21], none⟩])
 .skip))
 (.seq (.seq (.ops [⟨some 22, .pure .move, [.t 3], none⟩,
 ⟨some 23, .pure .move, [.t 22], none⟩,
 ⟨some 24, .pure (.faddr 0), [.t 5], some (23, true)⟩,
 ⟨some 25, .read (.load none), [.t 24], some (23, true)⟩,
 ⟨some 26, .pure (.bin .eql), [.t 25, .c (.int .i64 9)], some (23, true)⟩,
 ⟨some 27, .pure .move, [.t 26], some (23, true)⟩,
 ⟨some 28, .pure (.faddr 0), [.t 5], some (27, false)⟩,
 ⟨some 29, .read (.load none), [.t 28], some (27, false)⟩,
 ⟨some 30, .pure (.bin .eql), [.t 29, .c (.int .i64 10)], some (27, false)⟩,
 ⟨some 31, .pure .pick, [.t 27, .c (.bool true), .t 30], some (23, true)⟩,
 ⟨some 32, .pure .pick, [.t 23, .t 31, .c (.bool false)], none⟩])
 (.cond (.t 32)
 (.seq (.ops [⟨some 33, .pure .move, [.t 0], none⟩,
 ⟨some 8, .pure .move, [.t 33], none⟩])
 .ret)
 .skip))
 (.seq (.seq (.ops [⟨some 34, .read (.load (some 15)), [.t 5], none⟩,
 ⟨some 35, .pcall 514, [.t 34], none⟩,
 ⟨some 36, .pure .lenL, [.t 35], none⟩,
 ⟨some 37, .pure .move, [.c (.int .i64 0)], none⟩])
 (.block 0
 (.loop [0, 2, 3, 35, 36, 37]
 (.seq (.ops [⟨some 38, .pure (.bin .lss), [.t 37, .t 36], none⟩])
 (.seq (.cond (.t 38)
 .skip
 (.exit 0))
 (.seq (.block 1
 (.seq (.ops [⟨some 39, .pure (.iaddrS 15), [.t 35, .t 37], none⟩,
 ⟨some 40, .read (.load (some 15)), [.t 39], none⟩,
 ⟨some 10, .new (.new 15 [.agg [.int .i64 0, .int .i64 0, .int .i64 0, .int .i64 0, .str [], .snil 11, .int .i64 0, .int .i64 0, .int .i64 0, .int .i64 0, .int .i64 0, .snil 6, .snil 13, .snil 17, .snil 15]]), [], none⟩,
 ⟨none, .eff (.store 15), [.t 10, .t 40], none⟩])
 (.ops [⟨some 41, .pure .move, [.t 0], none⟩,
 ⟨some 42, .read (.load (some 15)), [.t 10], none⟩,
 ⟨some 43, .pure .move, [.t 2], none⟩,
 ⟨some 44, .pure (.bin .sub), [.t 43, .c (.int .i64 1)], none⟩,
 ⟨some 45, .pure .move, [.t 3], none⟩,
 ⟨some 46, .call 491, [.t 41, .t 42, .t 44, .t 45], none⟩,
 ⟨some 0, .pure .move, [.t 46], none⟩])))
 (.ops [⟨some 47, .pure (.bin .add), [.t 37, .c (.int .i64 1)], none⟩,
 ⟨some 37, .pure .move, [.t 47], none⟩])))))))
 (.seq (.ops [⟨some 48, .pure .move, [.t 0], none⟩,
 ⟨some 8, .pure .move, [.t 48], none⟩])
 .ret)))))) }
/-- datakit/datakitref45.same -/
def ac494 : AFn :=
 { nt := 145, res := [.tmp 6], body :=
 (.seq (.ops [⟨some 3, .new (.box 15), [.t 0], none⟩,
 ⟨some 4, .new (.box 15), [.t 1], none⟩,
 ⟨some 6, .pure .move, [.c (.bool false)], none⟩])
 (.seq (.seq (.ops [⟨some 11, .pure .move, [.t 2], none⟩,
 ⟨some 12, .pure (.bin .lss), [.t 11, .c (.int .i64 1)], none⟩,
 ⟨some 13, .pure .move, [.t 12], none⟩,
 ⟨some 14, .pure (.faddr 0), [.t 3], some (13, false)⟩,
 ⟨some 15, .read (.load none), [.t 14], some (13, false)⟩,
 ⟨some 16, .pure (.faddr 0), [.t 4], some (13, false)⟩,
 ⟨some 17, .read (.load none), [.t 16], some (13, false)⟩,
 ⟨some 18, .pure (.bin .neq), [.t 15, .t 17], some (13, false)⟩,
 ⟨some 19, .pure .pick, [.t 13, .c (.bool true), .t 18], none⟩,
 ⟨some 20, .pure .move, [.t 19], none⟩,
 ⟨some 21, .pure (.faddr 1), [.t 3], some (20, false)⟩,
 ⟨some 22, .read (.load none), [.t 21], some (20, false)⟩,
 ⟨some 23, .pure (.faddr 1), [.t 4], some (20, false)⟩,
 ⟨some 24, .read (.load none), [.t 23], some (20, false)⟩,
 ⟨some 25, .pure (.bin .neq), [.t 22, .t 24], some (20, false)⟩,
 ⟨some 26, .pure .pick, [.t 20, .c (.bool true), .t 25], none⟩,
 ⟨some 27, .pure .move, [.t 26], none⟩,
 ⟨some 28, .pure (.faddr 2), [.t 3], some (27, false)⟩,
 ⟨some 29, .read (.load none), [.t 28], some (27, false)⟩,
 ⟨some 30, .pure (.faddr 2), [.t 4], some (27, false)⟩,
 ⟨some 31, .read (.load none), [.t 30], some (27, false)⟩,
 ⟨some 32, .pure (.bin .neq), [.t 29, .t 31], some (27, false)⟩,
 ⟨some 33, .pure .pick, [.t 27, .c (.bool true), .t 32], none⟩,
 ⟨some 34, .pure .move, [.t 33], none⟩,
 ⟨some 35, .pure (.faddr 3), [.t 3], some (34, false)⟩,
 ⟨some 36, .read (.load none), [.t 35], some (34, false)⟩,
 ⟨some 37, .pure (.faddr 3), [.t 4], some (34, false)⟩,
 ⟨some 38, .read (.load none), [.t 37], some (34, false)⟩,
 ⟨some 39, .pure (.bin .neq), [.t 36, .t 38], some (34, false)⟩,
 ⟨some 40, .pure .pick, [.t 34, .c (.bool true), .t 39], none⟩,
 ⟨some 41, .pure .move, [.t 40], none⟩,
 ⟨some 42, .pure (.faddr 4), [.t 3], some (41, false)⟩,
 ⟨some 43, .read (.load none), [.t 42], some (41, false)⟩,
 ⟨some 44, .pure (.faddr 4), [.t 4], some (41, false)⟩,
 ⟨some 45, .read (.load none), [.t 44], some (41, false)⟩,
 ⟨some 46, .pure (.bin .neq), [.t 43, .t 45], some (41, false)⟩,
 ⟨some 47, .pure .pick, [.t 41, .c (.bool true), .t 46], none⟩,
 ⟨some 48, .pure .move, [.t 47], none⟩,
 ⟨some 49, .pure (.faddr 13), [.t 3], some (48, false)⟩,
 ⟨some 50, .read (.load none), [.t 49], some (48, false)⟩,
 ⟨some 51, .pure .lenL, [.t 50], some (48, false)⟩,
 ⟨some 52, .pure (.faddr 13), [.t 4], some (48, false)⟩,
 ⟨some 53, .read (.load none), [.t 52], some (48, false)⟩,
 ⟨some 54, .pure .lenL, [.t 53], some (48, false)⟩,
 ⟨some 55, .pure (.bin .neq), [.t 51, .t 54], some (48, false)⟩,
 ⟨some 56, .pure .pick, [.t 48, .c (.bool true), .t 55], none⟩,
 ⟨some 57, .pure .move, [.t 56], none⟩,
 ⟨some 58, .pure (.faddr 14), [.t 3], some (57, false)⟩,
 ⟨some 59, .read (.load none), [.t 58], some (57, false)⟩,
 ⟨some 60, .pure .lenL, [.t 59], some (57, false)⟩,
 ⟨some 61, .pure (.faddr 14), [.t 4], some (57, false)⟩,
 ⟨some 62, .read (.load none), [.t 61], some (57, false)⟩,
 ⟨some 63, .pure .lenL, [.t 62], some (57, false)⟩,
 ⟨some 64, .pure (.bin .neq), [.t 60, .t 63], some (57, false)⟩,
 ⟨some 65, .pure .pick, [.t 57, .c (.bool true), .t 64], none⟩])
 (.cond (.t 65)
 (.seq (.ops [⟨some 6, .pure .move, [.c (.bool false)], none⟩])
 .ret)
 .skip))
 (.seq (.seq (.ops [⟨some 66, .pure (.faddr 5), [.t 3], none⟩,
 ⟨some 67, .read (.load (some 1)), [.t 66], none⟩,
 ⟨some 68, .pure (.faddr 5), [.t 4], none⟩,
 ⟨some 69, .read (.load (some 1)), [.t 68], none⟩,
 ⟨some 70, .pcall 522, [.t 67, .t 69], none⟩,
 ⟨some 71, .pure (.un .not), [.t 70], none⟩,
 ⟨some 72, .pure .move, [.t 71], none⟩,
 ⟨some 73, .pure (.faddr 6), [.t 3], some (72, false)⟩,
 ⟨some 74, .read (.load (some 6)), [.t 73], some (72, false)⟩,
 ⟨some 75, .pure (.faddr 6), [.t 4], some (72, false)⟩,
 ⟨some 76, .read (.load (some 6)), [.t 75], some (72, false)⟩,
 ⟨some 77, .pcall 523, [.t 74, .t 76], some (72, false)⟩,
 ⟨some 78, .pure (.un .not), [.t 77], some (72, false)⟩,
 ⟨some 79, .pure .pick, [.t 72, .c (.bool true), .t 78], none⟩,
 ⟨some 80, .pure .move, [.t 79], none⟩,
 ⟨some 81, .pure (.faddr 12), [.t 3], some (80, false)⟩,
 ⟨some 82, .read (.load none), [.t 81], some (80, false)⟩,
 ⟨some 83, .pure (.faddr 12), [.t 4], some (80, false)⟩,
 ⟨some 84, .read (.load none), [.t 83], some (80, false)⟩,
 ⟨some 85, .pcall 524, [.t 82, .t 84], some (80, false)⟩,
 ⟨some 86, .pure (.un .not), [.t 85], some (80, false)⟩,
 ⟨some 87, .pure .pick, [.t 80, .c (.bool true), .t 86], none⟩])
 (.cond (.t 87)
 (.seq (.ops [⟨some 6, .pure .move, [.c (.bool false)], none⟩])
 .ret)
 .skip))
 (.seq (.seq (.ops [⟨some 7, .pure .move, [.c (.int .i64 0)], none⟩])
 (.block 0
 (.loop [2, 3, 4, 7]
 (.seq (.seq (.ops [⟨some 88, .pure .move, [.t 7], none⟩,
 ⟨some 89, .pure (.faddr 13), [.t 3], none⟩,
 ⟨some 90, .read (.load none), [.t 89], none⟩,
 ⟨some 91, .pure .lenL, [.t 90], none⟩,
 ⟨some 92, .pure (.bin .lss), [.t 88, .t 91], none⟩])
 (.cond (.t 92)
 .skip
 (.exit 0)))
 (.seq (.block 1
 (.seq (.ops [⟨some 95, .pure (.faddr 13), [.t 3], none⟩,
 ⟨some 96, .read (.load none), [.t 95], none⟩,
 ⟨some 97, .pure .move, [.t 7], none⟩,
 ⟨some 98, .pure (.iaddrS 17), [.t 96, .t 97], none⟩,
 ⟨some 99, .pure (.faddr 0), [.t 98], none⟩,
 ⟨some 100, .read (.load none), [.t 99], none⟩,
 ⟨some 101, .pure (.faddr 13), [.t 4], none⟩,
 ⟨some 102, .read (.load none), [.t 101], none⟩,
 ⟨some 103, .pure .move, [.t 7], none⟩,
 ⟨some 104, .pure (.iaddrS 17), [.t 102, .t 103], none⟩,
 ⟨some 105, .pure (.faddr 0), [.t 104], none⟩,
 ⟨some 106, .read (.load none), [.t 105], none⟩,
 ⟨some 107, .pure (.bin .neq), [.t 100, .t 106], none⟩,
 ⟨some 108, .pure .move, [.t 107], none⟩,
 ⟨some 109, .pure (.faddr 13), [.t 3], some (108, false)⟩,
 ⟨some 110, .read (.load none), [.t 109], some (108, false)⟩,
 ⟨some 111, .pure .move, [.t 7], some (108, false)⟩,
 ⟨some 112, .pure (.iaddrS 17), [.t 110, .t 111], some (108, false)⟩,
 ⟨some 113, .pure (.faddr 1), [.t 112], some (108, false)⟩,
 ⟨some 114, .read (.load none), [.t 113], some (108, false)⟩,
 ⟨some 115, .pure (.faddr 13), [.t 4], some (108, false)⟩,
 ⟨some 116, .read (.load none), [.t 115], some (108, false)⟩,
 ⟨some 117, .pure .move, [.t 7], some (108, false)⟩,
 ⟨some 118, .pure (.iaddrS 17), [.t 116, .t 117], some (108, false)⟩,
 ⟨some 119, .pure (.faddr 1), [.t 118], some (108, false)⟩,
 ⟨some 120, .read (.load none), [.t 119], some (108, false)⟩,
 ⟨some 121, .pure (.eqB true), [.t 114, .t 120], some (108, false)⟩,
 ⟨some 122, .pure .pick, [.t 108, .c (.bool true), .t 121], none⟩])
 (.cond (.t 122)
 (.seq (.ops [⟨some 6, .pure .move, [.c (.bool false)], none⟩])
 .ret)
 .skip)))
 (.ops [⟨some 93, .pure .move, [.t 7], none⟩,
 ⟨some 94, .pure (.bin .add), [.t 93, .c (.int .i64 1)], none⟩,
 ⟨some 7, .pure .move, [.t 94], none⟩]))))))
 (.seq (.ops [⟨some 123, .read (.load (some 15)), [.t 3], none⟩,
 ⟨some 124, .pcall 515, [.t 123], none⟩,
 ⟨some 125, .read (.load (some 15)), [.t 4], none⟩,
 ⟨some 126, .pcall 515, [.t 125], none⟩,
 ⟨some 8, .pure .move, [.t 124], none⟩,
 ⟨some 9, .pure .move, [.t 126], none⟩])
 (.seq (.seq (.ops [⟨some 10, .pure .move, [.c (.int .i64 0)], none⟩])
 (.block 2
 (.loop [2, 8, 9, 10]
 (.seq (.seq (.ops [⟨some 127, .pure .move, [.t 10], none⟩,
 ⟨some 128, .pure .move, [.t 8], none⟩,
 ⟨some 129, .pure .lenL, [.t 128], none⟩,
 ⟨some 130, .pure (.bin .lss), [.t 127, .t 129], none⟩])
 (.cond (.t 130)
 .skip
 (.exit 2)))
 (.seq (.block 3
 (.seq (.ops [⟨some 133, .pure .move, [.t 8], none⟩,
 ⟨some 134, .pure .move, [.t 10], none⟩,
 ⟨some 135, .pure (.iaddrS 15), [.t 133, .t 134], none⟩,
 ⟨some 136, .read (.load (some 15)), [.t 135], none⟩,
 ⟨some 137, .pure .move, [.t 9], none⟩,
 ⟨some 138, .pure .move, [.t 10], none⟩,
 ⟨some 139, .pure (.iaddrS 15), [.t 137, .t 138], none⟩,
 ⟨some 140, .read (.load (some 15)), [.t 139], none⟩,
 ⟨some 141, .pure .move, [.t 2], none⟩,
 ⟨some 142, .pure (.bin .sub), [.t 141, .c (.int .i64 1)], none⟩,
 ⟨some 143, .pcall 494, [.t 136, .t 140, .t 142], none⟩,
 ⟨some 144, .pure (.un .not), [.t 143], none⟩])
 (.cond (.t 144)
 (.seq (.ops [⟨some 6, .pure .move, [.c (.bool false)], none⟩])
 .ret)
 .skip)))
 (.ops [⟨some 131, .pure .move, [.t 10], none⟩,
 ⟨some 132, .pure (.bin .add), [.t 131, .c (.int .i64 1)], none⟩,
 ⟨some 10, .pure .move, [.t 132], none⟩]))))))
 (.seq (.ops [⟨some 6, .pure .move, [.c (.bool true)], none⟩])
 .ret))))))) }
/-- datakit/schema.written -/
def ac495 : AFn :=
 { nt := 34, res := [.cell 2 (some 13)], body :=
 (.seq (.ops [⟨some 1, .new (.box 16), [.t 0], none⟩,
 ⟨some 2, .new (.new 13 [.agg [.int .i64 0, .bool false, .bool false, .str [], .int .i64 0, .int .i64 0, .int .i64 0, .int .i64 0, .int .i64 0, .str [], .snil 1, .snil 13, .snil 14]]), [], none⟩])
 (.seq (.ops [⟨some 6, .pure (.build [.int .i64 0, .bool false, .bool false, .str [], .int .i64 0, .int .i64 0, .int .i64 0, .int .i64 0, .int .i64 0, .str [], .snil 1, .snil 13, .snil 14] [(0, 1)]), [.c (.int .i64 7)], none⟩,
 ⟨some 3, .new (.new 13 [.agg [.int .i64 0, .bool false, .bool false, .str [], .int .i64 0, .int .i64 0, .int .i64 0, .int .i64 0, .int .i64 0, .str [], .snil 1, .snil 13, .snil 14]]), [], none⟩,
 ⟨none, .eff (.store 13), [.t 3, .t 6], none⟩])
 (.seq (.seq (.ops [⟨some 7, .pure (.faddr 0), [.t 1], none⟩,
 ⟨some 8, .read (.load none), [.t 7], none⟩,
 ⟨some 9, .pure .lenL, [.t 8], none⟩,
 ⟨some 10, .pure .move, [.c (.int .i64 0)], none⟩])
 (.block 0
 (.loop [1, 2, 3, 8, 9, 10]
 (.seq (.ops [⟨some 11, .pure (.bin .lss), [.t 10, .t 9], none⟩])
 (.seq (.cond (.t 11)
 .skip
 (.exit 0))
 (.seq (.block 1
 (.seq (.ops [⟨some 12, .pure (.iaddrS 16), [.t 8, .t 10], none⟩,
 ⟨some 13, .read (.load (some 16)), [.t 12], none⟩,
 ⟨some 5, .new (.new 16 [.agg [.str [], .int .i64 0, .int .i64 0, .int .i64 0, .int .i64 0, .str [], .snil 11, .int .i64 0, .int .i64 0, .int .i64 0, .int .i64 0, .int .i64 0, .snil 6, .snil 13, .snil 17, .snil 15]]), [], none⟩,
 ⟨none, .eff (.store 16), [.t 5, .t 13], none⟩])
 (.draw 1 [[⟨some 14, .pure (.faddr 12), [.t 3], none⟩,
 ⟨some 15, .read (.load none), [.t 14], none⟩,
 ⟨some 16, .pure (.faddr 0), [.t 5], none⟩,
 ⟨some 17, .read (.load none), [.t 16], none⟩,
 ⟨some 18, .pure (.faddr 1), [.t 5], none⟩,
 ⟨some 19, .read (.load (some 15)), [.t 18], none⟩,
 ⟨some 20, .pcall 525, [.t 19], none⟩,
 ⟨some 21, .pure (.build [.str [], .int .i64 0, .bool false, .bool false, .str [], .int .i64 0, .int .i64 0, .int .i64 0, .int .i64 0, .int .i64 0, .str [], .snil 1, .snil 13, .snil 14] [(0, 1), (1, 13)]), [.t 17, .t 20], none⟩,
 ⟨some 22, .newAt 0 (.buildSlice 14 [.agg [.str [], .int .i64 0, .bool false, .bool false, .str [], .int .i64 0, .int .i64 0, .int .i64 0, .int .i64 0, .int .i64 0, .str [], .snil 1, .snil 13, .snil 14]] [0]), [.t 21], none⟩,
 ⟨some 23, .eff (.append 14 184), [.t 15, .t 22], none⟩,
 ⟨some 24, .pure (.faddr 12), [.t 3], none⟩,
 ⟨none, .eff (.store 1), [.t 24, .t 23], none⟩]])))
 (.ops [⟨some 25, .pure (.bin .add), [.t 10, .c (.int .i64 1)], none⟩,
 ⟨some 10, .pure .move, [.t 25], none⟩])))))))
 (.seq (.draw 1 [[⟨some 26, .read (.load (some 13)), [.t 3], none⟩,
 ⟨some 27, .pure (.build [.str [], .int .i64 0, .bool false, .bool false, .str [], .int .i64 0, .int .i64 0, .int .i64 0, .int .i64 0, .int .i64 0, .str [], .snil 1, .snil 13, .snil 14] [(0, 1), (1, 13)]), [.c (.str [100, 101, 102, 115]), .t 26], none⟩,
 ⟨some 28, .pure (.faddr 1), [.t 1], none⟩,
 ⟨some 29, .read (.load (some 15)), [.t 28], none⟩,
 ⟨some 30, .pcall 525, [.t 29], none⟩,
 ⟨some 31, .pure (.build [.str [], .int .i64 0, .bool false, .bool false, .str [], .int .i64 0, .int .i64 0, .int .i64 0, .int .i64 0, .int .i64 0, .str [], .snil 1, .snil 13, .snil 14] [(0, 1), (1, 13)]), [.c (.str [114, 111, 111, 116]), .t 30], none⟩,
 ⟨some 32, .newAt 0 (.buildSlice 14 [.agg [.str [], .int .i64 0, .bool false, .bool false, .str [], .int .i64 0, .int .i64 0, .int .i64 0, .int .i64 0, .int .i64 0, .str [], .snil 1, .snil 13, .snil 14], .agg [.str [], .int .i64 0, .bool false, .bool false, .str [], .int .i64 0, .int .i64 0, .int .i64 0, .int .i64 0, .int .i64 0, .str [], .snil 1, .snil 13, .snil 14]] [0, 1]), [.t 27, .t 31], none⟩,
 ⟨some 33, .pure (.build [.int .i64 0, .bool false, .bool false, .str [], .int .i64 0, .int .i64 0, .int .i64 0, .int .i64 0, .int .i64 0, .str [], .snil 1, .snil 13, .snil 14] [(0, 1), (12, 1)]), [.c (.int .i64 7), .t 32], none⟩,
 ⟨none, .eff (.store 13), [.t 2, .t 33], none⟩]])
 .ret)))) }
/-- datakit/schema.read -/
def ac497 : AFn :=
 { nt := 182, res := [.cell 2 (some 15)], body :=
 (.seq (.ops [⟨some 1, .new (.box 13), [.t 0], none⟩,
 ⟨some 2, .new (.new 15 [.agg [.int .i64 0, .int .i64 0, .int .i64 0, .int .i64 0, .str [], .snil 11, .int .i64 0, .int .i64 0, .int .i64 0, .int .i64 0, .int .i64 0, .snil 6, .snil 13, .snil 17, .snil 15]]), [], none⟩])
 (.seq (.seq (.ops [⟨some 17, .pure (.faddr 0), [.t 1], none⟩,
 ⟨some 18, .read (.load none), [.t 17], none⟩,
 ⟨some 19, .pure (.bin .neq), [.t 18, .c (.int .i64 7)], none⟩,
 ⟨some 20, .pure .move, [.t 19], none⟩,
 ⟨some 21, .pure (.faddr 12), [.t 1], some (20, false)⟩,
 ⟨some 22, .read (.load none), [.t 21], some (20, false)⟩,
 ⟨some 23, .pure .lenL, [.t 22], some (20, false)⟩,
 ⟨some 24, .pure (.bin .neq), [.t 23, .c (.int .i64 1)], some (20, false)⟩,
 ⟨some 25, .pure .pick, [.t 20, .c (.bool true), .t 24], none⟩])
 (.cond (.t 25)
 (.seq (.seq (.ops [⟨some 26, .pure (.faddr 1), [.t 1], none⟩,
 ⟨some 27, .read (.load none), [.t 26], none⟩])
 (.cond (.t 27)
 (.seq (.ops [⟨some 28, .pure (.build [.int .i64 0, .int .i64 0, .int .i64 0, .int .i64 0, .str [], .snil 11, .int .i64 0, .int .i64 0, .int .i64 0, .int .i64 0, .int .i64 0, .snil 6, .snil 13, .snil 17, .snil 15] [(0, 1)]), [.c (.int .i64 1)], none⟩,
 ⟨none, .eff (.store 15), [.t 2, .t 28], none⟩])
 .ret)
 .skip))
 (.seq (.ops [⟨some 29, .pure (.build [.int .i64 0, .int .i64 0, .int .i64 0, .int .i64 0, .str [], .snil 11, .int .i64 0, .int .i64 0, .int .i64 0, .int .i64 0, .int .i64 0, .snil 6, .snil 13, .snil 17, .snil 15] [(0, 1)]), [.c (.int .i64 2)], none⟩,
 ⟨none, .eff (.store 15), [.t 2, .t 29], none⟩])
 .ret))
 .skip))
 (.seq (.ops [⟨some 30, .pure (.faddr 12), [.t 1], none⟩,
 ⟨some 31, .read (.load none), [.t 30], none⟩,
 ⟨some 32, .pure (.iaddrS 14), [.t 31, .c (.int .i64 0)], none⟩,
 ⟨some 33, .pure (.faddr 1), [.t 32], none⟩,
 ⟨some 34, .read (.load (some 13)), [.t 33], none⟩,
 ⟨some 3, .new (.new 13 [.agg [.int .i64 0, .bool false, .bool false, .str [], .int .i64 0, .int .i64 0, .int .i64 0, .int .i64 0, .int .i64 0, .str [], .snil 1, .snil 13, .snil 14]]), [], none⟩,
 ⟨none, .eff (.store 13), [.t 3, .t 34], none⟩])
 (.seq (.ops [⟨some 35, .pure (.mkfn 533), [.t 3], none⟩,
 ⟨some 4, .pure .move, [.t 35], none⟩])
 (.seq (.seq (.ops [⟨some 36, .pure (.faddr 12), [.t 1], none⟩,
 ⟨some 37, .read (.load none), [.t 36], none⟩,
 ⟨some 38, .pure (.iaddrS 14), [.t 37, .c (.int .i64 0)], none⟩,
 ⟨some 39, .pure (.faddr 0), [.t 38], none⟩,
 ⟨some 40, .read (.load none), [.t 39], none⟩])
 (.block 0
 (.seq (.ops [⟨some 42, .pure (.bin .eql), [.t 40, .c (.str [107, 105, 110, 100, 115])], none⟩,
 ⟨some 41, .pure .move, [.t 42], none⟩])
 (.cond (.t 41)
 (.seq (.ops [⟨some 43, .pure (.build [.int .i64 0, .int .i64 0, .int .i64 0, .int .i64 0, .str [], .snil 11, .int .i64 0, .int .i64 0, .int .i64 0, .int .i64 0, .int .i64 0, .snil 6, .snil 13, .snil 17, .snil 15] [(0, 1)]), [.c (.int .i64 3)], none⟩,
 ⟨some 5, .new (.new 15 [.agg [.int .i64 0, .int .i64 0, .int .i64 0, .int .i64 0, .str [], .snil 11, .int .i64 0, .int .i64 0, .int .i64 0, .int .i64 0, .int .i64 0, .snil 6, .snil 13, .snil 17, .snil 15]]), [], none⟩,
 ⟨none, .eff (.store 15), [.t 5, .t 43], none⟩])
 (.seq (.seq (.ops [⟨some 44, .pure (.faddr 11), [.t 3], none⟩,
 ⟨some 45, .read (.load none), [.t 44], none⟩,
 ⟨some 46, .pure .lenL, [.t 45], none⟩,
 ⟨some 47, .pure .move, [.c (.int .i64 0)], none⟩])
 (.block 1
 (.loop [2, 5, 45, 46, 47]
 (.seq (.ops [⟨some 48, .pure (.bin .lss), [.t 47, .t 46], none⟩])
 (.seq (.cond (.t 48)
 .skip
 (.exit 1))
 (.seq (.block 2
 (.seq (.ops [⟨some 49, .pure (.iaddrS 13), [.t 45, .t 47], none⟩,
 ⟨some 50, .read (.load (some 13)), [.t 49], none⟩,
 ⟨some 7, .new (.new 13 [.agg [.int .i64 0, .bool false, .bool false, .str [], .int .i64 0, .int .i64 0, .int .i64 0, .int .i64 0, .int .i64 0, .str [], .snil 1, .snil 13, .snil 14]]), [], none⟩,
 ⟨none, .eff (.store 13), [.t 7, .t 50], none⟩])
 (.seq (.ops [⟨some 51, .pure .move, [.c (.int .i64 0)], none⟩])
 (.block 3
 (.loop [2, 5, 7, 45, 46, 47, 51]
 (.seq (.ops [⟨some 52, .pure (.bin .lss), [.t 51, .c (.int .i64 8)], none⟩])
 (.seq (.cond (.t 52)
 .skip
 (.exit 3))
 (.seq (.block 4
 (.seq (.ops [⟨some 53, .pure .move, [.t 51], none⟩,
 ⟨some 8, .pure .move, [.t 53], none⟩])
 (.seq (.ops [⟨some 54, .pure .move, [.t 8], none⟩,
 ⟨some 55, .pcall 534, [.t 54], none⟩,
 ⟨some 56, .pure (.faddr 9), [.t 7], none⟩,
 ⟨some 57, .read (.load none), [.t 56], none⟩,
 ⟨some 58, .pure (.bin .eql), [.t 55, .t 57], none⟩])
 (.cond (.t 58)
 (.ops [⟨some 59, .pure (.faddr 1), [.t 5], none⟩,
 ⟨some 60, .read (.load none), [.t 59], none⟩,
 ⟨some 61, .pure .move, [.t 8], none⟩,
 ⟨some 62, .pure (.conv .u64), [.t 61], none⟩,
 ⟨some 63, .pure (.bin .shl), [.c (.int .i64 1), .t 62], none⟩,
 ⟨some 64, .pure (.bin .or), [.t 60, .t 63], none⟩,
 ⟨some 65, .pure (.faddr 1), [.t 5], none⟩,
 ⟨none, .eff (.store 1), [.t 65, .t 64], none⟩])
 .skip))))
 (.ops [⟨some 66, .pure (.bin .add), [.t 51, .c (.int .i64 1)], none⟩,
 ⟨some 51, .pure .move, [.t 66], none⟩])))))))))
 (.ops [⟨some 67, .pure (.bin .add), [.t 47, .c (.int .i64 1)], none⟩,
 ⟨some 47, .pure .move, [.t 67], none⟩])))))))
 (.seq (.ops [⟨some 68, .read (.load (some 15)), [.t 5], none⟩,
 ⟨none, .eff (.store 15), [.t 2, .t 68], none⟩])
 .ret)))
 (.seq (.ops [⟨some 70, .pure (.bin .eql), [.t 40, .c (.str [110, 117, 109, 98, 101, 114])], none⟩,
 ⟨some 69, .pure .move, [.t 70], none⟩])
 (.cond (.t 69)
 (.seq (.ops [⟨some 71, .pure (.build [.int .i64 0, .int .i64 0, .int .i64 0, .int .i64 0, .str [], .snil 11, .int .i64 0, .int .i64 0, .int .i64 0, .int .i64 0, .int .i64 0, .snil 6, .snil 13, .snil 17, .snil 15] [(0, 1)]), [.c (.int .i64 4)], none⟩,
 ⟨some 9, .new (.new 15 [.agg [.int .i64 0, .int .i64 0, .int .i64 0, .int .i64 0, .str [], .snil 11, .int .i64 0, .int .i64 0, .int .i64 0, .int .i64 0, .int .i64 0, .snil 6, .snil 13, .snil 17, .snil 15]]), [], none⟩,
 ⟨none, .eff (.store 15), [.t 9, .t 71], none⟩])
 (.seq (.seq (.ops [⟨some 72, .pure (.faddr 11), [.t 3], none⟩,
 ⟨some 73, .read (.load none), [.t 72], none⟩,
 ⟨some 74, .pure .lenL, [.t 73], none⟩,
 ⟨some 75, .pure .move, [.c (.int .i64 0)], none⟩])
 (.block 5
 (.loop [2, 9, 73, 74, 75]
 (.seq (.ops [⟨some 76, .pure (.bin .lss), [.t 75, .t 74], none⟩])
 (.seq (.cond (.t 76)
 .skip
 (.exit 5))
 (.seq (.block 6
 (.seq (.ops [⟨some 77, .pure (.iaddrS 13), [.t 73, .t 75], none⟩,
 ⟨some 78, .read (.load (some 13)), [.t 77], none⟩,
 ⟨some 11, .new (.new 13 [.agg [.int .i64 0, .bool false, .bool false, .str [], .int .i64 0, .int .i64 0, .int .i64 0, .int .i64 0, .int .i64 0, .str [], .snil 1, .snil 13, .snil 14]]), [], none⟩,
 ⟨none, .eff (.store 13), [.t 11, .t 78], none⟩])
 (.draw 1 [[⟨some 79, .pure (.faddr 5), [.t 9], none⟩,
 ⟨some 80, .pure (.faddr 0), [.t 79], none⟩,
 ⟨some 81, .read (.load none), [.t 80], none⟩,
 ⟨some 82, .read (.load (some 13)), [.t 11], none⟩,
 ⟨some 83, .pcall 535, [.t 82], none⟩,
 ⟨some 84, .newAt 0 (.buildSlice 11 [.agg [.bool false, .bool false, .str [], .int .i64 0, .bool false, .bool false, .bool false, .str [], .int .i64 0, .bool false, .int .i64 0]] [0]), [.t 83], none⟩,
 ⟨some 85, .eff (.append 11 104), [.t 81, .t 84], none⟩,
 ⟨some 86, .pure (.faddr 5), [.t 9], none⟩,
 ⟨some 87, .pure (.faddr 0), [.t 86], none⟩,
 ⟨none, .eff (.store 1), [.t 87, .t 85], none⟩]])))
 (.ops [⟨some 88, .pure (.bin .add), [.t 75, .c (.int .i64 1)], none⟩,
 ⟨some 75, .pure .move, [.t 88], none⟩])))))))
 (.seq (.ops [⟨some 89, .read (.load (some 15)), [.t 9], none⟩,
 ⟨none, .eff (.store 15), [.t 2, .t 89], none⟩])
 .ret)))
 (.seq (.ops [⟨some 91, .pure (.bin .eql), [.t 40, .c (.str [116, 101, 120, 116])], none⟩,
 ⟨some 90, .pure .move, [.t 91], none⟩])
 (.cond (.t 90)
 (.seq (.ops [⟨some 92, .read (.load (some 13)), [.t 3], none⟩,
 ⟨some 93, .pcall 537, [.t 92, .c (.int .i64 0)], none⟩,
 ⟨some 94, .pcall 536, [.t 93], none⟩,
 ⟨some 95, .read (.load (some 13)), [.t 3], none⟩,
 ⟨some 96, .pcall 537, [.t 95, .c (.int .i64 1)], none⟩,
 ⟨some 97, .pcall 536, [.t 96], none⟩,
 ⟨some 98, .pure (.build [.int .i64 0, .int .i64 0, .int .i64 0, .int .i64 0, .str [], .snil 11, .int .i64 0, .int .i64 0, .int .i64 0, .int .i64 0, .int .i64 0, .snil 6, .snil 13, .snil 17, .snil 15] [(0, 1), (2, 1), (3, 1)]), [.c (.int .i64 5), .t 94, .t 97], none⟩,
 ⟨none, .eff (.store 15), [.t 2, .t 98], none⟩])
 .ret)
 (.seq (.ops [⟨some 100, .pure (.bin .eql), [.t 40, .c (.str [109, 97, 116, 99, 104])], none⟩,
 ⟨some 99, .pure .move, [.t 100], none⟩])
 (.cond (.t 99)
 (.seq (.ops [⟨some 102, .pure (.faddr 9), [.t 3], none⟩,
 ⟨some 103, .read (.load none), [.t 102], none⟩,
 ⟨some 104, .pcall 538, [.t 103], none⟩,
 ⟨some 101, .pure .move, [.t 104], none⟩,
 ⟨some 105, .pure (.ext 0), [.t 101], none⟩,
 ⟨some 106, .pure (.ext 1), [.t 101], none⟩,
 ⟨some 12, .new (.new 6 [.agg [.int .i64 0, .int .i64 0, .int .i64 0, .int .i64 0, .int .i64 0, .snil 6]]), [], none⟩,
 ⟨none, .eff (.store 6), [.t 12, .t 105], none⟩,
 ⟨some 13, .pure .move, [.t 106], none⟩])
 (.seq (.ops [⟨some 107, .read (.load (some 6)), [.t 12], none⟩,
 ⟨some 108, .pure (.build [.int .i64 0, .int .i64 0, .int .i64 0, .int .i64 0, .str [], .snil 11, .int .i64 0, .int .i64 0, .int .i64 0, .int .i64 0, .int .i64 0, .snil 6, .snil 13, .snil 17, .snil 15] [(0, 1), (6, 6)]), [.c (.int .i64 6), .t 107], none⟩,
 ⟨none, .eff (.store 15), [.t 2, .t 108], none⟩])
 .ret))
 (.seq (.ops [⟨some 110, .pure (.bin .eql), [.t 40, .c (.str [102, 111, 114, 109, 97, 116])], none⟩,
 ⟨some 109, .pure .move, [.t 110], none⟩])
 (.cond (.t 109)
 (.seq (.ops [⟨some 111, .pure (.faddr 9), [.t 3], none⟩,
 ⟨some 112, .read (.load none), [.t 111], none⟩,
 ⟨some 113, .pure (.build [.int .i64 0, .int .i64 0, .int .i64 0, .int .i64 0, .str [], .snil 11, .int .i64 0, .int .i64 0, .int .i64 0, .int .i64 0, .int .i64 0, .snil 6, .snil 13, .snil 17, .snil 15] [(0, 1), (4, 1)]), [.c (.int .i64 7), .t 112], none⟩,
 ⟨none, .eff (.store 15), [.t 2, .t 113], none⟩])
 .ret)
 (.seq (.ops [⟨some 115, .pure (.bin .eql), [.t 40, .c (.str [118, 97, 108, 117, 101, 115])], none⟩,
 ⟨some 114, .pure .move, [.t 115], none⟩])
 (.cond (.t 114)
 (.seq (.ops [⟨some 116, .read (.load (some 13)), [.t 3], none⟩,
 ⟨some 117, .pcall 26, [.t 116], none⟩,
 ⟨some 118, .pure (.field 11 1 false), [.t 117], none⟩,
 ⟨some 119, .pure (.build [.int .i64 0, .int .i64 0, .int .i64 0, .int .i64 0, .str [], .snil 11, .int .i64 0, .int .i64 0, .int .i64 0, .int .i64 0, .int .i64 0, .snil 6, .snil 13, .snil 17, .snil 15] [(0, 1), (12, 1)]), [.c (.int .i64 8), .t 118], none⟩,
 ⟨none, .eff (.store 15), [.t 2, .t 119], none⟩])
 .ret)
 (.seq (.ops [⟨some 121, .pure (.bin .eql), [.t 40, .c (.str [108, 105, 115, 116])], none⟩,
 ⟨some 120, .pure .move, [.t 121], none⟩])
 (.cond (.t 120)
 (.seq (.draw 1 [[⟨some 122, .read (.load (some 13)), [.t 3], none⟩,
 ⟨some 123, .pcall 537, [.t 122, .c (.int .i64 0)], none⟩,
 ⟨some 124, .pcall 536, [.t 123], none⟩,
 ⟨some 125, .read (.load (some 13)), [.t 3], none⟩,
 ⟨some 126, .pcall 537, [.t 125, .c (.int .i64 1)], none⟩,
 ⟨some 127, .pcall 536, [.t 126], none⟩,
 ⟨some 128, .read (.load (some 13)), [.t 3], none⟩,
 ⟨some 129, .pcall 537, [.t 128, .c (.int .i64 2)], none⟩,
 ⟨some 130, .pcall 497, [.t 129], none⟩,
 ⟨some 131, .newAt 0 (.buildSlice 15 [.agg [.int .i64 0, .int .i64 0, .int .i64 0, .int .i64 0, .str [], .snil 11, .int .i64 0, .int .i64 0, .int .i64 0, .int .i64 0, .int .i64 0, .snil 6, .snil 13, .snil 17, .snil 15]] [0]), [.t 130], none⟩,
 ⟨some 132, .pure (.build [.int .i64 0, .int .i64 0, .int .i64 0, .int .i64 0, .str [], .snil 11, .int .i64 0, .int .i64 0, .int .i64 0, .int .i64 0, .int .i64 0, .snil 6, .snil 13, .snil 17, .snil 15] [(0, 1), (2, 1), (3, 1), (14, 1)]), [.c (.int .i64 9), .t 124, .t 127, .t 131], none⟩,
 ⟨none, .eff (.store 15), [.t 2, .t 132], none⟩]])
 .ret)
 (.seq (.ops [⟨some 134, .pure (.bin .eql), [.t 40, .c (.str [109, 97, 112])], none⟩,
 ⟨some 133, .pure .move, [.t 134], none⟩])
 (.cond (.t 133)
 (.seq (.ops [⟨some 135, .read (.load (some 13)), [.t 3], none⟩,
 ⟨some 136, .pcall 537, [.t 135, .c (.int .i64 1)], none⟩,
 ⟨some 137, .pcall 497, [.t 136], none⟩,
 ⟨some 138, .new (.buildSlice 15 [.agg [.int .i64 0, .int .i64 0, .int .i64 0, .int .i64 0, .str [], .snil 11, .int .i64 0, .int .i64 0, .int .i64 0, .int .i64 0, .int .i64 0, .snil 6, .snil 13, .snil 17, .snil 15]] [0]), [.t 137], none⟩,
 ⟨some 139, .pure (.build [.int .i64 0, .int .i64 0, .int .i64 0, .int .i64 0, .str [], .snil 11, .int .i64 0, .int .i64 0, .int .i64 0, .int .i64 0, .int .i64 0, .snil 6, .snil 13, .snil 17, .snil 15] [(0, 1), (14, 1)]), [.c (.int .i64 10), .t 138], none⟩,
 ⟨some 14, .new (.new 15 [.agg [.int .i64 0, .int .i64 0, .int .i64 0, .int .i64 0, .str [], .snil 11, .int .i64 0, .int .i64 0, .int .i64 0, .int .i64 0, .int .i64 0, .snil 6, .snil 13, .snil 17, .snil 15]]), [], none⟩,
 ⟨none, .eff (.store 15), [.t 14, .t 139], none⟩])
 (.seq (.seq (.ops [⟨some 140, .read (.load (some 13)), [.t 3], none⟩,
 ⟨some 141, .pcall 537, [.t 140, .c (.int .i64 0)], none⟩,
 ⟨some 142, .pure (.field 11 1 false), [.t 141], none⟩,
 ⟨some 143, .pure .lenL, [.t 142], none⟩,
 ⟨some 144, .pure .move, [.c (.int .i64 0)], none⟩])
 (.block 7
 (.loop [2, 14, 142, 143, 144]
 (.seq (.ops [⟨some 145, .pure (.bin .lss), [.t 144, .t 143], none⟩])
 (.seq (.cond (.t 145)
 .skip
 (.exit 7))
 (.seq (.block 8
 (.seq (.ops [⟨some 146, .pure (.iaddrS 13), [.t 142, .t 144], none⟩,
 ⟨some 147, .read (.load (some 13)), [.t 146], none⟩,
 ⟨some 16, .new (.new 13 [.agg [.int .i64 0, .bool false, .bool false, .str [], .int .i64 0, .int .i64 0, .int .i64 0, .int .i64 0, .int .i64 0, .str [], .snil 1, .snil 13, .snil 14]]), [], none⟩,
 ⟨none, .eff (.store 13), [.t 16, .t 147], none⟩])
 (.draw 1 [[⟨some 148, .pure (.faddr 13), [.t 14], none⟩,
 ⟨some 149, .read (.load none), [.t 148], none⟩,
 ⟨some 150, .read (.load (some 13)), [.t 16], none⟩,
 ⟨some 151, .pcall 537, [.t 150, .c (.int .i64 0)], none⟩,
 ⟨some 152, .pure (.field 9 1 false), [.t 151], none⟩,
 ⟨some 153, .read (.load (some 13)), [.t 16], none⟩,
 ⟨some 154, .pcall 537, [.t 153, .c (.int .i64 1)], none⟩,
 ⟨some 155, .pure (.field 1 1 false), [.t 154], none⟩,
 ⟨some 156, .read (.load (some 13)), [.t 16], none⟩,
 ⟨some 157, .pcall 537, [.t 156, .c (.int .i64 2)], none⟩,
 ⟨some 158, .pcall 497, [.t 157], none⟩,
 ⟨some 159, .pure (.build [.str [], .bool false, .int .i64 0, .int .i64 0, .int .i64 0, .int .i64 0, .str [], .snil 11, .int .i64 0, .int .i64 0, .int .i64 0, .int .i64 0, .int .i64 0, .snil 6, .snil 13, .snil 17, .snil 15] [(0, 1), (1, 1), (2, 15)]), [.t 152, .t 155, .t 158], none⟩,
 ⟨some 160, .newAt 0 (.buildSlice 17 [.agg [.str [], .bool false, .int .i64 0, .int .i64 0, .int .i64 0, .int .i64 0, .str [], .snil 11, .int .i64 0, .int .i64 0, .int .i64 0, .int .i64 0, .int .i64 0, .snil 6, .snil 13, .snil 17, .snil 15]] [0]), [.t 159], none⟩,
 ⟨some 161, .eff (.append 17 232), [.t 149, .t 160], none⟩,
 ⟨some 162, .pure (.faddr 13), [.t 14], none⟩,
 ⟨none, .eff (.store 1), [.t 162, .t 161], none⟩]])))
 (.ops [⟨some 163, .pure (.bin .add), [.t 144, .c (.int .i64 1)], none⟩,
 ⟨some 144, .pure .move, [.t 163], none⟩])))))))
 (.seq (.ops [⟨some 164, .read (.load (some 15)), [.t 14], none⟩,
 ⟨none, .eff (.store 15), [.t 2, .t 164], none⟩])
 .ret)))
 (.seq (.ops [⟨some 166, .pure (.bin .eql), [.t 40, .c (.str [97, 108, 108])], none⟩,
 ⟨some 165, .pure .move, [.t 166], none⟩])
 (.cond (.t 165)
 (.seq (.ops [⟨some 167, .pure .move, [.t 4], none⟩,
 ⟨some 168, .callv, [.t 167, .c (.int .i64 11)], none⟩,
 ⟨none, .eff (.store 15), [.t 2, .t 168], none⟩])
 .ret)
 (.seq (.ops [⟨some 170, .pure (.bin .eql), [.t 40, .c (.str [97, 110, 121])], none⟩,
 ⟨some 169, .pure .move, [.t 170], none⟩])
 (.cond (.t 169)
 (.seq (.ops [⟨some 171, .pure .move, [.t 4], none⟩,
 ⟨some 172, .callv, [.t 171, .c (.int .i64 12)], none⟩,
 ⟨none, .eff (.store 15), [.t 2, .t 172], none⟩])
 .ret)
 (.seq (.ops [⟨some 174, .pure (.bin .eql), [.t 40, .c (.str [110, 111, 116])], none⟩,
 ⟨some 173, .pure .move, [.t 174], none⟩])
 (.cond (.t 173)
 (.seq (.ops [⟨some 175, .read (.load (some 13)), [.t 3], none⟩,
 ⟨some 176, .pcall 497, [.t 175], none⟩,
 ⟨some 177, .new (.buildSlice 15 [.agg [.int .i64 0, .int .i64 0, .int .i64 0, .int .i64 0, .str [], .snil 11, .int .i64 0, .int .i64 0, .int .i64 0, .int .i64 0, .int .i64 0, .snil 6, .snil 13, .snil 17, .snil 15]] [0]), [.t 176], none⟩,
 ⟨some 178, .pure (.build [.int .i64 0, .int .i64 0, .int .i64 0, .int .i64 0, .str [], .snil 11, .int .i64 0, .int .i64 0, .int .i64 0, .int .i64 0, .int .i64 0, .snil 6, .snil 13, .snil 17, .snil 15] [(0, 1), (14, 1)]), [.c (.int .i64 13), .t 177], none⟩,
 ⟨none, .eff (.store 15), [.t 2, .t 178], none⟩])
 .ret)
 .skip))))))))))))))))))))))))
 (.seq (.ops [⟨some 179, .pure (.faddr 9), [.t 3], none⟩,
 ⟨some 180, .read (.load none), [.t 179], none⟩,
 ⟨some 181, .pure (.build [.int .i64 0, .int .i64 0, .int .i64 0, .int .i64 0, .str [], .snil 11, .int .i64 0, .int .i64 0, .int .i64 0, .int .i64 0, .int .i64 0, .snil 6, .snil 13, .snil 17, .snil 15] [(0, 1), (4, 1)]), [.c (.int .i64 14), .t 180], none⟩,
 ⟨none, .eff (.store 15), [.t 2, .t 181], none⟩])
 .ret)))))) }
/-- datakit/value.Same -/
def ac498 : AFn :=
 { nt := 8, res := [.tmp 4], body :=
 (.seq (.ops [⟨some 2, .new (.box 13), [.t 0], none⟩,
 ⟨some 3, .new (.box 13), [.t 1], none⟩,
 ⟨some 4, .pure .move, [.c (.bool false)], none⟩])
 (.seq (.ops [⟨some 5, .read (.load (some 13)), [.t 2], none⟩,
 ⟨some 6, .read (.load (some 13)), [.t 3], none⟩,
 ⟨some 7, .pcall 254, [.t 5, .t 6, .c (.bool true), .c (.int .i64 65536)], none⟩,
 ⟨some 4, .pure .move, [.t 7], none⟩])
 .ret)) }
/-- datakit/datakitref45.count -/
def ac507 : AFn :=
 { nt := 28, res := [.tmp 4], body :=
 (.seq (.ops [⟨some 2, .new (.box 15), [.t 0], none⟩,
 ⟨some 4, .pure .move, [.c (.int .i64 0)], none⟩])
 (.seq (.seq (.ops [⟨some 8, .pure .move, [.t 1], none⟩,
 ⟨some 9, .pure (.bin .lss), [.t 8, .c (.int .i64 1)], none⟩])
 (.cond (.t 9)
 (.seq (.ops [⟨some 4, .pure .move, [.c (.int .i64 0)], none⟩])
 .ret)
 .skip))
 (.seq (.ops [⟨some 5, .pure .move, [.c (.int .i64 1)], none⟩])
 (.seq (.ops [⟨some 10, .read (.load (some 15)), [.t 2], none⟩,
 ⟨some 11, .pcall 515, [.t 10], none⟩,
 ⟨some 6, .pure .move, [.t 11], none⟩])
 (.seq (.seq (.ops [⟨some 7, .pure .move, [.c (.int .i64 0)], none⟩])
 (.block 0
 (.loop [1, 5, 6, 7]
 (.seq (.seq (.ops [⟨some 12, .pure .move, [.t 7], none⟩,
 ⟨some 13, .pure .move, [.t 6], none⟩,
 ⟨some 14, .pure .lenL, [.t 13], none⟩,
 ⟨some 15, .pure (.bin .lss), [.t 12, .t 14], none⟩])
 (.cond (.t 15)
 .skip
 (.exit 0)))
 (.seq (.block 1
 (.ops [⟨some 18, .pure .move, [.t 5], none⟩,
 ⟨some 19, .pure .move, [.t 6], none⟩,
 ⟨some 20, .pure .move, [.t 7], none⟩,
 ⟨some 21, .pure (.iaddrS 15), [.t 19, .t 20], none⟩,
 ⟨some 22, .read (.load (some 15)), [.t 21], none⟩,
 ⟨some 23, .pure .move, [.t 1], none⟩,
 ⟨some 24, .pure (.bin .sub), [.t 23, .c (.int .i64 1)], none⟩,
 ⟨some 25, .pcall 507, [.t 22, .t 24], none⟩,
 ⟨some 26, .pure (.bin .add), [.t 18, .t 25], none⟩,
 ⟨some 5, .pure .move, [.t 26], none⟩]))
 (.ops [⟨some 16, .pure .move, [.t 7], none⟩,
 ⟨some 17, .pure (.bin .add), [.t 16, .c (.int .i64 1)], none⟩,
 ⟨some 7, .pure .move, [.t 17], none⟩]))))))
 (.seq (.ops [⟨some 27, .pure .move, [.t 5], none⟩,
 ⟨some 4, .pure .move, [.t 27], none⟩])
 .ret)))))) }
/-- datakit/datakitlaw45.few -/
def ac508 : AFn :=
 { nt := 30, res := [.tmp 4], body :=
 (.seq (.ops [⟨some 2, .new (.box 15), [.t 0], none⟩,
 ⟨some 4, .pure .move, [.c (.bool false)], none⟩])
 (.seq (.seq (.ops [⟨some 7, .read (.load (some 15)), [.t 2], none⟩,
 ⟨some 8, .pcall 560, [.t 7], none⟩,
 ⟨some 9, .pure (.un .not), [.t 8], none⟩])
 (.cond (.t 9)
 (.seq (.ops [⟨some 4, .pure .move, [.c (.bool false)], none⟩])
 .ret)
 .skip))
 (.seq (.ops [⟨some 10, .read (.load (some 15)), [.t 2], none⟩,
 ⟨some 11, .pcall 515, [.t 10], none⟩,
 ⟨some 5, .pure .move, [.t 11], none⟩])
 (.seq (.seq (.ops [⟨some 6, .pure .move, [.c (.int .i64 0)], none⟩])
 (.block 0
 (.loop [1, 5, 6]
 (.seq (.seq (.ops [⟨some 12, .pure .move, [.t 6], none⟩,
 ⟨some 13, .pure .move, [.t 5], none⟩,
 ⟨some 14, .pure .lenL, [.t 13], none⟩,
 ⟨some 15, .pure (.bin .lss), [.t 12, .t 14], none⟩,
 ⟨some 16, .pure .move, [.t 15], none⟩,
 ⟨some 17, .pure .move, [.t 1], some (16, true)⟩,
 ⟨some 18, .pure (.bin .gtr), [.t 17, .c (.int .i64 1)], some (16, true)⟩,
 ⟨some 19, .pure .pick, [.t 16, .t 18, .c (.bool false)], none⟩])
 (.cond (.t 19)
 .skip
 (.exit 0)))
 (.seq (.block 1
 (.seq (.ops [⟨some 22, .pure .move, [.t 5], none⟩,
 ⟨some 23, .pure .move, [.t 6], none⟩,
 ⟨some 24, .pure (.iaddrS 15), [.t 22, .t 23], none⟩,
 ⟨some 25, .read (.load (some 15)), [.t 24], none⟩,
 ⟨some 26, .pure .move, [.t 1], none⟩,
 ⟨some 27, .pure (.bin .sub), [.t 26, .c (.int .i64 1)], none⟩,
 ⟨some 28, .pcall 508, [.t 25, .t 27], none⟩,
 ⟨some 29, .pure (.un .not), [.t 28], none⟩])
 (.cond (.t 29)
 (.seq (.ops [⟨some 4, .pure .move, [.c (.bool false)], none⟩])
 .ret)
 .skip)))
 (.ops [⟨some 20, .pure .move, [.t 6], none⟩,
 ⟨some 21, .pure (.bin .add), [.t 20, .c (.int .i64 1)], none⟩,
 ⟨some 6, .pure .move, [.t 21], none⟩]))))))
 (.seq (.ops [⟨some 4, .pure .move, [.c (.bool true)], none⟩])
 .ret))))) }
end Ago
