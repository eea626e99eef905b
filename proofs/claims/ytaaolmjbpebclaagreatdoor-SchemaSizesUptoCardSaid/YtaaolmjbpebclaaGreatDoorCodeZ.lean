/- The abstract code of the functions, printed by program. -/
import Derived.Test.YtaaolmjbpebclaaGreatDoorMachE
set_option linter.unusedSimpArgs false
set_option linter.unusedVariables false
set_option maxRecDepth 100000
namespace Ago
/-- datakit/datakitref07.Small -/
def ac18 : AFn :=
 { nt := 12, res := [.tmp 6], body :=
 (.seq (.ops [⟨some 3, .new (.box 13), [.t 0], none⟩,
 ⟨some 6, .pure .move, [.c (.bool false)], none⟩])
 (.seq (.ops [⟨some 7, .read (.load (some 13)), [.t 3], none⟩,
 ⟨some 8, .pure .move, [.t 1], none⟩,
 ⟨some 9, .pure .move, [.t 2], none⟩,
 ⟨some 10, .pcall 38, [.t 7, .t 8, .t 9], none⟩,
 ⟨some 11, .pure (.bin .geq), [.t 10, .c (.int .i64 0)], none⟩,
 ⟨some 6, .pure .move, [.t 11], none⟩])
 .ret)) }
/-- datakit/value.Copy -/
def ac26 : AFn :=
 { nt := 5, res := [.cell 2 (some 13)], body :=
 (.seq (.ops [⟨some 1, .new (.box 13), [.t 0], none⟩,
 ⟨some 2, .new (.new 13 [.agg [.int .i64 0, .bool false, .bool false, .str [], .int .i64 0, .int .i64 0, .int .i64 0, .int .i64 0, .int .i64 0, .str [], .snil 1, .snil 13, .snil 14]]), [], none⟩])
 (.seq (.ops [⟨some 3, .read (.load (some 13)), [.t 1], none⟩,
 ⟨some 4, .pcall 45, [.t 3, .c (.int .i64 65536)], none⟩,
 ⟨none, .eff (.store 13), [.t 2, .t 4], none⟩])
 .ret)) }
/-- datakit/datakitref07.Same -/
def ac29 : AFn :=
 { nt := 122, res := [.tmp 4], body :=
 (.seq (.ops [⟨some 2, .new (.box 13), [.t 0], none⟩,
 ⟨some 3, .new (.box 13), [.t 1], none⟩,
 ⟨some 4, .pure .move, [.c (.bool false)], none⟩])
 (.seq (.seq (.ops [⟨some 7, .pure (.faddr 0), [.t 2], none⟩,
 ⟨some 8, .read (.load none), [.t 7], none⟩,
 ⟨some 9, .pure (.faddr 0), [.t 3], none⟩,
 ⟨some 10, .read (.load none), [.t 9], none⟩,
 ⟨some 11, .pure (.bin .neq), [.t 8, .t 10], none⟩,
 ⟨some 12, .pure .move, [.t 11], none⟩,
 ⟨some 13, .pure (.faddr 1), [.t 2], some (12, false)⟩,
 ⟨some 14, .read (.load none), [.t 13], some (12, false)⟩,
 ⟨some 15, .pure (.faddr 1), [.t 3], some (12, false)⟩,
 ⟨some 16, .read (.load none), [.t 15], some (12, false)⟩,
 ⟨some 17, .pure (.eqB true), [.t 14, .t 16], some (12, false)⟩,
 ⟨some 18, .pure .pick, [.t 12, .c (.bool true), .t 17], none⟩,
 ⟨some 19, .pure .move, [.t 18], none⟩,
 ⟨some 20, .pure (.faddr 2), [.t 2], some (19, false)⟩,
 ⟨some 21, .read (.load (some 3)), [.t 20], some (19, false)⟩,
 ⟨some 22, .pure (.faddr 2), [.t 3], some (19, false)⟩,
 ⟨some 23, .read (.load (some 3)), [.t 22], some (19, false)⟩,
 ⟨some 24, .pure (.eqF [.bool, .str, .int] true), [.t 21, .t 23], some (19, false)⟩,
 ⟨some 25, .pure .pick, [.t 19, .c (.bool true), .t 24], none⟩,
 ⟨some 26, .pure .move, [.t 25], none⟩,
 ⟨some 27, .pure (.faddr 5), [.t 2], some (26, false)⟩,
 ⟨some 28, .read (.load (some 4)), [.t 27], some (26, false)⟩,
 ⟨some 29, .pure (.faddr 5), [.t 3], some (26, false)⟩,
 ⟨some 30, .read (.load (some 4)), [.t 29], some (26, false)⟩,
 ⟨some 31, .pure (.eqF [.int, .int, .int, .int] true), [.t 28, .t 30], some (26, false)⟩,
 ⟨some 32, .pure .pick, [.t 26, .c (.bool true), .t 31], none⟩,
 ⟨some 33, .pure .move, [.t 32], none⟩,
 ⟨some 34, .pure (.faddr 9), [.t 2], some (33, false)⟩,
 ⟨some 35, .read (.load none), [.t 34], some (33, false)⟩,
 ⟨some 36, .pure (.faddr 9), [.t 3], some (33, false)⟩,
 ⟨some 37, .read (.load none), [.t 36], some (33, false)⟩,
 ⟨some 38, .pure (.bin .neq), [.t 35, .t 37], some (33, false)⟩,
 ⟨some 39, .pure .pick, [.t 33, .c (.bool true), .t 38], none⟩,
 ⟨some 40, .pure .move, [.t 39], none⟩,
 ⟨some 41, .pure (.faddr 10), [.t 2], some (40, false)⟩,
 ⟨some 42, .read (.load none), [.t 41], some (40, false)⟩,
 ⟨some 43, .read .bytesStr, [.t 42], some (40, false)⟩,
 ⟨some 44, .pure (.faddr 10), [.t 3], some (40, false)⟩,
 ⟨some 45, .read (.load none), [.t 44], some (40, false)⟩,
 ⟨some 46, .read .bytesStr, [.t 45], some (40, false)⟩,
 ⟨some 47, .pure (.bin .neq), [.t 43, .t 46], some (40, false)⟩,
 ⟨some 48, .pure .pick, [.t 40, .c (.bool true), .t 47], none⟩,
 ⟨some 49, .pure .move, [.t 48], none⟩,
 ⟨some 50, .pure (.faddr 11), [.t 2], some (49, false)⟩,
 ⟨some 51, .read (.load none), [.t 50], some (49, false)⟩,
 ⟨some 52, .pure .lenL, [.t 51], some (49, false)⟩,
 ⟨some 53, .pure (.faddr 11), [.t 3], some (49, false)⟩,
 ⟨some 54, .read (.load none), [.t 53], some (49, false)⟩,
 ⟨some 55, .pure .lenL, [.t 54], some (49, false)⟩,
 ⟨some 56, .pure (.bin .neq), [.t 52, .t 55], some (49, false)⟩,
 ⟨some 57, .pure .pick, [.t 49, .c (.bool true), .t 56], none⟩,
 ⟨some 58, .pure .move, [.t 57], none⟩,
 ⟨some 59, .pure (.faddr 12), [.t 2], some (58, false)⟩,
 ⟨some 60, .read (.load none), [.t 59], some (58, false)⟩,
 ⟨some 61, .pure .lenL, [.t 60], some (58, false)⟩,
 ⟨some 62, .pure (.faddr 12), [.t 3], some (58, false)⟩,
 ⟨some 63, .read (.load none), [.t 62], some (58, false)⟩,
 ⟨some 64, .pure .lenL, [.t 63], some (58, false)⟩,
 ⟨some 65, .pure (.bin .neq), [.t 61, .t 64], some (58, false)⟩,
 ⟨some 66, .pure .pick, [.t 58, .c (.bool true), .t 65], none⟩])
 (.cond (.t 66)
 (.seq (.ops [⟨some 4, .pure .move, [.c (.bool false)], none⟩])
 .ret)
 .skip))
 (.seq (.seq (.ops [⟨some 5, .pure .move, [.c (.int .i64 0)], none⟩])
 (.block 0
 (.loop [2, 3, 5]
 (.seq (.seq (.ops [⟨some 67, .pure .move, [.t 5], none⟩,
 ⟨some 68, .pure (.faddr 11), [.t 2], none⟩,
 ⟨some 69, .read (.load none), [.t 68], none⟩,
 ⟨some 70, .pure .lenL, [.t 69], none⟩,
 ⟨some 71, .pure (.bin .lss), [.t 67, .t 70], none⟩])
 (.cond (.t 71)
 .skip
 (.exit 0)))
 (.seq (.block 1
 (.seq (.ops [⟨some 74, .pure (.faddr 11), [.t 2], none⟩,
 ⟨some 75, .read (.load none), [.t 74], none⟩,
 ⟨some 76, .pure .move, [.t 5], none⟩,
 ⟨some 77, .pure (.iaddrS 13), [.t 75, .t 76], none⟩,
 ⟨some 78, .read (.load (some 13)), [.t 77], none⟩,
 ⟨some 79, .pure (.faddr 11), [.t 3], none⟩,
 ⟨some 80, .read (.load none), [.t 79], none⟩,
 ⟨some 81, .pure .move, [.t 5], none⟩,
 ⟨some 82, .pure (.iaddrS 13), [.t 80, .t 81], none⟩,
 ⟨some 83, .read (.load (some 13)), [.t 82], none⟩,
 ⟨some 84, .pcall 29, [.t 78, .t 83], none⟩,
 ⟨some 85, .pure (.un .not), [.t 84], none⟩])
 (.cond (.t 85)
 (.seq (.ops [⟨some 4, .pure .move, [.c (.bool false)], none⟩])
 .ret)
 .skip)))
 (.ops [⟨some 72, .pure .move, [.t 5], none⟩,
 ⟨some 73, .pure (.bin .add), [.t 72, .c (.int .i64 1)], none⟩,
 ⟨some 5, .pure .move, [.t 73], none⟩]))))))
 (.seq (.seq (.ops [⟨some 6, .pure .move, [.c (.int .i64 0)], none⟩])
 (.block 2
 (.loop [2, 3, 6]
 (.seq (.seq (.ops [⟨some 86, .pure .move, [.t 6], none⟩,
 ⟨some 87, .pure (.faddr 12), [.t 2], none⟩,
 ⟨some 88, .read (.load none), [.t 87], none⟩,
 ⟨some 89, .pure .lenL, [.t 88], none⟩,
 ⟨some 90, .pure (.bin .lss), [.t 86, .t 89], none⟩])
 (.cond (.t 90)
 .skip
 (.exit 2)))
 (.seq (.block 3
 (.seq (.ops [⟨some 93, .pure (.faddr 12), [.t 2], none⟩,
 ⟨some 94, .read (.load none), [.t 93], none⟩,
 ⟨some 95, .pure .move, [.t 6], none⟩,
 ⟨some 96, .pure (.iaddrS 14), [.t 94, .t 95], none⟩,
 ⟨some 97, .pure (.faddr 0), [.t 96], none⟩,
 ⟨some 98, .read (.load none), [.t 97], none⟩,
 ⟨some 99, .pure (.faddr 12), [.t 3], none⟩,
 ⟨some 100, .read (.load none), [.t 99], none⟩,
 ⟨some 101, .pure .move, [.t 6], none⟩,
 ⟨some 102, .pure (.iaddrS 14), [.t 100, .t 101], none⟩,
 ⟨some 103, .pure (.faddr 0), [.t 102], none⟩,
 ⟨some 104, .read (.load none), [.t 103], none⟩,
 ⟨some 105, .pure (.bin .neq), [.t 98, .t 104], none⟩,
 ⟨some 106, .pure .move, [.t 105], none⟩,
 ⟨some 107, .pure (.faddr 12), [.t 2], some (106, false)⟩,
 ⟨some 108, .read (.load none), [.t 107], some (106, false)⟩,
 ⟨some 109, .pure .move, [.t 6], some (106, false)⟩,
 ⟨some 110, .pure (.iaddrS 14), [.t 108, .t 109], some (106, false)⟩,
 ⟨some 111, .pure (.faddr 1), [.t 110], some (106, false)⟩,
 ⟨some 112, .read (.load (some 13)), [.t 111], some (106, false)⟩,
 ⟨some 113, .pure (.faddr 12), [.t 3], some (106, false)⟩,
 ⟨some 114, .read (.load none), [.t 113], some (106, false)⟩,
 ⟨some 115, .pure .move, [.t 6], some (106, false)⟩,
 ⟨some 116, .pure (.iaddrS 14), [.t 114, .t 115], some (106, false)⟩,
 ⟨some 117, .pure (.faddr 1), [.t 116], some (106, false)⟩,
 ⟨some 118, .read (.load (some 13)), [.t 117], some (106, false)⟩,
 ⟨some 119, .pcall 29, [.t 112, .t 118], some (106, false)⟩,
 ⟨some 120, .pure (.un .not), [.t 119], some (106, false)⟩,
 ⟨some 121, .pure .pick, [.t 106, .c (.bool true), .t 120], none⟩])
 (.cond (.t 121)
 (.seq (.ops [⟨some 4, .pure .move, [.c (.bool false)], none⟩])
 .ret)
 .skip)))
 (.ops [⟨some 91, .pure .move, [.t 6], none⟩,
 ⟨some 92, .pure (.bin .add), [.t 91, .c (.int .i64 1)], none⟩,
 ⟨some 6, .pure .move, [.t 92], none⟩]))))))
 (.seq (.ops [⟨some 4, .pure .move, [.c (.bool true)], none⟩])
 .ret))))) }
/-- datakit/datakitref07.room -/
def ac38 : AFn :=
 { nt := 69, res := [.tmp 6], body :=
 (.seq (.ops [⟨some 3, .new (.box 13), [.t 0], none⟩,
 ⟨some 6, .pure .move, [.c (.int .i64 0)], none⟩])
 (.seq (.ops [⟨some 9, .pure .move, [.t 1], none⟩,
 ⟨some 10, .pure (.bin .sub), [.t 9, .c (.int .i64 1)], none⟩,
 ⟨some 1, .pure .move, [.t 10], none⟩])
 (.seq (.seq (.ops [⟨some 11, .pure .move, [.t 2], none⟩,
 ⟨some 12, .pure (.bin .leq), [.t 11, .c (.int .i64 0)], none⟩,
 ⟨some 13, .pure .move, [.t 12], none⟩,
 ⟨some 14, .pure (.faddr 11), [.t 3], some (13, false)⟩,
 ⟨some 15, .read (.load none), [.t 14], some (13, false)⟩,
 ⟨some 16, .pure .lenL, [.t 15], some (13, false)⟩,
 ⟨some 17, .pure .move, [.t 1], some (13, false)⟩,
 ⟨some 18, .pure (.bin .gtr), [.t 16, .t 17], some (13, false)⟩,
 ⟨some 19, .pure .pick, [.t 13, .c (.bool true), .t 18], none⟩,
 ⟨some 20, .pure .move, [.t 19], none⟩,
 ⟨some 21, .pure (.faddr 12), [.t 3], some (20, false)⟩,
 ⟨some 22, .read (.load none), [.t 21], some (20, false)⟩,
 ⟨some 23, .pure .lenL, [.t 22], some (20, false)⟩,
 ⟨some 24, .pure .move, [.t 1], some (20, false)⟩,
 ⟨some 25, .pure (.bin .gtr), [.t 23, .t 24], some (20, false)⟩,
 ⟨some 26, .pure .pick, [.t 20, .c (.bool true), .t 25], none⟩])
 (.cond (.t 26)
 (.seq (.ops [⟨some 6, .pure .move, [.c (.int .i64 (-1))], none⟩])
 .ret)
 .skip))
 (.seq (.seq (.ops [⟨some 7, .pure .move, [.c (.int .i64 0)], none⟩])
 (.block 0
 (.loop [1, 2, 3, 7]
 (.seq (.seq (.ops [⟨some 27, .pure .move, [.t 7], none⟩,
 ⟨some 28, .pure (.faddr 11), [.t 3], none⟩,
 ⟨some 29, .read (.load none), [.t 28], none⟩,
 ⟨some 30, .pure .lenL, [.t 29], none⟩,
 ⟨some 31, .pure (.bin .lss), [.t 27, .t 30], none⟩,
 ⟨some 32, .pure .move, [.t 31], none⟩,
 ⟨some 33, .pure .move, [.t 1], some (32, true)⟩,
 ⟨some 34, .pure (.bin .geq), [.t 33, .c (.int .i64 0)], some (32, true)⟩,
 ⟨some 35, .pure .pick, [.t 32, .t 34, .c (.bool false)], none⟩])
 (.cond (.t 35)
 .skip
 (.exit 0)))
 (.seq (.block 1
 (.ops [⟨some 38, .pure (.faddr 11), [.t 3], none⟩,
 ⟨some 39, .read (.load none), [.t 38], none⟩,
 ⟨some 40, .pure .move, [.t 7], none⟩,
 ⟨some 41, .pure (.iaddrS 13), [.t 39, .t 40], none⟩,
 ⟨some 42, .read (.load (some 13)), [.t 41], none⟩,
 ⟨some 43, .pure .move, [.t 1], none⟩,
 ⟨some 44, .pure .move, [.t 2], none⟩,
 ⟨some 45, .pure (.bin .sub), [.t 44, .c (.int .i64 1)], none⟩,
 ⟨some 46, .pcall 38, [.t 42, .t 43, .t 45], none⟩,
 ⟨some 1, .pure .move, [.t 46], none⟩]))
 (.ops [⟨some 36, .pure .move, [.t 7], none⟩,
 ⟨some 37, .pure (.bin .add), [.t 36, .c (.int .i64 1)], none⟩,
 ⟨some 7, .pure .move, [.t 37], none⟩]))))))
 (.seq (.seq (.ops [⟨some 8, .pure .move, [.c (.int .i64 0)], none⟩])
 (.block 2
 (.loop [1, 2, 3, 8]
 (.seq (.seq (.ops [⟨some 47, .pure .move, [.t 8], none⟩,
 ⟨some 48, .pure (.faddr 12), [.t 3], none⟩,
 ⟨some 49, .read (.load none), [.t 48], none⟩,
 ⟨some 50, .pure .lenL, [.t 49], none⟩,
 ⟨some 51, .pure (.bin .lss), [.t 47, .t 50], none⟩,
 ⟨some 52, .pure .move, [.t 51], none⟩,
 ⟨some 53, .pure .move, [.t 1], some (52, true)⟩,
 ⟨some 54, .pure (.bin .geq), [.t 53, .c (.int .i64 0)], some (52, true)⟩,
 ⟨some 55, .pure .pick, [.t 52, .t 54, .c (.bool false)], none⟩])
 (.cond (.t 55)
 .skip
 (.exit 2)))
 (.seq (.block 3
 (.ops [⟨some 58, .pure (.faddr 12), [.t 3], none⟩,
 ⟨some 59, .read (.load none), [.t 58], none⟩,
 ⟨some 60, .pure .move, [.t 8], none⟩,
 ⟨some 61, .pure (.iaddrS 14), [.t 59, .t 60], none⟩,
 ⟨some 62, .pure (.faddr 1), [.t 61], none⟩,
 ⟨some 63, .read (.load (some 13)), [.t 62], none⟩,
 ⟨some 64, .pure .move, [.t 1], none⟩,
 ⟨some 65, .pure .move, [.t 2], none⟩,
 ⟨some 66, .pure (.bin .sub), [.t 65, .c (.int .i64 1)], none⟩,
 ⟨some 67, .pcall 38, [.t 63, .t 64, .t 66], none⟩,
 ⟨some 1, .pure .move, [.t 67], none⟩]))
 (.ops [⟨some 56, .pure .move, [.t 8], none⟩,
 ⟨some 57, .pure (.bin .add), [.t 56, .c (.int .i64 1)], none⟩,
 ⟨some 8, .pure .move, [.t 57], none⟩]))))))
 (.seq (.ops [⟨some 68, .pure .move, [.t 1], none⟩,
 ⟨some 6, .pure .move, [.t 68], none⟩])
 .ret)))))) }
/-- datakit/value.copied -/
def ac45 : AFn :=
 { nt := 59, res := [.cell 4 (some 13)], body :=
 (.seq (.ops [⟨some 2, .new (.box 13), [.t 0], none⟩,
 ⟨some 4, .new (.new 13 [.agg [.int .i64 0, .bool false, .bool false, .str [], .int .i64 0, .int .i64 0, .int .i64 0, .int .i64 0, .int .i64 0, .str [], .snil 1, .snil 13, .snil 14]]), [], none⟩])
 (.seq (.ops [⟨some 11, .pure (.faddr 10), [.t 2], none⟩,
 ⟨some 12, .read (.load none), [.t 11], none⟩,
 ⟨some 13, .pcall 62, [.t 12], none⟩,
 ⟨some 14, .pure (.faddr 10), [.t 2], none⟩,
 ⟨none, .eff (.store 1), [.t 14, .t 13], none⟩])
 (.seq (.seq (.ops [⟨some 15, .pure .move, [.t 1], none⟩,
 ⟨some 16, .pure (.bin .lss), [.t 15, .c (.int .i64 1)], none⟩])
 (.cond (.t 16)
 (.seq (.ops [⟨some 17, .pure (.faddr 11), [.t 2], none⟩,
 ⟨none, .eff (.store 1), [.t 17, .c (.snil 13)], none⟩,
 ⟨some 18, .pure (.faddr 12), [.t 2], none⟩,
 ⟨none, .eff (.store 1), [.t 18, .c (.snil 14)], none⟩])
 (.seq (.ops [⟨some 19, .read (.load (some 13)), [.t 2], none⟩,
 ⟨none, .eff (.store 13), [.t 4, .t 19], none⟩])
 .ret))
 .skip))
 (.seq (.ops [⟨some 5, .pure .move, [.c (.snil 13)], none⟩])
 (.seq (.seq (.ops [⟨some 20, .pure (.faddr 11), [.t 2], none⟩,
 ⟨some 21, .read (.load none), [.t 20], none⟩,
 ⟨some 22, .pure .lenL, [.t 21], none⟩,
 ⟨some 23, .pure .move, [.c (.int .i64 0)], none⟩])
 (.block 0
 (.loop [1, 2, 4, 5, 21, 22, 23]
 (.seq (.ops [⟨some 24, .pure (.bin .lss), [.t 23, .t 22], none⟩])
 (.seq (.cond (.t 24)
 .skip
 (.exit 0))
 (.seq (.block 1
 (.seq (.ops [⟨some 25, .pure (.iaddrS 13), [.t 21, .t 23], none⟩,
 ⟨some 26, .read (.load (some 13)), [.t 25], none⟩,
 ⟨some 7, .new (.new 13 [.agg [.int .i64 0, .bool false, .bool false, .str [], .int .i64 0, .int .i64 0, .int .i64 0, .int .i64 0, .int .i64 0, .str [], .snil 1, .snil 13, .snil 14]]), [], none⟩,
 ⟨none, .eff (.store 13), [.t 7, .t 26], none⟩])
 (.ops [⟨some 27, .pure .move, [.t 5], none⟩,
 ⟨some 28, .read (.load (some 13)), [.t 7], none⟩,
 ⟨some 29, .pure .move, [.t 1], none⟩,
 ⟨some 30, .pure (.bin .sub), [.t 29, .c (.int .i64 1)], none⟩,
 ⟨some 31, .pcall 45, [.t 28, .t 30], none⟩,
 ⟨some 32, .new (.buildSlice 13 [.agg [.int .i64 0, .bool false, .bool false, .str [], .int .i64 0, .int .i64 0, .int .i64 0, .int .i64 0, .int .i64 0, .str [], .snil 1, .snil 13, .snil 14]] [0]), [.t 31], none⟩,
 ⟨some 33, .eff (.append 13 168), [.t 27, .t 32], none⟩,
 ⟨some 5, .pure .move, [.t 33], none⟩])))
 (.ops [⟨some 34, .pure (.bin .add), [.t 23, .c (.int .i64 1)], none⟩,
 ⟨some 23, .pure .move, [.t 34], none⟩])))))))
 (.seq (.ops [⟨some 8, .pure .move, [.c (.snil 14)], none⟩])
 (.seq (.seq (.ops [⟨some 35, .pure (.faddr 12), [.t 2], none⟩,
 ⟨some 36, .read (.load none), [.t 35], none⟩,
 ⟨some 37, .pure .lenL, [.t 36], none⟩,
 ⟨some 38, .pure .move, [.c (.int .i64 0)], none⟩])
 (.block 2
 (.loop [1, 2, 4, 5, 8, 36, 37, 38]
 (.seq (.ops [⟨some 39, .pure (.bin .lss), [.t 38, .t 37], none⟩])
 (.seq (.cond (.t 39)
 .skip
 (.exit 2))
 (.seq (.block 3
 (.seq (.ops [⟨some 40, .pure (.iaddrS 14), [.t 36, .t 38], none⟩,
 ⟨some 41, .read (.load (some 14)), [.t 40], none⟩,
 ⟨some 10, .new (.new 14 [.agg [.str [], .int .i64 0, .bool false, .bool false, .str [], .int .i64 0, .int .i64 0, .int .i64 0, .int .i64 0, .int .i64 0, .str [], .snil 1, .snil 13, .snil 14]]), [], none⟩,
 ⟨none, .eff (.store 14), [.t 10, .t 41], none⟩])
 (.draw 1 [[⟨some 42, .pure .move, [.t 8], none⟩,
 ⟨some 43, .pure (.faddr 0), [.t 10], none⟩,
 ⟨some 44, .read (.load none), [.t 43], none⟩,
 ⟨some 45, .pure (.faddr 1), [.t 10], none⟩,
 ⟨some 46, .read (.load (some 13)), [.t 45], none⟩,
 ⟨some 47, .pure .move, [.t 1], none⟩,
 ⟨some 48, .pure (.bin .sub), [.t 47, .c (.int .i64 1)], none⟩,
 ⟨some 49, .pcall 45, [.t 46, .t 48], none⟩,
 ⟨some 50, .pure (.build [.str [], .int .i64 0, .bool false, .bool false, .str [], .int .i64 0, .int .i64 0, .int .i64 0, .int .i64 0, .int .i64 0, .str [], .snil 1, .snil 13, .snil 14] [(0, 1), (1, 13)]), [.t 44, .t 49], none⟩,
 ⟨some 51, .newAt 0 (.buildSlice 14 [.agg [.str [], .int .i64 0, .bool false, .bool false, .str [], .int .i64 0, .int .i64 0, .int .i64 0, .int .i64 0, .int .i64 0, .str [], .snil 1, .snil 13, .snil 14]] [0]), [.t 50], none⟩,
 ⟨some 52, .eff (.append 14 184), [.t 42, .t 51], none⟩,
 ⟨some 8, .pure .move, [.t 52], none⟩]])))
 (.ops [⟨some 53, .pure (.bin .add), [.t 38, .c (.int .i64 1)], none⟩,
 ⟨some 38, .pure .move, [.t 53], none⟩])))))))
 (.seq (.ops [⟨some 54, .pure .move, [.t 5], none⟩,
 ⟨some 55, .pure .move, [.t 8], none⟩,
 ⟨some 56, .pure (.faddr 11), [.t 2], none⟩,
 ⟨none, .eff (.store 1), [.t 56, .t 54], none⟩,
 ⟨some 57, .pure (.faddr 12), [.t 2], none⟩,
 ⟨none, .eff (.store 1), [.t 57, .t 55], none⟩])
 (.seq (.ops [⟨some 58, .read (.load (some 13)), [.t 2], none⟩,
 ⟨none, .eff (.store 13), [.t 4, .t 58], none⟩])
 .ret))))))))) }
/-- datakit/utf.Valid -/
def ac46 : AFn :=
 { nt := 12, res := [.tmp 2], body :=
 (.seq (.ops [⟨some 2, .pure .move, [.c (.bool false)], none⟩])
 (.seq (.ops [⟨some 6, .pure .move, [.t 0], none⟩,
 ⟨some 7, .pcall 63, [.t 6], none⟩,
 ⟨some 5, .pure .move, [.t 7], none⟩,
 ⟨some 8, .pure (.ext 0), [.t 5], none⟩,
 ⟨some 9, .pure (.ext 1), [.t 5], none⟩,
 ⟨some 3, .pure .move, [.t 8], none⟩,
 ⟨some 4, .pure .move, [.t 9], none⟩])
 (.seq (.ops [⟨some 10, .pure .move, [.t 4], none⟩,
 ⟨some 11, .pure (.bin .eql), [.t 10, .c (.int .i64 0)], none⟩,
 ⟨some 2, .pure .move, [.t 11], none⟩])
 .ret))) }
/-- datakit/utf.Len -/
def ac63 : AFn :=
 { nt := 26, res := [.tmp 2, .tmp 3], body :=
 (.seq (.ops [⟨some 2, .pure .move, [.c (.int .i64 0)], none⟩,
 ⟨some 3, .pure .move, [.c (.int .i64 0)], none⟩])
 (.seq (.ops [⟨some 4, .pure .move, [.c (.int .i64 0)], none⟩])
 (.seq (.seq (.ops [⟨some 5, .pure .move, [.c (.int .i64 0)], none⟩])
 (.block 0
 (.loop [0, 4, 5]
 (.seq (.seq (.ops [⟨some 8, .pure .move, [.t 5], none⟩,
 ⟨some 9, .pure .move, [.t 0], none⟩,
 ⟨some 10, .pure .lenS, [.t 9], none⟩,
 ⟨some 11, .pure (.bin .lss), [.t 8, .t 10], none⟩])
 (.cond (.t 11)
 .skip
 (.exit 0)))
 (.seq (.block 1
 (.seq (.ops [⟨some 15, .pure .move, [.t 0], none⟩,
 ⟨some 16, .pure .move, [.t 5], none⟩,
 ⟨some 17, .pcall 84, [.t 15, .t 16], none⟩,
 ⟨some 14, .pure .move, [.t 17], none⟩,
 ⟨some 18, .pure (.ext 0), [.t 14], none⟩,
 ⟨some 19, .pure (.ext 1), [.t 14], none⟩,
 ⟨some 6, .pure .move, [.t 18], none⟩,
 ⟨some 7, .pure .move, [.t 19], none⟩])
 (.seq (.seq (.ops [⟨some 20, .pure .move, [.t 7], none⟩,
 ⟨some 21, .pure (.bin .eql), [.t 20, .c (.int .i64 0)], none⟩])
 (.cond (.t 21)
 (.seq (.ops [⟨some 2, .pure .move, [.c (.int .i64 0)], none⟩,
 ⟨some 3, .pure .move, [.c (.int .i64 5)], none⟩])
 .ret)
 .skip))
 (.ops [⟨some 22, .pure .move, [.t 5], none⟩,
 ⟨some 23, .pure .move, [.t 7], none⟩,
 ⟨some 24, .pure (.bin .add), [.t 22, .t 23], none⟩,
 ⟨some 5, .pure .move, [.t 24], none⟩]))))
 (.ops [⟨some 12, .pure .move, [.t 4], none⟩,
 ⟨some 13, .pure (.bin .add), [.t 12, .c (.int .i64 1)], none⟩,
 ⟨some 4, .pure .move, [.t 13], none⟩]))))))
 (.seq (.ops [⟨some 25, .pure .move, [.t 4], none⟩,
 ⟨some 2, .pure .move, [.t 25], none⟩,
 ⟨some 3, .pure .move, [.c (.int .i64 0)], none⟩])
 .ret)))) }
/-- math/bits.Len64 -/
def ac73 : AFn :=
 { nt := 25, res := [.tmp 2], body :=
 (.seq (.ops [⟨some 2, .pure .move, [.c (.int .i64 0)], none⟩])
 (.seq (.seq (.ops [⟨some 3, .pure .move, [.t 0], none⟩,
 ⟨some 4, .pure (.bin .geq), [.t 3, .c (.int .u64 4294967296)], none⟩])
 (.cond (.t 4)
 (.seq (.ops [⟨some 5, .pure .move, [.t 0], none⟩,
 ⟨some 6, .pure (.bin .shr), [.t 5, .c (.int .u64 32)], none⟩,
 ⟨some 0, .pure .move, [.t 6], none⟩])
 (.ops [⟨some 2, .pure .move, [.c (.int .i64 32)], none⟩]))
 .skip))
 (.seq (.seq (.ops [⟨some 7, .pure .move, [.t 0], none⟩,
 ⟨some 8, .pure (.bin .geq), [.t 7, .c (.int .u64 65536)], none⟩])
 (.cond (.t 8)
 (.seq (.ops [⟨some 9, .pure .move, [.t 0], none⟩,
 ⟨some 10, .pure (.bin .shr), [.t 9, .c (.int .u64 16)], none⟩,
 ⟨some 0, .pure .move, [.t 10], none⟩])
 (.ops [⟨some 11, .pure .move, [.t 2], none⟩,
 ⟨some 12, .pure (.bin .add), [.t 11, .c (.int .i64 16)], none⟩,
 ⟨some 2, .pure .move, [.t 12], none⟩]))
 .skip))
 (.seq (.seq (.ops [⟨some 13, .pure .move, [.t 0], none⟩,
 ⟨some 14, .pure (.bin .geq), [.t 13, .c (.int .u64 256)], none⟩])
 (.cond (.t 14)
 (.seq (.ops [⟨some 15, .pure .move, [.t 0], none⟩,
 ⟨some 16, .pure (.bin .shr), [.t 15, .c (.int .u64 8)], none⟩,
 ⟨some 0, .pure .move, [.t 16], none⟩])
 (.ops [⟨some 17, .pure .move, [.t 2], none⟩,
 ⟨some 18, .pure (.bin .add), [.t 17, .c (.int .i64 8)], none⟩,
 ⟨some 2, .pure .move, [.t 18], none⟩]))
 .skip))
 (.seq (.ops [⟨some 19, .pure .move, [.t 2], none⟩,
 ⟨some 20, .pure .move, [.t 0], none⟩,
 ⟨some 21, .pure (.conv .u8), [.t 20], none⟩,
 ⟨some 22, .pure .idxStr, [.c (.str [0, 1, 2, 2, 3, 3, 3, 3, 4, 4, 4, 4, 4, 4, 4, 4, 5, 5, 5, 5, 5, 5, 5, 5, 5, 5, 5, 5, 5, 5, 5, 5, 6, 6, 6, 6, 6, 6, 6, 6, 6, 6, 6, 6, 6, 6, 6, 6, 6, 6, 6, 6, 6, 6, 6, 6, 6, 6, 6, 6, 6, 6, 6, 6, 7, 7, 7, 7, 7, 7, 7, 7, 7, 7, 7, 7, 7, 7, 7, 7, 7, 7, 7, 7, 7, 7, 7, 7, 7, 7, 7, 7, 7, 7, 7, 7, 7, 7, 7, 7, 7, 7, 7, 7, 7, 7, 7, 7, 7, 7, 7, 7, 7, 7, 7, 7, 7, 7, 7, 7, 7, 7, 7, 7, 7, 7, 7, 7, 8, 8, 8, 8, 8, 8, 8, 8, 8, 8, 8, 8, 8, 8, 8, 8, 8, 8, 8, 8, 8, 8, 8, 8, 8, 8, 8, 8, 8, 8, 8, 8, 8, 8, 8, 8, 8, 8, 8, 8, 8, 8, 8, 8, 8, 8, 8, 8, 8, 8, 8, 8, 8, 8, 8, 8, 8, 8, 8, 8, 8, 8, 8, 8, 8, 8, 8, 8, 8, 8, 8, 8, 8, 8, 8, 8, 8, 8, 8, 8, 8, 8, 8, 8, 8, 8, 8, 8, 8, 8, 8, 8, 8, 8, 8, 8, 8, 8, 8, 8, 8, 8, 8, 8, 8, 8, 8, 8, 8, 8, 8, 8, 8, 8, 8, 8, 8, 8, 8, 8, 8, 8, 8, 8, 8, 8, 8, 8]), .t 21], none⟩,
 ⟨some 23, .pure (.conv .i64), [.t 22], none⟩,
 ⟨some 24, .pure (.bin .add), [.t 19, .t 23], none⟩,
 ⟨some 2, .pure .move, [.t 24], none⟩])
 .ret))))) }
/-- datakit/utf.Decode -/
def ac84 : AFn :=
 { nt := 64, res := [.tmp 4, .tmp 5], body :=
 (.seq (.ops [⟨some 4, .pure .move, [.c (.int .i64 0)], none⟩,
 ⟨some 5, .pure .move, [.c (.int .i64 0)], none⟩])
 (.seq (.seq (.ops [⟨some 9, .pure .move, [.t 1], none⟩,
 ⟨some 10, .pure (.bin .lss), [.t 9, .c (.int .i64 0)], none⟩,
 ⟨some 11, .pure .move, [.t 10], none⟩,
 ⟨some 12, .pure .move, [.t 1], some (11, false)⟩,
 ⟨some 13, .pure .move, [.t 0], some (11, false)⟩,
 ⟨some 14, .pure .lenS, [.t 13], some (11, false)⟩,
 ⟨some 15, .pure (.bin .geq), [.t 12, .t 14], some (11, false)⟩,
 ⟨some 16, .pure .pick, [.t 11, .c (.bool true), .t 15], none⟩])
 (.cond (.t 16)
 (.seq (.ops [⟨some 4, .pure .move, [.c (.int .i64 0)], none⟩,
 ⟨some 5, .pure .move, [.c (.int .i64 0)], none⟩])
 .ret)
 .skip))
 (.seq (.ops [⟨some 18, .pure .move, [.t 0], none⟩,
 ⟨some 19, .pure .move, [.t 1], none⟩,
 ⟨some 20, .pure .idxStr, [.t 18, .t 19], none⟩,
 ⟨some 21, .pcall 94, [.t 20], none⟩,
 ⟨some 17, .pure .move, [.t 21], none⟩,
 ⟨some 22, .pure (.ext 0), [.t 17], none⟩,
 ⟨some 23, .pure (.ext 1), [.t 17], none⟩,
 ⟨some 6, .pure .move, [.t 22], none⟩,
 ⟨some 4, .pure .move, [.t 23], none⟩])
 (.seq (.seq (.ops [⟨some 24, .pure .move, [.t 6], none⟩,
 ⟨some 25, .pure (.bin .eql), [.t 24, .c (.int .i64 0)], none⟩,
 ⟨some 26, .pure .move, [.t 25], none⟩,
 ⟨some 27, .pure .move, [.t 6], some (26, false)⟩,
 ⟨some 28, .pure .move, [.t 0], some (26, false)⟩,
 ⟨some 29, .pure .lenS, [.t 28], some (26, false)⟩,
 ⟨some 30, .pure .move, [.t 1], some (26, false)⟩,
 ⟨some 31, .pure (.bin .sub), [.t 29, .t 30], some (26, false)⟩,
 ⟨some 32, .pure (.bin .gtr), [.t 27, .t 31], some (26, false)⟩,
 ⟨some 33, .pure .pick, [.t 26, .c (.bool true), .t 32], none⟩])
 (.cond (.t 33)
 (.seq (.ops [⟨some 4, .pure .move, [.c (.int .i64 0)], none⟩,
 ⟨some 5, .pure .move, [.c (.int .i64 0)], none⟩])
 .ret)
 .skip))
 (.seq (.seq (.ops [⟨some 7, .pure .move, [.c (.int .i64 1)], none⟩])
 (.block 0
 (.loop [0, 1, 4, 6, 7]
 (.seq (.seq (.ops [⟨some 34, .pure .move, [.t 7], none⟩,
 ⟨some 35, .pure .move, [.t 6], none⟩,
 ⟨some 36, .pure (.bin .lss), [.t 34, .t 35], none⟩])
 (.cond (.t 36)
 .skip
 (.exit 0)))
 (.seq (.block 1
 (.seq (.ops [⟨some 39, .pure .move, [.t 0], none⟩,
 ⟨some 40, .pure .move, [.t 1], none⟩,
 ⟨some 41, .pure .move, [.t 7], none⟩,
 ⟨some 42, .pure (.bin .add), [.t 40, .t 41], none⟩,
 ⟨some 43, .pure .idxStr, [.t 39, .t 42], none⟩,
 ⟨some 8, .pure .move, [.t 43], none⟩])
 (.seq (.seq (.ops [⟨some 44, .pure .move, [.t 8], none⟩,
 ⟨some 45, .pure (.bin .and), [.t 44, .c (.int .u8 192)], none⟩,
 ⟨some 46, .pure (.bin .neq), [.t 45, .c (.int .u8 128)], none⟩])
 (.cond (.t 46)
 (.seq (.ops [⟨some 4, .pure .move, [.c (.int .i64 0)], none⟩,
 ⟨some 5, .pure .move, [.c (.int .i64 0)], none⟩])
 .ret)
 .skip))
 (.ops [⟨some 47, .pure .move, [.t 4], none⟩,
 ⟨some 48, .pure (.bin .shl), [.t 47, .c (.int .u64 6)], none⟩,
 ⟨some 49, .pure .move, [.t 8], none⟩,
 ⟨some 50, .pure (.bin .and), [.t 49, .c (.int .u8 63)], none⟩,
 ⟨some 51, .pure (.conv .i64), [.t 50], none⟩,
 ⟨some 52, .pure (.bin .or), [.t 48, .t 51], none⟩,
 ⟨some 4, .pure .move, [.t 52], none⟩]))))
 (.ops [⟨some 37, .pure .move, [.t 7], none⟩,
 ⟨some 38, .pure (.bin .add), [.t 37, .c (.int .i64 1)], none⟩,
 ⟨some 7, .pure .move, [.t 38], none⟩]))))))
 (.seq (.seq (.ops [⟨some 53, .pure .move, [.t 4], none⟩,
 ⟨some 54, .pcall 95, [.t 53], none⟩,
 ⟨some 55, .pure (.un .not), [.t 54], none⟩,
 ⟨some 56, .pure .move, [.t 55], none⟩,
 ⟨some 57, .pure .move, [.t 4], some (56, false)⟩,
 ⟨some 58, .pcall 96, [.t 57], some (56, false)⟩,
 ⟨some 59, .pure .move, [.t 6], some (56, false)⟩,
 ⟨some 60, .pure (.bin .neq), [.t 58, .t 59], some (56, false)⟩,
 ⟨some 61, .pure .pick, [.t 56, .c (.bool true), .t 60], none⟩])
 (.cond (.t 61)
 (.seq (.ops [⟨some 4, .pure .move, [.c (.int .i64 0)], none⟩,
 ⟨some 5, .pure .move, [.c (.int .i64 0)], none⟩])
 .ret)
 .skip))
 (.seq (.ops [⟨some 62, .pure .move, [.t 4], none⟩,
 ⟨some 63, .pure .move, [.t 6], none⟩,
 ⟨some 4, .pure .move, [.t 62], none⟩,
 ⟨some 5, .pure .move, [.t 63], none⟩])
 .ret))))))) }
/-- datakit/utf.head -/
def ac94 : AFn :=
 { nt := 39, res := [.tmp 2, .tmp 3], body :=
 (.seq (.ops [⟨some 2, .pure .move, [.c (.int .i64 0)], none⟩,
 ⟨some 3, .pure .move, [.c (.int .i64 0)], none⟩])
 (.seq (.block 0
 (.seq (.ops [⟨some 5, .pure .move, [.t 0], none⟩,
 ⟨some 6, .pure (.bin .lss), [.t 5, .c (.int .u8 128)], none⟩,
 ⟨some 4, .pure .move, [.t 6], none⟩])
 (.cond (.t 4)
 (.seq (.ops [⟨some 7, .pure .move, [.t 0], none⟩,
 ⟨some 8, .pure (.conv .i64), [.t 7], none⟩,
 ⟨some 2, .pure .move, [.c (.int .i64 1)], none⟩,
 ⟨some 3, .pure .move, [.t 8], none⟩])
 .ret)
 (.seq (.ops [⟨some 10, .pure .move, [.t 0], none⟩,
 ⟨some 11, .pure (.bin .geq), [.t 10, .c (.int .u8 192)], none⟩,
 ⟨some 12, .pure .move, [.t 11], none⟩,
 ⟨some 13, .pure .move, [.t 0], some (12, true)⟩,
 ⟨some 14, .pure (.bin .lss), [.t 13, .c (.int .u8 224)], some (12, true)⟩,
 ⟨some 15, .pure .pick, [.t 12, .t 14, .c (.bool false)], none⟩,
 ⟨some 9, .pure .move, [.t 15], none⟩])
 (.cond (.t 9)
 (.seq (.ops [⟨some 16, .pure .move, [.t 0], none⟩,
 ⟨some 17, .pure (.bin .and), [.t 16, .c (.int .u8 31)], none⟩,
 ⟨some 18, .pure (.conv .i64), [.t 17], none⟩,
 ⟨some 2, .pure .move, [.c (.int .i64 2)], none⟩,
 ⟨some 3, .pure .move, [.t 18], none⟩])
 .ret)
 (.seq (.ops [⟨some 20, .pure .move, [.t 0], none⟩,
 ⟨some 21, .pure (.bin .geq), [.t 20, .c (.int .u8 224)], none⟩,
 ⟨some 22, .pure .move, [.t 21], none⟩,
 ⟨some 23, .pure .move, [.t 0], some (22, true)⟩,
 ⟨some 24, .pure (.bin .lss), [.t 23, .c (.int .u8 240)], some (22, true)⟩,
 ⟨some 25, .pure .pick, [.t 22, .t 24, .c (.bool false)], none⟩,
 ⟨some 19, .pure .move, [.t 25], none⟩])
 (.cond (.t 19)
 (.seq (.ops [⟨some 26, .pure .move, [.t 0], none⟩,
 ⟨some 27, .pure (.bin .and), [.t 26, .c (.int .u8 15)], none⟩,
 ⟨some 28, .pure (.conv .i64), [.t 27], none⟩,
 ⟨some 2, .pure .move, [.c (.int .i64 3)], none⟩,
 ⟨some 3, .pure .move, [.t 28], none⟩])
 .ret)
 (.seq (.ops [⟨some 30, .pure .move, [.t 0], none⟩,
 ⟨some 31, .pure (.bin .geq), [.t 30, .c (.int .u8 240)], none⟩,
 ⟨some 32, .pure .move, [.t 31], none⟩,
 ⟨some 33, .pure .move, [.t 0], some (32, true)⟩,
 ⟨some 34, .pure (.bin .lss), [.t 33, .c (.int .u8 248)], some (32, true)⟩,
 ⟨some 35, .pure .pick, [.t 32, .t 34, .c (.bool false)], none⟩,
 ⟨some 29, .pure .move, [.t 35], none⟩])
 (.cond (.t 29)
 (.seq (.ops [⟨some 36, .pure .move, [.t 0], none⟩,
 ⟨some 37, .pure (.bin .and), [.t 36, .c (.int .u8 7)], none⟩,
 ⟨some 38, .pure (.conv .i64), [.t 37], none⟩,
 ⟨some 2, .pure .move, [.c (.int .i64 4)], none⟩,
 ⟨some 3, .pure .move, [.t 38], none⟩])
 .ret)
 .skip)))))))))
 (.seq (.ops [⟨some 2, .pure .move, [.c (.int .i64 0)], none⟩,
 ⟨some 3, .pure .move, [.c (.int .i64 0)], none⟩])
 .ret))) }
/-- datakit/utf.scalar -/
def ac95 : AFn :=
 { nt := 17, res := [.tmp 2], body :=
 (.seq (.ops [⟨some 2, .pure .move, [.c (.bool false)], none⟩])
 (.seq (.ops [⟨some 3, .pure .move, [.t 0], none⟩,
 ⟨some 4, .pure (.bin .geq), [.t 3, .c (.int .i64 0)], none⟩,
 ⟨some 5, .pure .move, [.t 4], none⟩,
 ⟨some 6, .pure .move, [.t 0], some (5, true)⟩,
 ⟨some 7, .pure (.bin .leq), [.t 6, .c (.int .i64 1114111)], some (5, true)⟩,
 ⟨some 8, .pure .pick, [.t 5, .t 7, .c (.bool false)], none⟩,
 ⟨some 9, .pure .move, [.t 8], none⟩,
 ⟨some 10, .pure .move, [.t 0], some (9, true)⟩,
 ⟨some 11, .pure (.bin .lss), [.t 10, .c (.int .i64 55296)], some (9, true)⟩,
 ⟨some 12, .pure .move, [.t 11], some (9, true)⟩,
 ⟨some 13, .pure .move, [.t 0], some (12, false)⟩,
 ⟨some 14, .pure (.bin .gtr), [.t 13, .c (.int .i64 57343)], some (12, false)⟩,
 ⟨some 15, .pure .pick, [.t 12, .c (.bool true), .t 14], some (9, true)⟩,
 ⟨some 16, .pure .pick, [.t 9, .t 15, .c (.bool false)], none⟩,
 ⟨some 2, .pure .move, [.t 16], none⟩])
 .ret)) }
/-- datakit/utf.width -/
def ac96 : AFn :=
 { nt := 12, res := [.tmp 2], body :=
 (.seq (.ops [⟨some 2, .pure .move, [.c (.int .i64 0)], none⟩])
 (.seq (.block 0
 (.seq (.ops [⟨some 4, .pure .move, [.t 0], none⟩,
 ⟨some 5, .pure (.bin .lss), [.t 4, .c (.int .i64 128)], none⟩,
 ⟨some 3, .pure .move, [.t 5], none⟩])
 (.cond (.t 3)
 (.seq (.ops [⟨some 2, .pure .move, [.c (.int .i64 1)], none⟩])
 .ret)
 (.seq (.ops [⟨some 7, .pure .move, [.t 0], none⟩,
 ⟨some 8, .pure (.bin .lss), [.t 7, .c (.int .i64 2048)], none⟩,
 ⟨some 6, .pure .move, [.t 8], none⟩])
 (.cond (.t 6)
 (.seq (.ops [⟨some 2, .pure .move, [.c (.int .i64 2)], none⟩])
 .ret)
 (.seq (.ops [⟨some 10, .pure .move, [.t 0], none⟩,
 ⟨some 11, .pure (.bin .lss), [.t 10, .c (.int .i64 65536)], none⟩,
 ⟨some 9, .pure .move, [.t 11], none⟩])
 (.cond (.t 9)
 (.seq (.ops [⟨some 2, .pure .move, [.c (.int .i64 3)], none⟩])
 .ret)
 .skip)))))))
 (.seq (.ops [⟨some 2, .pure .move, [.c (.int .i64 4)], none⟩])
 .ret))) }
/-- datakit/value.Int -/
def ac123 : AFn :=
 { nt := 6, res := [.cell 2 (some 13)], body :=
 (.seq (.ops [⟨some 2, .new (.new 13 [.agg [.int .i64 0, .bool false, .bool false, .str [], .int .i64 0, .int .i64 0, .int .i64 0, .int .i64 0, .int .i64 0, .str [], .snil 1, .snil 13, .snil 14]]), [], none⟩])
 (.seq (.ops [⟨some 3, .pure .move, [.t 0], none⟩,
 ⟨some 4, .pcall 129, [.t 3], none⟩,
 ⟨some 5, .pcall 128, [.t 4], none⟩,
 ⟨none, .eff (.store 13), [.t 2, .t 5], none⟩])
 .ret)) }
/-- datakit/value.Text -/
def ac124 : AFn :=
 { nt := 5, res := [.cell 2 (some 13)], body :=
 (.seq (.ops [⟨some 2, .new (.new 13 [.agg [.int .i64 0, .bool false, .bool false, .str [], .int .i64 0, .int .i64 0, .int .i64 0, .int .i64 0, .int .i64 0, .str [], .snil 1, .snil 13, .snil 14]]), [], none⟩])
 (.seq (.ops [⟨some 3, .pure .move, [.t 0], none⟩,
 ⟨some 4, .pure (.build [.int .i64 0, .bool false, .bool false, .str [], .int .i64 0, .int .i64 0, .int .i64 0, .int .i64 0, .int .i64 0, .str [], .snil 1, .snil 13, .snil 14] [(0, 1), (9, 1)]), [.c (.int .i64 4), .t 3], none⟩,
 ⟨none, .eff (.store 13), [.t 2, .t 4], none⟩])
 .ret)) }
/-- datakit/value.Check -/
def ac126 : AFn :=
 { nt := 6, res := [.tmp 2], body :=
 (.seq (.ops [⟨some 1, .new (.box 13), [.t 0], none⟩,
 ⟨some 2, .pure .move, [.c (.int .i64 0)], none⟩])
 (.seq (.ops [⟨some 3, .new (.new 1 [.int .i64 0]), [], none⟩,
 ⟨none, .eff (.store 1), [.t 3, .c (.int .i64 0)], none⟩])
 (.seq (.ops [⟨some 4, .read (.load (some 13)), [.t 1], none⟩,
 ⟨some 5, .call 133, [.t 4, .c (.int .i64 1), .t 3], none⟩,
 ⟨some 2, .pure .move, [.t 5], none⟩])
 .ret))) }
/-- datakit/value.Num -/
def ac128 : AFn :=
 { nt := 5, res := [.cell 2 (some 13)], body :=
 (.seq (.ops [⟨some 1, .new (.box 3), [.t 0], none⟩,
 ⟨some 2, .new (.new 13 [.agg [.int .i64 0, .bool false, .bool false, .str [], .int .i64 0, .int .i64 0, .int .i64 0, .int .i64 0, .int .i64 0, .str [], .snil 1, .snil 13, .snil 14]]), [], none⟩])
 (.seq (.ops [⟨some 3, .read (.load (some 3)), [.t 1], none⟩,
 ⟨some 4, .pure (.build [.int .i64 0, .bool false, .bool false, .str [], .int .i64 0, .int .i64 0, .int .i64 0, .int .i64 0, .int .i64 0, .str [], .snil 1, .snil 13, .snil 14] [(0, 1), (2, 3)]), [.c (.int .i64 2), .t 3], none⟩,
 ⟨none, .eff (.store 13), [.t 2, .t 4], none⟩])
 .ret)) }
/-- datakit/decimal.FromInt -/
def ac129 : AFn :=
 { nt := 34, res := [.cell 2 (some 3)], body :=
 (.seq (.ops [⟨some 2, .new (.new 3 [.agg [.bool false, .str [], .int .i64 0]]), [], none⟩])
 (.seq (.ops [⟨some 8, .pure .move, [.t 0], none⟩,
 ⟨some 9, .pure (.bin .lss), [.t 8, .c (.int .i64 0)], none⟩,
 ⟨some 3, .pure .move, [.t 9], none⟩])
 (.seq (.ops [⟨some 4, .pure .move, [.c (.str [])], none⟩])
 (.seq (.seq (.ops [⟨some 10, .pure .move, [.t 3], none⟩])
 (.cond (.t 10)
 (.seq (.ops [⟨some 11, .pure .move, [.t 0], none⟩,
 ⟨some 12, .pure (.bin .rem), [.t 11, .c (.int .i64 10)], none⟩,
 ⟨some 13, .pure (.un .neg), [.t 12], none⟩,
 ⟨some 5, .pure .move, [.t 13], none⟩])
 (.seq (.ops [⟨some 14, .pure .move, [.t 0], none⟩,
 ⟨some 15, .pure (.bin .quo), [.t 14, .c (.int .i64 10)], none⟩,
 ⟨some 16, .pure (.un .neg), [.t 15], none⟩,
 ⟨some 17, .pcall 136, [.t 16], none⟩,
 ⟨some 18, .pure .move, [.t 5], none⟩,
 ⟨some 19, .pure (.bin .add), [.c (.int .i64 48), .t 18], none⟩,
 ⟨some 20, .pure (.conv .i32), [.t 19], none⟩,
 ⟨some 21, .pure .runeStr, [.t 20], none⟩,
 ⟨some 22, .pure (.bin .add), [.t 17, .t 21], none⟩,
 ⟨some 4, .pure .move, [.t 22], none⟩])
 (.ops [⟨some 23, .pure .move, [.t 4], none⟩,
 ⟨some 24, .bad, [], none⟩,
 ⟨some 4, .pure .move, [.t 24], none⟩])))
 (.ops [⟨some 25, .pure .move, [.t 0], none⟩,
 ⟨some 26, .pcall 136, [.t 25], none⟩,
 ⟨some 4, .pure .move, [.t 26], none⟩])))
 (.seq (.ops [⟨some 28, .pure .move, [.t 3], none⟩,
 ⟨some 29, .pure .move, [.t 4], none⟩,
 ⟨some 30, .pcall 138, [.t 28, .t 29, .c (.int .i64 0)], none⟩,
 ⟨some 27, .pure .move, [.t 30], none⟩,
 ⟨some 31, .pure (.ext 0), [.t 27], none⟩,
 ⟨some 32, .pure (.ext 1), [.t 27], none⟩,
 ⟨some 6, .new (.new 3 [.agg [.bool false, .str [], .int .i64 0]]), [], none⟩,
 ⟨none, .eff (.store 3), [.t 6, .t 31], none⟩,
 ⟨some 7, .pure .move, [.t 32], none⟩])
 (.seq (.ops [⟨some 33, .read (.load (some 3)), [.t 6], none⟩,
 ⟨none, .eff (.store 3), [.t 2, .t 33], none⟩])
 .ret)))))) }
/-- datakit/value.check -/
def ac133 : AFn :=
 { nt := 121, res := [.tmp 6], body :=
 (.seq (.ops [⟨some 3, .new (.box 13), [.t 0], none⟩,
 ⟨some 6, .pure .move, [.c (.int .i64 0)], none⟩])
 (.seq (.ops [⟨some 14, .pure .move, [.t 2], none⟩,
 ⟨some 15, .pure .chk, [.t 14], none⟩,
 ⟨some 16, .read (.load none), [.t 15], none⟩,
 ⟨some 17, .pure (.bin .add), [.t 16, .c (.int .i64 1)], none⟩,
 ⟨some 18, .pure .chk, [.t 14], none⟩,
 ⟨none, .eff (.store 1), [.t 18, .t 17], none⟩])
 (.seq (.block 0
 (.seq (.ops [⟨some 20, .pure .move, [.t 1], none⟩,
 ⟨some 21, .pure (.bin .gtr), [.t 20, .c (.int .i64 48)], none⟩,
 ⟨some 19, .pure .move, [.t 21], none⟩])
 (.cond (.t 19)
 (.seq (.ops [⟨some 6, .pure .move, [.c (.int .i64 9)], none⟩])
 .ret)
 (.seq (.ops [⟨some 23, .pure .move, [.t 2], none⟩,
 ⟨some 24, .pure .chk, [.t 23], none⟩,
 ⟨some 25, .read (.load none), [.t 24], none⟩,
 ⟨some 26, .pure (.bin .gtr), [.t 25, .c (.int .i64 65536)], none⟩,
 ⟨some 22, .pure .move, [.t 26], none⟩])
 (.cond (.t 22)
 (.seq (.ops [⟨some 6, .pure .move, [.c (.int .i64 10)], none⟩])
 .ret)
 (.seq (.ops [⟨some 28, .pure (.faddr 0), [.t 3], none⟩,
 ⟨some 29, .read (.load none), [.t 28], none⟩,
 ⟨some 30, .pure (.bin .lss), [.t 29, .c (.int .i64 0)], none⟩,
 ⟨some 31, .pure .move, [.t 30], none⟩,
 ⟨some 32, .pure (.faddr 0), [.t 3], some (31, false)⟩,
 ⟨some 33, .read (.load none), [.t 32], some (31, false)⟩,
 ⟨some 34, .pure (.bin .geq), [.t 33, .c (.int .i64 8)], some (31, false)⟩,
 ⟨some 35, .pure .pick, [.t 31, .c (.bool true), .t 34], none⟩,
 ⟨some 36, .pure .move, [.t 35], none⟩,
 ⟨some 37, .read (.load (some 13)), [.t 3], some (36, false)⟩,
 ⟨some 38, .pcall 139, [.t 37], some (36, false)⟩,
 ⟨some 39, .pure .pick, [.t 36, .c (.bool true), .t 38], none⟩,
 ⟨some 27, .pure .move, [.t 39], none⟩])
 (.cond (.t 27)
 (.seq (.ops [⟨some 6, .pure .move, [.c (.int .i64 6)], none⟩])
 .ret)
 (.seq (.ops [⟨some 41, .pure (.faddr 0), [.t 3], none⟩,
 ⟨some 42, .read (.load none), [.t 41], none⟩,
 ⟨some 43, .pure (.bin .eql), [.t 42, .c (.int .i64 2)], none⟩,
 ⟨some 44, .pure .move, [.t 43], none⟩,
 ⟨some 45, .pure (.faddr 2), [.t 3], some (44, true)⟩,
 ⟨some 46, .read (.load (some 3)), [.t 45], some (44, true)⟩,
 ⟨some 47, .pcall 140, [.t 46], some (44, true)⟩,
 ⟨some 48, .pure (.un .not), [.t 47], some (44, true)⟩,
 ⟨some 49, .pure .pick, [.t 44, .t 48, .c (.bool false)], none⟩,
 ⟨some 50, .pure .move, [.t 49], none⟩,
 ⟨some 51, .pure (.faddr 0), [.t 3], some (50, false)⟩,
 ⟨some 52, .read (.load none), [.t 51], some (50, false)⟩,
 ⟨some 53, .pure (.bin .eql), [.t 52, .c (.int .i64 3)], some (50, false)⟩,
 ⟨some 54, .pure .move, [.t 53], some (50, false)⟩,
 ⟨some 55, .pure (.faddr 5), [.t 3], some (54, true)⟩,
 ⟨some 56, .read (.load (some 4)), [.t 55], some (54, true)⟩,
 ⟨some 57, .pcall 141, [.t 56], some (54, true)⟩,
 ⟨some 58, .pure (.un .not), [.t 57], some (54, true)⟩,
 ⟨some 59, .pure .pick, [.t 54, .t 58, .c (.bool false)], some (50, false)⟩,
 ⟨some 60, .pure .pick, [.t 50, .c (.bool true), .t 59], none⟩,
 ⟨some 40, .pure .move, [.t 60], none⟩])
 (.cond (.t 40)
 (.seq (.ops [⟨some 6, .pure .move, [.c (.int .i64 2)], none⟩])
 .ret)
 (.seq (.ops [⟨some 62, .pure (.faddr 0), [.t 3], none⟩,
 ⟨some 63, .read (.load none), [.t 62], none⟩,
 ⟨some 64, .pure (.bin .eql), [.t 63, .c (.int .i64 4)], none⟩,
 ⟨some 65, .pure .move, [.t 64], none⟩,
 ⟨some 66, .pure (.faddr 9), [.t 3], some (65, true)⟩,
 ⟨some 67, .read (.load none), [.t 66], some (65, true)⟩,
 ⟨some 68, .pcall 46, [.t 67], some (65, true)⟩,
 ⟨some 69, .pure (.un .not), [.t 68], some (65, true)⟩,
 ⟨some 70, .pure .pick, [.t 65, .t 69, .c (.bool false)], none⟩,
 ⟨some 61, .pure .move, [.t 70], none⟩])
 (.cond (.t 61)
 (.seq (.ops [⟨some 6, .pure .move, [.c (.int .i64 5)], none⟩])
 .ret)
 (.seq (.ops [⟨some 72, .pure (.faddr 9), [.t 3], none⟩,
 ⟨some 73, .read (.load none), [.t 72], none⟩,
 ⟨some 74, .pure .lenS, [.t 73], none⟩,
 ⟨some 75, .pure (.bin .gtr), [.t 74, .c (.int .i64 65536)], none⟩,
 ⟨some 76, .pure .move, [.t 75], none⟩,
 ⟨some 77, .pure (.faddr 10), [.t 3], some (76, false)⟩,
 ⟨some 78, .read (.load none), [.t 77], some (76, false)⟩,
 ⟨some 79, .pure .lenL, [.t 78], some (76, false)⟩,
 ⟨some 80, .pure (.bin .gtr), [.t 79, .c (.int .i64 65536)], some (76, false)⟩,
 ⟨some 81, .pure .pick, [.t 76, .c (.bool true), .t 80], none⟩,
 ⟨some 71, .pure .move, [.t 81], none⟩])
 (.cond (.t 71)
 (.seq (.ops [⟨some 6, .pure .move, [.c (.int .i64 10)], none⟩])
 .ret)
 .skip)))))))))))))
 (.seq (.seq (.ops [⟨some 82, .pure (.faddr 12), [.t 3], none⟩,
 ⟨some 83, .read (.load none), [.t 82], none⟩,
 ⟨some 84, .pcall 142, [.t 83], none⟩,
 ⟨some 7, .pure .move, [.t 84], none⟩])
 (.seq (.ops [⟨some 85, .pure .move, [.t 7], none⟩,
 ⟨some 86, .pure (.bin .neq), [.t 85, .c (.int .i64 0)], none⟩])
 (.cond (.t 86)
 (.seq (.ops [⟨some 87, .pure .move, [.t 7], none⟩,
 ⟨some 6, .pure .move, [.t 87], none⟩])
 .ret)
 .skip)))
 (.seq (.seq (.ops [⟨some 88, .pure (.faddr 11), [.t 3], none⟩,
 ⟨some 89, .read (.load none), [.t 88], none⟩,
 ⟨some 90, .pure .lenL, [.t 89], none⟩,
 ⟨some 91, .pure .move, [.c (.int .i64 0)], none⟩])
 (.block 1
 (.loop [1, 2, 3, 89, 90, 91]
 (.seq (.ops [⟨some 92, .pure (.bin .lss), [.t 91, .t 90], none⟩])
 (.seq (.cond (.t 92)
 .skip
 (.exit 1))
 (.seq (.block 2
 (.seq (.ops [⟨some 93, .pure (.iaddrS 13), [.t 89, .t 91], none⟩,
 ⟨some 94, .read (.load (some 13)), [.t 93], none⟩,
 ⟨some 9, .new (.new 13 [.agg [.int .i64 0, .bool false, .bool false, .str [], .int .i64 0, .int .i64 0, .int .i64 0, .int .i64 0, .int .i64 0, .str [], .snil 1, .snil 13, .snil 14]]), [], none⟩,
 ⟨none, .eff (.store 13), [.t 9, .t 94], none⟩])
 (.seq (.ops [⟨some 95, .read (.load (some 13)), [.t 9], none⟩,
 ⟨some 96, .pure .move, [.t 1], none⟩,
 ⟨some 97, .pure (.bin .add), [.t 96, .c (.int .i64 1)], none⟩,
 ⟨some 98, .pure .move, [.t 2], none⟩,
 ⟨some 99, .call 133, [.t 95, .t 97, .t 98], none⟩,
 ⟨some 10, .pure .move, [.t 99], none⟩])
 (.seq (.ops [⟨some 100, .pure .move, [.t 10], none⟩,
 ⟨some 101, .pure (.bin .neq), [.t 100, .c (.int .i64 0)], none⟩])
 (.cond (.t 101)
 (.seq (.ops [⟨some 102, .pure .move, [.t 10], none⟩,
 ⟨some 6, .pure .move, [.t 102], none⟩])
 .ret)
 .skip)))))
 (.ops [⟨some 103, .pure (.bin .add), [.t 91, .c (.int .i64 1)], none⟩,
 ⟨some 91, .pure .move, [.t 103], none⟩])))))))
 (.seq (.seq (.ops [⟨some 104, .pure (.faddr 12), [.t 3], none⟩,
 ⟨some 105, .read (.load none), [.t 104], none⟩,
 ⟨some 106, .pure .lenL, [.t 105], none⟩,
 ⟨some 107, .pure .move, [.c (.int .i64 0)], none⟩])
 (.block 3
 (.loop [1, 2, 105, 106, 107]
 (.seq (.ops [⟨some 108, .pure (.bin .lss), [.t 107, .t 106], none⟩])
 (.seq (.cond (.t 108)
 .skip
 (.exit 3))
 (.seq (.block 4
 (.seq (.ops [⟨some 109, .pure (.iaddrS 14), [.t 105, .t 107], none⟩,
 ⟨some 110, .read (.load (some 14)), [.t 109], none⟩,
 ⟨some 12, .new (.new 14 [.agg [.str [], .int .i64 0, .bool false, .bool false, .str [], .int .i64 0, .int .i64 0, .int .i64 0, .int .i64 0, .int .i64 0, .str [], .snil 1, .snil 13, .snil 14]]), [], none⟩,
 ⟨none, .eff (.store 14), [.t 12, .t 110], none⟩])
 (.seq (.ops [⟨some 111, .pure (.faddr 1), [.t 12], none⟩,
 ⟨some 112, .read (.load (some 13)), [.t 111], none⟩,
 ⟨some 113, .pure .move, [.t 1], none⟩,
 ⟨some 114, .pure (.bin .add), [.t 113, .c (.int .i64 1)], none⟩,
 ⟨some 115, .pure .move, [.t 2], none⟩,
 ⟨some 116, .call 133, [.t 112, .t 114, .t 115], none⟩,
 ⟨some 13, .pure .move, [.t 116], none⟩])
 (.seq (.ops [⟨some 117, .pure .move, [.t 13], none⟩,
 ⟨some 118, .pure (.bin .neq), [.t 117, .c (.int .i64 0)], none⟩])
 (.cond (.t 118)
 (.seq (.ops [⟨some 119, .pure .move, [.t 13], none⟩,
 ⟨some 6, .pure .move, [.t 119], none⟩])
 .ret)
 .skip)))))
 (.ops [⟨some 120, .pure (.bin .add), [.t 107, .c (.int .i64 1)], none⟩,
 ⟨some 107, .pure .move, [.t 120], none⟩])))))))
 (.seq (.ops [⟨some 6, .pure .move, [.c (.int .i64 0)], none⟩])
 .ret))))))) }
/-- datakit/digits.FromInt -/
def ac136 : AFn :=
 { nt := 19, res := [.tmp 2], body :=
 (.seq (.ops [⟨some 2, .pure .move, [.c (.str [])], none⟩])
 (.seq (.ops [⟨some 3, .pure .move, [.c (.snil 1)], none⟩])
 (.seq (.block 0
 (.loop [0, 3]
 (.seq (.seq (.ops [⟨some 4, .pure .move, [.t 0], none⟩,
 ⟨some 5, .pure (.bin .gtr), [.t 4, .c (.int .i64 0)], none⟩])
 (.cond (.t 5)
 .skip
 (.exit 0)))
 (.seq (.block 1
 (.ops [⟨some 8, .pure .move, [.t 3], none⟩,
 ⟨some 9, .pure .move, [.t 0], none⟩,
 ⟨some 10, .pure (.bin .rem), [.t 9, .c (.int .i64 10)], none⟩,
 ⟨some 11, .pure (.bin .add), [.c (.int .i64 48), .t 10], none⟩,
 ⟨some 12, .pure (.conv .u8), [.t 11], none⟩,
 ⟨some 13, .new (.buildSlice 1 [.int .u8 0] [0]), [.t 12], none⟩,
 ⟨some 14, .eff (.append 1 1), [.t 8, .t 13], none⟩,
 ⟨some 3, .pure .move, [.t 14], none⟩]))
 (.ops [⟨some 6, .pure .move, [.t 0], none⟩,
 ⟨some 7, .pure (.bin .quo), [.t 6, .c (.int .i64 10)], none⟩,
 ⟨some 0, .pure .move, [.t 7], none⟩])))))
 (.seq (.ops [⟨some 15, .pure .move, [.t 3], none⟩,
 ⟨some 16, .call 143, [.t 15], none⟩])
 (.seq (.ops [⟨some 17, .pure .move, [.t 3], none⟩,
 ⟨some 18, .read .bytesStr, [.t 17], none⟩,
 ⟨some 2, .pure .move, [.t 18], none⟩])
 .ret))))) }
/-- datakit/decimal.norm -/
def ac138 : AFn :=
 { nt := 46, res := [.cell 6 (some 3), .tmp 7], body :=
 (.seq (.ops [⟨some 6, .new (.new 3 [.agg [.bool false, .str [], .int .i64 0]]), [], none⟩,
 ⟨some 7, .pure .move, [.c (.int .i64 0)], none⟩])
 (.seq (.seq (.ops [⟨some 9, .pure .move, [.t 1], none⟩,
 ⟨some 10, .pure (.bin .eql), [.t 9, .c (.str [])], none⟩])
 (.cond (.t 10)
 (.seq (.ops [⟨some 11, .pure (.build [.bool false, .str [], .int .i64 0] []), [], none⟩,
 ⟨none, .eff (.store 3), [.t 6, .t 11], none⟩,
 ⟨some 7, .pure .move, [.c (.int .i64 0)], none⟩])
 .ret)
 .skip))
 (.seq (.ops [⟨some 12, .pure .move, [.t 1], none⟩,
 ⟨some 13, .pure .lenS, [.t 12], none⟩,
 ⟨some 14, .pure .move, [.t 1], none⟩,
 ⟨some 15, .pcall 148, [.t 14, .c (.str [48])], none⟩,
 ⟨some 16, .pure .lenS, [.t 15], none⟩,
 ⟨some 17, .pure (.bin .sub), [.t 13, .t 16], none⟩,
 ⟨some 8, .pure .move, [.t 17], none⟩])
 (.seq (.ops [⟨some 18, .pure .move, [.t 1], none⟩,
 ⟨some 19, .pure .move, [.t 1], none⟩,
 ⟨some 20, .pure .lenS, [.t 19], none⟩,
 ⟨some 21, .pure .move, [.t 8], none⟩,
 ⟨some 22, .pure (.bin .sub), [.t 20, .t 21], none⟩,
 ⟨some 23, .pure (.sliceS false true), [.t 18, .t 22], none⟩,
 ⟨some 1, .pure .move, [.t 23], none⟩])
 (.seq (.seq (.ops [⟨some 24, .pure .move, [.t 2], none⟩,
 ⟨some 25, .pure .move, [.t 8], none⟩,
 ⟨some 26, .pure (.bin .sub), [.c (.int .i64 400), .t 25], none⟩,
 ⟨some 27, .pure (.bin .gtr), [.t 24, .t 26], none⟩,
 ⟨some 28, .pure .move, [.t 27], none⟩,
 ⟨some 29, .pure .move, [.t 2], some (28, false)⟩,
 ⟨some 30, .pure .move, [.t 8], some (28, false)⟩,
 ⟨some 31, .pure (.bin .sub), [.c (.int .i64 (-400)), .t 30], some (28, false)⟩,
 ⟨some 32, .pure (.bin .lss), [.t 29, .t 31], some (28, false)⟩,
 ⟨some 33, .pure .pick, [.t 28, .c (.bool true), .t 32], none⟩,
 ⟨some 34, .pure .move, [.t 33], none⟩,
 ⟨some 35, .pure .move, [.t 1], some (34, false)⟩,
 ⟨some 36, .pure .lenS, [.t 35], some (34, false)⟩,
 ⟨some 37, .pure (.bin .gtr), [.t 36, .c (.int .i64 120)], some (34, false)⟩,
 ⟨some 38, .pure .pick, [.t 34, .c (.bool true), .t 37], none⟩])
 (.cond (.t 38)
 (.seq (.ops [⟨some 39, .pure (.build [.bool false, .str [], .int .i64 0] []), [], none⟩,
 ⟨none, .eff (.store 3), [.t 6, .t 39], none⟩,
 ⟨some 7, .pure .move, [.c (.int .i64 2)], none⟩])
 .ret)
 .skip))
 (.seq (.ops [⟨some 40, .pure .move, [.t 0], none⟩,
 ⟨some 41, .pure .move, [.t 1], none⟩,
 ⟨some 42, .pure .move, [.t 2], none⟩,
 ⟨some 43, .pure .move, [.t 8], none⟩,
 ⟨some 44, .pure (.bin .add), [.t 42, .t 43], none⟩,
 ⟨some 45, .pure (.build [.bool false, .str [], .int .i64 0] [(0, 1), (1, 1), (2, 1)]), [.t 40, .t 41, .t 44], none⟩,
 ⟨none, .eff (.store 3), [.t 6, .t 45], none⟩,
 ⟨some 7, .pure .move, [.c (.int .i64 0)], none⟩])
 .ret)))))) }
/-- datakit/value.extra -/
def ac139 : AFn :=
 { nt := 71, res := [.tmp 2], body :=
 (.seq (.ops [⟨some 1, .new (.box 13), [.t 0], none⟩,
 ⟨some 2, .pure .move, [.c (.bool false)], none⟩])
 (.seq (.ops [⟨some 4, .pure (.faddr 0), [.t 1], none⟩,
 ⟨some 5, .read (.load none), [.t 4], none⟩,
 ⟨some 3, .pure .move, [.t 5], none⟩])
 (.seq (.ops [⟨some 6, .pure .move, [.t 3], none⟩,
 ⟨some 7, .pure (.bin .neq), [.t 6, .c (.int .i64 1)], none⟩,
 ⟨some 8, .pure .move, [.t 7], none⟩,
 ⟨some 9, .pure (.faddr 1), [.t 1], some (8, true)⟩,
 ⟨some 10, .read (.load none), [.t 9], some (8, true)⟩,
 ⟨some 11, .pure .pick, [.t 8, .t 10, .c (.bool false)], none⟩,
 ⟨some 12, .pure .move, [.t 11], none⟩,
 ⟨some 13, .pure .move, [.t 3], some (12, false)⟩,
 ⟨some 14, .pure (.bin .neq), [.t 13, .c (.int .i64 2)], some (12, false)⟩,
 ⟨some 15, .pure .move, [.t 14], some (12, false)⟩,
 ⟨some 16, .pure (.faddr 2), [.t 1], some (15, true)⟩,
 ⟨some 17, .read (.load (some 3)), [.t 16], some (15, true)⟩,
 ⟨some 18, .pure (.build [.bool false, .str [], .int .i64 0] []), [], some (15, true)⟩,
 ⟨some 19, .pure (.eqF [.bool, .str, .int] true), [.t 17, .t 18], some (15, true)⟩,
 ⟨some 20, .pure .pick, [.t 15, .t 19, .c (.bool false)], some (12, false)⟩,
 ⟨some 21, .pure .pick, [.t 12, .c (.bool true), .t 20], none⟩,
 ⟨some 22, .pure .move, [.t 21], none⟩,
 ⟨some 23, .pure .move, [.t 3], some (22, false)⟩,
 ⟨some 24, .pure (.bin .neq), [.t 23, .c (.int .i64 3)], some (22, false)⟩,
 ⟨some 25, .pure .move, [.t 24], some (22, false)⟩,
 ⟨some 26, .pure (.faddr 5), [.t 1], some (25, true)⟩,
 ⟨some 27, .read (.load (some 4)), [.t 26], some (25, true)⟩,
 ⟨some 28, .pure (.build [.int .i64 0, .int .i64 0, .int .i64 0, .int .i64 0] []), [], some (25, true)⟩,
 ⟨some 29, .pure (.eqF [.int, .int, .int, .int] true), [.t 27, .t 28], some (25, true)⟩,
 ⟨some 30, .pure .pick, [.t 25, .t 29, .c (.bool false)], some (22, false)⟩,
 ⟨some 31, .pure .pick, [.t 22, .c (.bool true), .t 30], none⟩,
 ⟨some 32, .pure .move, [.t 31], none⟩,
 ⟨some 33, .pure .move, [.t 3], some (32, false)⟩,
 ⟨some 34, .pure (.bin .neq), [.t 33, .c (.int .i64 4)], some (32, false)⟩,
 ⟨some 35, .pure .move, [.t 34], some (32, false)⟩,
 ⟨some 36, .pure (.faddr 9), [.t 1], some (35, true)⟩,
 ⟨some 37, .read (.load none), [.t 36], some (35, true)⟩,
 ⟨some 38, .pure (.bin .neq), [.t 37, .c (.str [])], some (35, true)⟩,
 ⟨some 39, .pure .pick, [.t 35, .t 38, .c (.bool false)], some (32, false)⟩,
 ⟨some 40, .pure .pick, [.t 32, .c (.bool true), .t 39], none⟩,
 ⟨some 41, .pure .move, [.t 40], none⟩,
 ⟨some 42, .pure .move, [.t 3], some (41, false)⟩,
 ⟨some 43, .pure (.bin .neq), [.t 42, .c (.int .i64 5)], some (41, false)⟩,
 ⟨some 44, .pure .move, [.t 43], some (41, false)⟩,
 ⟨some 45, .pure (.faddr 10), [.t 1], some (44, true)⟩,
 ⟨some 46, .read (.load none), [.t 45], some (44, true)⟩,
 ⟨some 47, .pure .lenL, [.t 46], some (44, true)⟩,
 ⟨some 48, .pure (.bin .gtr), [.t 47, .c (.int .i64 0)], some (44, true)⟩,
 ⟨some 49, .pure .pick, [.t 44, .t 48, .c (.bool false)], some (41, false)⟩,
 ⟨some 50, .pure .pick, [.t 41, .c (.bool true), .t 49], none⟩,
 ⟨some 51, .pure .move, [.t 50], none⟩,
 ⟨some 52, .pure .move, [.t 3], some (51, false)⟩,
 ⟨some 53, .pure (.bin .neq), [.t 52, .c (.int .i64 6)], some (51, false)⟩,
 ⟨some 54, .pure .move, [.t 53], some (51, false)⟩,
 ⟨some 55, .pure (.faddr 11), [.t 1], some (54, true)⟩,
 ⟨some 56, .read (.load none), [.t 55], some (54, true)⟩,
 ⟨some 57, .pure .lenL, [.t 56], some (54, true)⟩,
 ⟨some 58, .pure (.bin .gtr), [.t 57, .c (.int .i64 0)], some (54, true)⟩,
 ⟨some 59, .pure .pick, [.t 54, .t 58, .c (.bool false)], some (51, false)⟩,
 ⟨some 60, .pure .pick, [.t 51, .c (.bool true), .t 59], none⟩,
 ⟨some 61, .pure .move, [.t 60], none⟩,
 ⟨some 62, .pure .move, [.t 3], some (61, false)⟩,
 ⟨some 63, .pure (.bin .neq), [.t 62, .c (.int .i64 7)], some (61, false)⟩,
 ⟨some 64, .pure .move, [.t 63], some (61, false)⟩,
 ⟨some 65, .pure (.faddr 12), [.t 1], some (64, true)⟩,
 ⟨some 66, .read (.load none), [.t 65], some (64, true)⟩,
 ⟨some 67, .pure .lenL, [.t 66], some (64, true)⟩,
 ⟨some 68, .pure (.bin .gtr), [.t 67, .c (.int .i64 0)], some (64, true)⟩,
 ⟨some 69, .pure .pick, [.t 64, .t 68, .c (.bool false)], some (61, false)⟩,
 ⟨some 70, .pure .pick, [.t 61, .c (.bool true), .t 69], none⟩,
 ⟨some 2, .pure .move, [.t 70], none⟩])
 .ret))) }
/-- datakit/decimal.Valid -/
def ac140 : AFn :=
 { nt := 34, res := [.tmp 2], body :=
 (.seq (.ops [⟨some 1, .new (.box 3), [.t 0], none⟩,
 ⟨some 2, .pure .move, [.c (.bool false)], none⟩])
 (.seq (.seq (.ops [⟨some 3, .pure (.faddr 1), [.t 1], none⟩,
 ⟨some 4, .read (.load none), [.t 3], none⟩,
 ⟨some 5, .pure (.bin .eql), [.t 4, .c (.str [])], none⟩])
 (.cond (.t 5)
 (.seq (.ops [⟨some 6, .read (.load (some 3)), [.t 1], none⟩,
 ⟨some 7, .pure (.build [.bool false, .str [], .int .i64 0] []), [], none⟩,
 ⟨some 8, .pure (.eqF [.bool, .str, .int] false), [.t 6, .t 7], none⟩,
 ⟨some 2, .pure .move, [.t 8], none⟩])
 .ret)
 .skip))
 (.seq (.ops [⟨some 9, .pure (.faddr 1), [.t 1], none⟩,
 ⟨some 10, .read (.load none), [.t 9], none⟩,
 ⟨some 11, .pcall 149, [.t 10], none⟩,
 ⟨some 12, .pure .move, [.t 11], none⟩,
 ⟨some 13, .pure (.faddr 1), [.t 1], some (12, true)⟩,
 ⟨some 14, .read (.load none), [.t 13], some (12, true)⟩,
 ⟨some 15, .pure .lenS, [.t 14], some (12, true)⟩,
 ⟨some 16, .pure (.bin .leq), [.t 15, .c (.int .i64 120)], some (12, true)⟩,
 ⟨some 17, .pure .pick, [.t 12, .t 16, .c (.bool false)], none⟩,
 ⟨some 18, .pure .move, [.t 17], none⟩,
 ⟨some 19, .pure (.faddr 1), [.t 1], some (18, true)⟩,
 ⟨some 20, .read (.load none), [.t 19], some (18, true)⟩,
 ⟨some 21, .pcall 150, [.t 20], some (18, true)⟩,
 ⟨some 22, .pure (.bin .eql), [.t 21, .c (.int .i64 0)], some (18, true)⟩,
 ⟨some 23, .pure .pick, [.t 18, .t 22, .c (.bool false)], none⟩,
 ⟨some 24, .pure .move, [.t 23], none⟩,
 ⟨some 25, .pure (.faddr 2), [.t 1], some (24, true)⟩,
 ⟨some 26, .read (.load none), [.t 25], some (24, true)⟩,
 ⟨some 27, .pure (.bin .geq), [.t 26, .c (.int .i64 (-400))], some (24, true)⟩,
 ⟨some 28, .pure .pick, [.t 24, .t 27, .c (.bool false)], none⟩,
 ⟨some 29, .pure .move, [.t 28], none⟩,
 ⟨some 30, .pure (.faddr 2), [.t 1], some (29, true)⟩,
 ⟨some 31, .read (.load none), [.t 30], some (29, true)⟩,
 ⟨some 32, .pure (.bin .leq), [.t 31, .c (.int .i64 400)], some (29, true)⟩,
 ⟨some 33, .pure .pick, [.t 29, .t 32, .c (.bool false)], none⟩,
 ⟨some 2, .pure .move, [.t 33], none⟩])
 .ret))) }
/-- datakit/moment.Valid -/
def ac141 : AFn :=
 { nt := 68, res := [.tmp 2], body :=
 (.seq (.ops [⟨some 1, .new (.box 4), [.t 0], none⟩,
 ⟨some 2, .pure .move, [.c (.bool false)], none⟩])
 (.seq (.seq (.ops [⟨some 3, .pure (.faddr 0), [.t 1], none⟩,
 ⟨some 4, .read (.load none), [.t 3], none⟩,
 ⟨some 5, .pure (.bin .lss), [.t 4, .c (.int .i64 1)], none⟩,
 ⟨some 6, .pure .move, [.t 5], none⟩,
 ⟨some 7, .pure (.faddr 0), [.t 1], some (6, false)⟩,
 ⟨some 8, .read (.load none), [.t 7], some (6, false)⟩,
 ⟨some 9, .pure (.bin .gtr), [.t 8, .c (.int .i64 4)], some (6, false)⟩,
 ⟨some 10, .pure .pick, [.t 6, .c (.bool true), .t 9], none⟩,
 ⟨some 11, .pure .move, [.t 10], none⟩,
 ⟨some 12, .pure (.faddr 1), [.t 1], some (11, false)⟩,
 ⟨some 13, .read (.load none), [.t 12], some (11, false)⟩,
 ⟨some 14, .pure (.bin .lss), [.t 13, .c (.int .i64 0)], some (11, false)⟩,
 ⟨some 15, .pure .pick, [.t 11, .c (.bool true), .t 14], none⟩,
 ⟨some 16, .pure .move, [.t 15], none⟩,
 ⟨some 17, .pure (.faddr 1), [.t 1], some (16, false)⟩,
 ⟨some 18, .read (.load none), [.t 17], some (16, false)⟩,
 ⟨some 19, .pure (.bin .gtr), [.t 18, .c (.int .i64 3652058)], some (16, false)⟩,
 ⟨some 20, .pure .pick, [.t 16, .c (.bool true), .t 19], none⟩,
 ⟨some 21, .pure .move, [.t 20], none⟩,
 ⟨some 22, .pure (.faddr 2), [.t 1], some (21, false)⟩,
 ⟨some 23, .read (.load none), [.t 22], some (21, false)⟩,
 ⟨some 24, .pure (.bin .lss), [.t 23, .c (.int .i64 0)], some (21, false)⟩,
 ⟨some 25, .pure .pick, [.t 21, .c (.bool true), .t 24], none⟩,
 ⟨some 26, .pure .move, [.t 25], none⟩,
 ⟨some 27, .pure (.faddr 2), [.t 1], some (26, false)⟩,
 ⟨some 28, .read (.load none), [.t 27], some (26, false)⟩,
 ⟨some 29, .pure (.bin .gtr), [.t 28, .c (.int .i64 86399999999999)], some (26, false)⟩,
 ⟨some 30, .pure .pick, [.t 26, .c (.bool true), .t 29], none⟩,
 ⟨some 31, .pure .move, [.t 30], none⟩,
 ⟨some 32, .pure (.faddr 3), [.t 1], some (31, false)⟩,
 ⟨some 33, .read (.load none), [.t 32], some (31, false)⟩,
 ⟨some 34, .pure (.bin .lss), [.t 33, .c (.int .i64 (-1439))], some (31, false)⟩,
 ⟨some 35, .pure .pick, [.t 31, .c (.bool true), .t 34], none⟩,
 ⟨some 36, .pure .move, [.t 35], none⟩,
 ⟨some 37, .pure (.faddr 3), [.t 1], some (36, false)⟩,
 ⟨some 38, .read (.load none), [.t 37], some (36, false)⟩,
 ⟨some 39, .pure (.bin .gtr), [.t 38, .c (.int .i64 1439)], some (36, false)⟩,
 ⟨some 40, .pure .pick, [.t 36, .c (.bool true), .t 39], none⟩])
 (.cond (.t 40)
 (.seq (.ops [⟨some 2, .pure .move, [.c (.bool false)], none⟩])
 .ret)
 .skip))
 (.seq (.seq (.ops [⟨some 41, .pure (.faddr 0), [.t 1], none⟩,
 ⟨some 42, .read (.load none), [.t 41], none⟩])
 (.block 0
 (.seq (.ops [⟨some 44, .pure (.bin .eql), [.t 42, .c (.int .i64 2)], none⟩,
 ⟨some 43, .pure .move, [.t 44], none⟩])
 (.cond (.t 43)
 (.seq (.ops [⟨some 45, .pure (.faddr 1), [.t 1], none⟩,
 ⟨some 46, .read (.load none), [.t 45], none⟩,
 ⟨some 47, .pure (.bin .eql), [.t 46, .c (.int .i64 0)], none⟩,
 ⟨some 48, .pure .move, [.t 47], none⟩,
 ⟨some 49, .pure (.faddr 3), [.t 1], some (48, true)⟩,
 ⟨some 50, .read (.load none), [.t 49], some (48, true)⟩,
 ⟨some 51, .pure (.bin .eql), [.t 50, .c (.int .i64 0)], some (48, true)⟩,
 ⟨some 52, .pure .pick, [.t 48, .t 51, .c (.bool false)], none⟩,
 ⟨some 2, .pure .move, [.t 52], none⟩])
 .ret)
 (.seq (.ops [⟨some 54, .pure (.bin .eql), [.t 42, .c (.int .i64 1)], none⟩,
 ⟨some 53, .pure .move, [.t 54], none⟩])
 (.cond (.t 53)
 (.seq (.ops [⟨some 55, .pure (.faddr 2), [.t 1], none⟩,
 ⟨some 56, .read (.load none), [.t 55], none⟩,
 ⟨some 57, .pure (.bin .eql), [.t 56, .c (.int .i64 0)], none⟩,
 ⟨some 58, .pure .move, [.t 57], none⟩,
 ⟨some 59, .pure (.faddr 3), [.t 1], some (58, true)⟩,
 ⟨some 60, .read (.load none), [.t 59], some (58, true)⟩,
 ⟨some 61, .pure (.bin .eql), [.t 60, .c (.int .i64 0)], some (58, true)⟩,
 ⟨some 62, .pure .pick, [.t 58, .t 61, .c (.bool false)], none⟩,
 ⟨some 2, .pure .move, [.t 62], none⟩])
 .ret)
 (.seq (.ops [⟨some 64, .pure (.bin .eql), [.t 42, .c (.int .i64 3)], none⟩,
 ⟨some 63, .pure .move, [.t 64], none⟩])
 (.cond (.t 63)
 (.seq (.ops [⟨some 65, .pure (.faddr 3), [.t 1], none⟩,
 ⟨some 66, .read (.load none), [.t 65], none⟩,
 ⟨some 67, .pure (.bin .eql), [.t 66, .c (.int .i64 0)], none⟩,
 ⟨some 2, .pure .move, [.t 67], none⟩])
 .ret)
 .skip))))))))
 (.seq (.ops [⟨some 2, .pure .move, [.c (.bool true)], none⟩])
 .ret)))) }
/-- datakit/value.keys -/
def ac142 : AFn :=
 { nt := 28, res := [.tmp 2], body :=
 (.seq (.ops [⟨some 2, .pure .move, [.c (.int .i64 0)], none⟩])
 (.seq (.ops [⟨some 7, .new .mkMap, [], none⟩,
 ⟨some 3, .pure .move, [.t 7], none⟩])
 (.seq (.seq (.ops [⟨some 8, .pure .move, [.t 0], none⟩,
 ⟨some 9, .pure .lenL, [.t 8], none⟩,
 ⟨some 10, .pure .move, [.c (.int .i64 0)], none⟩])
 (.block 0
 (.loop [3, 8, 9, 10]
 (.seq (.ops [⟨some 11, .pure (.bin .lss), [.t 10, .t 9], none⟩])
 (.seq (.cond (.t 11)
 .skip
 (.exit 0))
 (.seq (.block 1
 (.seq (.ops [⟨some 12, .pure (.iaddrS 14), [.t 8, .t 10], none⟩,
 ⟨some 13, .read (.load (some 14)), [.t 12], none⟩,
 ⟨some 5, .new (.new 14 [.agg [.str [], .int .i64 0, .bool false, .bool false, .str [], .int .i64 0, .int .i64 0, .int .i64 0, .int .i64 0, .int .i64 0, .str [], .snil 1, .snil 13, .snil 14]]), [], none⟩,
 ⟨none, .eff (.store 14), [.t 5, .t 13], none⟩])
 (.seq (.seq (.ops [⟨some 14, .pure (.faddr 0), [.t 5], none⟩,
 ⟨some 15, .read (.load none), [.t 14], none⟩,
 ⟨some 16, .pcall 151, [.t 15], none⟩,
 ⟨some 6, .pure .move, [.t 16], none⟩])
 (.seq (.ops [⟨some 17, .pure .move, [.t 6], none⟩,
 ⟨some 18, .pure (.bin .neq), [.t 17, .c (.int .i64 0)], none⟩])
 (.cond (.t 18)
 (.seq (.ops [⟨some 19, .pure .move, [.t 6], none⟩,
 ⟨some 2, .pure .move, [.t 19], none⟩])
 .ret)
 .skip)))
 (.seq (.seq (.ops [⟨some 20, .pure .move, [.t 3], none⟩,
 ⟨some 21, .pure (.faddr 0), [.t 5], none⟩,
 ⟨some 22, .read (.load none), [.t 21], none⟩,
 ⟨some 23, .read (.lookup (.one .str) (.bool false) false), [.t 20, .t 22], none⟩])
 (.cond (.t 23)
 (.seq (.ops [⟨some 2, .pure .move, [.c (.int .i64 8)], none⟩])
 .ret)
 .skip))
 (.ops [⟨some 24, .pure .move, [.t 3], none⟩,
 ⟨some 25, .pure (.faddr 0), [.t 5], none⟩,
 ⟨some 26, .read (.load none), [.t 25], none⟩,
 ⟨none, .eff (.mapSet (.one .str)), [.t 24, .t 26, .c (.bool true)], none⟩])))))
 (.ops [⟨some 27, .pure (.bin .add), [.t 10, .c (.int .i64 1)], none⟩,
 ⟨some 10, .pure .move, [.t 27], none⟩])))))))
 (.seq (.ops [⟨some 2, .pure .move, [.c (.int .i64 0)], none⟩])
 .ret)))) }
/-- datakit/digits.reverse -/
def ac143 : AFn :=
 { nt := 28, res := [], body :=
 (.seq (.ops [⟨some 4, .pure .move, [.t 0], none⟩,
 ⟨some 5, .pure .lenL, [.t 4], none⟩,
 ⟨some 6, .pure (.bin .sub), [.t 5, .c (.int .i64 1)], none⟩,
 ⟨some 2, .pure .move, [.c (.int .i64 0)], none⟩,
 ⟨some 3, .pure .move, [.t 6], none⟩])
 (.block 0
 (.loop [0, 2, 3]
 (.seq (.seq (.ops [⟨some 7, .pure .move, [.t 2], none⟩,
 ⟨some 8, .pure .move, [.t 3], none⟩,
 ⟨some 9, .pure (.bin .lss), [.t 7, .t 8], none⟩])
 (.cond (.t 9)
 .skip
 (.exit 0)))
 (.seq (.block 1
 (.ops [⟨some 14, .pure .move, [.t 0], none⟩,
 ⟨some 15, .pure .move, [.t 2], none⟩,
 ⟨some 16, .pure .move, [.t 0], none⟩,
 ⟨some 17, .pure .move, [.t 3], none⟩,
 ⟨some 18, .pure .move, [.t 0], none⟩,
 ⟨some 19, .pure .move, [.t 3], none⟩,
 ⟨some 20, .pure (.iaddrS 1), [.t 18, .t 19], none⟩,
 ⟨some 21, .read (.load none), [.t 20], none⟩,
 ⟨some 22, .pure .move, [.t 0], none⟩,
 ⟨some 23, .pure .move, [.t 2], none⟩,
 ⟨some 24, .pure (.iaddrS 1), [.t 22, .t 23], none⟩,
 ⟨some 25, .read (.load none), [.t 24], none⟩,
 ⟨some 26, .pure (.iaddrS 1), [.t 14, .t 15], none⟩,
 ⟨none, .eff (.store 1), [.t 26, .t 21], none⟩,
 ⟨some 27, .pure (.iaddrS 1), [.t 16, .t 17], none⟩,
 ⟨none, .eff (.store 1), [.t 27, .t 25], none⟩]))
 (.ops [⟨some 10, .pure .move, [.t 2], none⟩,
 ⟨some 11, .pure (.bin .add), [.t 10, .c (.int .i64 1)], none⟩,
 ⟨some 12, .pure .move, [.t 3], none⟩,
 ⟨some 13, .pure (.bin .sub), [.t 12, .c (.int .i64 1)], none⟩,
 ⟨some 2, .pure .move, [.t 11], none⟩,
 ⟨some 3, .pure .move, [.t 13], none⟩])))))) }
/-- strings.TrimRight -/
def ac148 : AFn :=
 { nt := 37, res := [.tmp 4], body :=
 (.seq (.ops [⟨some 4, .pure .move, [.c (.str [])], none⟩])
 (.seq (.seq (.ops [⟨some 7, .pure .move, [.t 0], none⟩,
 ⟨some 8, .pure (.bin .eql), [.t 7, .c (.str [])], none⟩,
 ⟨some 9, .pure .move, [.t 8], none⟩,
 ⟨some 10, .pure .move, [.t 1], some (9, false)⟩,
 ⟨some 11, .pure (.bin .eql), [.t 10, .c (.str [])], some (9, false)⟩,
 ⟨some 12, .pure .pick, [.t 9, .c (.bool true), .t 11], none⟩])
 (.cond (.t 12)
 (.seq (.ops [⟨some 13, .pure .move, [.t 0], none⟩,
 ⟨some 4, .pure .move, [.t 13], none⟩])
 .ret)
 .skip))
 (.seq (.seq (.ops [⟨some 14, .pure .move, [.t 1], none⟩,
 ⟨some 15, .pure .lenS, [.t 14], none⟩,
 ⟨some 16, .pure (.bin .eql), [.t 15, .c (.int .i64 1)], none⟩,
 ⟨some 17, .pure .move, [.t 16], none⟩,
 ⟨some 18, .pure .move, [.t 1], some (17, true)⟩,
 ⟨some 19, .pure .idxStr, [.t 18, .c (.int .i64 0)], some (17, true)⟩,
 ⟨some 20, .pure (.bin .lss), [.t 19, .c (.int .u8 128)], some (17, true)⟩,
 ⟨some 21, .pure .pick, [.t 17, .t 20, .c (.bool false)], none⟩])
 (.cond (.t 21)
 (.seq (.ops [⟨some 22, .pure .move, [.t 0], none⟩,
 ⟨some 23, .pure .move, [.t 1], none⟩,
 ⟨some 24, .pure .idxStr, [.t 23, .c (.int .i64 0)], none⟩,
 ⟨some 25, .pcall 155, [.t 22, .t 24], none⟩,
 ⟨some 4, .pure .move, [.t 25], none⟩])
 .ret)
 .skip))
 (.seq (.seq (.ops [⟨some 27, .pure .move, [.t 1], none⟩,
 ⟨some 28, .bad, [], none⟩,
 ⟨some 26, .pure .move, [.t 28], none⟩,
 ⟨some 29, .pure (.ext 0), [.t 26], none⟩,
 ⟨some 30, .pure (.ext 1), [.t 26], none⟩,
 ⟨some 5, .new (.new 1 [.bool false, .bool false, .bool false, .bool false, .bool false, .bool false, .bool false, .bool false, .bool false, .bool false, .bool false, .bool false, .bool false, .bool false, .bool false, .bool false, .bool false, .bool false, .bool false, .bool false, .bool false, .bool false, .bool false, .bool false, .bool false, .bool false, .bool false, .bool false, .bool false, .bool false, .bool false, .bool false, .bool false, .bool false, .bool false, .bool false, .bool false, .bool false, .bool false, .bool false, .bool false, .bool false, .bool false, .bool false, .bool false, .bool false, .bool false, .bool false, .bool false, .bool false, .bool false, .bool false, .bool false, .bool false, .bool false, .bool false, .bool false, .bool false, .bool false, .bool false, .bool false, .bool false, .bool false, .bool false, .bool false, .bool false, .bool false, .bool false, .bool false, .bool false, .bool false, .bool false, .bool false, .bool false, .bool false, .bool false, .bool false, .bool false, .bool false, .bool false, .bool false, .bool false, .bool false, .bool false, .bool false, .bool false, .bool false, .bool false, .bool false, .bool false, .bool false, .bool false, .bool false, .bool false, .bool false, .bool false, .bool false, .bool false, .bool false, .bool false, .bool false, .bool false, .bool false, .bool false, .bool false, .bool false, .bool false, .bool false, .bool false, .bool false, .bool false, .bool false, .bool false, .bool false, .bool false, .bool false, .bool false, .bool false, .bool false, .bool false, .bool false, .bool false, .bool false, .bool false, .bool false, .bool false, .bool false, .bool false, .bool false, .bool false, .bool false, .bool false, .bool false, .bool false, .bool false, .bool false, .bool false, .bool false, .bool false, .bool false, .bool false, .bool false, .bool false, .bool false, .bool false, .bool false, .bool false, .bool false, .bool false, .bool false, .bool false, .bool false, .bool false, .bool false, .bool false, .bool false, .bool false, .bool false, .bool false, .bool false, .bool false, .bool false, .bool false, .bool false, .bool false, .bool false, .bool false, .bool false, .bool false, .bool false, .bool false, .bool false, .bool false, .bool false, .bool false, .bool false, .bool false, .bool false, .bool false, .bool false, .bool false, .bool false, .bool false, .bool false, .bool false, .bool false, .bool false, .bool false, .bool false, .bool false, .bool false, .bool false, .bool false, .bool false, .bool false, .bool false, .bool false, .bool false, .bool false, .bool false, .bool false, .bool false, .bool false, .bool false, .bool false, .bool false, .bool false, .bool false, .bool false, .bool false, .bool false, .bool false, .bool false, .bool false, .bool false, .bool false, .bool false, .bool false, .bool false, .bool false, .bool false, .bool false, .bool false, .bool false, .bool false, .bool false, .bool false, .bool false, .bool false, .bool false, .bool false, .bool false, .bool false, .bool false, .bool false, .bool false, .bool false, .bool false, .bool false, .bool false, .bool false, .bool false, .bool false, .bool false, .bool false, .bool false, .bool false, .bool false, .bool false, .bool false, .bool false, .bool false, .bool false, .bool false, .bool false, .bool false]), [], none⟩,
 ⟨none, .eff (.store 256), [.t 5, .t 29], none⟩,
 ⟨some 6, .pure .move, [.t 30], none⟩])
 (.seq (.ops [⟨some 31, .pure .move, [.t 6], none⟩])
 (.cond (.t 31)
 (.seq (.ops [⟨some 32, .pure .move, [.t 0], none⟩,
 ⟨some 33, .bad, [], none⟩,
 ⟨some 4, .pure .move, [.t 33], none⟩])
 .ret)
 .skip)))
 (.seq (.ops [⟨some 34, .pure .move, [.t 0], none⟩,
 ⟨some 35, .pure .move, [.t 1], none⟩,
 ⟨some 36, .bad, [], none⟩,
 ⟨some 4, .pure .move, [.t 36], none⟩])
 .ret))))) }
/-- datakit/digits.Valid -/
def ac149 : AFn :=
 { nt := 19, res := [.tmp 2], body :=
 (.seq (.ops [⟨some 2, .pure .move, [.c (.bool false)], none⟩])
 (.seq (.ops [⟨some 3, .pure .move, [.t 0], none⟩,
 ⟨some 4, .pure .lenS, [.t 3], none⟩,
 ⟨some 5, .pure (.bin .leq), [.t 4, .c (.int .i64 600)], none⟩,
 ⟨some 6, .pure .move, [.t 5], none⟩,
 ⟨some 7, .pure .move, [.t 0], some (6, true)⟩,
 ⟨some 8, .pcall 158, [.t 7], some (6, true)⟩,
 ⟨some 9, .pure .pick, [.t 6, .t 8, .c (.bool false)], none⟩,
 ⟨some 10, .pure .move, [.t 9], none⟩,
 ⟨some 11, .pure .move, [.t 0], some (10, true)⟩,
 ⟨some 12, .pure (.bin .eql), [.t 11, .c (.str [])], some (10, true)⟩,
 ⟨some 13, .pure .move, [.t 12], some (10, true)⟩,
 ⟨some 14, .pure .move, [.t 0], some (13, false)⟩,
 ⟨some 15, .pure .idxStr, [.t 14, .c (.int .i64 0)], some (13, false)⟩,
 ⟨some 16, .pure (.bin .neq), [.t 15, .c (.int .u8 48)], some (13, false)⟩,
 ⟨some 17, .pure .pick, [.t 13, .c (.bool true), .t 16], some (10, true)⟩,
 ⟨some 18, .pure .pick, [.t 10, .t 17, .c (.bool false)], none⟩,
 ⟨some 2, .pure .move, [.t 18], none⟩])
 .ret)) }
/-- datakit/digits.Zeros -/
def ac150 : AFn :=
 { nt := 9, res := [.tmp 2], body :=
 (.seq (.ops [⟨some 2, .pure .move, [.c (.int .i64 0)], none⟩])
 (.seq (.ops [⟨some 3, .pure .move, [.t 0], none⟩,
 ⟨some 4, .pure .lenS, [.t 3], none⟩,
 ⟨some 5, .pure .move, [.t 0], none⟩,
 ⟨some 6, .pcall 148, [.t 5, .c (.str [48])], none⟩,
 ⟨some 7, .pure .lenS, [.t 6], none⟩,
 ⟨some 8, .pure (.bin .sub), [.t 4, .t 7], none⟩,
 ⟨some 2, .pure .move, [.t 8], none⟩])
 .ret)) }
/-- datakit/value.key -/
def ac151 : AFn :=
 { nt := 9, res := [.tmp 2], body :=
 (.seq (.ops [⟨some 2, .pure .move, [.c (.int .i64 0)], none⟩])
 (.seq (.seq (.ops [⟨some 3, .pure .move, [.t 0], none⟩,
 ⟨some 4, .pcall 46, [.t 3], none⟩,
 ⟨some 5, .pure (.un .not), [.t 4], none⟩])
 (.cond (.t 5)
 (.seq (.ops [⟨some 2, .pure .move, [.c (.int .i64 5)], none⟩])
 .ret)
 .skip))
 (.seq (.seq (.ops [⟨some 6, .pure .move, [.t 0], none⟩,
 ⟨some 7, .pure .lenS, [.t 6], none⟩,
 ⟨some 8, .pure (.bin .gtr), [.t 7, .c (.int .i64 1024)], none⟩])
 (.cond (.t 8)
 (.seq (.ops [⟨some 2, .pure .move, [.c (.int .i64 10)], none⟩])
 .ret)
 .skip))
 (.seq (.ops [⟨some 2, .pure .move, [.c (.int .i64 0)], none⟩])
 .ret)))) }
/-- strings.trimRightByte -/
def ac155 : AFn :=
 { nt := 23, res := [.tmp 4], body :=
 (.seq (.ops [⟨some 4, .pure .move, [.c (.str [])], none⟩])
 (.seq (.block 0
 (.loop [0, 1]
 (.seq (.seq (.ops [⟨some 5, .pure .move, [.t 0], none⟩,
 ⟨some 6, .pure .lenS, [.t 5], none⟩,
 ⟨some 7, .pure (.bin .gtr), [.t 6, .c (.int .i64 0)], none⟩,
 ⟨some 8, .pure .move, [.t 7], none⟩,
 ⟨some 9, .pure .move, [.t 0], some (8, true)⟩,
 ⟨some 10, .pure .move, [.t 0], some (8, true)⟩,
 ⟨some 11, .pure .lenS, [.t 10], some (8, true)⟩,
 ⟨some 12, .pure (.bin .sub), [.t 11, .c (.int .i64 1)], some (8, true)⟩,
 ⟨some 13, .pure .idxStr, [.t 9, .t 12], some (8, true)⟩,
 ⟨some 14, .pure .move, [.t 1], some (8, true)⟩,
 ⟨some 15, .pure (.bin .eql), [.t 13, .t 14], some (8, true)⟩,
 ⟨some 16, .pure .pick, [.t 8, .t 15, .c (.bool false)], none⟩])
 (.cond (.t 16)
 .skip
 (.exit 0)))
 (.block 1
 (.ops [⟨some 17, .pure .move, [.t 0], none⟩,
 ⟨some 18, .pure .move, [.t 0], none⟩,
 ⟨some 19, .pure .lenS, [.t 18], none⟩,
 ⟨some 20, .pure (.bin .sub), [.t 19, .c (.int .i64 1)], none⟩,
 ⟨some 21, .pure (.sliceS false true), [.t 17, .t 20], none⟩,
 ⟨some 0, .pure .move, [.t 21], none⟩])))))
 (.seq (.ops [⟨some 22, .pure .move, [.t 0], none⟩,
 ⟨some 4, .pure .move, [.t 22], none⟩])
 .ret))) }
/-- datakit/digits.all -/
def ac158 : AFn :=
 { nt := 20, res := [.tmp 2], body :=
 (.seq (.ops [⟨some 2, .pure .move, [.c (.bool false)], none⟩])
 (.seq (.seq (.ops [⟨some 4, .pure .move, [.t 0], none⟩,
 ⟨some 5, .pure .lenS, [.t 4], none⟩,
 ⟨some 6, .pure .move, [.c (.int .i64 0)], none⟩])
 (.block 0
 (.loop [0, 5, 6]
 (.seq (.ops [⟨some 7, .pure (.bin .lss), [.t 6, .t 5], none⟩])
 (.seq (.cond (.t 7)
 .skip
 (.exit 0))
 (.seq (.block 1
 (.seq (.ops [⟨some 8, .pure .move, [.t 6], none⟩,
 ⟨some 3, .pure .move, [.t 8], none⟩])
 (.seq (.ops [⟨some 9, .pure .move, [.t 0], none⟩,
 ⟨some 10, .pure .move, [.t 3], none⟩,
 ⟨some 11, .pure .idxStr, [.t 9, .t 10], none⟩,
 ⟨some 12, .pure (.bin .lss), [.t 11, .c (.int .u8 48)], none⟩,
 ⟨some 13, .pure .move, [.t 12], none⟩,
 ⟨some 14, .pure .move, [.t 0], some (13, false)⟩,
 ⟨some 15, .pure .move, [.t 3], some (13, false)⟩,
 ⟨some 16, .pure .idxStr, [.t 14, .t 15], some (13, false)⟩,
 ⟨some 17, .pure (.bin .gtr), [.t 16, .c (.int .u8 57)], some (13, false)⟩,
 ⟨some 18, .pure .pick, [.t 13, .c (.bool true), .t 17], none⟩])
 (.cond (.t 18)
 (.seq (.ops [⟨some 2, .pure .move, [.c (.bool false)], none⟩])
 .ret)
 .skip))))
 (.ops [⟨some 19, .pure (.bin .add), [.t 6, .c (.int .i64 1)], none⟩,
 ⟨some 6, .pure .move, [.t 19], none⟩])))))))
 (.seq (.ops [⟨some 2, .pure .move, [.c (.bool true)], none⟩])
 .ret))) }
def code : Nat → Option AFn
 | 18 => some ac18
 | 26 => some ac26
 | 29 => some ac29
 | 38 => some ac38
 | 45 => some ac45
 | 46 => some ac46
 | 63 => some ac63
 | 73 => some ac73
 | 84 => some ac84
 | 94 => some ac94
 | 95 => some ac95
 | 96 => some ac96
 | 123 => some ac123
 | 124 => some ac124
 | 126 => some ac126
 | 128 => some ac128
 | 129 => some ac129
 | 133 => some ac133
 | 136 => some ac136
 | 138 => some ac138
 | 139 => some ac139
 | 140 => some ac140
 | 141 => some ac141
 | 142 => some ac142
 | 143 => some ac143
 | 148 => some ac148
 | 149 => some ac149
 | 150 => some ac150
 | 151 => some ac151
 | 155 => some ac155
 | 158 => some ac158
 | _ => none
def clR : Nat → Option (Nat × Nat)
 | 130 => some (14, 184)
 | _ => none
def clP : Nat → Option (Nat × Nat)
 | 62 => some (1, 1)
 | _ => none
def C0 : Ctx := mkCtx code clR clP
end Ago
