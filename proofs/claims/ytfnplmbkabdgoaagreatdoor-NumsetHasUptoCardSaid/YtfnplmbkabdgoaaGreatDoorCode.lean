/- The abstract code of the functions, printed by program. -/
import Derived.Test.YtfnplmbkabdgoaaGreatDoorCodeB
import Derived.Test.YtfnplmbkabdgoaaGreatDoorMachH
set_option linter.unusedSimpArgs false
set_option linter.unusedVariables false
set_option maxRecDepth 100000
namespace Ago
/-- datakit/numset.power -/
def ac697 : AFn :=
 { nt := 14, res := [.cell 4 (some 3)], body :=
 (.seq (.ops [⟨some 4, .new (.new 3 [.agg [.bool false, .str [], .int .i64 0]]), [], none⟩])
 (.seq (.ops [⟨some 8, .pure .move, [.t 0], none⟩,
 ⟨some 9, .pure .move, [.t 1], none⟩,
 ⟨some 10, .pcall 706, [.c (.bool false), .t 8, .t 9], none⟩,
 ⟨some 7, .pure .move, [.t 10], none⟩,
 ⟨some 11, .pure (.ext 0), [.t 7], none⟩,
 ⟨some 12, .pure (.ext 1), [.t 7], none⟩,
 ⟨some 5, .new (.new 3 [.agg [.bool false, .str [], .int .i64 0]]), [], none⟩,
 ⟨none, .eff (.store 3), [.t 5, .t 11], none⟩,
 ⟨some 6, .pure .move, [.t 12], none⟩])
 (.seq (.ops [⟨some 13, .read (.load (some 3)), [.t 5], none⟩,
 ⟨none, .eff (.store 3), [.t 4, .t 13], none⟩])
 .ret))) }
/-- datakit/numset.mirrored -/
def ac698 : AFn :=
 { nt := 8, res := [.cell 2 (some 5)], body :=
 (.seq (.ops [⟨some 1, .new (.box 5), [.t 0], none⟩,
 ⟨some 2, .new (.new 5 [.agg [.bool false, .bool false, .str [], .int .i64 0, .bool false]]), [], none⟩])
 (.seq (.ops [⟨some 3, .pure (.faddr 1), [.t 1], none⟩,
 ⟨some 4, .read (.load (some 3)), [.t 3], none⟩,
 ⟨some 5, .pcall 699, [.t 4], none⟩,
 ⟨some 6, .pure (.faddr 1), [.t 1], none⟩,
 ⟨none, .eff (.store 3), [.t 6, .t 5], none⟩])
 (.seq (.ops [⟨some 7, .read (.load (some 5)), [.t 1], none⟩,
 ⟨none, .eff (.store 5), [.t 2, .t 7], none⟩])
 .ret))) }
/-- datakit/decimal.Neg -/
def ac699 : AFn :=
 { nt := 11, res := [.cell 2 (some 3)], body :=
 (.seq (.ops [⟨some 1, .new (.box 3), [.t 0], none⟩,
 ⟨some 2, .new (.new 3 [.agg [.bool false, .str [], .int .i64 0]]), [], none⟩])
 (.seq (.seq (.ops [⟨some 3, .pure (.faddr 1), [.t 1], none⟩,
 ⟨some 4, .read (.load none), [.t 3], none⟩,
 ⟨some 5, .pure (.bin .neq), [.t 4, .c (.str [])], none⟩])
 (.cond (.t 5)
 (.ops [⟨some 6, .pure (.faddr 0), [.t 1], none⟩,
 ⟨some 7, .read (.load none), [.t 6], none⟩,
 ⟨some 8, .pure (.un .not), [.t 7], none⟩,
 ⟨some 9, .pure (.faddr 0), [.t 1], none⟩,
 ⟨none, .eff (.store 1), [.t 9, .t 8], none⟩])
 .skip))
 (.seq (.ops [⟨some 10, .read (.load (some 3)), [.t 1], none⟩,
 ⟨none, .eff (.store 3), [.t 2, .t 10], none⟩])
 .ret))) }
/-- datakit/numset.least -/
def ac700 : AFn :=
 { nt := 34, res := [.cell 2 (some 3), .tmp 3], body :=
 (.seq (.ops [⟨some 1, .new (.box 11), [.t 0], none⟩,
 ⟨some 2, .new (.new 3 [.agg [.bool false, .str [], .int .i64 0]]), [], none⟩,
 ⟨some 3, .pure .move, [.c (.bool false)], none⟩])
 (.seq (.draw 1 [[⟨some 6, .pure (.faddr 0), [.t 1], none⟩,
 ⟨some 7, .pure (.faddr 1), [.t 6], none⟩,
 ⟨some 8, .read (.load (some 3)), [.t 7], none⟩,
 ⟨some 9, .pure (.faddr 0), [.t 1], none⟩,
 ⟨some 10, .pure (.faddr 4), [.t 9], none⟩,
 ⟨some 4, .newAt 0 (.new 3 [.agg [.bool false, .str [], .int .i64 0]]), [], none⟩,
 ⟨some 11, .read (.load none), [.t 10], none⟩,
 ⟨none, .eff (.store 3), [.t 4, .t 8], none⟩,
 ⟨some 5, .pure .move, [.t 11], none⟩],
 [⟨some 6, .pure (.faddr 0), [.t 1], none⟩,
 ⟨some 7, .pure (.faddr 1), [.t 6], none⟩,
 ⟨some 8, .read (.load (some 3)), [.t 7], none⟩,
 ⟨some 9, .pure (.faddr 0), [.t 1], none⟩,
 ⟨some 10, .pure (.faddr 4), [.t 9], none⟩,
 ⟨some 4, .newAt 0 (.new 3 [.agg [.bool false, .str [], .int .i64 0]]), [], none⟩,
 ⟨none, .eff (.store 3), [.t 4, .t 8], none⟩,
 ⟨some 11, .read (.load none), [.t 10], none⟩,
 ⟨some 5, .pure .move, [.t 11], none⟩]])
 (.seq (.seq (.ops [⟨some 12, .pure (.faddr 10), [.t 1], none⟩,
 ⟨some 13, .read (.load none), [.t 12], none⟩])
 (.block 0
 (.seq (.ops [⟨some 15, .pure (.bin .eql), [.t 13, .c (.int .i64 1)], none⟩,
 ⟨some 14, .pure .move, [.t 15], none⟩])
 (.cond (.t 14)
 (.seq (.ops [⟨some 16, .read (.load (some 3)), [.t 4], none⟩,
 ⟨some 17, .pure .move, [.t 5], none⟩,
 ⟨some 18, .pcall 707, [.t 16, .t 17], none⟩,
 ⟨some 19, .pure (.ext 0), [.t 18], none⟩,
 ⟨some 20, .pure (.ext 1), [.t 18], none⟩,
 ⟨none, .eff (.store 3), [.t 2, .t 19], none⟩,
 ⟨some 3, .pure .move, [.t 20], none⟩])
 .ret)
 (.seq (.ops [⟨some 22, .pure (.bin .eql), [.t 13, .c (.int .i64 2)], none⟩,
 ⟨some 21, .pure .move, [.t 22], none⟩])
 (.cond (.t 21)
 (.seq (.ops [⟨some 23, .read (.load (some 3)), [.t 4], none⟩,
 ⟨some 24, .pure .move, [.t 5], none⟩,
 ⟨some 25, .pcall 708, [.t 23, .t 24], none⟩,
 ⟨some 26, .pure (.ext 0), [.t 25], none⟩,
 ⟨some 27, .pure (.ext 1), [.t 25], none⟩,
 ⟨none, .eff (.store 3), [.t 2, .t 26], none⟩,
 ⟨some 3, .pure .move, [.t 27], none⟩])
 .ret)
 .skip))))))
 (.seq (.seq (.ops [⟨some 28, .pure .move, [.t 5], none⟩])
 (.cond (.t 28)
 (.seq (.ops [⟨some 29, .read (.load (some 3)), [.t 4], none⟩,
 ⟨some 30, .pcall 709, [.t 29], none⟩,
 ⟨some 31, .pure (.ext 0), [.t 30], none⟩,
 ⟨some 32, .pure (.ext 1), [.t 30], none⟩,
 ⟨none, .eff (.store 3), [.t 2, .t 31], none⟩,
 ⟨some 3, .pure .move, [.t 32], none⟩])
 .ret)
 .skip))
 (.seq (.ops [⟨some 33, .read (.load (some 3)), [.t 4], none⟩,
 ⟨none, .eff (.store 3), [.t 2, .t 33], none⟩,
 ⟨some 3, .pure .move, [.c (.bool true)], none⟩])
 .ret))))) }
/-- datakit/numset.combine$1 -/
def ac701 : AFn :=
 { nt := 31, res := [.tmp 9], body :=
 (.seq (.ops [⟨some 6, .new (.box 5), [.t 0], none⟩,
 ⟨some 7, .new (.box 5), [.t 1], none⟩,
 ⟨some 9, .pure .move, [.c (.bool false)], none⟩])
 (.seq (.seq (.ops [⟨some 12, .read (.load none), [.t 3], none⟩,
 ⟨some 13, .pure .lenL, [.t 12], none⟩,
 ⟨some 14, .pure .move, [.c (.int .i64 0)], none⟩])
 (.block 0
 (.loop [2, 4, 5, 6, 7, 12, 13, 14]
 (.seq (.ops [⟨some 15, .pure (.bin .lss), [.t 14, .t 13], none⟩])
 (.seq (.cond (.t 15)
 .skip
 (.exit 0))
 (.seq (.block 1
 (.seq (.ops [⟨some 16, .pure .move, [.t 14], none⟩,
 ⟨some 17, .pure (.iaddrS 1), [.t 12, .t 14], none⟩,
 ⟨some 18, .read (.load (some 1)), [.t 17], none⟩,
 ⟨some 11, .new (.new 1 [.agg [.snil 11]]), [], none⟩,
 ⟨some 10, .pure .move, [.t 16], none⟩,
 ⟨none, .eff (.store 1), [.t 11, .t 18], none⟩])
 (.ops [⟨some 19, .read (.load none), [.t 4], none⟩,
 ⟨some 20, .pure .move, [.t 10], none⟩,
 ⟨some 21, .read (.load (some 1)), [.t 11], none⟩,
 ⟨some 22, .read (.load (some 5)), [.t 6], none⟩,
 ⟨some 23, .read (.load (some 5)), [.t 7], none⟩,
 ⟨some 24, .pure .move, [.t 2], none⟩,
 ⟨some 25, .pcall 702, [.t 21, .t 22, .t 23, .t 24], none⟩,
 ⟨some 26, .pure (.iaddrS 1), [.t 19, .t 20], none⟩,
 ⟨none, .eff (.store 1), [.t 26, .t 25], none⟩])))
 (.ops [⟨some 27, .pure (.bin .add), [.t 14, .c (.int .i64 1)], none⟩,
 ⟨some 14, .pure .move, [.t 27], none⟩])))))))
 (.seq (.ops [⟨some 28, .read (.load none), [.t 5], none⟩,
 ⟨some 29, .read (.load none), [.t 4], none⟩,
 ⟨some 30, .callv, [.t 28, .t 29], none⟩,
 ⟨some 9, .pure .move, [.t 30], none⟩])
 .ret))) }
/-- datakit/numset.covers -/
def ac702 : AFn :=
 { nt := 44, res := [.tmp 8], body :=
 (.seq (.ops [⟨some 4, .new (.box 1), [.t 0], none⟩,
 ⟨some 5, .new (.box 5), [.t 1], none⟩,
 ⟨some 6, .new (.box 5), [.t 2], none⟩,
 ⟨some 8, .pure .move, [.c (.bool false)], none⟩])
 (.seq (.seq (.ops [⟨some 11, .pure (.faddr 0), [.t 4], none⟩,
 ⟨some 12, .read (.load none), [.t 11], none⟩,
 ⟨some 13, .pure .lenL, [.t 12], none⟩,
 ⟨some 14, .pure .move, [.c (.int .i64 0)], none⟩])
 (.block 0
 (.loop [3, 5, 6, 12, 13, 14]
 (.seq (.ops [⟨some 15, .pure (.bin .lss), [.t 14, .t 13], none⟩])
 (.seq (.cond (.t 15)
 .skip
 (.exit 0))
 (.seq (.block 1
 (.seq (.ops [⟨some 16, .pure (.iaddrS 11), [.t 12, .t 14], none⟩,
 ⟨some 17, .read (.load (some 11)), [.t 16], none⟩,
 ⟨some 10, .new (.new 11 [.agg [.bool false, .bool false, .str [], .int .i64 0, .bool false, .bool false, .bool false, .str [], .int .i64 0, .bool false, .int .i64 0]]), [], none⟩,
 ⟨none, .eff (.store 11), [.t 10, .t 17], none⟩])
 (.seq (.ops [⟨some 18, .pure (.faddr 10), [.t 10], none⟩,
 ⟨some 19, .read (.load none), [.t 18], none⟩,
 ⟨some 20, .pure (.bin .eql), [.t 19, .c (.int .i64 0)], none⟩,
 ⟨some 21, .pure .move, [.t 20], none⟩,
 ⟨some 22, .pure (.faddr 10), [.t 10], some (21, false)⟩,
 ⟨some 23, .read (.load none), [.t 22], some (21, false)⟩,
 ⟨some 24, .pure .move, [.t 3], some (21, false)⟩,
 ⟨some 25, .pure (.bin .eql), [.t 23, .t 24], some (21, false)⟩,
 ⟨some 26, .pure .pick, [.t 21, .c (.bool true), .t 25], none⟩,
 ⟨some 27, .pure .move, [.t 26], none⟩,
 ⟨some 28, .pure (.faddr 0), [.t 10], some (27, true)⟩,
 ⟨some 29, .read (.load (some 5)), [.t 28], some (27, true)⟩,
 ⟨some 30, .pcall 711, [.t 29], some (27, true)⟩,
 ⟨some 31, .read (.load (some 5)), [.t 5], some (27, true)⟩,
 ⟨some 32, .pcall 710, [.t 30, .t 31], some (27, true)⟩,
 ⟨some 33, .pure (.bin .leq), [.t 32, .c (.int .i64 0)], some (27, true)⟩,
 ⟨some 34, .pure .pick, [.t 27, .t 33, .c (.bool false)], none⟩,
 ⟨some 35, .pure .move, [.t 34], none⟩,
 ⟨some 36, .read (.load (some 5)), [.t 6], some (35, true)⟩,
 ⟨some 37, .pure (.faddr 5), [.t 10], some (35, true)⟩,
 ⟨some 38, .read (.load (some 5)), [.t 37], some (35, true)⟩,
 ⟨some 39, .pcall 712, [.t 38], some (35, true)⟩,
 ⟨some 40, .pcall 710, [.t 36, .t 39], some (35, true)⟩,
 ⟨some 41, .pure (.bin .leq), [.t 40, .c (.int .i64 0)], some (35, true)⟩,
 ⟨some 42, .pure .pick, [.t 35, .t 41, .c (.bool false)], none⟩])
 (.cond (.t 42)
 (.seq (.ops [⟨some 8, .pure .move, [.c (.bool true)], none⟩])
 .ret)
 .skip))))
 (.ops [⟨some 43, .pure (.bin .add), [.t 14, .c (.int .i64 1)], none⟩,
 ⟨some 14, .pure .move, [.t 43], none⟩])))))))
 (.seq (.ops [⟨some 8, .pure .move, [.c (.bool false)], none⟩])
 .ret))) }
/-- datakit/numset.combine$2 -/
def ac703 : AFn :=
 { nt := 41, res := [], body :=
 (.seq (.ops [⟨some 2, .new (.box 12), [.t 0], none⟩])
 (.seq (.seq (.ops [⟨some 4, .read (.load none), [.t 1], none⟩,
 ⟨some 5, .pure .lenL, [.t 4], none⟩,
 ⟨some 3, .pure .move, [.t 5], none⟩])
 (.seq (.ops [⟨some 6, .pure .move, [.t 3], none⟩,
 ⟨some 7, .pure (.bin .gtr), [.t 6, .c (.int .i64 0)], none⟩,
 ⟨some 8, .pure .move, [.t 7], none⟩,
 ⟨some 9, .read (.load none), [.t 1], some (8, true)⟩,
 ⟨some 10, .pure .move, [.t 3], some (8, true)⟩,
 ⟨some 11, .pure (.bin .sub), [.t 10, .c (.int .i64 1)], some (8, true)⟩,
 ⟨some 12, .pure (.iaddrS 12), [.t 9, .t 11], some (8, true)⟩,
 ⟨some 13, .pure (.faddr 10), [.t 12], some (8, true)⟩,
 ⟨some 14, .read (.load none), [.t 13], some (8, true)⟩,
 ⟨some 15, .pure (.faddr 10), [.t 2], some (8, true)⟩,
 ⟨some 16, .read (.load none), [.t 15], some (8, true)⟩,
 ⟨some 17, .pure (.eqB false), [.t 14, .t 16], some (8, true)⟩,
 ⟨some 18, .pure .pick, [.t 8, .t 17, .c (.bool false)], none⟩,
 ⟨some 19, .pure .move, [.t 18], none⟩,
 ⟨some 20, .read (.load none), [.t 1], some (19, true)⟩,
 ⟨some 21, .pure .move, [.t 3], some (19, true)⟩,
 ⟨some 22, .pure (.bin .sub), [.t 21, .c (.int .i64 1)], some (19, true)⟩,
 ⟨some 23, .pure (.iaddrS 12), [.t 20, .t 22], some (19, true)⟩,
 ⟨some 24, .pure (.faddr 11), [.t 23], some (19, true)⟩,
 ⟨some 25, .read (.load none), [.t 24], some (19, true)⟩,
 ⟨some 26, .pure (.faddr 11), [.t 2], some (19, true)⟩,
 ⟨some 27, .read (.load none), [.t 26], some (19, true)⟩,
 ⟨some 28, .pure (.eqB false), [.t 25, .t 27], some (19, true)⟩,
 ⟨some 29, .pure .pick, [.t 19, .t 28, .c (.bool false)], none⟩])
 (.cond (.t 29)
 (.seq (.ops [⟨some 30, .read (.load none), [.t 1], none⟩,
 ⟨some 31, .pure .move, [.t 3], none⟩,
 ⟨some 32, .pure (.bin .sub), [.t 31, .c (.int .i64 1)], none⟩,
 ⟨some 33, .pure (.faddr 5), [.t 2], none⟩,
 ⟨some 34, .read (.load (some 5)), [.t 33], none⟩,
 ⟨some 35, .pure (.iaddrS 12), [.t 30, .t 32], none⟩,
 ⟨some 36, .pure (.faddr 5), [.t 35], none⟩,
 ⟨none, .eff (.store 5), [.t 36, .t 34], none⟩])
 .ret)
 .skip)))
 (.ops [⟨some 37, .read (.load none), [.t 1], none⟩,
 ⟨some 38, .read (.load (some 12)), [.t 2], none⟩,
 ⟨some 39, .new (.buildSlice 12 [.agg [.int .i64 0, .bool false, .str [], .int .i64 0, .bool false, .int .i64 0, .bool false, .str [], .int .i64 0, .bool false, .bool false, .bool false]] [0]), [.t 38], none⟩,
 ⟨some 40, .eff (.append 12 104), [.t 37, .t 39], none⟩,
 ⟨none, .eff (.store 1), [.t 1, .t 40], none⟩]))) }
/-- datakit/numset.cuts -/
def ac704 : AFn :=
 { nt := 39, res := [.tmp 2], body :=
 (.seq (.ops [⟨some 2, .pure .move, [.c (.snil 5)], none⟩])
 (.seq (.ops [⟨some 8, .pure (.build [.int .i64 0, .bool false, .str [], .int .i64 0, .bool false] [(0, 1)]), [.c (.int .i64 (-1))], none⟩,
 ⟨some 9, .pure (.build [.int .i64 0, .bool false, .str [], .int .i64 0, .bool false] [(0, 1)]), [.c (.int .i64 1)], none⟩,
 ⟨some 10, .new (.buildSlice 5 [.agg [.int .i64 0, .bool false, .str [], .int .i64 0, .bool false], .agg [.int .i64 0, .bool false, .str [], .int .i64 0, .bool false]] [0, 1]), [.t 8, .t 9], none⟩,
 ⟨some 3, .pure .move, [.t 10], none⟩])
 (.seq (.seq (.ops [⟨some 11, .pure .move, [.t 0], none⟩,
 ⟨some 12, .pure .lenL, [.t 11], none⟩,
 ⟨some 13, .pure .move, [.c (.int .i64 0)], none⟩])
 (.block 0
 (.loop [3, 11, 12, 13]
 (.seq (.ops [⟨some 14, .pure (.bin .lss), [.t 13, .t 12], none⟩])
 (.seq (.cond (.t 14)
 .skip
 (.exit 0))
 (.seq (.block 1
 (.seq (.ops [⟨some 15, .pure (.iaddrS 1), [.t 11, .t 13], none⟩,
 ⟨some 16, .read (.load (some 1)), [.t 15], none⟩,
 ⟨some 5, .new (.new 1 [.agg [.snil 11]]), [], none⟩,
 ⟨none, .eff (.store 1), [.t 5, .t 16], none⟩])
 (.seq (.ops [⟨some 17, .pure (.faddr 0), [.t 5], none⟩,
 ⟨some 18, .read (.load none), [.t 17], none⟩,
 ⟨some 19, .pure .lenL, [.t 18], none⟩,
 ⟨some 20, .pure .move, [.c (.int .i64 0)], none⟩])
 (.block 2
 (.loop [3, 11, 12, 13, 18, 19, 20]
 (.seq (.ops [⟨some 21, .pure (.bin .lss), [.t 20, .t 19], none⟩])
 (.seq (.cond (.t 21)
 .skip
 (.exit 2))
 (.seq (.block 3
 (.seq (.ops [⟨some 22, .pure (.iaddrS 11), [.t 18, .t 20], none⟩,
 ⟨some 23, .read (.load (some 11)), [.t 22], none⟩,
 ⟨some 7, .new (.new 11 [.agg [.bool false, .bool false, .str [], .int .i64 0, .bool false, .bool false, .bool false, .str [], .int .i64 0, .bool false, .int .i64 0]]), [], none⟩,
 ⟨none, .eff (.store 11), [.t 7, .t 23], none⟩])
 (.draw 1 [[⟨some 24, .pure .move, [.t 3], none⟩,
 ⟨some 25, .pure (.faddr 0), [.t 7], none⟩,
 ⟨some 26, .read (.load (some 5)), [.t 25], none⟩,
 ⟨some 27, .pcall 711, [.t 26], none⟩,
 ⟨some 28, .pure (.faddr 5), [.t 7], none⟩,
 ⟨some 29, .read (.load (some 5)), [.t 28], none⟩,
 ⟨some 30, .pcall 712, [.t 29], none⟩,
 ⟨some 31, .newAt 0 (.buildSlice 5 [.agg [.int .i64 0, .bool false, .str [], .int .i64 0, .bool false], .agg [.int .i64 0, .bool false, .str [], .int .i64 0, .bool false]] [0, 1]), [.t 27, .t 30], none⟩,
 ⟨some 32, .eff (.append 5 48), [.t 24, .t 31], none⟩,
 ⟨some 3, .pure .move, [.t 32], none⟩]])))
 (.ops [⟨some 33, .pure (.bin .add), [.t 20, .c (.int .i64 1)], none⟩,
 ⟨some 20, .pure .move, [.t 33], none⟩])))))))))
 (.ops [⟨some 34, .pure (.bin .add), [.t 13, .c (.int .i64 1)], none⟩,
 ⟨some 13, .pure .move, [.t 34], none⟩])))))))
 (.seq (.ops [⟨some 35, .pure .move, [.t 3], none⟩,
 ⟨some 36, .call 713, [.t 35, .c (.fn 710 [])], none⟩])
 (.seq (.ops [⟨some 37, .pure .move, [.t 3], none⟩,
 ⟨some 38, .call 714, [.t 37, .c (.fn 715 [])], none⟩,
 ⟨some 2, .pure .move, [.t 38], none⟩])
 .ret))))) }
/-- (datakit/numset.region).part -/
def ac705 : AFn :=
 { nt := 47, res := [.cell 2 (some 11), .tmp 3], body :=
 (.seq (.ops [⟨some 1, .new (.box 12), [.t 0], none⟩,
 ⟨some 2, .new (.new 11 [.agg [.bool false, .bool false, .str [], .int .i64 0, .bool false, .bool false, .bool false, .str [], .int .i64 0, .bool false, .int .i64 0]]), [], none⟩,
 ⟨some 3, .pure .move, [.c (.bool false)], none⟩])
 (.seq (.ops [⟨some 4, .new (.new 11 [.agg [.bool false, .bool false, .str [], .int .i64 0, .bool false, .bool false, .bool false, .str [], .int .i64 0, .bool false, .int .i64 0]]), [], none⟩])
 (.seq (.block 0
 (.seq (.ops [⟨some 7, .pure (.faddr 10), [.t 1], none⟩,
 ⟨some 8, .read (.load none), [.t 7], none⟩,
 ⟨some 9, .pure .move, [.t 8], none⟩,
 ⟨some 10, .pure (.faddr 11), [.t 1], some (9, true)⟩,
 ⟨some 11, .read (.load none), [.t 10], some (9, true)⟩,
 ⟨some 12, .pure .pick, [.t 9, .t 11, .c (.bool false)], none⟩,
 ⟨some 6, .pure .move, [.t 12], none⟩])
 (.cond (.t 6)
 .skip
 (.seq (.ops [⟨some 14, .pure (.faddr 10), [.t 1], none⟩,
 ⟨some 15, .read (.load none), [.t 14], none⟩,
 ⟨some 13, .pure .move, [.t 15], none⟩])
 (.cond (.t 13)
 (.ops [⟨some 16, .pure (.faddr 10), [.t 4], none⟩,
 ⟨none, .eff (.store 1), [.t 16, .c (.int .i64 1)], none⟩])
 (.seq (.ops [⟨some 18, .pure (.faddr 11), [.t 1], none⟩,
 ⟨some 19, .read (.load none), [.t 18], none⟩,
 ⟨some 17, .pure .move, [.t 19], none⟩])
 (.cond (.t 17)
 (.ops [⟨some 20, .pure (.faddr 10), [.t 4], none⟩,
 ⟨none, .eff (.store 1), [.t 20, .c (.int .i64 2)], none⟩])
 (.seq (.ops [⟨some 5, .read (.load (some 11)), [.t 4], none⟩,
 ⟨none, .eff (.store 11), [.t 2, .t 5], none⟩,
 ⟨some 3, .pure .move, [.c (.bool false)], none⟩])
 .ret))))))))
 (.seq (.seq (.ops [⟨some 21, .pure (.faddr 0), [.t 1], none⟩,
 ⟨some 22, .pure (.faddr 0), [.t 21], none⟩,
 ⟨some 23, .read (.load none), [.t 22], none⟩,
 ⟨some 24, .pure (.bin .eql), [.t 23, .c (.int .i64 0)], none⟩])
 (.cond (.t 24)
 (.ops [⟨some 25, .pure (.faddr 0), [.t 1], none⟩,
 ⟨some 26, .pure (.faddr 1), [.t 25], none⟩,
 ⟨some 27, .read (.load (some 3)), [.t 26], none⟩,
 ⟨some 28, .pure (.faddr 0), [.t 1], none⟩,
 ⟨some 29, .pure (.faddr 4), [.t 28], none⟩,
 ⟨some 30, .read (.load none), [.t 29], none⟩,
 ⟨some 31, .pure (.build [.bool false, .bool false, .str [], .int .i64 0, .bool false] [(0, 1), (1, 3), (4, 1)]), [.c (.bool true), .t 27, .t 30], none⟩,
 ⟨some 32, .pure (.faddr 0), [.t 4], none⟩,
 ⟨none, .eff (.store 5), [.t 32, .t 31], none⟩])
 .skip))
 (.seq (.seq (.ops [⟨some 33, .pure (.faddr 5), [.t 1], none⟩,
 ⟨some 34, .pure (.faddr 0), [.t 33], none⟩,
 ⟨some 35, .read (.load none), [.t 34], none⟩,
 ⟨some 36, .pure (.bin .eql), [.t 35, .c (.int .i64 0)], none⟩])
 (.cond (.t 36)
 (.ops [⟨some 37, .pure (.faddr 5), [.t 1], none⟩,
 ⟨some 38, .pure (.faddr 1), [.t 37], none⟩,
 ⟨some 39, .read (.load (some 3)), [.t 38], none⟩,
 ⟨some 40, .pure (.faddr 5), [.t 1], none⟩,
 ⟨some 41, .pure (.faddr 4), [.t 40], none⟩,
 ⟨some 42, .read (.load none), [.t 41], none⟩,
 ⟨some 43, .pure (.un .not), [.t 42], none⟩,
 ⟨some 44, .pure (.build [.bool false, .bool false, .str [], .int .i64 0, .bool false] [(0, 1), (1, 3), (4, 1)]), [.c (.bool true), .t 39, .t 43], none⟩,
 ⟨some 45, .pure (.faddr 5), [.t 4], none⟩,
 ⟨none, .eff (.store 5), [.t 45, .t 44], none⟩])
 .skip))
 (.seq (.ops [⟨some 46, .read (.load (some 11)), [.t 4], none⟩,
 ⟨none, .eff (.store 11), [.t 2, .t 46], none⟩,
 ⟨some 3, .pure .move, [.c (.bool true)], none⟩])
 .ret)))))) }
/-- datakit/decimal.Make -/
def ac706 : AFn :=
 { nt := 33, res := [.cell 6 (some 3), .tmp 7], body :=
 (.seq (.ops [⟨some 6, .new (.new 3 [.agg [.bool false, .str [], .int .i64 0]]), [], none⟩,
 ⟨some 7, .pure .move, [.c (.int .i64 0)], none⟩])
 (.seq (.seq (.ops [⟨some 9, .pure .move, [.t 1], none⟩,
 ⟨some 10, .pure .lenS, [.t 9], none⟩,
 ⟨some 11, .pure .move, [.c (.int .i64 0)], none⟩])
 (.block 0
 (.loop [0, 1, 2, 6, 10, 11]
 (.seq (.ops [⟨some 12, .pure (.bin .lss), [.t 11, .t 10], none⟩])
 (.seq (.cond (.t 12)
 .skip
 (.exit 0))
 (.seq (.block 1
 (.seq (.ops [⟨some 13, .pure .move, [.t 11], none⟩,
 ⟨some 8, .pure .move, [.t 13], none⟩])
 (.seq (.ops [⟨some 14, .pure .move, [.t 1], none⟩,
 ⟨some 15, .pure .move, [.t 8], none⟩,
 ⟨some 16, .pure .idxStr, [.t 14, .t 15], none⟩,
 ⟨some 17, .pure (.bin .lss), [.t 16, .c (.int .u8 48)], none⟩,
 ⟨some 18, .pure .move, [.t 17], none⟩,
 ⟨some 19, .pure .move, [.t 1], some (18, false)⟩,
 ⟨some 20, .pure .move, [.t 8], some (18, false)⟩,
 ⟨some 21, .pure .idxStr, [.t 19, .t 20], some (18, false)⟩,
 ⟨some 22, .pure (.bin .gtr), [.t 21, .c (.int .u8 57)], some (18, false)⟩,
 ⟨some 23, .pure .pick, [.t 18, .c (.bool true), .t 22], none⟩])
 (.cond (.t 23)
 (.seq (.ops [⟨some 24, .pure (.build [.bool false, .str [], .int .i64 0] []), [], none⟩,
 ⟨none, .eff (.store 3), [.t 6, .t 24], none⟩,
 ⟨some 7, .pure .move, [.c (.int .i64 3)], none⟩])
 .ret)
 .skip))))
 (.ops [⟨some 25, .pure (.bin .add), [.t 11, .c (.int .i64 1)], none⟩,
 ⟨some 11, .pure .move, [.t 25], none⟩])))))))
 (.seq (.ops [⟨some 26, .pure .move, [.t 0], none⟩,
 ⟨some 27, .pure .move, [.t 1], none⟩,
 ⟨some 28, .pcall 137, [.t 27, .c (.str [48])], none⟩,
 ⟨some 29, .pure .move, [.t 2], none⟩,
 ⟨some 30, .pcall 138, [.t 26, .t 28, .t 29], none⟩,
 ⟨some 31, .pure (.ext 0), [.t 30], none⟩,
 ⟨some 32, .pure (.ext 1), [.t 30], none⟩,
 ⟨none, .eff (.store 3), [.t 6, .t 31], none⟩,
 ⟨some 7, .pure .move, [.t 32], none⟩])
 .ret))) }
/-- datakit/numset.nextWhole -/
def ac707 : AFn :=
 { nt := 45, res := [.cell 4 (some 3), .tmp 5], body :=
 (.seq (.ops [⟨some 2, .new (.box 3), [.t 0], none⟩,
 ⟨some 4, .new (.new 3 [.agg [.bool false, .str [], .int .i64 0]]), [], none⟩,
 ⟨some 5, .pure .move, [.c (.bool false)], none⟩])
 (.seq (.seq (.ops [⟨some 10, .read (.load (some 3)), [.t 2], none⟩,
 ⟨some 11, .pcall 264, [.t 10], none⟩,
 ⟨some 12, .pure (.un .not), [.t 11], none⟩])
 (.cond (.t 12)
 (.seq (.ops [⟨some 14, .read (.load (some 3)), [.t 2], none⟩,
 ⟨some 15, .pcall 716, [.t 14, .c (.int .i64 0), .c (.int .i64 1)], none⟩,
 ⟨some 13, .pure .move, [.t 15], none⟩,
 ⟨some 16, .pure (.ext 0), [.t 13], none⟩,
 ⟨some 17, .pure (.ext 1), [.t 13], none⟩,
 ⟨some 6, .new (.new 3 [.agg [.bool false, .str [], .int .i64 0]]), [], none⟩,
 ⟨none, .eff (.store 3), [.t 6, .t 16], none⟩,
 ⟨some 7, .pure .move, [.t 17], none⟩])
 (.seq (.ops [⟨some 18, .read (.load (some 3)), [.t 6], none⟩,
 ⟨some 19, .pure .move, [.t 7], none⟩,
 ⟨some 20, .pure (.bin .eql), [.t 19, .c (.int .i64 0)], none⟩,
 ⟨none, .eff (.store 3), [.t 4, .t 18], none⟩,
 ⟨some 5, .pure .move, [.t 20], none⟩])
 .ret))
 .skip))
 (.seq (.seq (.ops [⟨some 21, .pure .move, [.t 1], none⟩,
 ⟨some 22, .pure (.un .not), [.t 21], none⟩])
 (.cond (.t 22)
 (.seq (.ops [⟨some 23, .read (.load (some 3)), [.t 2], none⟩,
 ⟨none, .eff (.store 3), [.t 4, .t 23], none⟩,
 ⟨some 5, .pure .move, [.c (.bool true)], none⟩])
 .ret)
 .skip))
 (.seq (.seq (.ops [⟨some 24, .pure (.faddr 1), [.t 2], none⟩,
 ⟨some 25, .read (.load none), [.t 24], none⟩,
 ⟨some 26, .pure (.bin .eql), [.t 25, .c (.str [])], none⟩,
 ⟨some 27, .pure .move, [.t 26], none⟩,
 ⟨some 28, .read (.load (some 3)), [.t 2], some (27, false)⟩,
 ⟨some 29, .pcall 717, [.t 28], some (27, false)⟩,
 ⟨some 30, .pure (.bin .leq), [.t 29, .c (.int .i64 120)], some (27, false)⟩,
 ⟨some 31, .pure .pick, [.t 27, .c (.bool true), .t 30], none⟩])
 (.cond (.t 31)
 (.seq (.draw 1 [[⟨some 33, .read (.load (some 3)), [.t 2], none⟩,
 ⟨some 34, .pcall 129, [.c (.int .i64 1)], none⟩,
 ⟨some 35, .pcall 718, [.t 33, .t 34], none⟩,
 ⟨some 32, .pure .move, [.t 35], none⟩,
 ⟨some 36, .pure (.ext 0), [.t 32], none⟩,
 ⟨some 37, .pure (.ext 1), [.t 32], none⟩,
 ⟨some 8, .newAt 0 (.new 3 [.agg [.bool false, .str [], .int .i64 0]]), [], none⟩,
 ⟨none, .eff (.store 3), [.t 8, .t 36], none⟩,
 ⟨some 9, .pure .move, [.t 37], none⟩]])
 (.seq (.ops [⟨some 38, .read (.load (some 3)), [.t 8], none⟩,
 ⟨some 39, .pure .move, [.t 9], none⟩,
 ⟨some 40, .pure (.bin .eql), [.t 39, .c (.int .i64 0)], none⟩,
 ⟨none, .eff (.store 3), [.t 4, .t 38], none⟩,
 ⟨some 5, .pure .move, [.t 40], none⟩])
 .ret))
 .skip))
 (.seq (.ops [⟨some 41, .read (.load (some 3)), [.t 2], none⟩,
 ⟨some 42, .pcall 709, [.t 41], none⟩,
 ⟨some 43, .pure (.ext 0), [.t 42], none⟩,
 ⟨some 44, .pure (.ext 1), [.t 42], none⟩,
 ⟨none, .eff (.store 3), [.t 4, .t 43], none⟩,
 ⟨some 5, .pure .move, [.t 44], none⟩])
 .ret))))) }
/-- datakit/numset.nextFract -/
def ac708 : AFn :=
 { nt := 58, res := [.cell 4 (some 3), .tmp 5], body :=
 (.seq (.ops [⟨some 2, .new (.box 3), [.t 0], none⟩,
 ⟨some 4, .new (.new 3 [.agg [.bool false, .str [], .int .i64 0]]), [], none⟩,
 ⟨some 5, .pure .move, [.c (.bool false)], none⟩])
 (.seq (.seq (.ops [⟨some 10, .read (.load (some 3)), [.t 2], none⟩,
 ⟨some 11, .pcall 264, [.t 10], none⟩,
 ⟨some 12, .pure (.un .not), [.t 11], none⟩,
 ⟨some 13, .pure .move, [.t 12], none⟩,
 ⟨some 14, .pure .move, [.t 1], some (13, true)⟩,
 ⟨some 15, .pure (.un .not), [.t 14], some (13, true)⟩,
 ⟨some 16, .pure .pick, [.t 13, .t 15, .c (.bool false)], none⟩])
 (.cond (.t 16)
 (.seq (.ops [⟨some 17, .read (.load (some 3)), [.t 2], none⟩,
 ⟨none, .eff (.store 3), [.t 4, .t 17], none⟩,
 ⟨some 5, .pure .move, [.c (.bool true)], none⟩])
 .ret)
 .skip))
 (.seq (.seq (.ops [⟨some 18, .pure (.faddr 1), [.t 2], none⟩,
 ⟨some 19, .read (.load none), [.t 18], none⟩,
 ⟨some 20, .pure (.bin .neq), [.t 19, .c (.str [])], none⟩,
 ⟨some 21, .pure .move, [.t 20], none⟩,
 ⟨some 22, .read (.load (some 3)), [.t 2], some (21, true)⟩,
 ⟨some 23, .pcall 717, [.t 22], some (21, true)⟩,
 ⟨some 24, .pure (.bin .geq), [.t 23, .c (.int .i64 120)], some (21, true)⟩,
 ⟨some 25, .pure .pick, [.t 21, .t 24, .c (.bool false)], none⟩])
 (.cond (.t 25)
 (.seq (.ops [⟨some 27, .pcall 291, [.c (.str [57]), .c (.int .i64 120)], none⟩,
 ⟨some 28, .pcall 706, [.c (.bool true), .t 27, .c (.int .i64 (-1))], none⟩,
 ⟨some 26, .pure .move, [.t 28], none⟩,
 ⟨some 29, .pure (.ext 0), [.t 26], none⟩,
 ⟨some 30, .pure (.ext 1), [.t 26], none⟩,
 ⟨some 6, .new (.new 3 [.agg [.bool false, .str [], .int .i64 0]]), [], none⟩,
 ⟨none, .eff (.store 3), [.t 6, .t 29], none⟩,
 ⟨some 7, .pure .move, [.t 30], none⟩])
 (.seq (.ops [⟨some 31, .read (.load (some 3)), [.t 6], none⟩,
 ⟨some 32, .pure (.faddr 0), [.t 2], none⟩,
 ⟨some 33, .read (.load none), [.t 32], none⟩,
 ⟨some 34, .pure .move, [.t 33], none⟩,
 ⟨some 35, .pure .move, [.t 7], some (34, true)⟩,
 ⟨some 36, .pure (.bin .eql), [.t 35, .c (.int .i64 0)], some (34, true)⟩,
 ⟨some 37, .pure .pick, [.t 34, .t 36, .c (.bool false)], none⟩,
 ⟨none, .eff (.store 3), [.t 4, .t 31], none⟩,
 ⟨some 5, .pure .move, [.t 37], none⟩])
 .ret))
 .skip))
 (.seq (.ops [⟨some 8, .pure .move, [.c (.bool true)], none⟩])
 (.seq (.seq (.ops [⟨some 9, .pure .move, [.c (.int .i64 0)], none⟩])
 (.block 0
 (.loop [2, 4, 8, 9]
 (.seq (.seq (.ops [⟨some 38, .pure .move, [.t 9], none⟩,
 ⟨some 39, .pure (.bin .lss), [.t 38, .c (.int .i64 3)], none⟩,
 ⟨some 40, .pure .move, [.t 39], none⟩,
 ⟨some 41, .pure .move, [.t 8], some (40, true)⟩,
 ⟨some 42, .pure .pick, [.t 40, .t 41, .c (.bool false)], none⟩])
 (.cond (.t 42)
 .skip
 (.exit 0)))
 (.seq (.block 1
 (.seq (.ops [⟨some 46, .read (.load (some 3)), [.t 2], none⟩,
 ⟨some 47, .pcall 709, [.t 46], none⟩,
 ⟨some 45, .pure .move, [.t 47], none⟩,
 ⟨some 48, .pure (.ext 0), [.t 45], none⟩,
 ⟨some 49, .pure (.ext 1), [.t 45], none⟩,
 ⟨none, .eff (.store 3), [.t 2, .t 48], none⟩,
 ⟨some 8, .pure .move, [.t 49], none⟩])
 (.seq (.ops [⟨some 50, .pure .move, [.t 8], none⟩,
 ⟨some 51, .pure .move, [.t 50], none⟩,
 ⟨some 52, .read (.load (some 3)), [.t 2], some (51, true)⟩,
 ⟨some 53, .pcall 264, [.t 52], some (51, true)⟩,
 ⟨some 54, .pure (.un .not), [.t 53], some (51, true)⟩,
 ⟨some 55, .pure .pick, [.t 51, .t 54, .c (.bool false)], none⟩])
 (.cond (.t 55)
 (.seq (.ops [⟨some 56, .read (.load (some 3)), [.t 2], none⟩,
 ⟨none, .eff (.store 3), [.t 4, .t 56], none⟩,
 ⟨some 5, .pure .move, [.c (.bool true)], none⟩])
 .ret)
 .skip))))
 (.ops [⟨some 43, .pure .move, [.t 9], none⟩,
 ⟨some 44, .pure (.bin .add), [.t 43, .c (.int .i64 1)], none⟩,
 ⟨some 9, .pure .move, [.t 44], none⟩]))))))
 (.seq (.ops [⟨some 57, .pure (.build [.bool false, .str [], .int .i64 0] []), [], none⟩,
 ⟨none, .eff (.store 3), [.t 4, .t 57], none⟩,
 ⟨some 5, .pure .move, [.c (.bool false)], none⟩])
 .ret)))))) }
/-- datakit/numset.next -/
def ac709 : AFn :=
 { nt := 67, res := [.cell 2 (some 3), .tmp 3], body :=
 (.seq (.ops [⟨some 1, .new (.box 3), [.t 0], none⟩,
 ⟨some 2, .new (.new 3 [.agg [.bool false, .str [], .int .i64 0]]), [], none⟩,
 ⟨some 3, .pure .move, [.c (.bool false)], none⟩])
 (.seq (.seq (.ops [⟨some 10, .pure (.faddr 1), [.t 1], none⟩,
 ⟨some 11, .read (.load none), [.t 10], none⟩,
 ⟨some 12, .pure (.bin .eql), [.t 11, .c (.str [])], none⟩])
 (.cond (.t 12)
 (.seq (.ops [⟨some 13, .pcall 697, [.c (.str [49]), .c (.int .i64 (-400))], none⟩,
 ⟨none, .eff (.store 3), [.t 2, .t 13], none⟩,
 ⟨some 3, .pure .move, [.c (.bool true)], none⟩])
 .ret)
 .skip))
 (.seq (.ops [⟨some 14, .read (.load (some 3)), [.t 1], none⟩,
 ⟨some 15, .pcall 717, [.t 14], none⟩,
 ⟨some 16, .pure (.bin .sub), [.t 15, .c (.int .i64 120)], none⟩,
 ⟨some 17, .pure (.minmax true), [.t 16, .c (.int .i64 (-400))], none⟩,
 ⟨some 4, .pure .move, [.t 17], none⟩])
 (.seq (.ops [⟨some 18, .pure .move, [.t 4], none⟩,
 ⟨some 19, .pcall 697, [.c (.str [49]), .t 18], none⟩,
 ⟨some 20, .pure .move, [.t 4], none⟩,
 ⟨some 21, .pcall 697, [.c (.str [50]), .t 20], none⟩,
 ⟨some 22, .pure .move, [.t 4], none⟩,
 ⟨some 23, .pcall 697, [.c (.str [49, 49]), .t 22], none⟩,
 ⟨some 24, .new (.buildSlice 3 [.agg [.bool false, .str [], .int .i64 0], .agg [.bool false, .str [], .int .i64 0], .agg [.bool false, .str [], .int .i64 0]] [0, 1, 2]), [.t 19, .t 21, .t 23], none⟩,
 ⟨some 5, .pure .move, [.t 24], none⟩])
 (.seq (.seq (.ops [⟨some 25, .pure (.faddr 0), [.t 1], none⟩,
 ⟨some 26, .read (.load none), [.t 25], none⟩])
 (.cond (.t 26)
 (.seq (.ops [⟨some 27, .pure .move, [.t 4], none⟩,
 ⟨some 28, .pcall 697, [.c (.str [49]), .t 27], none⟩,
 ⟨some 29, .pure .move, [.t 4], none⟩,
 ⟨some 30, .pcall 697, [.c (.str [50]), .t 29], none⟩,
 ⟨some 31, .new (.buildSlice 3 [.agg [.bool false, .str [], .int .i64 0], .agg [.bool false, .str [], .int .i64 0]] [0, 1]), [.t 28, .t 30], none⟩,
 ⟨some 5, .pure .move, [.t 31], none⟩])
 (.seq (.ops [⟨some 32, .pure .move, [.t 4], none⟩,
 ⟨some 33, .pure (.bin .gtr), [.t 32, .c (.int .i64 (-400))], none⟩])
 (.cond (.t 33)
 (.ops [⟨some 34, .pure .move, [.t 4], none⟩,
 ⟨some 35, .pure (.bin .sub), [.t 34, .c (.int .i64 1)], none⟩,
 ⟨some 36, .pcall 697, [.c (.str [49]), .t 35], none⟩,
 ⟨some 37, .pure .move, [.t 4], none⟩,
 ⟨some 38, .pcall 697, [.c (.str [49]), .t 37], none⟩,
 ⟨some 39, .pure .move, [.t 4], none⟩,
 ⟨some 40, .pure (.bin .sub), [.t 39, .c (.int .i64 1)], none⟩,
 ⟨some 41, .pcall 697, [.c (.str [49, 49]), .t 40], none⟩,
 ⟨some 42, .pure .move, [.t 4], none⟩,
 ⟨some 43, .pcall 697, [.c (.str [50]), .t 42], none⟩,
 ⟨some 44, .new (.buildSlice 3 [.agg [.bool false, .str [], .int .i64 0], .agg [.bool false, .str [], .int .i64 0], .agg [.bool false, .str [], .int .i64 0], .agg [.bool false, .str [], .int .i64 0]] [0, 1, 2, 3]), [.t 36, .t 38, .t 41, .t 43], none⟩,
 ⟨some 5, .pure .move, [.t 44], none⟩])
 .skip)))
 .skip))
 (.seq (.seq (.ops [⟨some 45, .pure .move, [.t 5], none⟩,
 ⟨some 46, .pure .lenL, [.t 45], none⟩,
 ⟨some 47, .pure .move, [.c (.int .i64 0)], none⟩])
 (.block 0
 (.loop [1, 2, 45, 46, 47]
 (.seq (.ops [⟨some 48, .pure (.bin .lss), [.t 47, .t 46], none⟩])
 (.seq (.cond (.t 48)
 .skip
 (.exit 0))
 (.seq (.block 1
 (.seq (.ops [⟨some 49, .pure (.iaddrS 3), [.t 45, .t 47], none⟩,
 ⟨some 50, .read (.load (some 3)), [.t 49], none⟩,
 ⟨some 7, .new (.new 3 [.agg [.bool false, .str [], .int .i64 0]]), [], none⟩,
 ⟨none, .eff (.store 3), [.t 7, .t 50], none⟩])
 (.seq (.ops [⟨some 52, .read (.load (some 3)), [.t 1], none⟩,
 ⟨some 53, .read (.load (some 3)), [.t 7], none⟩,
 ⟨some 54, .pcall 718, [.t 52, .t 53], none⟩,
 ⟨some 51, .pure .move, [.t 54], none⟩,
 ⟨some 55, .pure (.ext 0), [.t 51], none⟩,
 ⟨some 56, .pure (.ext 1), [.t 51], none⟩,
 ⟨some 8, .new (.new 3 [.agg [.bool false, .str [], .int .i64 0]]), [], none⟩,
 ⟨none, .eff (.store 3), [.t 8, .t 55], none⟩,
 ⟨some 9, .pure .move, [.t 56], none⟩])
 (.seq (.ops [⟨some 57, .pure .move, [.t 9], none⟩,
 ⟨some 58, .pure (.bin .eql), [.t 57, .c (.int .i64 0)], none⟩,
 ⟨some 59, .pure .move, [.t 58], none⟩,
 ⟨some 60, .pure (.faddr 1), [.t 7], some (59, true)⟩,
 ⟨some 61, .read (.load none), [.t 60], some (59, true)⟩,
 ⟨some 62, .pure (.bin .neq), [.t 61, .c (.str [])], some (59, true)⟩,
 ⟨some 63, .pure .pick, [.t 59, .t 62, .c (.bool false)], none⟩])
 (.cond (.t 63)
 (.seq (.ops [⟨some 64, .read (.load (some 3)), [.t 8], none⟩,
 ⟨none, .eff (.store 3), [.t 2, .t 64], none⟩,
 ⟨some 3, .pure .move, [.c (.bool true)], none⟩])
 .ret)
 .skip)))))
 (.ops [⟨some 65, .pure (.bin .add), [.t 47, .c (.int .i64 1)], none⟩,
 ⟨some 47, .pure .move, [.t 65], none⟩])))))))
 (.seq (.ops [⟨some 66, .pure (.build [.bool false, .str [], .int .i64 0] []), [], none⟩,
 ⟨none, .eff (.store 3), [.t 2, .t 66], none⟩,
 ⟨some 3, .pure .move, [.c (.bool false)], none⟩])
 .ret))))))) }
/-- datakit/numset.compare -/
def ac710 : AFn :=
 { nt := 33, res := [.tmp 4], body :=
 (.seq (.ops [⟨some 2, .new (.box 5), [.t 0], none⟩,
 ⟨some 3, .new (.box 5), [.t 1], none⟩,
 ⟨some 4, .pure .move, [.c (.int .i64 0)], none⟩])
 (.seq (.seq (.ops [⟨some 6, .pure (.faddr 0), [.t 2], none⟩,
 ⟨some 7, .read (.load none), [.t 6], none⟩,
 ⟨some 8, .pure (.faddr 0), [.t 3], none⟩,
 ⟨some 9, .read (.load none), [.t 8], none⟩,
 ⟨some 10, .pure (.bin .neq), [.t 7, .t 9], none⟩])
 (.cond (.t 10)
 (.seq (.ops [⟨some 11, .pure (.faddr 0), [.t 2], none⟩,
 ⟨some 12, .read (.load none), [.t 11], none⟩,
 ⟨some 13, .pure (.faddr 0), [.t 3], none⟩,
 ⟨some 14, .read (.load none), [.t 13], none⟩,
 ⟨some 15, .pure (.bin .sub), [.t 12, .t 14], none⟩,
 ⟨some 4, .pure .move, [.t 15], none⟩])
 .ret)
 .skip))
 (.seq (.seq (.ops [⟨some 16, .pure (.faddr 1), [.t 2], none⟩,
 ⟨some 17, .read (.load (some 3)), [.t 16], none⟩,
 ⟨some 18, .pure (.faddr 1), [.t 3], none⟩,
 ⟨some 19, .read (.load (some 3)), [.t 18], none⟩,
 ⟨some 20, .pcall 263, [.t 17, .t 19], none⟩,
 ⟨some 5, .pure .move, [.t 20], none⟩])
 (.seq (.ops [⟨some 21, .pure .move, [.t 5], none⟩,
 ⟨some 22, .pure (.bin .neq), [.t 21, .c (.int .i64 0)], none⟩,
 ⟨some 23, .pure .move, [.t 22], none⟩,
 ⟨some 24, .pure (.faddr 4), [.t 2], some (23, false)⟩,
 ⟨some 25, .read (.load none), [.t 24], some (23, false)⟩,
 ⟨some 26, .pure (.faddr 4), [.t 3], some (23, false)⟩,
 ⟨some 27, .read (.load none), [.t 26], some (23, false)⟩,
 ⟨some 28, .pure (.eqB false), [.t 25, .t 27], some (23, false)⟩,
 ⟨some 29, .pure .pick, [.t 23, .c (.bool true), .t 28], none⟩])
 (.cond (.t 29)
 (.seq (.ops [⟨some 30, .pure .move, [.t 5], none⟩,
 ⟨some 4, .pure .move, [.t 30], none⟩])
 .ret)
 .skip)))
 (.seq (.seq (.ops [⟨some 31, .pure (.faddr 4), [.t 3], none⟩,
 ⟨some 32, .read (.load none), [.t 31], none⟩])
 (.cond (.t 32)
 (.seq (.ops [⟨some 4, .pure .move, [.c (.int .i64 (-1))], none⟩])
 .ret)
 .skip))
 (.seq (.ops [⟨some 4, .pure .move, [.c (.int .i64 1)], none⟩])
 .ret))))) }
/-- datakit/numset.lower -/
def ac711 : AFn :=
 { nt := 12, res := [.cell 2 (some 5)], body :=
 (.seq (.ops [⟨some 1, .new (.box 5), [.t 0], none⟩,
 ⟨some 2, .new (.new 5 [.agg [.int .i64 0, .bool false, .str [], .int .i64 0, .bool false]]), [], none⟩])
 (.seq (.seq (.ops [⟨some 3, .pure (.faddr 0), [.t 1], none⟩,
 ⟨some 4, .read (.load none), [.t 3], none⟩,
 ⟨some 5, .pure (.un .not), [.t 4], none⟩])
 (.cond (.t 5)
 (.seq (.ops [⟨some 6, .pure (.build [.int .i64 0, .bool false, .str [], .int .i64 0, .bool false] [(0, 1)]), [.c (.int .i64 (-1))], none⟩,
 ⟨none, .eff (.store 5), [.t 2, .t 6], none⟩])
 .ret)
 .skip))
 (.seq (.ops [⟨some 7, .pure (.faddr 1), [.t 1], none⟩,
 ⟨some 8, .read (.load (some 3)), [.t 7], none⟩,
 ⟨some 9, .pure (.faddr 4), [.t 1], none⟩,
 ⟨some 10, .read (.load none), [.t 9], none⟩,
 ⟨some 11, .pure (.build [.int .i64 0, .bool false, .str [], .int .i64 0, .bool false] [(1, 3), (4, 1)]), [.t 8, .t 10], none⟩,
 ⟨none, .eff (.store 5), [.t 2, .t 11], none⟩])
 .ret))) }
/-- datakit/numset.upper -/
def ac712 : AFn :=
 { nt := 13, res := [.cell 2 (some 5)], body :=
 (.seq (.ops [⟨some 1, .new (.box 5), [.t 0], none⟩,
 ⟨some 2, .new (.new 5 [.agg [.int .i64 0, .bool false, .str [], .int .i64 0, .bool false]]), [], none⟩])
 (.seq (.seq (.ops [⟨some 3, .pure (.faddr 0), [.t 1], none⟩,
 ⟨some 4, .read (.load none), [.t 3], none⟩,
 ⟨some 5, .pure (.un .not), [.t 4], none⟩])
 (.cond (.t 5)
 (.seq (.ops [⟨some 6, .pure (.build [.int .i64 0, .bool false, .str [], .int .i64 0, .bool false] [(0, 1)]), [.c (.int .i64 1)], none⟩,
 ⟨none, .eff (.store 5), [.t 2, .t 6], none⟩])
 .ret)
 .skip))
 (.seq (.ops [⟨some 7, .pure (.faddr 1), [.t 1], none⟩,
 ⟨some 8, .read (.load (some 3)), [.t 7], none⟩,
 ⟨some 9, .pure (.faddr 4), [.t 1], none⟩,
 ⟨some 10, .read (.load none), [.t 9], none⟩,
 ⟨some 11, .pure (.un .not), [.t 10], none⟩,
 ⟨some 12, .pure (.build [.int .i64 0, .bool false, .str [], .int .i64 0, .bool false] [(1, 3), (4, 1)]), [.t 8, .t 11], none⟩,
 ⟨none, .eff (.store 5), [.t 2, .t 12], none⟩])
 .ret))) }
/-- slices.SortFunc[[]datakit/numset.cut,datakit/numset.cut] -/
def ac713 : AFn :=
 { nt := 14, res := [], body :=
 (.seq (.ops [⟨some 5, .pure .move, [.t 0], none⟩,
 ⟨some 6, .pure .lenL, [.t 5], none⟩,
 ⟨some 4, .pure .move, [.t 6], none⟩])
 (.ops [⟨some 7, .pure .move, [.t 0], none⟩,
 ⟨some 8, .pure .move, [.t 4], none⟩,
 ⟨some 9, .pure .move, [.t 4], none⟩,
 ⟨some 10, .pure (.conv .u64), [.t 9], none⟩,
 ⟨some 11, .pcall 49, [.t 10], none⟩,
 ⟨some 12, .pure .move, [.t 1], none⟩,
 ⟨some 13, .call 719, [.t 7, .c (.int .i64 0), .t 8, .t 11, .t 12], none⟩])) }
/-- slices.CompactFunc[[]datakit/numset.cut,datakit/numset.cut] -/
def ac714 : AFn :=
 { nt := 66, res := [.tmp 4], body :=
 (.seq (.ops [⟨some 4, .pure .move, [.c (.snil 5)], none⟩])
 (.seq (.seq (.ops [⟨some 8, .pure .move, [.t 0], none⟩,
 ⟨some 9, .pure .lenL, [.t 8], none⟩,
 ⟨some 10, .pure (.bin .lss), [.t 9, .c (.int .i64 2)], none⟩])
 (.cond (.t 10)
 (.seq (.ops [⟨some 11, .pure .move, [.t 0], none⟩,
 ⟨some 4, .pure .move, [.t 11], none⟩])
 .ret)
 .skip))
 (.seq (.seq (.ops [⟨some 5, .pure .move, [.c (.int .i64 1)], none⟩])
 (.block 0
 (.loop [0, 1, 5]
 (.seq (.seq (.ops [⟨some 12, .pure .move, [.t 5], none⟩,
 ⟨some 13, .pure .move, [.t 0], none⟩,
 ⟨some 14, .pure .lenL, [.t 13], none⟩,
 ⟨some 15, .pure (.bin .lss), [.t 12, .t 14], none⟩])
 (.cond (.t 15)
 .skip
 (.exit 0)))
 (.seq (.block 1
 (.seq (.ops [⟨some 18, .pure .move, [.t 1], none⟩,
 ⟨some 19, .pure .move, [.t 0], none⟩,
 ⟨some 20, .pure .move, [.t 5], none⟩,
 ⟨some 21, .pure (.iaddrS 5), [.t 19, .t 20], none⟩,
 ⟨some 22, .read (.load (some 5)), [.t 21], none⟩,
 ⟨some 23, .pure .move, [.t 0], none⟩,
 ⟨some 24, .pure .move, [.t 5], none⟩,
 ⟨some 25, .pure (.bin .sub), [.t 24, .c (.int .i64 1)], none⟩,
 ⟨some 26, .pure (.iaddrS 5), [.t 23, .t 25], none⟩,
 ⟨some 27, .read (.load (some 5)), [.t 26], none⟩,
 ⟨some 28, .callv, [.t 18, .t 22, .t 27], none⟩])
 (.cond (.t 28)
 (.seq (.ops [⟨some 29, .pure .move, [.t 0], none⟩,
 ⟨some 30, .pure .move, [.t 5], none⟩,
 ⟨some 31, .pure (.sliceL 5 true false false), [.t 29, .t 30], none⟩,
 ⟨some 6, .pure .move, [.t 31], none⟩])
 (.seq (.seq (.ops [⟨some 7, .pure .move, [.c (.int .i64 1)], none⟩])
 (.block 2
 (.loop [0, 1, 5, 6, 7]
 (.seq (.seq (.ops [⟨some 32, .pure .move, [.t 7], none⟩,
 ⟨some 33, .pure .move, [.t 6], none⟩,
 ⟨some 34, .pure .lenL, [.t 33], none⟩,
 ⟨some 35, .pure (.bin .lss), [.t 32, .t 34], none⟩])
 (.cond (.t 35)
 .skip
 (.exit 2)))
 (.seq (.block 3
 (.seq (.ops [⟨some 38, .pure .move, [.t 1], none⟩,
 ⟨some 39, .pure .move, [.t 6], none⟩,
 ⟨some 40, .pure .move, [.t 7], none⟩,
 ⟨some 41, .pure (.iaddrS 5), [.t 39, .t 40], none⟩,
 ⟨some 42, .read (.load (some 5)), [.t 41], none⟩,
 ⟨some 43, .pure .move, [.t 6], none⟩,
 ⟨some 44, .pure .move, [.t 7], none⟩,
 ⟨some 45, .pure (.bin .sub), [.t 44, .c (.int .i64 1)], none⟩,
 ⟨some 46, .pure (.iaddrS 5), [.t 43, .t 45], none⟩,
 ⟨some 47, .read (.load (some 5)), [.t 46], none⟩,
 ⟨some 48, .callv, [.t 38, .t 42, .t 47], none⟩,
 ⟨some 49, .pure (.un .not), [.t 48], none⟩])
 (.cond (.t 49)
 (.seq (.ops [⟨some 50, .pure .move, [.t 0], none⟩,
 ⟨some 51, .pure .move, [.t 5], none⟩,
 ⟨some 52, .pure .move, [.t 6], none⟩,
 ⟨some 53, .pure .move, [.t 7], none⟩,
 ⟨some 54, .pure (.iaddrS 5), [.t 52, .t 53], none⟩,
 ⟨some 55, .read (.load (some 5)), [.t 54], none⟩,
 ⟨some 56, .pure (.iaddrS 5), [.t 50, .t 51], none⟩,
 ⟨none, .eff (.store 5), [.t 56, .t 55], none⟩])
 (.ops [⟨some 57, .pure .move, [.t 5], none⟩,
 ⟨some 58, .pure (.bin .add), [.t 57, .c (.int .i64 1)], none⟩,
 ⟨some 5, .pure .move, [.t 58], none⟩]))
 .skip)))
 (.ops [⟨some 36, .pure .move, [.t 7], none⟩,
 ⟨some 37, .pure (.bin .add), [.t 36, .c (.int .i64 1)], none⟩,
 ⟨some 7, .pure .move, [.t 37], none⟩]))))))
 (.seq (.ops [⟨some 59, .pure .move, [.t 0], none⟩,
 ⟨some 60, .pure .move, [.t 5], none⟩,
 ⟨some 61, .pure (.sliceL 5 true false false), [.t 59, .t 60], none⟩,
 ⟨none, .bad, [], none⟩])
 (.seq (.ops [⟨some 62, .pure .move, [.t 0], none⟩,
 ⟨some 63, .pure .move, [.t 5], none⟩,
 ⟨some 64, .pure (.sliceL 5 false true false), [.t 62, .t 63], none⟩,
 ⟨some 4, .pure .move, [.t 64], none⟩])
 .ret))))
 .skip)))
 (.ops [⟨some 16, .pure .move, [.t 5], none⟩,
 ⟨some 17, .pure (.bin .add), [.t 16, .c (.int .i64 1)], none⟩,
 ⟨some 5, .pure .move, [.t 17], none⟩]))))))
 (.seq (.ops [⟨some 65, .pure .move, [.t 0], none⟩,
 ⟨some 4, .pure .move, [.t 65], none⟩])
 .ret)))) }
/-- datakit/numset.cuts$1 -/
def ac715 : AFn :=
 { nt := 9, res := [.tmp 4], body :=
 (.seq (.ops [⟨some 2, .new (.box 5), [.t 0], none⟩,
 ⟨some 3, .new (.box 5), [.t 1], none⟩,
 ⟨some 4, .pure .move, [.c (.bool false)], none⟩])
 (.seq (.ops [⟨some 5, .read (.load (some 5)), [.t 2], none⟩,
 ⟨some 6, .read (.load (some 5)), [.t 3], none⟩,
 ⟨some 7, .pcall 710, [.t 5, .t 6], none⟩,
 ⟨some 8, .pure (.bin .eql), [.t 7, .c (.int .i64 0)], none⟩,
 ⟨some 4, .pure .move, [.t 8], none⟩])
 .ret)) }
/-- datakit/decimal.Round -/
def ac716 : AFn :=
 { nt := 15, res := [.cell 6 (some 3), .tmp 7], body :=
 (.seq (.ops [⟨some 3, .new (.box 3), [.t 0], none⟩,
 ⟨some 6, .new (.new 3 [.agg [.bool false, .str [], .int .i64 0]]), [], none⟩,
 ⟨some 7, .pure .move, [.c (.int .i64 0)], none⟩])
 (.seq (.ops [⟨some 8, .read (.load (some 3)), [.t 3], none⟩,
 ⟨some 9, .pcall 129, [.c (.int .i64 1)], none⟩,
 ⟨some 10, .pure .move, [.t 1], none⟩,
 ⟨some 11, .pure .move, [.t 2], none⟩,
 ⟨some 12, .pcall 720, [.t 8, .t 9, .t 10, .t 11], none⟩,
 ⟨some 13, .pure (.ext 0), [.t 12], none⟩,
 ⟨some 14, .pure (.ext 1), [.t 12], none⟩,
 ⟨none, .eff (.store 3), [.t 6, .t 13], none⟩,
 ⟨some 7, .pure .move, [.t 14], none⟩])
 .ret)) }
/-- datakit/numset.places -/
def ac717 : AFn :=
 { nt := 9, res := [.tmp 2], body :=
 (.seq (.ops [⟨some 1, .new (.box 3), [.t 0], none⟩,
 ⟨some 2, .pure .move, [.c (.int .i64 0)], none⟩])
 (.seq (.ops [⟨some 3, .pure (.faddr 1), [.t 1], none⟩,
 ⟨some 4, .read (.load none), [.t 3], none⟩,
 ⟨some 5, .pure .lenS, [.t 4], none⟩,
 ⟨some 6, .pure (.faddr 2), [.t 1], none⟩,
 ⟨some 7, .read (.load none), [.t 6], none⟩,
 ⟨some 8, .pure (.bin .add), [.t 5, .t 7], none⟩,
 ⟨some 2, .pure .move, [.t 8], none⟩])
 .ret)) }
/-- datakit/decimal.Add -/
def ac718 : AFn :=
 { nt := 52, res := [.cell 4 (some 3), .tmp 5], body :=
 (.seq (.ops [⟨some 2, .new (.box 3), [.t 0], none⟩,
 ⟨some 3, .new (.box 3), [.t 1], none⟩,
 ⟨some 4, .new (.new 3 [.agg [.bool false, .str [], .int .i64 0]]), [], none⟩,
 ⟨some 5, .pure .move, [.c (.int .i64 0)], none⟩])
 (.seq (.ops [⟨some 10, .read (.load (some 3)), [.t 2], none⟩,
 ⟨some 11, .read (.load (some 3)), [.t 3], none⟩,
 ⟨some 12, .pcall 285, [.t 10, .t 11], none⟩,
 ⟨some 9, .pure .move, [.t 12], none⟩,
 ⟨some 13, .pure (.ext 0), [.t 9], none⟩,
 ⟨some 14, .pure (.ext 1), [.t 9], none⟩,
 ⟨some 15, .pure (.ext 2), [.t 9], none⟩,
 ⟨some 6, .pure .move, [.t 13], none⟩,
 ⟨some 7, .pure .move, [.t 14], none⟩,
 ⟨some 8, .pure .move, [.t 15], none⟩])
 (.seq (.seq (.ops [⟨some 16, .pure (.faddr 0), [.t 2], none⟩,
 ⟨some 17, .read (.load none), [.t 16], none⟩,
 ⟨some 18, .pure (.faddr 0), [.t 3], none⟩,
 ⟨some 19, .read (.load none), [.t 18], none⟩,
 ⟨some 20, .pure (.eqB false), [.t 17, .t 19], none⟩])
 (.cond (.t 20)
 (.seq (.ops [⟨some 21, .pure (.faddr 0), [.t 2], none⟩,
 ⟨some 22, .read (.load none), [.t 21], none⟩,
 ⟨some 23, .pure .move, [.t 6], none⟩,
 ⟨some 24, .pure .move, [.t 7], none⟩,
 ⟨some 25, .pcall 721, [.t 23, .t 24], none⟩,
 ⟨some 26, .pure .move, [.t 8], none⟩,
 ⟨some 27, .pcall 138, [.t 22, .t 25, .t 26], none⟩,
 ⟨some 28, .pure (.ext 0), [.t 27], none⟩,
 ⟨some 29, .pure (.ext 1), [.t 27], none⟩,
 ⟨none, .eff (.store 3), [.t 4, .t 28], none⟩,
 ⟨some 5, .pure .move, [.t 29], none⟩])
 .ret)
 .skip))
 (.seq (.seq (.ops [⟨some 30, .pure .move, [.t 6], none⟩,
 ⟨some 31, .pure .move, [.t 7], none⟩,
 ⟨some 32, .pcall 286, [.t 30, .t 31], none⟩,
 ⟨some 33, .pure (.bin .geq), [.t 32, .c (.int .i64 0)], none⟩])
 (.cond (.t 33)
 (.seq (.ops [⟨some 34, .pure (.faddr 0), [.t 2], none⟩,
 ⟨some 35, .read (.load none), [.t 34], none⟩,
 ⟨some 36, .pure .move, [.t 6], none⟩,
 ⟨some 37, .pure .move, [.t 7], none⟩,
 ⟨some 38, .pcall 722, [.t 36, .t 37], none⟩,
 ⟨some 39, .pure .move, [.t 8], none⟩,
 ⟨some 40, .pcall 138, [.t 35, .t 38, .t 39], none⟩,
 ⟨some 41, .pure (.ext 0), [.t 40], none⟩,
 ⟨some 42, .pure (.ext 1), [.t 40], none⟩,
 ⟨none, .eff (.store 3), [.t 4, .t 41], none⟩,
 ⟨some 5, .pure .move, [.t 42], none⟩])
 .ret)
 .skip))
 (.seq (.ops [⟨some 43, .pure (.faddr 0), [.t 3], none⟩,
 ⟨some 44, .read (.load none), [.t 43], none⟩,
 ⟨some 45, .pure .move, [.t 7], none⟩,
 ⟨some 46, .pure .move, [.t 6], none⟩,
 ⟨some 47, .pcall 722, [.t 45, .t 46], none⟩,
 ⟨some 48, .pure .move, [.t 8], none⟩,
 ⟨some 49, .pcall 138, [.t 44, .t 47, .t 48], none⟩,
 ⟨some 50, .pure (.ext 0), [.t 49], none⟩,
 ⟨some 51, .pure (.ext 1), [.t 49], none⟩,
 ⟨none, .eff (.store 3), [.t 4, .t 50], none⟩,
 ⟨some 5, .pure .move, [.t 51], none⟩])
 .ret))))) }
/-- slices.pdqsortCmpFunc[datakit/numset.cut] -/
def ac719 : AFn :=
 { nt := 148, res := [], body :=
 (.seq (.ops [⟨some 10, .pure .move, [.c (.bool true)], none⟩])
 (.seq (.ops [⟨some 11, .pure .move, [.c (.bool true)], none⟩])
 (.block 0
 (.loop [0, 1, 2, 3, 4, 10, 11]
 (.block 1
 (.seq (.ops [⟨some 21, .pure .move, [.t 2], none⟩,
 ⟨some 22, .pure .move, [.t 1], none⟩,
 ⟨some 23, .pure (.bin .sub), [.t 21, .t 22], none⟩,
 ⟨some 12, .pure .move, [.t 23], none⟩])
 (.seq (.seq (.ops [⟨some 24, .pure .move, [.t 12], none⟩,
 ⟨some 25, .pure (.bin .leq), [.t 24, .c (.int .i64 12)], none⟩])
 (.cond (.t 25)
 (.seq (.ops [⟨some 26, .pure .move, [.t 0], none⟩,
 ⟨some 27, .pure .move, [.t 1], none⟩,
 ⟨some 28, .pure .move, [.t 2], none⟩,
 ⟨some 29, .pure .move, [.t 4], none⟩,
 ⟨some 30, .call 723, [.t 26, .t 27, .t 28, .t 29], none⟩])
 .ret)
 .skip))
 (.seq (.seq (.ops [⟨some 31, .pure .move, [.t 3], none⟩,
 ⟨some 32, .pure (.bin .eql), [.t 31, .c (.int .i64 0)], none⟩])
 (.cond (.t 32)
 (.seq (.ops [⟨some 33, .pure .move, [.t 0], none⟩,
 ⟨some 34, .pure .move, [.t 1], none⟩,
 ⟨some 35, .pure .move, [.t 2], none⟩,
 ⟨some 36, .pure .move, [.t 4], none⟩,
 ⟨some 37, .call 724, [.t 33, .t 34, .t 35, .t 36], none⟩])
 .ret)
 .skip))
 (.seq (.seq (.ops [⟨some 38, .pure .move, [.t 10], none⟩,
 ⟨some 39, .pure (.un .not), [.t 38], none⟩])
 (.cond (.t 39)
 (.seq (.ops [⟨some 40, .pure .move, [.t 0], none⟩,
 ⟨some 41, .pure .move, [.t 1], none⟩,
 ⟨some 42, .pure .move, [.t 2], none⟩,
 ⟨some 43, .pure .move, [.t 4], none⟩,
 ⟨some 44, .call 725, [.t 40, .t 41, .t 42, .t 43], none⟩])
 (.ops [⟨some 45, .pure .move, [.t 3], none⟩,
 ⟨some 46, .pure (.bin .sub), [.t 45, .c (.int .i64 1)], none⟩,
 ⟨some 3, .pure .move, [.t 46], none⟩]))
 .skip))
 (.seq (.ops [⟨some 48, .pure .move, [.t 0], none⟩,
 ⟨some 49, .pure .move, [.t 1], none⟩,
 ⟨some 50, .pure .move, [.t 2], none⟩,
 ⟨some 51, .pure .move, [.t 4], none⟩,
 ⟨some 52, .call 726, [.t 48, .t 49, .t 50, .t 51], none⟩,
 ⟨some 47, .pure .move, [.t 52], none⟩,
 ⟨some 53, .pure (.ext 0), [.t 47], none⟩,
 ⟨some 54, .pure (.ext 1), [.t 47], none⟩,
 ⟨some 13, .pure .move, [.t 53], none⟩,
 ⟨some 14, .pure .move, [.t 54], none⟩])
 (.seq (.seq (.ops [⟨some 55, .pure .move, [.t 14], none⟩,
 ⟨some 56, .pure (.bin .eql), [.t 55, .c (.int .i64 2)], none⟩])
 (.cond (.t 56)
 (.seq (.ops [⟨some 57, .pure .move, [.t 0], none⟩,
 ⟨some 58, .pure .move, [.t 1], none⟩,
 ⟨some 59, .pure .move, [.t 2], none⟩,
 ⟨some 60, .pure .move, [.t 4], none⟩,
 ⟨some 61, .call 727, [.t 57, .t 58, .t 59, .t 60], none⟩])
 (.seq (.ops [⟨some 62, .pure .move, [.t 2], none⟩,
 ⟨some 63, .pure (.bin .sub), [.t 62, .c (.int .i64 1)], none⟩,
 ⟨some 64, .pure .move, [.t 13], none⟩,
 ⟨some 65, .pure .move, [.t 1], none⟩,
 ⟨some 66, .pure (.bin .sub), [.t 64, .t 65], none⟩,
 ⟨some 67, .pure (.bin .sub), [.t 63, .t 66], none⟩,
 ⟨some 13, .pure .move, [.t 67], none⟩])
 (.ops [⟨some 14, .pure .move, [.c (.int .i64 1)], none⟩])))
 .skip))
 (.seq (.seq (.ops [⟨some 68, .pure .move, [.t 10], none⟩,
 ⟨some 69, .pure .move, [.t 68], none⟩,
 ⟨some 70, .pure .move, [.t 11], some (69, true)⟩,
 ⟨some 71, .pure .pick, [.t 69, .t 70, .c (.bool false)], none⟩,
 ⟨some 72, .pure .move, [.t 71], none⟩,
 ⟨some 73, .pure .move, [.t 14], some (72, true)⟩,
 ⟨some 74, .pure (.bin .eql), [.t 73, .c (.int .i64 1)], some (72, true)⟩,
 ⟨some 75, .pure .pick, [.t 72, .t 74, .c (.bool false)], none⟩])
 (.cond (.t 75)
 (.seq (.ops [⟨some 76, .pure .move, [.t 0], none⟩,
 ⟨some 77, .pure .move, [.t 1], none⟩,
 ⟨some 78, .pure .move, [.t 2], none⟩,
 ⟨some 79, .pure .move, [.t 4], none⟩,
 ⟨some 80, .call 728, [.t 76, .t 77, .t 78, .t 79], none⟩])
 (.cond (.t 80)
 .ret
 .skip))
 .skip))
 (.seq (.seq (.ops [⟨some 81, .pure .move, [.t 1], none⟩,
 ⟨some 82, .pure (.bin .gtr), [.t 81, .c (.int .i64 0)], none⟩,
 ⟨some 83, .pure .move, [.t 82], none⟩,
 ⟨some 84, .pure .move, [.t 4], some (83, true)⟩,
 ⟨some 85, .pure .move, [.t 0], some (83, true)⟩,
 ⟨some 86, .pure .move, [.t 1], some (83, true)⟩,
 ⟨some 87, .pure (.bin .sub), [.t 86, .c (.int .i64 1)], some (83, true)⟩,
 ⟨some 88, .pure (.iaddrS 5), [.t 85, .t 87], some (83, true)⟩,
 ⟨some 89, .read (.load (some 5)), [.t 88], some (83, true)⟩,
 ⟨some 90, .pure .move, [.t 0], some (83, true)⟩,
 ⟨some 91, .pure .move, [.t 13], some (83, true)⟩,
 ⟨some 92, .pure (.iaddrS 5), [.t 90, .t 91], some (83, true)⟩,
 ⟨some 93, .read (.load (some 5)), [.t 92], some (83, true)⟩,
 ⟨some 94, .callv, [.t 84, .t 89, .t 93], some (83, true)⟩,
 ⟨some 95, .pure (.bin .lss), [.t 94, .c (.int .i64 0)], some (83, true)⟩,
 ⟨some 96, .pure (.un .not), [.t 95], some (83, true)⟩,
 ⟨some 97, .pure .pick, [.t 83, .t 96, .c (.bool false)], none⟩])
 (.cond (.t 97)
 (.seq (.ops [⟨some 98, .pure .move, [.t 0], none⟩,
 ⟨some 99, .pure .move, [.t 1], none⟩,
 ⟨some 100, .pure .move, [.t 2], none⟩,
 ⟨some 101, .pure .move, [.t 13], none⟩,
 ⟨some 102, .pure .move, [.t 4], none⟩,
 ⟨some 103, .call 729, [.t 98, .t 99, .t 100, .t 101, .t 102], none⟩,
 ⟨some 15, .pure .move, [.t 103], none⟩])
 (.seq (.ops [⟨some 104, .pure .move, [.t 15], none⟩,
 ⟨some 1, .pure .move, [.t 104], none⟩])
 (.exit 1)))
 .skip))
 (.seq (.ops [⟨some 106, .pure .move, [.t 0], none⟩,
 ⟨some 107, .pure .move, [.t 1], none⟩,
 ⟨some 108, .pure .move, [.t 2], none⟩,
 ⟨some 109, .pure .move, [.t 13], none⟩,
 ⟨some 110, .pure .move, [.t 4], none⟩,
 ⟨some 111, .call 730, [.t 106, .t 107, .t 108, .t 109, .t 110], none⟩,
 ⟨some 105, .pure .move, [.t 111], none⟩,
 ⟨some 112, .pure (.ext 0), [.t 105], none⟩,
 ⟨some 113, .pure (.ext 1), [.t 105], none⟩,
 ⟨some 16, .pure .move, [.t 112], none⟩,
 ⟨some 17, .pure .move, [.t 113], none⟩])
 (.seq (.ops [⟨some 114, .pure .move, [.t 17], none⟩,
 ⟨some 11, .pure .move, [.t 114], none⟩])
 (.seq (.ops [⟨some 115, .pure .move, [.t 16], none⟩,
 ⟨some 116, .pure .move, [.t 1], none⟩,
 ⟨some 117, .pure (.bin .sub), [.t 115, .t 116], none⟩,
 ⟨some 118, .pure .move, [.t 2], none⟩,
 ⟨some 119, .pure .move, [.t 16], none⟩,
 ⟨some 120, .pure (.bin .sub), [.t 118, .t 119], none⟩,
 ⟨some 18, .pure .move, [.t 117], none⟩,
 ⟨some 19, .pure .move, [.t 120], none⟩])
 (.seq (.ops [⟨some 121, .pure .move, [.t 12], none⟩,
 ⟨some 122, .pure (.bin .quo), [.t 121, .c (.int .i64 8)], none⟩,
 ⟨some 20, .pure .move, [.t 122], none⟩])
 (.seq (.ops [⟨some 123, .pure .move, [.t 18], none⟩,
 ⟨some 124, .pure .move, [.t 19], none⟩,
 ⟨some 125, .pure (.bin .lss), [.t 123, .t 124], none⟩])
 (.cond (.t 125)
 (.seq (.ops [⟨some 126, .pure .move, [.t 18], none⟩,
 ⟨some 127, .pure .move, [.t 20], none⟩,
 ⟨some 128, .pure (.bin .geq), [.t 126, .t 127], none⟩,
 ⟨some 10, .pure .move, [.t 128], none⟩])
 (.seq (.ops [⟨some 129, .pure .move, [.t 0], none⟩,
 ⟨some 130, .pure .move, [.t 1], none⟩,
 ⟨some 131, .pure .move, [.t 16], none⟩,
 ⟨some 132, .pure .move, [.t 3], none⟩,
 ⟨some 133, .pure .move, [.t 4], none⟩,
 ⟨some 134, .call 719, [.t 129, .t 130, .t 131, .t 132, .t 133], none⟩])
 (.ops [⟨some 135, .pure .move, [.t 16], none⟩,
 ⟨some 136, .pure (.bin .add), [.t 135, .c (.int .i64 1)], none⟩,
 ⟨some 1, .pure .move, [.t 136], none⟩])))
 (.seq (.ops [⟨some 137, .pure .move, [.t 19], none⟩,
 ⟨some 138, .pure .move, [.t 20], none⟩,
 ⟨some 139, .pure (.bin .geq), [.t 137, .t 138], none⟩,
 ⟨some 10, .pure .move, [.t 139], none⟩])
 (.seq (.ops [⟨some 140, .pure .move, [.t 0], none⟩,
 ⟨some 141, .pure .move, [.t 16], none⟩,
 ⟨some 142, .pure (.bin .add), [.t 141, .c (.int .i64 1)], none⟩,
 ⟨some 143, .pure .move, [.t 2], none⟩,
 ⟨some 144, .pure .move, [.t 3], none⟩,
 ⟨some 145, .pure .move, [.t 4], none⟩,
 ⟨some 146, .call 719, [.t 140, .t 142, .t 143, .t 144, .t 145], none⟩])
 (.ops [⟨some 147, .pure .move, [.t 16], none⟩,
 ⟨some 2, .pure .move, [.t 147], none⟩])))))))))))))))))))))) }
/-- datakit/decimal.Quo -/
def ac720 : AFn :=
 { nt := 111, res := [.cell 8 (some 3), .tmp 9], body :=
 (.seq (.ops [⟨some 4, .new (.box 3), [.t 0], none⟩,
 ⟨some 5, .new (.box 3), [.t 1], none⟩,
 ⟨some 8, .new (.new 3 [.agg [.bool false, .str [], .int .i64 0]]), [], none⟩,
 ⟨some 9, .pure .move, [.c (.int .i64 0)], none⟩])
 (.seq (.seq (.ops [⟨some 17, .pure .move, [.t 3], none⟩,
 ⟨some 18, .pure (.bin .lss), [.t 17, .c (.int .i64 0)], none⟩,
 ⟨some 19, .pure .move, [.t 18], none⟩,
 ⟨some 20, .pure .move, [.t 3], some (19, false)⟩,
 ⟨some 21, .pure (.bin .gtr), [.t 20, .c (.int .i64 4)], some (19, false)⟩,
 ⟨some 22, .pure .pick, [.t 19, .c (.bool true), .t 21], none⟩,
 ⟨some 23, .pure .move, [.t 22], none⟩,
 ⟨some 24, .pure .move, [.t 2], some (23, false)⟩,
 ⟨some 25, .pure (.bin .lss), [.t 24, .c (.int .i64 (-400))], some (23, false)⟩,
 ⟨some 26, .pure .pick, [.t 23, .c (.bool true), .t 25], none⟩,
 ⟨some 27, .pure .move, [.t 26], none⟩,
 ⟨some 28, .pure .move, [.t 2], some (27, false)⟩,
 ⟨some 29, .pure (.bin .gtr), [.t 28, .c (.int .i64 400)], some (27, false)⟩,
 ⟨some 30, .pure .pick, [.t 27, .c (.bool true), .t 29], none⟩])
 (.cond (.t 30)
 (.seq (.ops [⟨some 31, .pure (.build [.bool false, .str [], .int .i64 0] []), [], none⟩,
 ⟨none, .eff (.store 3), [.t 8, .t 31], none⟩,
 ⟨some 9, .pure .move, [.c (.int .i64 1)], none⟩])
 .ret)
 .skip))
 (.seq (.seq (.ops [⟨some 32, .pure (.faddr 1), [.t 5], none⟩,
 ⟨some 33, .read (.load none), [.t 32], none⟩,
 ⟨some 34, .pure (.bin .eql), [.t 33, .c (.str [])], none⟩])
 (.cond (.t 34)
 (.seq (.ops [⟨some 35, .pure (.build [.bool false, .str [], .int .i64 0] []), [], none⟩,
 ⟨none, .eff (.store 3), [.t 8, .t 35], none⟩,
 ⟨some 9, .pure .move, [.c (.int .i64 14)], none⟩])
 .ret)
 .skip))
 (.seq (.seq (.ops [⟨some 36, .read (.load (some 3)), [.t 4], none⟩,
 ⟨some 37, .pcall 140, [.t 36], none⟩,
 ⟨some 38, .pure (.un .not), [.t 37], none⟩,
 ⟨some 39, .pure .move, [.t 38], none⟩,
 ⟨some 40, .read (.load (some 3)), [.t 5], some (39, false)⟩,
 ⟨some 41, .pcall 140, [.t 40], some (39, false)⟩,
 ⟨some 42, .pure (.un .not), [.t 41], some (39, false)⟩,
 ⟨some 43, .pure .pick, [.t 39, .c (.bool true), .t 42], none⟩])
 (.cond (.t 43)
 (.seq (.ops [⟨some 44, .pure (.build [.bool false, .str [], .int .i64 0] []), [], none⟩,
 ⟨none, .eff (.store 3), [.t 8, .t 44], none⟩,
 ⟨some 9, .pure .move, [.c (.int .i64 0)], none⟩])
 .ret)
 .skip))
 (.seq (.ops [⟨some 45, .pure (.faddr 0), [.t 4], none⟩,
 ⟨some 46, .read (.load none), [.t 45], none⟩,
 ⟨some 47, .pure (.faddr 0), [.t 5], none⟩,
 ⟨some 48, .read (.load none), [.t 47], none⟩,
 ⟨some 49, .pure (.eqB true), [.t 46, .t 48], none⟩,
 ⟨some 10, .pure .move, [.t 49], none⟩])
 (.seq (.ops [⟨some 50, .pure (.faddr 1), [.t 4], none⟩,
 ⟨some 51, .read (.load none), [.t 50], none⟩,
 ⟨some 52, .pure (.faddr 1), [.t 5], none⟩,
 ⟨some 53, .read (.load none), [.t 52], none⟩,
 ⟨some 11, .pure .move, [.t 51], none⟩,
 ⟨some 12, .pure .move, [.t 53], none⟩])
 (.seq (.seq (.ops [⟨some 54, .pure (.faddr 2), [.t 4], none⟩,
 ⟨some 55, .read (.load none), [.t 54], none⟩,
 ⟨some 56, .pure (.faddr 2), [.t 5], none⟩,
 ⟨some 57, .read (.load none), [.t 56], none⟩,
 ⟨some 58, .pure (.bin .sub), [.t 55, .t 57], none⟩,
 ⟨some 59, .pure .move, [.t 2], none⟩,
 ⟨some 60, .pure (.bin .add), [.t 58, .t 59], none⟩,
 ⟨some 13, .pure .move, [.t 60], none⟩])
 (.seq (.ops [⟨some 61, .pure .move, [.t 13], none⟩,
 ⟨some 62, .pure (.bin .geq), [.t 61, .c (.int .i64 0)], none⟩])
 (.cond (.t 62)
 (.ops [⟨some 63, .pure .move, [.t 11], none⟩,
 ⟨some 64, .pure .move, [.t 13], none⟩,
 ⟨some 65, .pcall 291, [.c (.str [48]), .t 64], none⟩,
 ⟨some 66, .pure (.bin .add), [.t 63, .t 65], none⟩,
 ⟨some 67, .pcall 137, [.t 66, .c (.str [48])], none⟩,
 ⟨some 11, .pure .move, [.t 67], none⟩])
 (.ops [⟨some 68, .pure .move, [.t 12], none⟩,
 ⟨some 69, .pure .move, [.t 13], none⟩,
 ⟨some 70, .pure (.un .neg), [.t 69], none⟩,
 ⟨some 71, .pcall 291, [.c (.str [48]), .t 70], none⟩,
 ⟨some 72, .pure (.bin .add), [.t 68, .t 71], none⟩,
 ⟨some 12, .pure .move, [.t 72], none⟩]))))
 (.seq (.ops [⟨some 74, .pure .move, [.t 11], none⟩,
 ⟨some 75, .pure .move, [.t 12], none⟩,
 ⟨some 76, .pcall 731, [.t 74, .t 75], none⟩,
 ⟨some 73, .pure .move, [.t 76], none⟩,
 ⟨some 77, .pure (.ext 0), [.t 73], none⟩,
 ⟨some 78, .pure (.ext 1), [.t 73], none⟩,
 ⟨some 14, .pure .move, [.t 77], none⟩,
 ⟨some 15, .pure .move, [.t 78], none⟩])
 (.seq (.seq (.ops [⟨some 79, .pure .move, [.t 15], none⟩,
 ⟨some 80, .pure (.bin .neq), [.t 79, .c (.str [])], none⟩])
 (.cond (.t 80)
 (.seq (.ops [⟨some 81, .pure .move, [.t 14], none⟩,
 ⟨some 82, .pure (.bin .neq), [.t 81, .c (.str [])], none⟩,
 ⟨some 83, .pure .move, [.t 82], none⟩,
 ⟨some 84, .pure .move, [.t 14], some (83, true)⟩,
 ⟨some 85, .pure .move, [.t 14], some (83, true)⟩,
 ⟨some 86, .pure .lenS, [.t 85], some (83, true)⟩,
 ⟨some 87, .pure (.bin .sub), [.t 86, .c (.int .i64 1)], some (83, true)⟩,
 ⟨some 88, .pure .idxStr, [.t 84, .t 87], some (83, true)⟩,
 ⟨some 89, .pure (.bin .sub), [.t 88, .c (.int .u8 48)], some (83, true)⟩,
 ⟨some 90, .pure (.bin .rem), [.t 89, .c (.int .u8 2)], some (83, true)⟩,
 ⟨some 91, .pure (.bin .eql), [.t 90, .c (.int .u8 1)], some (83, true)⟩,
 ⟨some 92, .pure .pick, [.t 83, .t 91, .c (.bool false)], none⟩,
 ⟨some 16, .pure .move, [.t 92], none⟩])
 (.seq (.ops [⟨some 93, .pure .move, [.t 3], none⟩,
 ⟨some 94, .pure .move, [.t 10], none⟩,
 ⟨some 95, .pure .move, [.t 16], none⟩,
 ⟨some 96, .pure .move, [.t 15], none⟩,
 ⟨some 97, .pure .move, [.t 15], none⟩,
 ⟨some 98, .pcall 721, [.t 96, .t 97], none⟩,
 ⟨some 99, .pure .move, [.t 12], none⟩,
 ⟨some 100, .pcall 286, [.t 98, .t 99], none⟩,
 ⟨some 101, .pcall 732, [.t 93, .t 94, .t 95, .t 100], none⟩])
 (.cond (.t 101)
 (.ops [⟨some 102, .pure .move, [.t 14], none⟩,
 ⟨some 103, .pcall 721, [.t 102, .c (.str [49])], none⟩,
 ⟨some 14, .pure .move, [.t 103], none⟩])
 .skip)))
 .skip))
 (.seq (.ops [⟨some 104, .pure .move, [.t 10], none⟩,
 ⟨some 105, .pure .move, [.t 14], none⟩,
 ⟨some 106, .pure .move, [.t 2], none⟩,
 ⟨some 107, .pure (.un .neg), [.t 106], none⟩,
 ⟨some 108, .pcall 138, [.t 104, .t 105, .t 107], none⟩,
 ⟨some 109, .pure (.ext 0), [.t 108], none⟩,
 ⟨some 110, .pure (.ext 1), [.t 108], none⟩,
 ⟨none, .eff (.store 3), [.t 8, .t 109], none⟩,
 ⟨some 9, .pure .move, [.t 110], none⟩])
 .ret)))))))))) }
/-- datakit/decimal.plus -/
def ac721 : AFn :=
 { nt := 46, res := [.tmp 4], body :=
 (.seq (.ops [⟨some 4, .pure .move, [.c (.str [])], none⟩])
 (.seq (.ops [⟨some 9, .pure .move, [.t 0], none⟩,
 ⟨some 10, .pure .lenS, [.t 9], none⟩,
 ⟨some 11, .pure .move, [.t 1], none⟩,
 ⟨some 12, .pure .lenS, [.t 11], none⟩,
 ⟨some 13, .pure (.minmax true), [.t 10, .t 12], none⟩,
 ⟨some 14, .pure (.bin .add), [.t 13, .c (.int .i64 1)], none⟩,
 ⟨some 5, .pure .move, [.t 14], none⟩])
 (.seq (.ops [⟨some 15, .pure .move, [.t 5], none⟩,
 ⟨some 16, .new (.mkSlice 1 1 (.int .u8 0)), [.t 15, .t 15], none⟩,
 ⟨some 6, .pure .move, [.t 16], none⟩])
 (.seq (.ops [⟨some 7, .pure .move, [.c (.int .i64 0)], none⟩])
 (.seq (.seq (.ops [⟨some 17, .pure .move, [.t 5], none⟩,
 ⟨some 18, .pure .move, [.c (.int .i64 0)], none⟩])
 (.block 0
 (.loop [0, 1, 5, 6, 7, 17, 18]
 (.seq (.ops [⟨some 19, .pure (.bin .lss), [.t 18, .t 17], none⟩])
 (.seq (.cond (.t 19)
 .skip
 (.exit 0))
 (.seq (.block 1
 (.seq (.ops [⟨some 20, .pure .move, [.t 18], none⟩,
 ⟨some 8, .pure .move, [.t 20], none⟩])
 (.seq (.ops [⟨some 21, .pure .move, [.t 7], none⟩,
 ⟨some 22, .pure .move, [.t 0], none⟩,
 ⟨some 23, .pure .move, [.t 8], none⟩,
 ⟨some 24, .pcall 733, [.t 22, .t 23], none⟩,
 ⟨some 25, .pure .move, [.t 1], none⟩,
 ⟨some 26, .pure .move, [.t 8], none⟩,
 ⟨some 27, .pcall 733, [.t 25, .t 26], none⟩,
 ⟨some 28, .pure (.bin .add), [.t 24, .t 27], none⟩,
 ⟨some 29, .pure (.bin .add), [.t 21, .t 28], none⟩,
 ⟨some 7, .pure .move, [.t 29], none⟩])
 (.seq (.ops [⟨some 30, .pure .move, [.t 6], none⟩,
 ⟨some 31, .pure .move, [.t 5], none⟩,
 ⟨some 32, .pure (.bin .sub), [.t 31, .c (.int .i64 1)], none⟩,
 ⟨some 33, .pure .move, [.t 8], none⟩,
 ⟨some 34, .pure (.bin .sub), [.t 32, .t 33], none⟩,
 ⟨some 35, .pure .move, [.t 7], none⟩,
 ⟨some 36, .pure (.bin .rem), [.t 35, .c (.int .i64 10)], none⟩,
 ⟨some 37, .pure (.bin .add), [.c (.int .i64 48), .t 36], none⟩,
 ⟨some 38, .pure (.conv .u8), [.t 37], none⟩,
 ⟨some 39, .pure (.iaddrS 1), [.t 30, .t 34], none⟩,
 ⟨none, .eff (.store 1), [.t 39, .t 38], none⟩])
 (.ops [⟨some 40, .pure .move, [.t 7], none⟩,
 ⟨some 41, .pure (.bin .quo), [.t 40, .c (.int .i64 10)], none⟩,
 ⟨some 7, .pure .move, [.t 41], none⟩])))))
 (.ops [⟨some 42, .pure (.bin .add), [.t 18, .c (.int .i64 1)], none⟩,
 ⟨some 18, .pure .move, [.t 42], none⟩])))))))
 (.seq (.ops [⟨some 43, .pure .move, [.t 6], none⟩,
 ⟨some 44, .read .bytesStr, [.t 43], none⟩,
 ⟨some 45, .pcall 137, [.t 44, .c (.str [48])], none⟩,
 ⟨some 4, .pure .move, [.t 45], none⟩])
 .ret)))))) }
/-- datakit/decimal.minus -/
def ac722 : AFn :=
 { nt := 44, res := [.tmp 4], body :=
 (.seq (.ops [⟨some 4, .pure .move, [.c (.str [])], none⟩])
 (.seq (.ops [⟨some 9, .pure .move, [.t 0], none⟩,
 ⟨some 10, .pure .lenS, [.t 9], none⟩,
 ⟨some 11, .new (.mkSlice 1 1 (.int .u8 0)), [.t 10, .t 10], none⟩,
 ⟨some 5, .pure .move, [.t 11], none⟩])
 (.seq (.ops [⟨some 6, .pure .move, [.c (.int .i64 0)], none⟩])
 (.seq (.seq (.ops [⟨some 12, .pure .move, [.t 0], none⟩,
 ⟨some 13, .pure .lenS, [.t 12], none⟩,
 ⟨some 14, .pure .move, [.c (.int .i64 0)], none⟩])
 (.block 0
 (.loop [0, 1, 5, 6, 13, 14]
 (.seq (.ops [⟨some 15, .pure (.bin .lss), [.t 14, .t 13], none⟩])
 (.seq (.cond (.t 15)
 .skip
 (.exit 0))
 (.seq (.block 1
 (.seq (.ops [⟨some 16, .pure .move, [.t 14], none⟩,
 ⟨some 7, .pure .move, [.t 16], none⟩])
 (.seq (.ops [⟨some 17, .pure .move, [.t 0], none⟩,
 ⟨some 18, .pure .move, [.t 7], none⟩,
 ⟨some 19, .pcall 733, [.t 17, .t 18], none⟩,
 ⟨some 20, .pure .move, [.t 1], none⟩,
 ⟨some 21, .pure .move, [.t 7], none⟩,
 ⟨some 22, .pcall 733, [.t 20, .t 21], none⟩,
 ⟨some 23, .pure (.bin .sub), [.t 19, .t 22], none⟩,
 ⟨some 24, .pure .move, [.t 6], none⟩,
 ⟨some 25, .pure (.bin .sub), [.t 23, .t 24], none⟩,
 ⟨some 8, .pure .move, [.t 25], none⟩])
 (.seq (.ops [⟨some 6, .pure .move, [.c (.int .i64 0)], none⟩])
 (.seq (.seq (.ops [⟨some 26, .pure .move, [.t 8], none⟩,
 ⟨some 27, .pure (.bin .lss), [.t 26, .c (.int .i64 0)], none⟩])
 (.cond (.t 27)
 (.seq (.ops [⟨some 28, .pure .move, [.t 8], none⟩,
 ⟨some 29, .pure (.bin .add), [.t 28, .c (.int .i64 10)], none⟩,
 ⟨some 8, .pure .move, [.t 29], none⟩])
 (.ops [⟨some 6, .pure .move, [.c (.int .i64 1)], none⟩]))
 .skip))
 (.ops [⟨some 30, .pure .move, [.t 5], none⟩,
 ⟨some 31, .pure .move, [.t 0], none⟩,
 ⟨some 32, .pure .lenS, [.t 31], none⟩,
 ⟨some 33, .pure (.bin .sub), [.t 32, .c (.int .i64 1)], none⟩,
 ⟨some 34, .pure .move, [.t 7], none⟩,
 ⟨some 35, .pure (.bin .sub), [.t 33, .t 34], none⟩,
 ⟨some 36, .pure .move, [.t 8], none⟩,
 ⟨some 37, .pure (.bin .add), [.c (.int .i64 48), .t 36], none⟩,
 ⟨some 38, .pure (.conv .u8), [.t 37], none⟩,
 ⟨some 39, .pure (.iaddrS 1), [.t 30, .t 35], none⟩,
 ⟨none, .eff (.store 1), [.t 39, .t 38], none⟩]))))))
 (.ops [⟨some 40, .pure (.bin .add), [.t 14, .c (.int .i64 1)], none⟩,
 ⟨some 14, .pure .move, [.t 40], none⟩])))))))
 (.seq (.ops [⟨some 41, .pure .move, [.t 5], none⟩,
 ⟨some 42, .read .bytesStr, [.t 41], none⟩,
 ⟨some 43, .pcall 137, [.t 42, .c (.str [48])], none⟩,
 ⟨some 4, .pure .move, [.t 43], none⟩])
 .ret))))) }
/-- slices.insertionSortCmpFunc[datakit/numset.cut] -/
def ac723 : AFn :=
 { nt := 53, res := [], body :=
 (.seq (.ops [⟨some 10, .pure .move, [.t 1], none⟩,
 ⟨some 11, .pure (.bin .add), [.t 10, .c (.int .i64 1)], none⟩,
 ⟨some 8, .pure .move, [.t 11], none⟩])
 (.block 0
 (.loop [0, 1, 2, 3, 8]
 (.seq (.seq (.ops [⟨some 12, .pure .move, [.t 8], none⟩,
 ⟨some 13, .pure .move, [.t 2], none⟩,
 ⟨some 14, .pure (.bin .lss), [.t 12, .t 13], none⟩])
 (.cond (.t 14)
 .skip
 (.exit 0)))
 (.seq (.block 1
 (.seq (.ops [⟨some 17, .pure .move, [.t 8], none⟩,
 ⟨some 9, .pure .move, [.t 17], none⟩])
 (.block 2
 (.loop [0, 1, 2, 3, 8, 9]
 (.seq (.seq (.ops [⟨some 18, .pure .move, [.t 9], none⟩,
 ⟨some 19, .pure .move, [.t 1], none⟩,
 ⟨some 20, .pure (.bin .gtr), [.t 18, .t 19], none⟩,
 ⟨some 21, .pure .move, [.t 20], none⟩,
 ⟨some 22, .pure .move, [.t 3], some (21, true)⟩,
 ⟨some 23, .pure .move, [.t 0], some (21, true)⟩,
 ⟨some 24, .pure .move, [.t 9], some (21, true)⟩,
 ⟨some 25, .pure (.iaddrS 5), [.t 23, .t 24], some (21, true)⟩,
 ⟨some 26, .read (.load (some 5)), [.t 25], some (21, true)⟩,
 ⟨some 27, .pure .move, [.t 0], some (21, true)⟩,
 ⟨some 28, .pure .move, [.t 9], some (21, true)⟩,
 ⟨some 29, .pure (.bin .sub), [.t 28, .c (.int .i64 1)], some (21, true)⟩,
 ⟨some 30, .pure (.iaddrS 5), [.t 27, .t 29], some (21, true)⟩,
 ⟨some 31, .read (.load (some 5)), [.t 30], some (21, true)⟩,
 ⟨some 32, .callv, [.t 22, .t 26, .t 31], some (21, true)⟩,
 ⟨some 33, .pure (.bin .lss), [.t 32, .c (.int .i64 0)], some (21, true)⟩,
 ⟨some 34, .pure .pick, [.t 21, .t 33, .c (.bool false)], none⟩])
 (.cond (.t 34)
 .skip
 (.exit 2)))
 (.seq (.block 3
 (.ops [⟨some 37, .pure .move, [.t 0], none⟩,
 ⟨some 38, .pure .move, [.t 9], none⟩,
 ⟨some 39, .pure .move, [.t 0], none⟩,
 ⟨some 40, .pure .move, [.t 9], none⟩,
 ⟨some 41, .pure (.bin .sub), [.t 40, .c (.int .i64 1)], none⟩,
 ⟨some 42, .pure .move, [.t 0], none⟩,
 ⟨some 43, .pure .move, [.t 9], none⟩,
 ⟨some 44, .pure (.bin .sub), [.t 43, .c (.int .i64 1)], none⟩,
 ⟨some 45, .pure (.iaddrS 5), [.t 42, .t 44], none⟩,
 ⟨some 46, .read (.load (some 5)), [.t 45], none⟩,
 ⟨some 47, .pure .move, [.t 0], none⟩,
 ⟨some 48, .pure .move, [.t 9], none⟩,
 ⟨some 49, .pure (.iaddrS 5), [.t 47, .t 48], none⟩,
 ⟨some 50, .read (.load (some 5)), [.t 49], none⟩,
 ⟨some 51, .pure (.iaddrS 5), [.t 37, .t 38], none⟩,
 ⟨none, .eff (.store 5), [.t 51, .t 46], none⟩,
 ⟨some 52, .pure (.iaddrS 5), [.t 39, .t 41], none⟩,
 ⟨none, .eff (.store 5), [.t 52, .t 50], none⟩]))
 (.ops [⟨some 35, .pure .move, [.t 9], none⟩,
 ⟨some 36, .pure (.bin .sub), [.t 35, .c (.int .i64 1)], none⟩,
 ⟨some 9, .pure .move, [.t 36], none⟩])))))))
 (.ops [⟨some 15, .pure .move, [.t 8], none⟩,
 ⟨some 16, .pure (.bin .add), [.t 15, .c (.int .i64 1)], none⟩,
 ⟨some 8, .pure .move, [.t 16], none⟩])))))) }
/-- slices.heapSortCmpFunc[datakit/numset.cut] -/
def ac724 : AFn :=
 { nt := 60, res := [], body :=
 (.seq (.ops [⟨some 13, .pure .move, [.t 1], none⟩,
 ⟨some 8, .pure .move, [.t 13], none⟩])
 (.seq (.ops [⟨some 9, .pure .move, [.c (.int .i64 0)], none⟩])
 (.seq (.ops [⟨some 14, .pure .move, [.t 2], none⟩,
 ⟨some 15, .pure .move, [.t 1], none⟩,
 ⟨some 16, .pure (.bin .sub), [.t 14, .t 15], none⟩,
 ⟨some 10, .pure .move, [.t 16], none⟩])
 (.seq (.seq (.ops [⟨some 17, .pure .move, [.t 10], none⟩,
 ⟨some 18, .pure (.bin .sub), [.t 17, .c (.int .i64 1)], none⟩,
 ⟨some 19, .pure (.bin .quo), [.t 18, .c (.int .i64 2)], none⟩,
 ⟨some 11, .pure .move, [.t 19], none⟩])
 (.block 0
 (.loop [0, 3, 8, 9, 10, 11]
 (.seq (.seq (.ops [⟨some 20, .pure .move, [.t 11], none⟩,
 ⟨some 21, .pure (.bin .geq), [.t 20, .c (.int .i64 0)], none⟩])
 (.cond (.t 21)
 .skip
 (.exit 0)))
 (.seq (.block 1
 (.ops [⟨some 24, .pure .move, [.t 0], none⟩,
 ⟨some 25, .pure .move, [.t 11], none⟩,
 ⟨some 26, .pure .move, [.t 10], none⟩,
 ⟨some 27, .pure .move, [.t 8], none⟩,
 ⟨some 28, .pure .move, [.t 3], none⟩,
 ⟨some 29, .call 734, [.t 24, .t 25, .t 26, .t 27, .t 28], none⟩]))
 (.ops [⟨some 22, .pure .move, [.t 11], none⟩,
 ⟨some 23, .pure (.bin .sub), [.t 22, .c (.int .i64 1)], none⟩,
 ⟨some 11, .pure .move, [.t 23], none⟩]))))))
 (.seq (.ops [⟨some 30, .pure .move, [.t 10], none⟩,
 ⟨some 31, .pure (.bin .sub), [.t 30, .c (.int .i64 1)], none⟩,
 ⟨some 12, .pure .move, [.t 31], none⟩])
 (.block 2
 (.loop [0, 3, 8, 9, 12]
 (.seq (.seq (.ops [⟨some 32, .pure .move, [.t 12], none⟩,
 ⟨some 33, .pure (.bin .geq), [.t 32, .c (.int .i64 0)], none⟩])
 (.cond (.t 33)
 .skip
 (.exit 2)))
 (.seq (.block 3
 (.seq (.ops [⟨some 36, .pure .move, [.t 0], none⟩,
 ⟨some 37, .pure .move, [.t 8], none⟩,
 ⟨some 38, .pure .move, [.t 0], none⟩,
 ⟨some 39, .pure .move, [.t 8], none⟩,
 ⟨some 40, .pure .move, [.t 12], none⟩,
 ⟨some 41, .pure (.bin .add), [.t 39, .t 40], none⟩,
 ⟨some 42, .pure .move, [.t 0], none⟩,
 ⟨some 43, .pure .move, [.t 8], none⟩,
 ⟨some 44, .pure .move, [.t 12], none⟩,
 ⟨some 45, .pure (.bin .add), [.t 43, .t 44], none⟩,
 ⟨some 46, .pure (.iaddrS 5), [.t 42, .t 45], none⟩,
 ⟨some 47, .read (.load (some 5)), [.t 46], none⟩,
 ⟨some 48, .pure .move, [.t 0], none⟩,
 ⟨some 49, .pure .move, [.t 8], none⟩,
 ⟨some 50, .pure (.iaddrS 5), [.t 48, .t 49], none⟩,
 ⟨some 51, .read (.load (some 5)), [.t 50], none⟩,
 ⟨some 52, .pure (.iaddrS 5), [.t 36, .t 37], none⟩,
 ⟨none, .eff (.store 5), [.t 52, .t 47], none⟩,
 ⟨some 53, .pure (.iaddrS 5), [.t 38, .t 41], none⟩,
 ⟨none, .eff (.store 5), [.t 53, .t 51], none⟩])
 (.ops [⟨some 54, .pure .move, [.t 0], none⟩,
 ⟨some 55, .pure .move, [.t 9], none⟩,
 ⟨some 56, .pure .move, [.t 12], none⟩,
 ⟨some 57, .pure .move, [.t 8], none⟩,
 ⟨some 58, .pure .move, [.t 3], none⟩,
 ⟨some 59, .call 734, [.t 54, .t 55, .t 56, .t 57, .t 58], none⟩])))
 (.ops [⟨some 34, .pure .move, [.t 12], none⟩,
 ⟨some 35, .pure (.bin .sub), [.t 34, .c (.int .i64 1)], none⟩,
 ⟨some 12, .pure .move, [.t 35], none⟩])))))))))) }
/-- slices.breakPatternsCmpFunc[datakit/numset.cut] -/
def ac725 : AFn :=
 { nt := 67, res := [], body :=
 (.seq (.ops [⟨some 13, .pure .move, [.t 2], none⟩,
 ⟨some 14, .pure .move, [.t 1], none⟩,
 ⟨some 15, .pure (.bin .sub), [.t 13, .t 14], none⟩,
 ⟨some 8, .pure .move, [.t 15], none⟩])
 (.seq (.ops [⟨some 16, .pure .move, [.t 8], none⟩,
 ⟨some 17, .pure (.bin .geq), [.t 16, .c (.int .i64 8)], none⟩])
 (.cond (.t 17)
 (.seq (.ops [⟨some 18, .pure .move, [.t 8], none⟩,
 ⟨some 19, .pure (.conv .u64), [.t 18], none⟩,
 ⟨some 9, .new (.new 1 [.int .u64 0]), [], none⟩,
 ⟨none, .eff (.store 1), [.t 9, .t 19], none⟩])
 (.seq (.ops [⟨some 20, .pure .move, [.t 8], none⟩,
 ⟨some 21, .call 86, [.t 20], none⟩,
 ⟨some 10, .pure .move, [.t 21], none⟩])
 (.seq (.ops [⟨some 22, .pure .move, [.t 1], none⟩,
 ⟨some 23, .pure .move, [.t 8], none⟩,
 ⟨some 24, .pure (.bin .quo), [.t 23, .c (.int .i64 4)], none⟩,
 ⟨some 25, .pure (.bin .mul), [.t 24, .c (.int .i64 2)], none⟩,
 ⟨some 26, .pure (.bin .add), [.t 22, .t 25], none⟩,
 ⟨some 27, .pure (.bin .sub), [.t 26, .c (.int .i64 1)], none⟩,
 ⟨some 11, .pure .move, [.t 27], none⟩])
 (.block 0
 (.loop [0, 1, 8, 9, 10, 11]
 (.seq (.seq (.ops [⟨some 28, .pure .move, [.t 11], none⟩,
 ⟨some 29, .pure .move, [.t 1], none⟩,
 ⟨some 30, .pure .move, [.t 8], none⟩,
 ⟨some 31, .pure (.bin .quo), [.t 30, .c (.int .i64 4)], none⟩,
 ⟨some 32, .pure (.bin .mul), [.t 31, .c (.int .i64 2)], none⟩,
 ⟨some 33, .pure (.bin .add), [.t 29, .t 32], none⟩,
 ⟨some 34, .pure (.bin .add), [.t 33, .c (.int .i64 1)], none⟩,
 ⟨some 35, .pure (.bin .leq), [.t 28, .t 34], none⟩])
 (.cond (.t 35)
 .skip
 (.exit 0)))
 (.seq (.block 1
 (.seq (.ops [⟨some 38, .call 87, [.t 9], none⟩,
 ⟨some 39, .pure .move, [.t 10], none⟩,
 ⟨some 40, .pure (.bin .sub), [.t 39, .c (.int .u64 1)], none⟩,
 ⟨some 41, .pure (.bin .and), [.t 38, .t 40], none⟩,
 ⟨some 42, .pure (.conv .i64), [.t 41], none⟩,
 ⟨some 12, .pure .move, [.t 42], none⟩])
 (.seq (.seq (.ops [⟨some 43, .pure .move, [.t 12], none⟩,
 ⟨some 44, .pure .move, [.t 8], none⟩,
 ⟨some 45, .pure (.bin .geq), [.t 43, .t 44], none⟩])
 (.cond (.t 45)
 (.ops [⟨some 46, .pure .move, [.t 12], none⟩,
 ⟨some 47, .pure .move, [.t 8], none⟩,
 ⟨some 48, .pure (.bin .sub), [.t 46, .t 47], none⟩,
 ⟨some 12, .pure .move, [.t 48], none⟩])
 .skip))
 (.ops [⟨some 49, .pure .move, [.t 0], none⟩,
 ⟨some 50, .pure .move, [.t 11], none⟩,
 ⟨some 51, .pure .move, [.t 0], none⟩,
 ⟨some 52, .pure .move, [.t 1], none⟩,
 ⟨some 53, .pure .move, [.t 12], none⟩,
 ⟨some 54, .pure (.bin .add), [.t 52, .t 53], none⟩,
 ⟨some 55, .pure .move, [.t 0], none⟩,
 ⟨some 56, .pure .move, [.t 1], none⟩,
 ⟨some 57, .pure .move, [.t 12], none⟩,
 ⟨some 58, .pure (.bin .add), [.t 56, .t 57], none⟩,
 ⟨some 59, .pure (.iaddrS 5), [.t 55, .t 58], none⟩,
 ⟨some 60, .read (.load (some 5)), [.t 59], none⟩,
 ⟨some 61, .pure .move, [.t 0], none⟩,
 ⟨some 62, .pure .move, [.t 11], none⟩,
 ⟨some 63, .pure (.iaddrS 5), [.t 61, .t 62], none⟩,
 ⟨some 64, .read (.load (some 5)), [.t 63], none⟩,
 ⟨some 65, .pure (.iaddrS 5), [.t 49, .t 50], none⟩,
 ⟨none, .eff (.store 5), [.t 65, .t 60], none⟩,
 ⟨some 66, .pure (.iaddrS 5), [.t 51, .t 54], none⟩,
 ⟨none, .eff (.store 5), [.t 66, .t 64], none⟩]))))
 (.ops [⟨some 36, .pure .move, [.t 11], none⟩,
 ⟨some 37, .pure (.bin .add), [.t 36, .c (.int .i64 1)], none⟩,
 ⟨some 11, .pure .move, [.t 37], none⟩]))))))))
 .skip))) }
/-- slices.choosePivotCmpFunc[datakit/numset.cut] -/
def ac726 : AFn :=
 { nt := 63, res := [.tmp 8, .tmp 9], body :=
 (.seq (.ops [⟨some 8, .pure .move, [.c (.int .i64 0)], none⟩,
 ⟨some 9, .pure .move, [.c (.int .i64 0)], none⟩])
 (.seq (.ops [⟨some 15, .pure .move, [.t 2], none⟩,
 ⟨some 16, .pure .move, [.t 1], none⟩,
 ⟨some 17, .pure (.bin .sub), [.t 15, .t 16], none⟩,
 ⟨some 10, .pure .move, [.t 17], none⟩])
 (.seq (.ops [⟨some 11, .new (.new 1 [.int .i64 0]), [], none⟩])
 (.seq (.ops [⟨some 18, .pure .move, [.t 1], none⟩,
 ⟨some 19, .pure .move, [.t 10], none⟩,
 ⟨some 20, .pure (.bin .quo), [.t 19, .c (.int .i64 4)], none⟩,
 ⟨some 21, .pure (.bin .mul), [.t 20, .c (.int .i64 1)], none⟩,
 ⟨some 22, .pure (.bin .add), [.t 18, .t 21], none⟩,
 ⟨some 12, .pure .move, [.t 22], none⟩])
 (.seq (.ops [⟨some 23, .pure .move, [.t 1], none⟩,
 ⟨some 24, .pure .move, [.t 10], none⟩,
 ⟨some 25, .pure (.bin .quo), [.t 24, .c (.int .i64 4)], none⟩,
 ⟨some 26, .pure (.bin .mul), [.t 25, .c (.int .i64 2)], none⟩,
 ⟨some 27, .pure (.bin .add), [.t 23, .t 26], none⟩,
 ⟨some 13, .pure .move, [.t 27], none⟩])
 (.seq (.ops [⟨some 28, .pure .move, [.t 1], none⟩,
 ⟨some 29, .pure .move, [.t 10], none⟩,
 ⟨some 30, .pure (.bin .quo), [.t 29, .c (.int .i64 4)], none⟩,
 ⟨some 31, .pure (.bin .mul), [.t 30, .c (.int .i64 3)], none⟩,
 ⟨some 32, .pure (.bin .add), [.t 28, .t 31], none⟩,
 ⟨some 14, .pure .move, [.t 32], none⟩])
 (.seq (.seq (.ops [⟨some 33, .pure .move, [.t 10], none⟩,
 ⟨some 34, .pure (.bin .geq), [.t 33, .c (.int .i64 8)], none⟩])
 (.cond (.t 34)
 (.seq (.seq (.ops [⟨some 35, .pure .move, [.t 10], none⟩,
 ⟨some 36, .pure (.bin .geq), [.t 35, .c (.int .i64 50)], none⟩])
 (.cond (.t 36)
 (.seq (.ops [⟨some 37, .pure .move, [.t 0], none⟩,
 ⟨some 38, .pure .move, [.t 12], none⟩,
 ⟨some 39, .pure .move, [.t 3], none⟩,
 ⟨some 40, .call 735, [.t 37, .t 38, .t 11, .t 39], none⟩,
 ⟨some 12, .pure .move, [.t 40], none⟩])
 (.seq (.ops [⟨some 41, .pure .move, [.t 0], none⟩,
 ⟨some 42, .pure .move, [.t 13], none⟩,
 ⟨some 43, .pure .move, [.t 3], none⟩,
 ⟨some 44, .call 735, [.t 41, .t 42, .t 11, .t 43], none⟩,
 ⟨some 13, .pure .move, [.t 44], none⟩])
 (.ops [⟨some 45, .pure .move, [.t 0], none⟩,
 ⟨some 46, .pure .move, [.t 14], none⟩,
 ⟨some 47, .pure .move, [.t 3], none⟩,
 ⟨some 48, .call 735, [.t 45, .t 46, .t 11, .t 47], none⟩,
 ⟨some 14, .pure .move, [.t 48], none⟩])))
 .skip))
 (.ops [⟨some 49, .pure .move, [.t 0], none⟩,
 ⟨some 50, .pure .move, [.t 12], none⟩,
 ⟨some 51, .pure .move, [.t 13], none⟩,
 ⟨some 52, .pure .move, [.t 14], none⟩,
 ⟨some 53, .pure .move, [.t 3], none⟩,
 ⟨some 54, .call 736, [.t 49, .t 50, .t 51, .t 52, .t 11, .t 53], none⟩,
 ⟨some 13, .pure .move, [.t 54], none⟩]))
 .skip))
 (.seq (.ops [⟨some 55, .read (.load none), [.t 11], none⟩])
 (.block 0
 (.seq (.ops [⟨some 58, .pure (.bin .eql), [.t 55, .c (.int .i64 0)], none⟩,
 ⟨some 57, .pure .move, [.t 58], none⟩])
 (.cond (.t 57)
 (.seq (.ops [⟨some 59, .pure .move, [.t 13], none⟩,
 ⟨some 8, .pure .move, [.t 59], none⟩,
 ⟨some 9, .pure .move, [.c (.int .i64 1)], none⟩])
 .ret)
 (.seq (.ops [⟨some 61, .pure (.bin .eql), [.t 55, .c (.int .i64 12)], none⟩,
 ⟨some 60, .pure .move, [.t 61], none⟩])
 (.cond (.t 60)
 (.seq (.ops [⟨some 62, .pure .move, [.t 13], none⟩,
 ⟨some 8, .pure .move, [.t 62], none⟩,
 ⟨some 9, .pure .move, [.c (.int .i64 2)], none⟩])
 .ret)
 (.seq (.ops [⟨some 56, .pure .move, [.t 13], none⟩,
 ⟨some 8, .pure .move, [.t 56], none⟩,
 ⟨some 9, .pure .move, [.c (.int .i64 0)], none⟩])
 .ret)))))))))))))) }
/-- slices.reverseRangeCmpFunc[datakit/numset.cut] -/
def ac727 : AFn :=
 { nt := 34, res := [], body :=
 (.seq (.ops [⟨some 10, .pure .move, [.t 1], none⟩,
 ⟨some 8, .pure .move, [.t 10], none⟩])
 (.seq (.ops [⟨some 11, .pure .move, [.t 2], none⟩,
 ⟨some 12, .pure (.bin .sub), [.t 11, .c (.int .i64 1)], none⟩,
 ⟨some 9, .pure .move, [.t 12], none⟩])
 (.block 0
 (.loop [0, 8, 9]
 (.seq (.seq (.ops [⟨some 13, .pure .move, [.t 8], none⟩,
 ⟨some 14, .pure .move, [.t 9], none⟩,
 ⟨some 15, .pure (.bin .lss), [.t 13, .t 14], none⟩])
 (.cond (.t 15)
 .skip
 (.exit 0)))
 (.block 1
 (.seq (.ops [⟨some 16, .pure .move, [.t 0], none⟩,
 ⟨some 17, .pure .move, [.t 8], none⟩,
 ⟨some 18, .pure .move, [.t 0], none⟩,
 ⟨some 19, .pure .move, [.t 9], none⟩,
 ⟨some 20, .pure .move, [.t 0], none⟩,
 ⟨some 21, .pure .move, [.t 9], none⟩,
 ⟨some 22, .pure (.iaddrS 5), [.t 20, .t 21], none⟩,
 ⟨some 23, .read (.load (some 5)), [.t 22], none⟩,
 ⟨some 24, .pure .move, [.t 0], none⟩,
 ⟨some 25, .pure .move, [.t 8], none⟩,
 ⟨some 26, .pure (.iaddrS 5), [.t 24, .t 25], none⟩,
 ⟨some 27, .read (.load (some 5)), [.t 26], none⟩,
 ⟨some 28, .pure (.iaddrS 5), [.t 16, .t 17], none⟩,
 ⟨none, .eff (.store 5), [.t 28, .t 23], none⟩,
 ⟨some 29, .pure (.iaddrS 5), [.t 18, .t 19], none⟩,
 ⟨none, .eff (.store 5), [.t 29, .t 27], none⟩])
 (.seq (.ops [⟨some 30, .pure .move, [.t 8], none⟩,
 ⟨some 31, .pure (.bin .add), [.t 30, .c (.int .i64 1)], none⟩,
 ⟨some 8, .pure .move, [.t 31], none⟩])
 (.ops [⟨some 32, .pure .move, [.t 9], none⟩,
 ⟨some 33, .pure (.bin .sub), [.t 32, .c (.int .i64 1)], none⟩,
 ⟨some 9, .pure .move, [.t 33], none⟩]))))))))) }
/-- slices.partialInsertionSortCmpFunc[datakit/numset.cut] -/
def ac728 : AFn :=
 { nt := 141, res := [.tmp 8], body :=
 (.seq (.ops [⟨some 8, .pure .move, [.c (.bool false)], none⟩])
 (.seq (.ops [⟨some 13, .pure .move, [.t 1], none⟩,
 ⟨some 14, .pure (.bin .add), [.t 13, .c (.int .i64 1)], none⟩,
 ⟨some 9, .pure .move, [.t 14], none⟩])
 (.seq (.seq (.ops [⟨some 10, .pure .move, [.c (.int .i64 0)], none⟩])
 (.block 0
 (.loop [0, 1, 2, 3, 9, 10]
 (.seq (.seq (.ops [⟨some 15, .pure .move, [.t 10], none⟩,
 ⟨some 16, .pure (.bin .lss), [.t 15, .c (.int .i64 5)], none⟩])
 (.cond (.t 16)
 .skip
 (.exit 0)))
 (.seq (.block 1
 (.seq (.block 2
 (.loop [0, 1, 2, 3, 9, 10]
 (.seq (.seq (.ops [⟨some 19, .pure .move, [.t 9], none⟩,
 ⟨some 20, .pure .move, [.t 2], none⟩,
 ⟨some 21, .pure (.bin .lss), [.t 19, .t 20], none⟩,
 ⟨some 22, .pure .move, [.t 21], none⟩,
 ⟨some 23, .pure .move, [.t 3], some (22, true)⟩,
 ⟨some 24, .pure .move, [.t 0], some (22, true)⟩,
 ⟨some 25, .pure .move, [.t 9], some (22, true)⟩,
 ⟨some 26, .pure (.iaddrS 5), [.t 24, .t 25], some (22, true)⟩,
 ⟨some 27, .read (.load (some 5)), [.t 26], some (22, true)⟩,
 ⟨some 28, .pure .move, [.t 0], some (22, true)⟩,
 ⟨some 29, .pure .move, [.t 9], some (22, true)⟩,
 ⟨some 30, .pure (.bin .sub), [.t 29, .c (.int .i64 1)], some (22, true)⟩,
 ⟨some 31, .pure (.iaddrS 5), [.t 28, .t 30], some (22, true)⟩,
 ⟨some 32, .read (.load (some 5)), [.t 31], some (22, true)⟩,
 ⟨some 33, .callv, [.t 23, .t 27, .t 32], some (22, true)⟩,
 ⟨some 34, .pure (.bin .lss), [.t 33, .c (.int .i64 0)], some (22, true)⟩,
 ⟨some 35, .pure (.un .not), [.t 34], some (22, true)⟩,
 ⟨some 36, .pure .pick, [.t 22, .t 35, .c (.bool false)], none⟩])
 (.cond (.t 36)
 .skip
 (.exit 2)))
 (.block 3
 (.ops [⟨some 37, .pure .move, [.t 9], none⟩,
 ⟨some 38, .pure (.bin .add), [.t 37, .c (.int .i64 1)], none⟩,
 ⟨some 9, .pure .move, [.t 38], none⟩])))))
 (.seq (.seq (.ops [⟨some 39, .pure .move, [.t 9], none⟩,
 ⟨some 40, .pure .move, [.t 2], none⟩,
 ⟨some 41, .pure (.bin .eql), [.t 39, .t 40], none⟩])
 (.cond (.t 41)
 (.seq (.ops [⟨some 8, .pure .move, [.c (.bool true)], none⟩])
 .ret)
 .skip))
 (.seq (.seq (.ops [⟨some 42, .pure .move, [.t 2], none⟩,
 ⟨some 43, .pure .move, [.t 1], none⟩,
 ⟨some 44, .pure (.bin .sub), [.t 42, .t 43], none⟩,
 ⟨some 45, .pure (.bin .lss), [.t 44, .c (.int .i64 50)], none⟩])
 (.cond (.t 45)
 (.seq (.ops [⟨some 8, .pure .move, [.c (.bool false)], none⟩])
 .ret)
 .skip))
 (.seq (.ops [⟨some 46, .pure .move, [.t 0], none⟩,
 ⟨some 47, .pure .move, [.t 9], none⟩,
 ⟨some 48, .pure .move, [.t 0], none⟩,
 ⟨some 49, .pure .move, [.t 9], none⟩,
 ⟨some 50, .pure (.bin .sub), [.t 49, .c (.int .i64 1)], none⟩,
 ⟨some 51, .pure .move, [.t 0], none⟩,
 ⟨some 52, .pure .move, [.t 9], none⟩,
 ⟨some 53, .pure (.bin .sub), [.t 52, .c (.int .i64 1)], none⟩,
 ⟨some 54, .pure (.iaddrS 5), [.t 51, .t 53], none⟩,
 ⟨some 55, .read (.load (some 5)), [.t 54], none⟩,
 ⟨some 56, .pure .move, [.t 0], none⟩,
 ⟨some 57, .pure .move, [.t 9], none⟩,
 ⟨some 58, .pure (.iaddrS 5), [.t 56, .t 57], none⟩,
 ⟨some 59, .read (.load (some 5)), [.t 58], none⟩,
 ⟨some 60, .pure (.iaddrS 5), [.t 46, .t 47], none⟩,
 ⟨none, .eff (.store 5), [.t 60, .t 55], none⟩,
 ⟨some 61, .pure (.iaddrS 5), [.t 48, .t 50], none⟩,
 ⟨none, .eff (.store 5), [.t 61, .t 59], none⟩])
 (.seq (.seq (.ops [⟨some 62, .pure .move, [.t 9], none⟩,
 ⟨some 63, .pure .move, [.t 1], none⟩,
 ⟨some 64, .pure (.bin .sub), [.t 62, .t 63], none⟩,
 ⟨some 65, .pure (.bin .geq), [.t 64, .c (.int .i64 2)], none⟩])
 (.cond (.t 65)
 (.seq (.ops [⟨some 66, .pure .move, [.t 9], none⟩,
 ⟨some 67, .pure (.bin .sub), [.t 66, .c (.int .i64 1)], none⟩,
 ⟨some 11, .pure .move, [.t 67], none⟩])
 (.block 4
 (.loop [0, 1, 2, 3, 9, 10, 11]
 (.seq (.seq (.ops [⟨some 68, .pure .move, [.t 11], none⟩,
 ⟨some 69, .pure (.bin .geq), [.t 68, .c (.int .i64 1)], none⟩])
 (.cond (.t 69)
 .skip
 (.exit 4)))
 (.seq (.block 5
 (.seq (.seq (.ops [⟨some 72, .pure .move, [.t 3], none⟩,
 ⟨some 73, .pure .move, [.t 0], none⟩,
 ⟨some 74, .pure .move, [.t 11], none⟩,
 ⟨some 75, .pure (.iaddrS 5), [.t 73, .t 74], none⟩,
 ⟨some 76, .read (.load (some 5)), [.t 75], none⟩,
 ⟨some 77, .pure .move, [.t 0], none⟩,
 ⟨some 78, .pure .move, [.t 11], none⟩,
 ⟨some 79, .pure (.bin .sub), [.t 78, .c (.int .i64 1)], none⟩,
 ⟨some 80, .pure (.iaddrS 5), [.t 77, .t 79], none⟩,
 ⟨some 81, .read (.load (some 5)), [.t 80], none⟩,
 ⟨some 82, .callv, [.t 72, .t 76, .t 81], none⟩,
 ⟨some 83, .pure (.bin .lss), [.t 82, .c (.int .i64 0)], none⟩,
 ⟨some 84, .pure (.un .not), [.t 83], none⟩])
 (.cond (.t 84)
 (.exit 4)
 .skip))
 (.ops [⟨some 85, .pure .move, [.t 0], none⟩,
 ⟨some 86, .pure .move, [.t 11], none⟩,
 ⟨some 87, .pure .move, [.t 0], none⟩,
 ⟨some 88, .pure .move, [.t 11], none⟩,
 ⟨some 89, .pure (.bin .sub), [.t 88, .c (.int .i64 1)], none⟩,
 ⟨some 90, .pure .move, [.t 0], none⟩,
 ⟨some 91, .pure .move, [.t 11], none⟩,
 ⟨some 92, .pure (.bin .sub), [.t 91, .c (.int .i64 1)], none⟩,
 ⟨some 93, .pure (.iaddrS 5), [.t 90, .t 92], none⟩,
 ⟨some 94, .read (.load (some 5)), [.t 93], none⟩,
 ⟨some 95, .pure .move, [.t 0], none⟩,
 ⟨some 96, .pure .move, [.t 11], none⟩,
 ⟨some 97, .pure (.iaddrS 5), [.t 95, .t 96], none⟩,
 ⟨some 98, .read (.load (some 5)), [.t 97], none⟩,
 ⟨some 99, .pure (.iaddrS 5), [.t 85, .t 86], none⟩,
 ⟨none, .eff (.store 5), [.t 99, .t 94], none⟩,
 ⟨some 100, .pure (.iaddrS 5), [.t 87, .t 89], none⟩,
 ⟨none, .eff (.store 5), [.t 100, .t 98], none⟩])))
 (.ops [⟨some 70, .pure .move, [.t 11], none⟩,
 ⟨some 71, .pure (.bin .sub), [.t 70, .c (.int .i64 1)], none⟩,
 ⟨some 11, .pure .move, [.t 71], none⟩]))))))
 .skip))
 (.seq (.ops [⟨some 101, .pure .move, [.t 2], none⟩,
 ⟨some 102, .pure .move, [.t 9], none⟩,
 ⟨some 103, .pure (.bin .sub), [.t 101, .t 102], none⟩,
 ⟨some 104, .pure (.bin .geq), [.t 103, .c (.int .i64 2)], none⟩])
 (.cond (.t 104)
 (.seq (.ops [⟨some 105, .pure .move, [.t 9], none⟩,
 ⟨some 106, .pure (.bin .add), [.t 105, .c (.int .i64 1)], none⟩,
 ⟨some 12, .pure .move, [.t 106], none⟩])
 (.block 6
 (.loop [0, 1, 2, 3, 9, 10, 12]
 (.seq (.seq (.ops [⟨some 107, .pure .move, [.t 12], none⟩,
 ⟨some 108, .pure .move, [.t 2], none⟩,
 ⟨some 109, .pure (.bin .lss), [.t 107, .t 108], none⟩])
 (.cond (.t 109)
 .skip
 (.exit 6)))
 (.seq (.block 7
 (.seq (.seq (.ops [⟨some 112, .pure .move, [.t 3], none⟩,
 ⟨some 113, .pure .move, [.t 0], none⟩,
 ⟨some 114, .pure .move, [.t 12], none⟩,
 ⟨some 115, .pure (.iaddrS 5), [.t 113, .t 114], none⟩,
 ⟨some 116, .read (.load (some 5)), [.t 115], none⟩,
 ⟨some 117, .pure .move, [.t 0], none⟩,
 ⟨some 118, .pure .move, [.t 12], none⟩,
 ⟨some 119, .pure (.bin .sub), [.t 118, .c (.int .i64 1)], none⟩,
 ⟨some 120, .pure (.iaddrS 5), [.t 117, .t 119], none⟩,
 ⟨some 121, .read (.load (some 5)), [.t 120], none⟩,
 ⟨some 122, .callv, [.t 112, .t 116, .t 121], none⟩,
 ⟨some 123, .pure (.bin .lss), [.t 122, .c (.int .i64 0)], none⟩,
 ⟨some 124, .pure (.un .not), [.t 123], none⟩])
 (.cond (.t 124)
 (.exit 6)
 .skip))
 (.ops [⟨some 125, .pure .move, [.t 0], none⟩,
 ⟨some 126, .pure .move, [.t 12], none⟩,
 ⟨some 127, .pure .move, [.t 0], none⟩,
 ⟨some 128, .pure .move, [.t 12], none⟩,
 ⟨some 129, .pure (.bin .sub), [.t 128, .c (.int .i64 1)], none⟩,
 ⟨some 130, .pure .move, [.t 0], none⟩,
 ⟨some 131, .pure .move, [.t 12], none⟩,
 ⟨some 132, .pure (.bin .sub), [.t 131, .c (.int .i64 1)], none⟩,
 ⟨some 133, .pure (.iaddrS 5), [.t 130, .t 132], none⟩,
 ⟨some 134, .read (.load (some 5)), [.t 133], none⟩,
 ⟨some 135, .pure .move, [.t 0], none⟩,
 ⟨some 136, .pure .move, [.t 12], none⟩,
 ⟨some 137, .pure (.iaddrS 5), [.t 135, .t 136], none⟩,
 ⟨some 138, .read (.load (some 5)), [.t 137], none⟩,
 ⟨some 139, .pure (.iaddrS 5), [.t 125, .t 126], none⟩,
 ⟨none, .eff (.store 5), [.t 139, .t 134], none⟩,
 ⟨some 140, .pure (.iaddrS 5), [.t 127, .t 129], none⟩,
 ⟨none, .eff (.store 5), [.t 140, .t 138], none⟩])))
 (.ops [⟨some 110, .pure .move, [.t 12], none⟩,
 ⟨some 111, .pure (.bin .add), [.t 110, .c (.int .i64 1)], none⟩,
 ⟨some 12, .pure .move, [.t 111], none⟩]))))))
 .skip))))))))
 (.ops [⟨some 17, .pure .move, [.t 10], none⟩,
 ⟨some 18, .pure (.bin .add), [.t 17, .c (.int .i64 1)], none⟩,
 ⟨some 10, .pure .move, [.t 18], none⟩]))))))
 (.seq (.ops [⟨some 8, .pure .move, [.c (.bool false)], none⟩])
 .ret)))) }
/-- slices.partitionEqualCmpFunc[datakit/numset.cut] -/
def ac729 : AFn :=
 { nt := 90, res := [.tmp 10], body :=
 (.seq (.ops [⟨some 10, .pure .move, [.c (.int .i64 0)], none⟩])
 (.seq (.ops [⟨some 13, .pure .move, [.t 0], none⟩,
 ⟨some 14, .pure .move, [.t 1], none⟩,
 ⟨some 15, .pure .move, [.t 0], none⟩,
 ⟨some 16, .pure .move, [.t 3], none⟩,
 ⟨some 17, .pure .move, [.t 0], none⟩,
 ⟨some 18, .pure .move, [.t 3], none⟩,
 ⟨some 19, .pure (.iaddrS 5), [.t 17, .t 18], none⟩,
 ⟨some 20, .read (.load (some 5)), [.t 19], none⟩,
 ⟨some 21, .pure .move, [.t 0], none⟩,
 ⟨some 22, .pure .move, [.t 1], none⟩,
 ⟨some 23, .pure (.iaddrS 5), [.t 21, .t 22], none⟩,
 ⟨some 24, .read (.load (some 5)), [.t 23], none⟩,
 ⟨some 25, .pure (.iaddrS 5), [.t 13, .t 14], none⟩,
 ⟨none, .eff (.store 5), [.t 25, .t 20], none⟩,
 ⟨some 26, .pure (.iaddrS 5), [.t 15, .t 16], none⟩,
 ⟨none, .eff (.store 5), [.t 26, .t 24], none⟩])
 (.seq (.ops [⟨some 27, .pure .move, [.t 1], none⟩,
 ⟨some 28, .pure (.bin .add), [.t 27, .c (.int .i64 1)], none⟩,
 ⟨some 29, .pure .move, [.t 2], none⟩,
 ⟨some 30, .pure (.bin .sub), [.t 29, .c (.int .i64 1)], none⟩,
 ⟨some 11, .pure .move, [.t 28], none⟩,
 ⟨some 12, .pure .move, [.t 30], none⟩])
 (.seq (.block 0
 (.loop [0, 1, 4, 11, 12]
 (.block 1
 (.seq (.block 2
 (.loop [0, 1, 4, 11, 12]
 (.seq (.seq (.ops [⟨some 31, .pure .move, [.t 11], none⟩,
 ⟨some 32, .pure .move, [.t 12], none⟩,
 ⟨some 33, .pure (.bin .leq), [.t 31, .t 32], none⟩,
 ⟨some 34, .pure .move, [.t 33], none⟩,
 ⟨some 35, .pure .move, [.t 4], some (34, true)⟩,
 ⟨some 36, .pure .move, [.t 0], some (34, true)⟩,
 ⟨some 37, .pure .move, [.t 1], some (34, true)⟩,
 ⟨some 38, .pure (.iaddrS 5), [.t 36, .t 37], some (34, true)⟩,
 ⟨some 39, .read (.load (some 5)), [.t 38], some (34, true)⟩,
 ⟨some 40, .pure .move, [.t 0], some (34, true)⟩,
 ⟨some 41, .pure .move, [.t 11], some (34, true)⟩,
 ⟨some 42, .pure (.iaddrS 5), [.t 40, .t 41], some (34, true)⟩,
 ⟨some 43, .read (.load (some 5)), [.t 42], some (34, true)⟩,
 ⟨some 44, .callv, [.t 35, .t 39, .t 43], some (34, true)⟩,
 ⟨some 45, .pure (.bin .lss), [.t 44, .c (.int .i64 0)], some (34, true)⟩,
 ⟨some 46, .pure (.un .not), [.t 45], some (34, true)⟩,
 ⟨some 47, .pure .pick, [.t 34, .t 46, .c (.bool false)], none⟩])
 (.cond (.t 47)
 .skip
 (.exit 2)))
 (.block 3
 (.ops [⟨some 48, .pure .move, [.t 11], none⟩,
 ⟨some 49, .pure (.bin .add), [.t 48, .c (.int .i64 1)], none⟩,
 ⟨some 11, .pure .move, [.t 49], none⟩])))))
 (.seq (.block 4
 (.loop [0, 1, 4, 11, 12]
 (.seq (.seq (.ops [⟨some 50, .pure .move, [.t 11], none⟩,
 ⟨some 51, .pure .move, [.t 12], none⟩,
 ⟨some 52, .pure (.bin .leq), [.t 50, .t 51], none⟩,
 ⟨some 53, .pure .move, [.t 52], none⟩,
 ⟨some 54, .pure .move, [.t 4], some (53, true)⟩,
 ⟨some 55, .pure .move, [.t 0], some (53, true)⟩,
 ⟨some 56, .pure .move, [.t 1], some (53, true)⟩,
 ⟨some 57, .pure (.iaddrS 5), [.t 55, .t 56], some (53, true)⟩,
 ⟨some 58, .read (.load (some 5)), [.t 57], some (53, true)⟩,
 ⟨some 59, .pure .move, [.t 0], some (53, true)⟩,
 ⟨some 60, .pure .move, [.t 12], some (53, true)⟩,
 ⟨some 61, .pure (.iaddrS 5), [.t 59, .t 60], some (53, true)⟩,
 ⟨some 62, .read (.load (some 5)), [.t 61], some (53, true)⟩,
 ⟨some 63, .callv, [.t 54, .t 58, .t 62], some (53, true)⟩,
 ⟨some 64, .pure (.bin .lss), [.t 63, .c (.int .i64 0)], some (53, true)⟩,
 ⟨some 65, .pure .pick, [.t 53, .t 64, .c (.bool false)], none⟩])
 (.cond (.t 65)
 .skip
 (.exit 4)))
 (.block 5
 (.ops [⟨some 66, .pure .move, [.t 12], none⟩,
 ⟨some 67, .pure (.bin .sub), [.t 66, .c (.int .i64 1)], none⟩,
 ⟨some 12, .pure .move, [.t 67], none⟩])))))
 (.seq (.seq (.ops [⟨some 68, .pure .move, [.t 11], none⟩,
 ⟨some 69, .pure .move, [.t 12], none⟩,
 ⟨some 70, .pure (.bin .gtr), [.t 68, .t 69], none⟩])
 (.cond (.t 70)
 (.exit 0)
 .skip))
 (.seq (.ops [⟨some 71, .pure .move, [.t 0], none⟩,
 ⟨some 72, .pure .move, [.t 11], none⟩,
 ⟨some 73, .pure .move, [.t 0], none⟩,
 ⟨some 74, .pure .move, [.t 12], none⟩,
 ⟨some 75, .pure .move, [.t 0], none⟩,
 ⟨some 76, .pure .move, [.t 12], none⟩,
 ⟨some 77, .pure (.iaddrS 5), [.t 75, .t 76], none⟩,
 ⟨some 78, .read (.load (some 5)), [.t 77], none⟩,
 ⟨some 79, .pure .move, [.t 0], none⟩,
 ⟨some 80, .pure .move, [.t 11], none⟩,
 ⟨some 81, .pure (.iaddrS 5), [.t 79, .t 80], none⟩,
 ⟨some 82, .read (.load (some 5)), [.t 81], none⟩,
 ⟨some 83, .pure (.iaddrS 5), [.t 71, .t 72], none⟩,
 ⟨none, .eff (.store 5), [.t 83, .t 78], none⟩,
 ⟨some 84, .pure (.iaddrS 5), [.t 73, .t 74], none⟩,
 ⟨none, .eff (.store 5), [.t 84, .t 82], none⟩])
 (.seq (.ops [⟨some 85, .pure .move, [.t 11], none⟩,
 ⟨some 86, .pure (.bin .add), [.t 85, .c (.int .i64 1)], none⟩,
 ⟨some 11, .pure .move, [.t 86], none⟩])
 (.ops [⟨some 87, .pure .move, [.t 12], none⟩,
 ⟨some 88, .pure (.bin .sub), [.t 87, .c (.int .i64 1)], none⟩,
 ⟨some 12, .pure .move, [.t 88], none⟩])))))))))
 (.seq (.ops [⟨some 89, .pure .move, [.t 11], none⟩,
 ⟨some 10, .pure .move, [.t 89], none⟩])
 .ret))))) }
/-- slices.partitionCmpFunc[datakit/numset.cut] -/
def ac730 : AFn :=
 { nt := 178, res := [.tmp 10, .tmp 11], body :=
 (.seq (.ops [⟨some 10, .pure .move, [.c (.int .i64 0)], none⟩,
 ⟨some 11, .pure .move, [.c (.bool false)], none⟩])
 (.seq (.ops [⟨some 14, .pure .move, [.t 0], none⟩,
 ⟨some 15, .pure .move, [.t 1], none⟩,
 ⟨some 16, .pure .move, [.t 0], none⟩,
 ⟨some 17, .pure .move, [.t 3], none⟩,
 ⟨some 18, .pure .move, [.t 0], none⟩,
 ⟨some 19, .pure .move, [.t 3], none⟩,
 ⟨some 20, .pure (.iaddrS 5), [.t 18, .t 19], none⟩,
 ⟨some 21, .read (.load (some 5)), [.t 20], none⟩,
 ⟨some 22, .pure .move, [.t 0], none⟩,
 ⟨some 23, .pure .move, [.t 1], none⟩,
 ⟨some 24, .pure (.iaddrS 5), [.t 22, .t 23], none⟩,
 ⟨some 25, .read (.load (some 5)), [.t 24], none⟩,
 ⟨some 26, .pure (.iaddrS 5), [.t 14, .t 15], none⟩,
 ⟨none, .eff (.store 5), [.t 26, .t 21], none⟩,
 ⟨some 27, .pure (.iaddrS 5), [.t 16, .t 17], none⟩,
 ⟨none, .eff (.store 5), [.t 27, .t 25], none⟩])
 (.seq (.ops [⟨some 28, .pure .move, [.t 1], none⟩,
 ⟨some 29, .pure (.bin .add), [.t 28, .c (.int .i64 1)], none⟩,
 ⟨some 30, .pure .move, [.t 2], none⟩,
 ⟨some 31, .pure (.bin .sub), [.t 30, .c (.int .i64 1)], none⟩,
 ⟨some 12, .pure .move, [.t 29], none⟩,
 ⟨some 13, .pure .move, [.t 31], none⟩])
 (.seq (.block 0
 (.loop [0, 1, 4, 12, 13]
 (.seq (.seq (.ops [⟨some 32, .pure .move, [.t 12], none⟩,
 ⟨some 33, .pure .move, [.t 13], none⟩,
 ⟨some 34, .pure (.bin .leq), [.t 32, .t 33], none⟩,
 ⟨some 35, .pure .move, [.t 34], none⟩,
 ⟨some 36, .pure .move, [.t 4], some (35, true)⟩,
 ⟨some 37, .pure .move, [.t 0], some (35, true)⟩,
 ⟨some 38, .pure .move, [.t 12], some (35, true)⟩,
 ⟨some 39, .pure (.iaddrS 5), [.t 37, .t 38], some (35, true)⟩,
 ⟨some 40, .read (.load (some 5)), [.t 39], some (35, true)⟩,
 ⟨some 41, .pure .move, [.t 0], some (35, true)⟩,
 ⟨some 42, .pure .move, [.t 1], some (35, true)⟩,
 ⟨some 43, .pure (.iaddrS 5), [.t 41, .t 42], some (35, true)⟩,
 ⟨some 44, .read (.load (some 5)), [.t 43], some (35, true)⟩,
 ⟨some 45, .callv, [.t 36, .t 40, .t 44], some (35, true)⟩,
 ⟨some 46, .pure (.bin .lss), [.t 45, .c (.int .i64 0)], some (35, true)⟩,
 ⟨some 47, .pure .pick, [.t 35, .t 46, .c (.bool false)], none⟩])
 (.cond (.t 47)
 .skip
 (.exit 0)))
 (.block 1
 (.ops [⟨some 48, .pure .move, [.t 12], none⟩,
 ⟨some 49, .pure (.bin .add), [.t 48, .c (.int .i64 1)], none⟩,
 ⟨some 12, .pure .move, [.t 49], none⟩])))))
 (.seq (.block 2
 (.loop [0, 1, 4, 12, 13]
 (.seq (.seq (.ops [⟨some 50, .pure .move, [.t 12], none⟩,
 ⟨some 51, .pure .move, [.t 13], none⟩,
 ⟨some 52, .pure (.bin .leq), [.t 50, .t 51], none⟩,
 ⟨some 53, .pure .move, [.t 52], none⟩,
 ⟨some 54, .pure .move, [.t 4], some (53, true)⟩,
 ⟨some 55, .pure .move, [.t 0], some (53, true)⟩,
 ⟨some 56, .pure .move, [.t 13], some (53, true)⟩,
 ⟨some 57, .pure (.iaddrS 5), [.t 55, .t 56], some (53, true)⟩,
 ⟨some 58, .read (.load (some 5)), [.t 57], some (53, true)⟩,
 ⟨some 59, .pure .move, [.t 0], some (53, true)⟩,
 ⟨some 60, .pure .move, [.t 1], some (53, true)⟩,
 ⟨some 61, .pure (.iaddrS 5), [.t 59, .t 60], some (53, true)⟩,
 ⟨some 62, .read (.load (some 5)), [.t 61], some (53, true)⟩,
 ⟨some 63, .callv, [.t 54, .t 58, .t 62], some (53, true)⟩,
 ⟨some 64, .pure (.bin .lss), [.t 63, .c (.int .i64 0)], some (53, true)⟩,
 ⟨some 65, .pure (.un .not), [.t 64], some (53, true)⟩,
 ⟨some 66, .pure .pick, [.t 53, .t 65, .c (.bool false)], none⟩])
 (.cond (.t 66)
 .skip
 (.exit 2)))
 (.block 3
 (.ops [⟨some 67, .pure .move, [.t 13], none⟩,
 ⟨some 68, .pure (.bin .sub), [.t 67, .c (.int .i64 1)], none⟩,
 ⟨some 13, .pure .move, [.t 68], none⟩])))))
 (.seq (.seq (.ops [⟨some 69, .pure .move, [.t 12], none⟩,
 ⟨some 70, .pure .move, [.t 13], none⟩,
 ⟨some 71, .pure (.bin .gtr), [.t 69, .t 70], none⟩])
 (.cond (.t 71)
 (.seq (.ops [⟨some 72, .pure .move, [.t 0], none⟩,
 ⟨some 73, .pure .move, [.t 13], none⟩,
 ⟨some 74, .pure .move, [.t 0], none⟩,
 ⟨some 75, .pure .move, [.t 1], none⟩,
 ⟨some 76, .pure .move, [.t 0], none⟩,
 ⟨some 77, .pure .move, [.t 1], none⟩,
 ⟨some 78, .pure (.iaddrS 5), [.t 76, .t 77], none⟩,
 ⟨some 79, .read (.load (some 5)), [.t 78], none⟩,
 ⟨some 80, .pure .move, [.t 0], none⟩,
 ⟨some 81, .pure .move, [.t 13], none⟩,
 ⟨some 82, .pure (.iaddrS 5), [.t 80, .t 81], none⟩,
 ⟨some 83, .read (.load (some 5)), [.t 82], none⟩,
 ⟨some 84, .pure (.iaddrS 5), [.t 72, .t 73], none⟩,
 ⟨none, .eff (.store 5), [.t 84, .t 79], none⟩,
 ⟨some 85, .pure (.iaddrS 5), [.t 74, .t 75], none⟩,
 ⟨none, .eff (.store 5), [.t 85, .t 83], none⟩])
 (.seq (.ops [⟨some 86, .pure .move, [.t 13], none⟩,
 ⟨some 10, .pure .move, [.t 86], none⟩,
 ⟨some 11, .pure .move, [.c (.bool true)], none⟩])
 .ret))
 .skip))
 (.seq (.ops [⟨some 87, .pure .move, [.t 0], none⟩,
 ⟨some 88, .pure .move, [.t 12], none⟩,
 ⟨some 89, .pure .move, [.t 0], none⟩,
 ⟨some 90, .pure .move, [.t 13], none⟩,
 ⟨some 91, .pure .move, [.t 0], none⟩,
 ⟨some 92, .pure .move, [.t 13], none⟩,
 ⟨some 93, .pure (.iaddrS 5), [.t 91, .t 92], none⟩,
 ⟨some 94, .read (.load (some 5)), [.t 93], none⟩,
 ⟨some 95, .pure .move, [.t 0], none⟩,
 ⟨some 96, .pure .move, [.t 12], none⟩,
 ⟨some 97, .pure (.iaddrS 5), [.t 95, .t 96], none⟩,
 ⟨some 98, .read (.load (some 5)), [.t 97], none⟩,
 ⟨some 99, .pure (.iaddrS 5), [.t 87, .t 88], none⟩,
 ⟨none, .eff (.store 5), [.t 99, .t 94], none⟩,
 ⟨some 100, .pure (.iaddrS 5), [.t 89, .t 90], none⟩,
 ⟨none, .eff (.store 5), [.t 100, .t 98], none⟩])
 (.seq (.ops [⟨some 101, .pure .move, [.t 12], none⟩,
 ⟨some 102, .pure (.bin .add), [.t 101, .c (.int .i64 1)], none⟩,
 ⟨some 12, .pure .move, [.t 102], none⟩])
 (.seq (.ops [⟨some 103, .pure .move, [.t 13], none⟩,
 ⟨some 104, .pure (.bin .sub), [.t 103, .c (.int .i64 1)], none⟩,
 ⟨some 13, .pure .move, [.t 104], none⟩])
 (.seq (.block 4
 (.loop [0, 1, 4, 12, 13]
 (.block 5
 (.seq (.block 6
 (.loop [0, 1, 4, 12, 13]
 (.seq (.seq (.ops [⟨some 105, .pure .move, [.t 12], none⟩,
 ⟨some 106, .pure .move, [.t 13], none⟩,
 ⟨some 107, .pure (.bin .leq), [.t 105, .t 106], none⟩,
 ⟨some 108, .pure .move, [.t 107], none⟩,
 ⟨some 109, .pure .move, [.t 4], some (108, true)⟩,
 ⟨some 110, .pure .move, [.t 0], some (108, true)⟩,
 ⟨some 111, .pure .move, [.t 12], some (108, true)⟩,
 ⟨some 112, .pure (.iaddrS 5), [.t 110, .t 111], some (108, true)⟩,
 ⟨some 113, .read (.load (some 5)), [.t 112], some (108, true)⟩,
 ⟨some 114, .pure .move, [.t 0], some (108, true)⟩,
 ⟨some 115, .pure .move, [.t 1], some (108, true)⟩,
 ⟨some 116, .pure (.iaddrS 5), [.t 114, .t 115], some (108, true)⟩,
 ⟨some 117, .read (.load (some 5)), [.t 116], some (108, true)⟩,
 ⟨some 118, .callv, [.t 109, .t 113, .t 117], some (108, true)⟩,
 ⟨some 119, .pure (.bin .lss), [.t 118, .c (.int .i64 0)], some (108, true)⟩,
 ⟨some 120, .pure .pick, [.t 108, .t 119, .c (.bool false)], none⟩])
 (.cond (.t 120)
 .skip
 (.exit 6)))
 (.block 7
 (.ops [⟨some 121, .pure .move, [.t 12], none⟩,
 ⟨some 122, .pure (.bin .add), [.t 121, .c (.int .i64 1)], none⟩,
 ⟨some 12, .pure .move, [.t 122], none⟩])))))
 (.seq (.block 8
 (.loop [0, 1, 4, 12, 13]
 (.seq (.seq (.ops [⟨some 123, .pure .move, [.t 12], none⟩,
 ⟨some 124, .pure .move, [.t 13], none⟩,
 ⟨some 125, .pure (.bin .leq), [.t 123, .t 124], none⟩,
 ⟨some 126, .pure .move, [.t 125], none⟩,
 ⟨some 127, .pure .move, [.t 4], some (126, true)⟩,
 ⟨some 128, .pure .move, [.t 0], some (126, true)⟩,
 ⟨some 129, .pure .move, [.t 13], some (126, true)⟩,
 ⟨some 130, .pure (.iaddrS 5), [.t 128, .t 129], some (126, true)⟩,
 ⟨some 131, .read (.load (some 5)), [.t 130], some (126, true)⟩,
 ⟨some 132, .pure .move, [.t 0], some (126, true)⟩,
 ⟨some 133, .pure .move, [.t 1], some (126, true)⟩,
 ⟨some 134, .pure (.iaddrS 5), [.t 132, .t 133], some (126, true)⟩,
 ⟨some 135, .read (.load (some 5)), [.t 134], some (126, true)⟩,
 ⟨some 136, .callv, [.t 127, .t 131, .t 135], some (126, true)⟩,
 ⟨some 137, .pure (.bin .lss), [.t 136, .c (.int .i64 0)], some (126, true)⟩,
 ⟨some 138, .pure (.un .not), [.t 137], some (126, true)⟩,
 ⟨some 139, .pure .pick, [.t 126, .t 138, .c (.bool false)], none⟩])
 (.cond (.t 139)
 .skip
 (.exit 8)))
 (.block 9
 (.ops [⟨some 140, .pure .move, [.t 13], none⟩,
 ⟨some 141, .pure (.bin .sub), [.t 140, .c (.int .i64 1)], none⟩,
 ⟨some 13, .pure .move, [.t 141], none⟩])))))
 (.seq (.seq (.ops [⟨some 142, .pure .move, [.t 12], none⟩,
 ⟨some 143, .pure .move, [.t 13], none⟩,
 ⟨some 144, .pure (.bin .gtr), [.t 142, .t 143], none⟩])
 (.cond (.t 144)
 (.exit 4)
 .skip))
 (.seq (.ops [⟨some 145, .pure .move, [.t 0], none⟩,
 ⟨some 146, .pure .move, [.t 12], none⟩,
 ⟨some 147, .pure .move, [.t 0], none⟩,
 ⟨some 148, .pure .move, [.t 13], none⟩,
 ⟨some 149, .pure .move, [.t 0], none⟩,
 ⟨some 150, .pure .move, [.t 13], none⟩,
 ⟨some 151, .pure (.iaddrS 5), [.t 149, .t 150], none⟩,
 ⟨some 152, .read (.load (some 5)), [.t 151], none⟩,
 ⟨some 153, .pure .move, [.t 0], none⟩,
 ⟨some 154, .pure .move, [.t 12], none⟩,
 ⟨some 155, .pure (.iaddrS 5), [.t 153, .t 154], none⟩,
 ⟨some 156, .read (.load (some 5)), [.t 155], none⟩,
 ⟨some 157, .pure (.iaddrS 5), [.t 145, .t 146], none⟩,
 ⟨none, .eff (.store 5), [.t 157, .t 152], none⟩,
 ⟨some 158, .pure (.iaddrS 5), [.t 147, .t 148], none⟩,
 ⟨none, .eff (.store 5), [.t 158, .t 156], none⟩])
 (.seq (.ops [⟨some 159, .pure .move, [.t 12], none⟩,
 ⟨some 160, .pure (.bin .add), [.t 159, .c (.int .i64 1)], none⟩,
 ⟨some 12, .pure .move, [.t 160], none⟩])
 (.ops [⟨some 161, .pure .move, [.t 13], none⟩,
 ⟨some 162, .pure (.bin .sub), [.t 161, .c (.int .i64 1)], none⟩,
 ⟨some 13, .pure .move, [.t 162], none⟩])))))))))
 (.seq (.ops [⟨some 163, .pure .move, [.t 0], none⟩,
 ⟨some 164, .pure .move, [.t 13], none⟩,
 ⟨some 165, .pure .move, [.t 0], none⟩,
 ⟨some 166, .pure .move, [.t 1], none⟩,
 ⟨some 167, .pure .move, [.t 0], none⟩,
 ⟨some 168, .pure .move, [.t 1], none⟩,
 ⟨some 169, .pure (.iaddrS 5), [.t 167, .t 168], none⟩,
 ⟨some 170, .read (.load (some 5)), [.t 169], none⟩,
 ⟨some 171, .pure .move, [.t 0], none⟩,
 ⟨some 172, .pure .move, [.t 13], none⟩,
 ⟨some 173, .pure (.iaddrS 5), [.t 171, .t 172], none⟩,
 ⟨some 174, .read (.load (some 5)), [.t 173], none⟩,
 ⟨some 175, .pure (.iaddrS 5), [.t 163, .t 164], none⟩,
 ⟨none, .eff (.store 5), [.t 175, .t 170], none⟩,
 ⟨some 176, .pure (.iaddrS 5), [.t 165, .t 166], none⟩,
 ⟨none, .eff (.store 5), [.t 176, .t 174], none⟩])
 (.seq (.ops [⟨some 177, .pure .move, [.t 13], none⟩,
 ⟨some 10, .pure .move, [.t 177], none⟩,
 ⟨some 11, .pure .move, [.c (.bool false)], none⟩])
 .ret)))))))))))) }
/-- datakit/decimal.divide -/
def ac731 : AFn :=
 { nt := 44, res := [.tmp 4, .tmp 5], body :=
 (.seq (.ops [⟨some 4, .pure .move, [.c (.str [])], none⟩,
 ⟨some 5, .pure .move, [.c (.str [])], none⟩])
 (.seq (.ops [⟨some 10, .pure .move, [.t 0], none⟩,
 ⟨some 11, .pure .lenS, [.t 10], none⟩,
 ⟨some 12, .new (.mkSlice 1 1 (.int .u8 0)), [.t 11, .t 11], none⟩,
 ⟨some 6, .pure .move, [.t 12], none⟩])
 (.seq (.ops [⟨some 7, .pure .move, [.c (.str [])], none⟩])
 (.seq (.seq (.ops [⟨some 13, .pure .move, [.t 0], none⟩,
 ⟨some 14, .pure .lenS, [.t 13], none⟩,
 ⟨some 15, .pure .move, [.c (.int .i64 0)], none⟩])
 (.block 0
 (.loop [0, 1, 6, 7, 14, 15]
 (.seq (.ops [⟨some 16, .pure (.bin .lss), [.t 15, .t 14], none⟩])
 (.seq (.cond (.t 16)
 .skip
 (.exit 0))
 (.seq (.block 1
 (.seq (.ops [⟨some 17, .pure .move, [.t 15], none⟩,
 ⟨some 8, .pure .move, [.t 17], none⟩])
 (.seq (.ops [⟨some 18, .pure .move, [.t 7], none⟩,
 ⟨some 19, .pure .move, [.t 0], none⟩,
 ⟨some 20, .pure .move, [.t 8], none⟩,
 ⟨some 21, .pure .move, [.t 8], none⟩,
 ⟨some 22, .pure (.bin .add), [.t 21, .c (.int .i64 1)], none⟩,
 ⟨some 23, .pure (.sliceS true true), [.t 19, .t 20, .t 22], none⟩,
 ⟨some 24, .pure (.bin .add), [.t 18, .t 23], none⟩,
 ⟨some 25, .pcall 137, [.t 24, .c (.str [48])], none⟩,
 ⟨some 7, .pure .move, [.t 25], none⟩])
 (.seq (.ops [⟨some 9, .pure .move, [.c (.int .u8 48)], none⟩])
 (.seq (.block 2
 (.loop [0, 1, 6, 7, 8, 9, 14, 15]
 (.seq (.seq (.ops [⟨some 26, .pure .move, [.t 7], none⟩,
 ⟨some 27, .pure .move, [.t 1], none⟩,
 ⟨some 28, .pcall 286, [.t 26, .t 27], none⟩,
 ⟨some 29, .pure (.bin .geq), [.t 28, .c (.int .i64 0)], none⟩])
 (.cond (.t 29)
 .skip
 (.exit 2)))
 (.block 3
 (.seq (.ops [⟨some 30, .pure .move, [.t 7], none⟩,
 ⟨some 31, .pure .move, [.t 1], none⟩,
 ⟨some 32, .pcall 722, [.t 30, .t 31], none⟩,
 ⟨some 7, .pure .move, [.t 32], none⟩])
 (.ops [⟨some 33, .pure .move, [.t 9], none⟩,
 ⟨some 34, .pure (.bin .add), [.t 33, .c (.int .u8 1)], none⟩,
 ⟨some 9, .pure .move, [.t 34], none⟩]))))))
 (.ops [⟨some 35, .pure .move, [.t 6], none⟩,
 ⟨some 36, .pure .move, [.t 8], none⟩,
 ⟨some 37, .pure .move, [.t 9], none⟩,
 ⟨some 38, .pure (.iaddrS 1), [.t 35, .t 36], none⟩,
 ⟨none, .eff (.store 1), [.t 38, .t 37], none⟩]))))))
 (.ops [⟨some 39, .pure (.bin .add), [.t 15, .c (.int .i64 1)], none⟩,
 ⟨some 15, .pure .move, [.t 39], none⟩])))))))
 (.seq (.ops [⟨some 40, .pure .move, [.t 6], none⟩,
 ⟨some 41, .read .bytesStr, [.t 40], none⟩,
 ⟨some 42, .pcall 137, [.t 41, .c (.str [48])], none⟩,
 ⟨some 43, .pure .move, [.t 7], none⟩,
 ⟨some 4, .pure .move, [.t 42], none⟩,
 ⟨some 5, .pure .move, [.t 43], none⟩])
 .ret))))) }
/-- datakit/decimal.rounds -/
def ac732 : AFn :=
 { nt := 32, res := [.tmp 8], body :=
 (.seq (.ops [⟨some 8, .pure .move, [.c (.bool false)], none⟩])
 (.seq (.seq (.ops [⟨some 9, .pure .move, [.t 0], none⟩])
 (.block 0
 (.seq (.ops [⟨some 11, .pure (.bin .eql), [.t 9, .c (.int .i64 0)], none⟩,
 ⟨some 10, .pure .move, [.t 11], none⟩])
 (.cond (.t 10)
 (.seq (.ops [⟨some 12, .pure .move, [.t 1], none⟩,
 ⟨some 8, .pure .move, [.t 12], none⟩])
 .ret)
 (.seq (.ops [⟨some 14, .pure (.bin .eql), [.t 9, .c (.int .i64 1)], none⟩,
 ⟨some 13, .pure .move, [.t 14], none⟩])
 (.cond (.t 13)
 (.seq (.ops [⟨some 15, .pure .move, [.t 1], none⟩,
 ⟨some 16, .pure (.un .not), [.t 15], none⟩,
 ⟨some 8, .pure .move, [.t 16], none⟩])
 .ret)
 (.seq (.ops [⟨some 18, .pure (.bin .eql), [.t 9, .c (.int .i64 3)], none⟩,
 ⟨some 17, .pure .move, [.t 18], none⟩])
 (.cond (.t 17)
 (.seq (.ops [⟨some 19, .pure .move, [.t 3], none⟩,
 ⟨some 20, .pure (.bin .gtr), [.t 19, .c (.int .i64 0)], none⟩,
 ⟨some 21, .pure .move, [.t 20], none⟩,
 ⟨some 22, .pure .move, [.t 3], some (21, false)⟩,
 ⟨some 23, .pure (.bin .eql), [.t 22, .c (.int .i64 0)], some (21, false)⟩,
 ⟨some 24, .pure .move, [.t 23], some (21, false)⟩,
 ⟨some 25, .pure .move, [.t 2], some (24, true)⟩,
 ⟨some 26, .pure .pick, [.t 24, .t 25, .c (.bool false)], some (21, false)⟩,
 ⟨some 27, .pure .pick, [.t 21, .c (.bool true), .t 26], none⟩,
 ⟨some 8, .pure .move, [.t 27], none⟩])
 .ret)
 (.seq (.ops [⟨some 29, .pure (.bin .eql), [.t 9, .c (.int .i64 4)], none⟩,
 ⟨some 28, .pure .move, [.t 29], none⟩])
 (.cond (.t 28)
 (.seq (.ops [⟨some 30, .pure .move, [.t 3], none⟩,
 ⟨some 31, .pure (.bin .geq), [.t 30, .c (.int .i64 0)], none⟩,
 ⟨some 8, .pure .move, [.t 31], none⟩])
 .ret)
 .skip))))))))))
 (.seq (.ops [⟨some 8, .pure .move, [.c (.bool false)], none⟩])
 .ret))) }
/-- datakit/decimal.at -/
def ac733 : AFn :=
 { nt := 18, res := [.tmp 4], body :=
 (.seq (.ops [⟨some 4, .pure .move, [.c (.int .i64 0)], none⟩])
 (.seq (.seq (.ops [⟨some 5, .pure .move, [.t 1], none⟩,
 ⟨some 6, .pure .move, [.t 0], none⟩,
 ⟨some 7, .pure .lenS, [.t 6], none⟩,
 ⟨some 8, .pure (.bin .geq), [.t 5, .t 7], none⟩])
 (.cond (.t 8)
 (.seq (.ops [⟨some 4, .pure .move, [.c (.int .i64 0)], none⟩])
 .ret)
 .skip))
 (.seq (.ops [⟨some 9, .pure .move, [.t 0], none⟩,
 ⟨some 10, .pure .move, [.t 0], none⟩,
 ⟨some 11, .pure .lenS, [.t 10], none⟩,
 ⟨some 12, .pure (.bin .sub), [.t 11, .c (.int .i64 1)], none⟩,
 ⟨some 13, .pure .move, [.t 1], none⟩,
 ⟨some 14, .pure (.bin .sub), [.t 12, .t 13], none⟩,
 ⟨some 15, .pure .idxStr, [.t 9, .t 14], none⟩,
 ⟨some 16, .pure (.bin .sub), [.t 15, .c (.int .u8 48)], none⟩,
 ⟨some 17, .pure (.conv .i64), [.t 16], none⟩,
 ⟨some 4, .pure .move, [.t 17], none⟩])
 .ret))) }
/-- slices.siftDownCmpFunc[datakit/numset.cut] -/
def ac734 : AFn :=
 { nt := 82, res := [], body :=
 (.seq (.ops [⟨some 12, .pure .move, [.t 1], none⟩,
 ⟨some 10, .pure .move, [.t 12], none⟩])
 (.block 0
 (.loop [0, 2, 3, 4, 10]
 (.block 1
 (.seq (.ops [⟨some 13, .pure .move, [.t 10], none⟩,
 ⟨some 14, .pure (.bin .mul), [.c (.int .i64 2), .t 13], none⟩,
 ⟨some 15, .pure (.bin .add), [.t 14, .c (.int .i64 1)], none⟩,
 ⟨some 11, .pure .move, [.t 15], none⟩])
 (.seq (.seq (.ops [⟨some 16, .pure .move, [.t 11], none⟩,
 ⟨some 17, .pure .move, [.t 2], none⟩,
 ⟨some 18, .pure (.bin .geq), [.t 16, .t 17], none⟩])
 (.cond (.t 18)
 (.exit 0)
 .skip))
 (.seq (.seq (.ops [⟨some 19, .pure .move, [.t 11], none⟩,
 ⟨some 20, .pure (.bin .add), [.t 19, .c (.int .i64 1)], none⟩,
 ⟨some 21, .pure .move, [.t 2], none⟩,
 ⟨some 22, .pure (.bin .lss), [.t 20, .t 21], none⟩,
 ⟨some 23, .pure .move, [.t 22], none⟩,
 ⟨some 24, .pure .move, [.t 4], some (23, true)⟩,
 ⟨some 25, .pure .move, [.t 0], some (23, true)⟩,
 ⟨some 26, .pure .move, [.t 3], some (23, true)⟩,
 ⟨some 27, .pure .move, [.t 11], some (23, true)⟩,
 ⟨some 28, .pure (.bin .add), [.t 26, .t 27], some (23, true)⟩,
 ⟨some 29, .pure (.iaddrS 5), [.t 25, .t 28], some (23, true)⟩,
 ⟨some 30, .read (.load (some 5)), [.t 29], some (23, true)⟩,
 ⟨some 31, .pure .move, [.t 0], some (23, true)⟩,
 ⟨some 32, .pure .move, [.t 3], some (23, true)⟩,
 ⟨some 33, .pure .move, [.t 11], some (23, true)⟩,
 ⟨some 34, .pure (.bin .add), [.t 32, .t 33], some (23, true)⟩,
 ⟨some 35, .pure (.bin .add), [.t 34, .c (.int .i64 1)], some (23, true)⟩,
 ⟨some 36, .pure (.iaddrS 5), [.t 31, .t 35], some (23, true)⟩,
 ⟨some 37, .read (.load (some 5)), [.t 36], some (23, true)⟩,
 ⟨some 38, .callv, [.t 24, .t 30, .t 37], some (23, true)⟩,
 ⟨some 39, .pure (.bin .lss), [.t 38, .c (.int .i64 0)], some (23, true)⟩,
 ⟨some 40, .pure .pick, [.t 23, .t 39, .c (.bool false)], none⟩])
 (.cond (.t 40)
 (.ops [⟨some 41, .pure .move, [.t 11], none⟩,
 ⟨some 42, .pure (.bin .add), [.t 41, .c (.int .i64 1)], none⟩,
 ⟨some 11, .pure .move, [.t 42], none⟩])
 .skip))
 (.seq (.seq (.ops [⟨some 43, .pure .move, [.t 4], none⟩,
 ⟨some 44, .pure .move, [.t 0], none⟩,
 ⟨some 45, .pure .move, [.t 3], none⟩,
 ⟨some 46, .pure .move, [.t 10], none⟩,
 ⟨some 47, .pure (.bin .add), [.t 45, .t 46], none⟩,
 ⟨some 48, .pure (.iaddrS 5), [.t 44, .t 47], none⟩,
 ⟨some 49, .read (.load (some 5)), [.t 48], none⟩,
 ⟨some 50, .pure .move, [.t 0], none⟩,
 ⟨some 51, .pure .move, [.t 3], none⟩,
 ⟨some 52, .pure .move, [.t 11], none⟩,
 ⟨some 53, .pure (.bin .add), [.t 51, .t 52], none⟩,
 ⟨some 54, .pure (.iaddrS 5), [.t 50, .t 53], none⟩,
 ⟨some 55, .read (.load (some 5)), [.t 54], none⟩,
 ⟨some 56, .callv, [.t 43, .t 49, .t 55], none⟩,
 ⟨some 57, .pure (.bin .lss), [.t 56, .c (.int .i64 0)], none⟩,
 ⟨some 58, .pure (.un .not), [.t 57], none⟩])
 (.cond (.t 58)
 .ret
 .skip))
 (.seq (.ops [⟨some 59, .pure .move, [.t 0], none⟩,
 ⟨some 60, .pure .move, [.t 3], none⟩,
 ⟨some 61, .pure .move, [.t 10], none⟩,
 ⟨some 62, .pure (.bin .add), [.t 60, .t 61], none⟩,
 ⟨some 63, .pure .move, [.t 0], none⟩,
 ⟨some 64, .pure .move, [.t 3], none⟩,
 ⟨some 65, .pure .move, [.t 11], none⟩,
 ⟨some 66, .pure (.bin .add), [.t 64, .t 65], none⟩,
 ⟨some 67, .pure .move, [.t 0], none⟩,
 ⟨some 68, .pure .move, [.t 3], none⟩,
 ⟨some 69, .pure .move, [.t 11], none⟩,
 ⟨some 70, .pure (.bin .add), [.t 68, .t 69], none⟩,
 ⟨some 71, .pure (.iaddrS 5), [.t 67, .t 70], none⟩,
 ⟨some 72, .read (.load (some 5)), [.t 71], none⟩,
 ⟨some 73, .pure .move, [.t 0], none⟩,
 ⟨some 74, .pure .move, [.t 3], none⟩,
 ⟨some 75, .pure .move, [.t 10], none⟩,
 ⟨some 76, .pure (.bin .add), [.t 74, .t 75], none⟩,
 ⟨some 77, .pure (.iaddrS 5), [.t 73, .t 76], none⟩,
 ⟨some 78, .read (.load (some 5)), [.t 77], none⟩,
 ⟨some 79, .pure (.iaddrS 5), [.t 59, .t 62], none⟩,
 ⟨none, .eff (.store 5), [.t 79, .t 72], none⟩,
 ⟨some 80, .pure (.iaddrS 5), [.t 63, .t 66], none⟩,
 ⟨none, .eff (.store 5), [.t 80, .t 78], none⟩])
 (.ops [⟨some 81, .pure .move, [.t 11], none⟩,
 ⟨some 10, .pure .move, [.t 81], none⟩])))))))))) }
/-- slices.medianAdjacentCmpFunc[datakit/numset.cut] -/
def ac735 : AFn :=
 { nt := 18, res := [.tmp 8], body :=
 (.seq (.ops [⟨some 8, .pure .move, [.c (.int .i64 0)], none⟩])
 (.seq (.ops [⟨some 9, .pure .move, [.t 0], none⟩,
 ⟨some 10, .pure .move, [.t 1], none⟩,
 ⟨some 11, .pure (.bin .sub), [.t 10, .c (.int .i64 1)], none⟩,
 ⟨some 12, .pure .move, [.t 1], none⟩,
 ⟨some 13, .pure .move, [.t 1], none⟩,
 ⟨some 14, .pure (.bin .add), [.t 13, .c (.int .i64 1)], none⟩,
 ⟨some 15, .pure .move, [.t 2], none⟩,
 ⟨some 16, .pure .move, [.t 3], none⟩,
 ⟨some 17, .call 736, [.t 9, .t 11, .t 12, .t 14, .t 15, .t 16], none⟩,
 ⟨some 8, .pure .move, [.t 17], none⟩])
 .ret)) }
/-- slices.medianCmpFunc[datakit/numset.cut] -/
def ac736 : AFn :=
 { nt := 41, res := [.tmp 12], body :=
 (.seq (.ops [⟨some 12, .pure .move, [.c (.int .i64 0)], none⟩])
 (.seq (.ops [⟨some 14, .pure .move, [.t 0], none⟩,
 ⟨some 15, .pure .move, [.t 1], none⟩,
 ⟨some 16, .pure .move, [.t 2], none⟩,
 ⟨some 17, .pure .move, [.t 4], none⟩,
 ⟨some 18, .pure .move, [.t 5], none⟩,
 ⟨some 19, .call 737, [.t 14, .t 15, .t 16, .t 17, .t 18], none⟩,
 ⟨some 13, .pure .move, [.t 19], none⟩,
 ⟨some 20, .pure (.ext 0), [.t 13], none⟩,
 ⟨some 21, .pure (.ext 1), [.t 13], none⟩,
 ⟨some 1, .pure .move, [.t 20], none⟩,
 ⟨some 2, .pure .move, [.t 21], none⟩])
 (.seq (.ops [⟨some 23, .pure .move, [.t 0], none⟩,
 ⟨some 24, .pure .move, [.t 2], none⟩,
 ⟨some 25, .pure .move, [.t 3], none⟩,
 ⟨some 26, .pure .move, [.t 4], none⟩,
 ⟨some 27, .pure .move, [.t 5], none⟩,
 ⟨some 28, .call 737, [.t 23, .t 24, .t 25, .t 26, .t 27], none⟩,
 ⟨some 22, .pure .move, [.t 28], none⟩,
 ⟨some 29, .pure (.ext 0), [.t 22], none⟩,
 ⟨some 30, .pure (.ext 1), [.t 22], none⟩,
 ⟨some 2, .pure .move, [.t 29], none⟩,
 ⟨some 3, .pure .move, [.t 30], none⟩])
 (.seq (.ops [⟨some 32, .pure .move, [.t 0], none⟩,
 ⟨some 33, .pure .move, [.t 1], none⟩,
 ⟨some 34, .pure .move, [.t 2], none⟩,
 ⟨some 35, .pure .move, [.t 4], none⟩,
 ⟨some 36, .pure .move, [.t 5], none⟩,
 ⟨some 37, .call 737, [.t 32, .t 33, .t 34, .t 35, .t 36], none⟩,
 ⟨some 31, .pure .move, [.t 37], none⟩,
 ⟨some 38, .pure (.ext 0), [.t 31], none⟩,
 ⟨some 39, .pure (.ext 1), [.t 31], none⟩,
 ⟨some 1, .pure .move, [.t 38], none⟩,
 ⟨some 2, .pure .move, [.t 39], none⟩])
 (.seq (.ops [⟨some 40, .pure .move, [.t 2], none⟩,
 ⟨some 12, .pure .move, [.t 40], none⟩])
 .ret))))) }
/-- slices.order2CmpFunc[datakit/numset.cut] -/
def ac737 : AFn :=
 { nt := 32, res := [.tmp 10, .tmp 11], body :=
 (.seq (.ops [⟨some 10, .pure .move, [.c (.int .i64 0)], none⟩,
 ⟨some 11, .pure .move, [.c (.int .i64 0)], none⟩])
 (.seq (.seq (.ops [⟨some 12, .pure .move, [.t 4], none⟩,
 ⟨some 13, .pure .move, [.t 0], none⟩,
 ⟨some 14, .pure .move, [.t 2], none⟩,
 ⟨some 15, .pure (.iaddrS 5), [.t 13, .t 14], none⟩,
 ⟨some 16, .read (.load (some 5)), [.t 15], none⟩,
 ⟨some 17, .pure .move, [.t 0], none⟩,
 ⟨some 18, .pure .move, [.t 1], none⟩,
 ⟨some 19, .pure (.iaddrS 5), [.t 17, .t 18], none⟩,
 ⟨some 20, .read (.load (some 5)), [.t 19], none⟩,
 ⟨some 21, .callv, [.t 12, .t 16, .t 20], none⟩,
 ⟨some 22, .pure (.bin .lss), [.t 21, .c (.int .i64 0)], none⟩])
 (.cond (.t 22)
 (.seq (.ops [⟨some 23, .pure .move, [.t 3], none⟩,
 ⟨some 24, .pure .chk, [.t 23], none⟩,
 ⟨some 25, .read (.load none), [.t 24], none⟩,
 ⟨some 26, .pure (.bin .add), [.t 25, .c (.int .i64 1)], none⟩,
 ⟨some 27, .pure .chk, [.t 23], none⟩,
 ⟨none, .eff (.store 1), [.t 27, .t 26], none⟩])
 (.seq (.ops [⟨some 28, .pure .move, [.t 2], none⟩,
 ⟨some 29, .pure .move, [.t 1], none⟩,
 ⟨some 10, .pure .move, [.t 28], none⟩,
 ⟨some 11, .pure .move, [.t 29], none⟩])
 .ret))
 .skip))
 (.seq (.ops [⟨some 30, .pure .move, [.t 1], none⟩,
 ⟨some 31, .pure .move, [.t 2], none⟩,
 ⟨some 10, .pure .move, [.t 30], none⟩,
 ⟨some 11, .pure .move, [.t 31], none⟩])
 .ret))) }
def codeN1 : Nat → Option AFn
 | 86 => some ac86
 | 87 => some ac87
 | 137 => some ac137
 | 144 => some ac144
 | 145 => some ac145
 | 146 => some ac146
 | 147 => some ac147
 | 152 => some ac152
 | 153 => some ac153
 | 154 => some ac154
 | 159 => some ac159
 | 229 => some ac229
 | 235 => some ac235
 | 250 => some ac250
 | 251 => some ac251
 | 257 => some ac257
 | 262 => some ac262
 | 263 => some ac263
 | 264 => some ac264
 | 273 => some ac273
 | 285 => some ac285
 | 286 => some ac286
 | 522 => some ac522
 | 549 => some ac549
 | 579 => some ac579
 | 580 => some ac580
 | 581 => some ac581
 | 585 => some ac585
 | 600 => some ac600
 | 610 => some ac610
 | 611 => some ac611
 | 612 => some ac612
 | 618 => some ac618
 | 625 => some ac625
 | 634 => some ac634
 | 635 => some ac635
 | 638 => some ac638
 | 643 => some ac643
 | 647 => some ac647
 | 664 => some ac664
 | 669 => some ac669
 | 671 => some ac671
 | 672 => some ac672
 | 673 => some ac673
 | 674 => some ac674
 | 679 => some ac679
 | 680 => some ac680
 | 681 => some ac681
 | 682 => some ac682
 | 683 => some ac683
 | 684 => some ac684
 | 685 => some ac685
 | 686 => some ac686
 | 689 => some ac689
 | 690 => some ac690
 | 691 => some ac691
 | 692 => some ac692
 | 695 => some ac695
 | 697 => some ac697
 | 698 => some ac698
 | 699 => some ac699
 | 700 => some ac700
 | 701 => some ac701
 | 702 => some ac702
 | 703 => some ac703
 | 704 => some ac704
 | 705 => some ac705
 | 706 => some ac706
 | 707 => some ac707
 | 708 => some ac708
 | 709 => some ac709
 | 710 => some ac710
 | 711 => some ac711
 | 712 => some ac712
 | 713 => some ac713
 | 714 => some ac714
 | 715 => some ac715
 | 716 => some ac716
 | 717 => some ac717
 | 718 => some ac718
 | 719 => some ac719
 | 720 => some ac720
 | 721 => some ac721
 | 722 => some ac722
 | 723 => some ac723
 | 724 => some ac724
 | 725 => some ac725
 | 726 => some ac726
 | 727 => some ac727
 | 728 => some ac728
 | 729 => some ac729
 | 730 => some ac730
 | 731 => some ac731
 | 732 => some ac732
 | 733 => some ac733
 | 734 => some ac734
 | 735 => some ac735
 | 736 => some ac736
 | 737 => some ac737
 | _ => none
def codeN (f : Nat) : Option AFn := match code f with
 | some a => some a
 | none => codeN1 f
def clRN : Nat → Option (Nat × Nat)
 | _ => none
def clPN : Nat → Option (Nat × Nat)
 | _ => none
def ppN : Nat → Option (List AV → Option AV)
 | 291 => some repF
 | 272 => some cmpF
 | _ => none
def CN : Ctx := funCtx (mkCtx codeN clRN clPN) ppN
end Ago
