/- The abstract code of the functions, printed by program. -/
import Derived.Test.YtndeonfobpmddaaGreatDoorCodeA
import Derived.Test.YtndeonfobpmddaaGreatDoorMachG
set_option linter.unusedSimpArgs false
set_option linter.unusedVariables false
set_option maxRecDepth 100000
namespace Ago
/-- datakit/datakitref15.count -/
def ac376:AFn:=
 { nt:=27, res:=[.tmp 4], body:=
 (.seq (.ops [⟨some 2, .new (.box 6), [.t 0], none⟩,
 ⟨some 4, .pure .move, [.c (.int .i64 0)], none⟩])
 (.seq (.seq (.ops [⟨some 7, .pure .move, [.t 1], none⟩,
 ⟨some 8, .pure (.bin .lss), [.t 7, .c (.int .i64 1)], none⟩])
 (.cond (.t 8)
 (.seq (.ops [⟨some 4, .pure .move, [.c (.int .i64 0)], none⟩])
 .ret)
 .skip))
 (.seq (.ops [⟨some 5, .pure .move, [.c (.int .i64 1)], none⟩])
 (.seq (.seq (.ops [⟨some 6, .pure .move, [.c (.int .i64 0)], none⟩])
 (.block 0
 (.loop [1, 2, 5, 6]
 (.seq (.seq (.ops [⟨some 9, .pure .move, [.t 6], none⟩,
 ⟨some 10, .pure (.faddr 5), [.t 2], none⟩,
 ⟨some 11, .read (.load none), [.t 10], none⟩,
 ⟨some 12, .pure .lenL, [.t 11], none⟩,
 ⟨some 13, .pure (.bin .lss), [.t 9, .t 12], none⟩])
 (.cond (.t 13)
 .skip
 (.exit 0)))
 (.seq (.block 1
 (.ops [⟨some 16, .pure .move, [.t 5], none⟩,
 ⟨some 17, .pure (.faddr 5), [.t 2], none⟩,
 ⟨some 18, .read (.load none), [.t 17], none⟩,
 ⟨some 19, .pure .move, [.t 6], none⟩,
 ⟨some 20, .pure (.iaddrS 6), [.t 18, .t 19], none⟩,
 ⟨some 21, .read (.load (some 6)), [.t 20], none⟩,
 ⟨some 22, .pure .move, [.t 1], none⟩,
 ⟨some 23, .pure (.bin .sub), [.t 22, .c (.int .i64 1)], none⟩,
 ⟨some 24, .pcall 376, [.t 21, .t 23], none⟩,
 ⟨some 25, .pure (.bin .add), [.t 16, .t 24], none⟩,
 ⟨some 5, .pure .move, [.t 25], none⟩]))
 (.ops [⟨some 14, .pure .move, [.t 6], none⟩,
 ⟨some 15, .pure (.bin .add), [.t 14, .c (.int .i64 1)], none⟩,
 ⟨some 6, .pure .move, [.t 15], none⟩]))))))
 (.seq (.ops [⟨some 26, .pure .move, [.t 5], none⟩,
 ⟨some 4, .pure .move, [.t 26], none⟩])
 .ret))))) }
/-- datakit/regex.sound -/
def ac377:AFn:=
 { nt:=27, res:=[.tmp 4], body:=
 (.seq (.ops [⟨some 2, .new (.box 6), [.t 0], none⟩,
 ⟨some 4, .pure .move, [.c (.bool false)], none⟩])
 (.seq (.seq (.ops [⟨some 7, .pure .move, [.t 1], none⟩,
 ⟨some 8, .pure (.bin .lss), [.t 7, .c (.int .i64 1)], none⟩,
 ⟨some 9, .pure .move, [.t 8], none⟩,
 ⟨some 10, .read (.load (some 6)), [.t 2], some (9, false)⟩,
 ⟨some 11, .pcall 396, [.t 10], some (9, false)⟩,
 ⟨some 12, .pure (.un .not), [.t 11], some (9, false)⟩,
 ⟨some 13, .pure .pick, [.t 9, .c (.bool true), .t 12], none⟩])
 (.cond (.t 13)
 (.seq (.ops [⟨some 4, .pure .move, [.c (.bool false)], none⟩])
 .ret)
 .skip))
 (.seq (.seq (.ops [⟨some 14, .pure (.faddr 5), [.t 2], none⟩,
 ⟨some 15, .read (.load none), [.t 14], none⟩,
 ⟨some 16, .pure .lenL, [.t 15], none⟩,
 ⟨some 17, .pure .move, [.c (.int .i64 0)], none⟩])
 (.block 0
 (.loop [1, 15, 16, 17]
 (.seq (.ops [⟨some 18, .pure (.bin .lss), [.t 17, .t 16], none⟩])
 (.seq (.cond (.t 18)
 .skip
 (.exit 0))
 (.seq (.block 1
 (.seq (.ops [⟨some 19, .pure (.iaddrS 6), [.t 15, .t 17], none⟩,
 ⟨some 20, .read (.load (some 6)), [.t 19], none⟩,
 ⟨some 6, .new (.new 6 [.agg [.int .i64 0, .int .i64 0, .int .i64 0, .int .i64 0, .int .i64 0, .snil 6]]), [], none⟩,
 ⟨none, .eff (.store 6), [.t 6, .t 20], none⟩])
 (.seq (.ops [⟨some 21, .read (.load (some 6)), [.t 6], none⟩,
 ⟨some 22, .pure .move, [.t 1], none⟩,
 ⟨some 23, .pure (.bin .sub), [.t 22, .c (.int .i64 1)], none⟩,
 ⟨some 24, .pcall 377, [.t 21, .t 23], none⟩,
 ⟨some 25, .pure (.un .not), [.t 24], none⟩])
 (.cond (.t 25)
 (.seq (.ops [⟨some 4, .pure .move, [.c (.bool false)], none⟩])
 .ret)
 .skip))))
 (.ops [⟨some 26, .pure (.bin .add), [.t 17, .c (.int .i64 1)], none⟩,
 ⟨some 17, .pure .move, [.t 26], none⟩])))))))
 (.seq (.ops [⟨some 4, .pure .move, [.c (.bool true)], none⟩])
 .ret)))) }
/-- datakit/regex.size -/
def ac378:AFn:=
 { nt:=25, res:=[.tmp 4], body:=
 (.seq (.ops [⟨some 2, .new (.box 6), [.t 0], none⟩,
 ⟨some 4, .pure .move, [.c (.int .i64 0)], none⟩])
 (.seq (.seq (.ops [⟨some 8, .pure .move, [.t 1], none⟩,
 ⟨some 9, .pure (.bin .lss), [.t 8, .c (.int .i64 1)], none⟩])
 (.cond (.t 9)
 (.seq (.ops [⟨some 4, .pure .move, [.c (.int .i64 0)], none⟩])
 .ret)
 .skip))
 (.seq (.ops [⟨some 5, .pure .move, [.c (.int .i64 1)], none⟩])
 (.seq (.seq (.ops [⟨some 10, .pure (.faddr 5), [.t 2], none⟩,
 ⟨some 11, .read (.load none), [.t 10], none⟩,
 ⟨some 12, .pure .lenL, [.t 11], none⟩,
 ⟨some 13, .pure .move, [.c (.int .i64 0)], none⟩])
 (.block 0
 (.loop [1, 5, 11, 12, 13]
 (.seq (.ops [⟨some 14, .pure (.bin .lss), [.t 13, .t 12], none⟩])
 (.seq (.cond (.t 14)
 .skip
 (.exit 0))
 (.seq (.block 1
 (.seq (.ops [⟨some 15, .pure (.iaddrS 6), [.t 11, .t 13], none⟩,
 ⟨some 16, .read (.load (some 6)), [.t 15], none⟩,
 ⟨some 7, .new (.new 6 [.agg [.int .i64 0, .int .i64 0, .int .i64 0, .int .i64 0, .int .i64 0, .snil 6]]), [], none⟩,
 ⟨none, .eff (.store 6), [.t 7, .t 16], none⟩])
 (.ops [⟨some 17, .pure .move, [.t 5], none⟩,
 ⟨some 18, .read (.load (some 6)), [.t 7], none⟩,
 ⟨some 19, .pure .move, [.t 1], none⟩,
 ⟨some 20, .pure (.bin .sub), [.t 19, .c (.int .i64 1)], none⟩,
 ⟨some 21, .pcall 378, [.t 18, .t 20], none⟩,
 ⟨some 22, .pure (.bin .add), [.t 17, .t 21], none⟩,
 ⟨some 5, .pure .move, [.t 22], none⟩])))
 (.ops [⟨some 23, .pure (.bin .add), [.t 13, .c (.int .i64 1)], none⟩,
 ⟨some 13, .pure .move, [.t 23], none⟩])))))))
 (.seq (.ops [⟨some 24, .pure .move, [.t 5], none⟩,
 ⟨some 4, .pure .move, [.t 24], none⟩])
 .ret))))) }
/-- datakit/automaton.epsilon -/
def ac379:AFn:=
 { nt:=5, res:=[.cell 0 (some 1)], body:=
 (.seq (.ops [⟨some 0, .new (.new 1 [.agg [.snil 2]]), [], none⟩])
 (.seq (.ops [⟨some 1, .pcall 383, [.c (.bool true), .c (.int .i64 1)], none⟩,
 ⟨some 2, .pcall 383, [.c (.bool false), .c (.int .i64 1)], none⟩,
 ⟨some 3, .new (.buildSlice 2 [.agg [.bool false, .snil 3], .agg [.bool false, .snil 3]] [0, 1]), [.t 1, .t 2], none⟩,
 ⟨some 4, .pure (.build [.snil 2] [(0, 1)]), [.t 3], none⟩,
 ⟨none, .eff (.store 1), [.t 0, .t 4], none⟩])
 .ret)) }
/-- datakit/automaton.bytesOf -/
def ac380:AFn:=
 { nt:=41, res:=[.cell 4 (some 1)], body:=
 (.seq (.ops [⟨some 4, .new (.new 1 [.agg [.snil 2]]), [], none⟩])
 (.seq (.ops [⟨some 6, .pure (.build [.bool false, .snil 3] []), [], none⟩,
 ⟨some 5, .new (.new 2 [.agg [.bool false, .snil 3]]), [], none⟩,
 ⟨none, .eff (.store 2), [.t 5, .t 6], none⟩])
 (.seq (.seq (.ops [⟨some 7, .pure .move, [.t 0], none⟩,
 ⟨some 8, .pure (.bin .gtr), [.t 7, .c (.int .i64 0)], none⟩])
 (.cond (.t 8)
 (.ops [⟨some 9, .pure (.faddr 1), [.t 5], none⟩,
 ⟨some 10, .read (.load none), [.t 9], none⟩,
 ⟨some 11, .pure .move, [.t 0], none⟩,
 ⟨some 12, .pure (.bin .sub), [.t 11, .c (.int .i64 1)], none⟩,
 ⟨some 13, .pure (.build [.int .i64 0, .int .i64 0, .int .i64 0] [(0, 1), (1, 1), (2, 1)]), [.c (.int .i64 0), .t 12, .c (.int .i64 2)], none⟩,
 ⟨some 14, .new (.buildSlice 3 [.agg [.int .i64 0, .int .i64 0, .int .i64 0]] [0]), [.t 13], none⟩,
 ⟨some 15, .eff (.append 3 24), [.t 10, .t 14], none⟩,
 ⟨some 16, .pure (.faddr 1), [.t 5], none⟩,
 ⟨none, .eff (.store 1), [.t 16, .t 15], none⟩])
 .skip))
 (.seq (.ops [⟨some 17, .pure (.faddr 1), [.t 5], none⟩,
 ⟨some 18, .read (.load none), [.t 17], none⟩,
 ⟨some 19, .pure .move, [.t 0], none⟩,
 ⟨some 20, .pure .move, [.t 1], none⟩,
 ⟨some 21, .pure (.build [.int .i64 0, .int .i64 0, .int .i64 0] [(0, 1), (1, 1), (2, 1)]), [.t 19, .t 20, .c (.int .i64 1)], none⟩,
 ⟨some 22, .new (.buildSlice 3 [.agg [.int .i64 0, .int .i64 0, .int .i64 0]] [0]), [.t 21], none⟩,
 ⟨some 23, .eff (.append 3 24), [.t 18, .t 22], none⟩,
 ⟨some 24, .pure (.faddr 1), [.t 5], none⟩,
 ⟨none, .eff (.store 1), [.t 24, .t 23], none⟩])
 (.seq (.seq (.ops [⟨some 25, .pure .move, [.t 1], none⟩,
 ⟨some 26, .pure (.bin .lss), [.t 25, .c (.int .i64 255)], none⟩])
 (.cond (.t 26)
 (.ops [⟨some 27, .pure (.faddr 1), [.t 5], none⟩,
 ⟨some 28, .read (.load none), [.t 27], none⟩,
 ⟨some 29, .pure .move, [.t 1], none⟩,
 ⟨some 30, .pure (.bin .add), [.t 29, .c (.int .i64 1)], none⟩,
 ⟨some 31, .pure (.build [.int .i64 0, .int .i64 0, .int .i64 0] [(0, 1), (1, 1), (2, 1)]), [.t 30, .c (.int .i64 255), .c (.int .i64 2)], none⟩,
 ⟨some 32, .new (.buildSlice 3 [.agg [.int .i64 0, .int .i64 0, .int .i64 0]] [0]), [.t 31], none⟩,
 ⟨some 33, .eff (.append 3 24), [.t 28, .t 32], none⟩,
 ⟨some 34, .pure (.faddr 1), [.t 5], none⟩,
 ⟨none, .eff (.store 1), [.t 34, .t 33], none⟩])
 .skip))
 (.seq (.draw 1 [[⟨some 35, .read (.load (some 2)), [.t 5], none⟩,
 ⟨some 36, .pcall 383, [.c (.bool true), .c (.int .i64 2)], none⟩,
 ⟨some 37, .pcall 383, [.c (.bool false), .c (.int .i64 2)], none⟩,
 ⟨some 38, .newAt 0 (.buildSlice 2 [.agg [.bool false, .snil 3], .agg [.bool false, .snil 3], .agg [.bool false, .snil 3]] [0, 1, 2]), [.t 35, .t 36, .t 37], none⟩,
 ⟨some 39, .pure (.build [.snil 2] [(0, 1)]), [.t 38], none⟩,
 ⟨some 40, .pcall 355, [.t 39], none⟩,
 ⟨none, .eff (.store 1), [.t 4, .t 40], none⟩]])
 .ret)))))) }
/-- datakit/automaton.repeat -/
def ac381:AFn:=
 { nt:=72, res:=[.cell 6 (some 1), .tmp 7], body:=
 (.seq (.ops [⟨some 3, .new (.box 1), [.t 0], none⟩,
 ⟨some 6, .new (.new 1 [.agg [.snil 2]]), [], none⟩,
 ⟨some 7, .pure .move, [.c (.bool false)], none⟩])
 (.seq (.ops [⟨some 14, .pcall 379, [], none⟩,
 ⟨some 8, .new (.new 1 [.agg [.snil 2]]), [], none⟩,
 ⟨none, .eff (.store 1), [.t 8, .t 14], none⟩,
 ⟨some 9, .pure .move, [.c (.bool true)], none⟩])
 (.seq (.seq (.ops [⟨some 15, .pure .move, [.t 1], none⟩,
 ⟨some 16, .pure .move, [.c (.int .i64 0)], none⟩])
 (.block 0
 (.loop [1, 2, 3, 6, 8, 15, 16]
 (.seq (.ops [⟨some 17, .pure (.bin .lss), [.t 16, .t 15], none⟩])
 (.seq (.cond (.t 17)
 .skip
 (.exit 0))
 (.seq (.block 1
 (.seq (.ops [⟨some 19, .read (.load (some 1)), [.t 8], none⟩,
 ⟨some 20, .read (.load (some 1)), [.t 3], none⟩,
 ⟨some 21, .pcall 397, [.t 19, .t 20], none⟩,
 ⟨some 18, .pure .move, [.t 21], none⟩,
 ⟨some 22, .pure (.ext 0), [.t 18], none⟩,
 ⟨some 23, .pure (.ext 1), [.t 18], none⟩,
 ⟨none, .eff (.store 1), [.t 8, .t 22], none⟩,
 ⟨some 9, .pure .move, [.t 23], none⟩])
 (.seq (.ops [⟨some 24, .pure .move, [.t 9], none⟩,
 ⟨some 25, .pure (.un .not), [.t 24], none⟩])
 (.cond (.t 25)
 (.seq (.ops [⟨some 26, .pure (.build [.snil 2] []), [], none⟩,
 ⟨none, .eff (.store 1), [.t 6, .t 26], none⟩,
 ⟨some 7, .pure .move, [.c (.bool false)], none⟩])
 .ret)
 .skip))))
 (.ops [⟨some 27, .pure (.bin .add), [.t 16, .c (.int .i64 1)], none⟩,
 ⟨some 16, .pure .move, [.t 27], none⟩])))))))
 (.seq (.seq (.ops [⟨some 28, .pure .move, [.t 2], none⟩,
 ⟨some 29, .pure (.bin .lss), [.t 28, .c (.int .i64 0)], none⟩])
 (.cond (.t 29)
 (.seq (.ops [⟨some 31, .read (.load (some 1)), [.t 3], none⟩,
 ⟨some 32, .pcall 398, [.t 31], none⟩,
 ⟨some 30, .pure .move, [.t 32], none⟩,
 ⟨some 33, .pure (.ext 0), [.t 30], none⟩,
 ⟨some 34, .pure (.ext 1), [.t 30], none⟩,
 ⟨some 10, .new (.new 1 [.agg [.snil 2]]), [], none⟩,
 ⟨none, .eff (.store 1), [.t 10, .t 33], none⟩,
 ⟨some 11, .pure .move, [.t 34], none⟩])
 (.seq (.seq (.ops [⟨some 35, .pure .move, [.t 11], none⟩,
 ⟨some 36, .pure (.un .not), [.t 35], none⟩])
 (.cond (.t 36)
 (.seq (.ops [⟨some 37, .pure (.build [.snil 2] []), [], none⟩,
 ⟨none, .eff (.store 1), [.t 6, .t 37], none⟩,
 ⟨some 7, .pure .move, [.c (.bool false)], none⟩])
 .ret)
 .skip))
 (.seq (.ops [⟨some 38, .read (.load (some 1)), [.t 8], none⟩,
 ⟨some 39, .read (.load (some 1)), [.t 10], none⟩,
 ⟨some 40, .pcall 397, [.t 38, .t 39], none⟩,
 ⟨some 41, .pure (.ext 0), [.t 40], none⟩,
 ⟨some 42, .pure (.ext 1), [.t 40], none⟩,
 ⟨none, .eff (.store 1), [.t 6, .t 41], none⟩,
 ⟨some 7, .pure .move, [.t 42], none⟩])
 .ret)))
 .skip))
 (.seq (.seq (.ops [⟨some 43, .pure .move, [.t 2], none⟩,
 ⟨some 44, .pure .move, [.t 1], none⟩,
 ⟨some 45, .pure (.bin .eql), [.t 43, .t 44], none⟩])
 (.cond (.t 45)
 (.seq (.ops [⟨some 46, .read (.load (some 1)), [.t 8], none⟩,
 ⟨none, .eff (.store 1), [.t 6, .t 46], none⟩,
 ⟨some 7, .pure .move, [.c (.bool true)], none⟩])
 .ret)
 .skip))
 (.seq (.draw 1 [[⟨some 48, .read (.load (some 1)), [.t 3], none⟩,
 ⟨some 49, .pcall 379, [], none⟩,
 ⟨some 50, .pcall 322, [.t 48, .t 49], none⟩,
 ⟨some 47, .pure .move, [.t 50], none⟩,
 ⟨some 51, .pure (.ext 0), [.t 47], none⟩,
 ⟨some 52, .pure (.ext 1), [.t 47], none⟩,
 ⟨some 12, .newAt 0 (.new 1 [.agg [.snil 2]]), [], none⟩,
 ⟨none, .eff (.store 1), [.t 12, .t 51], none⟩,
 ⟨some 13, .pure .move, [.t 52], none⟩]])
 (.seq (.seq (.ops [⟨some 53, .pure .move, [.t 13], none⟩,
 ⟨some 54, .pure (.bin .neq), [.t 53, .c (.int .i64 0)], none⟩])
 (.cond (.t 54)
 (.seq (.ops [⟨some 55, .pure (.build [.snil 2] []), [], none⟩,
 ⟨none, .eff (.store 1), [.t 6, .t 55], none⟩,
 ⟨some 7, .pure .move, [.c (.bool false)], none⟩])
 .ret)
 .skip))
 (.seq (.seq (.ops [⟨some 56, .pure .move, [.t 2], none⟩,
 ⟨some 57, .pure .move, [.t 1], none⟩,
 ⟨some 58, .pure (.bin .sub), [.t 56, .t 57], none⟩,
 ⟨some 59, .pure .move, [.c (.int .i64 0)], none⟩])
 (.block 2
 (.loop [6, 8, 12, 58, 59]
 (.seq (.ops [⟨some 60, .pure (.bin .lss), [.t 59, .t 58], none⟩])
 (.seq (.cond (.t 60)
 .skip
 (.exit 2))
 (.seq (.block 3
 (.seq (.ops [⟨some 62, .read (.load (some 1)), [.t 8], none⟩,
 ⟨some 63, .read (.load (some 1)), [.t 12], none⟩,
 ⟨some 64, .pcall 397, [.t 62, .t 63], none⟩,
 ⟨some 61, .pure .move, [.t 64], none⟩,
 ⟨some 65, .pure (.ext 0), [.t 61], none⟩,
 ⟨some 66, .pure (.ext 1), [.t 61], none⟩,
 ⟨none, .eff (.store 1), [.t 8, .t 65], none⟩,
 ⟨some 9, .pure .move, [.t 66], none⟩])
 (.seq (.ops [⟨some 67, .pure .move, [.t 9], none⟩,
 ⟨some 68, .pure (.un .not), [.t 67], none⟩])
 (.cond (.t 68)
 (.seq (.ops [⟨some 69, .pure (.build [.snil 2] []), [], none⟩,
 ⟨none, .eff (.store 1), [.t 6, .t 69], none⟩,
 ⟨some 7, .pure .move, [.c (.bool false)], none⟩])
 .ret)
 .skip))))
 (.ops [⟨some 70, .pure (.bin .add), [.t 59, .c (.int .i64 1)], none⟩,
 ⟨some 59, .pure .move, [.t 70], none⟩])))))))
 (.seq (.ops [⟨some 71, .read (.load (some 1)), [.t 8], none⟩,
 ⟨none, .eff (.store 1), [.t 6, .t 71], none⟩,
 ⟨some 7, .pure .move, [.c (.bool true)], none⟩])
 .ret))))))))) }
/-- datakit/automaton.join -/
def ac382:AFn:=
 { nt:=34, res:=[.cell 6 (some 1), .tmp 7], body:=
 (.seq (.ops [⟨some 4, .new (.box 1), [.t 1], none⟩,
 ⟨some 5, .new (.box 1), [.t 2], none⟩,
 ⟨some 6, .new (.new 1 [.agg [.snil 2]]), [], none⟩,
 ⟨some 7, .pure .move, [.c (.bool false)], none⟩])
 (.seq (.seq (.ops [⟨some 10, .pure .move, [.t 0], none⟩,
 ⟨some 11, .pure (.bin .eql), [.t 10, .c (.int .i64 3)], none⟩])
 (.cond (.t 11)
 (.seq (.ops [⟨some 12, .read (.load (some 1)), [.t 4], none⟩,
 ⟨some 13, .read (.load (some 1)), [.t 5], none⟩,
 ⟨some 14, .pcall 397, [.t 12, .t 13], none⟩,
 ⟨some 15, .pure (.ext 0), [.t 14], none⟩,
 ⟨some 16, .pure (.ext 1), [.t 14], none⟩,
 ⟨none, .eff (.store 1), [.t 6, .t 15], none⟩,
 ⟨some 7, .pure .move, [.t 16], none⟩])
 .ret)
 .skip))
 (.seq (.ops [⟨some 18, .read (.load (some 1)), [.t 4], none⟩,
 ⟨some 19, .read (.load (some 1)), [.t 5], none⟩,
 ⟨some 20, .pcall 319, [.t 18, .t 19], none⟩,
 ⟨some 17, .pure .move, [.t 20], none⟩,
 ⟨some 21, .pure (.ext 0), [.t 17], none⟩,
 ⟨some 22, .pure (.ext 1), [.t 17], none⟩,
 ⟨some 8, .new (.new 1 [.agg [.snil 2]]), [], none⟩,
 ⟨none, .eff (.store 1), [.t 8, .t 21], none⟩,
 ⟨some 9, .pure .move, [.t 22], none⟩])
 (.seq (.seq (.ops [⟨some 23, .pure .move, [.t 0], none⟩,
 ⟨some 24, .pure (.bin .eql), [.t 23, .c (.int .i64 4)], none⟩])
 (.cond (.t 24)
 (.ops [⟨some 26, .read (.load (some 1)), [.t 4], none⟩,
 ⟨some 27, .read (.load (some 1)), [.t 5], none⟩,
 ⟨some 28, .pcall 322, [.t 26, .t 27], none⟩,
 ⟨some 25, .pure .move, [.t 28], none⟩,
 ⟨some 29, .pure (.ext 0), [.t 25], none⟩,
 ⟨some 30, .pure (.ext 1), [.t 25], none⟩,
 ⟨none, .eff (.store 1), [.t 8, .t 29], none⟩,
 ⟨some 9, .pure .move, [.t 30], none⟩])
 .skip))
 (.seq (.ops [⟨some 31, .read (.load (some 1)), [.t 8], none⟩,
 ⟨some 32, .pure .move, [.t 9], none⟩,
 ⟨some 33, .pure (.bin .eql), [.t 32, .c (.int .i64 0)], none⟩,
 ⟨none, .eff (.store 1), [.t 6, .t 31], none⟩,
 ⟨some 7, .pure .move, [.t 33], none⟩])
 .ret))))) }
/-- datakit/automaton.all -/
def ac383:AFn:=
 { nt:=10, res:=[.cell 4 (some 2)], body:=
 (.seq (.ops [⟨some 4, .new (.new 2 [.agg [.bool false, .snil 3]]), [], none⟩])
 (.seq (.ops [⟨some 5, .pure .move, [.t 0], none⟩,
 ⟨some 6, .pure .move, [.t 1], none⟩,
 ⟨some 7, .pure (.build [.int .i64 0, .int .i64 0, .int .i64 0] [(0, 1), (1, 1), (2, 1)]), [.c (.int .i64 0), .c (.int .i64 255), .t 6], none⟩,
 ⟨some 8, .new (.buildSlice 3 [.agg [.int .i64 0, .int .i64 0, .int .i64 0]] [0]), [.t 7], none⟩,
 ⟨some 9, .pure (.build [.bool false, .snil 3] [(0, 1), (1, 1)]), [.t 5, .t 8], none⟩,
 ⟨none, .eff (.store 2), [.t 4, .t 9], none⟩])
 .ret)) }
/-- datakit/datakitref15.node -/
def ac384:AFn:=
 { nt:=156, res:=[.tmp 2], body:=
 (.seq (.ops [⟨some 1, .new (.box 6), [.t 0], none⟩,
 ⟨some 2, .pure .move, [.c (.bool false)], none⟩])
 (.seq (.ops [⟨some 4, .pure (.faddr 5), [.t 1], none⟩,
 ⟨some 5, .read (.load none), [.t 4], none⟩,
 ⟨some 6, .pure .lenL, [.t 5], none⟩,
 ⟨some 3, .pure .move, [.t 6], none⟩])
 (.seq (.seq (.ops [⟨some 7, .pure (.faddr 0), [.t 1], none⟩,
 ⟨some 8, .read (.load none), [.t 7], none⟩])
 (.block 0
 (.seq (.seq (.ops [⟨some 10, .pure (.bin .eql), [.t 8, .c (.int .i64 0)], none⟩,
 ⟨some 9, .pure .move, [.t 10], none⟩])
 (.cond (.t 9)
 .skip
 (.ops [⟨some 11, .pure (.bin .eql), [.t 8, .c (.int .i64 1)], none⟩,
 ⟨some 9, .pure .move, [.t 11], none⟩])))
 (.cond (.t 9)
 (.seq (.ops [⟨some 12, .pure .move, [.t 3], none⟩,
 ⟨some 13, .pure (.bin .eql), [.t 12, .c (.int .i64 0)], none⟩,
 ⟨some 14, .pure .move, [.t 13], none⟩,
 ⟨some 15, .pure (.faddr 1), [.t 1], some (14, true)⟩,
 ⟨some 16, .read (.load none), [.t 15], some (14, true)⟩,
 ⟨some 17, .pure (.bin .eql), [.t 16, .c (.int .i64 0)], some (14, true)⟩,
 ⟨some 18, .pure .pick, [.t 14, .t 17, .c (.bool false)], none⟩,
 ⟨some 19, .pure .move, [.t 18], none⟩,
 ⟨some 20, .pure (.faddr 2), [.t 1], some (19, true)⟩,
 ⟨some 21, .read (.load none), [.t 20], some (19, true)⟩,
 ⟨some 22, .pure (.bin .eql), [.t 21, .c (.int .i64 0)], some (19, true)⟩,
 ⟨some 23, .pure .pick, [.t 19, .t 22, .c (.bool false)], none⟩,
 ⟨some 24, .pure .move, [.t 23], none⟩,
 ⟨some 25, .pure (.faddr 3), [.t 1], some (24, true)⟩,
 ⟨some 26, .read (.load none), [.t 25], some (24, true)⟩,
 ⟨some 27, .pure (.bin .eql), [.t 26, .c (.int .i64 0)], some (24, true)⟩,
 ⟨some 28, .pure .pick, [.t 24, .t 27, .c (.bool false)], none⟩,
 ⟨some 29, .pure .move, [.t 28], none⟩,
 ⟨some 30, .pure (.faddr 4), [.t 1], some (29, true)⟩,
 ⟨some 31, .read (.load none), [.t 30], some (29, true)⟩,
 ⟨some 32, .pure (.bin .eql), [.t 31, .c (.int .i64 0)], some (29, true)⟩,
 ⟨some 33, .pure .pick, [.t 29, .t 32, .c (.bool false)], none⟩,
 ⟨some 2, .pure .move, [.t 33], none⟩])
 .ret)
 (.seq (.ops [⟨some 35, .pure (.bin .eql), [.t 8, .c (.int .i64 2)], none⟩,
 ⟨some 34, .pure .move, [.t 35], none⟩])
 (.cond (.t 34)
 (.seq (.ops [⟨some 36, .pure .move, [.t 3], none⟩,
 ⟨some 37, .pure (.bin .eql), [.t 36, .c (.int .i64 0)], none⟩,
 ⟨some 38, .pure .move, [.t 37], none⟩,
 ⟨some 39, .pure (.faddr 1), [.t 1], some (38, true)⟩,
 ⟨some 40, .read (.load none), [.t 39], some (38, true)⟩,
 ⟨some 41, .pure (.bin .geq), [.t 40, .c (.int .i64 0)], some (38, true)⟩,
 ⟨some 42, .pure .pick, [.t 38, .t 41, .c (.bool false)], none⟩,
 ⟨some 43, .pure .move, [.t 42], none⟩,
 ⟨some 44, .pure (.faddr 1), [.t 1], some (43, true)⟩,
 ⟨some 45, .read (.load none), [.t 44], some (43, true)⟩,
 ⟨some 46, .pure (.faddr 2), [.t 1], some (43, true)⟩,
 ⟨some 47, .read (.load none), [.t 46], some (43, true)⟩,
 ⟨some 48, .pure (.bin .leq), [.t 45, .t 47], some (43, true)⟩,
 ⟨some 49, .pure .pick, [.t 43, .t 48, .c (.bool false)], none⟩,
 ⟨some 50, .pure .move, [.t 49], none⟩,
 ⟨some 51, .pure (.faddr 2), [.t 1], some (50, true)⟩,
 ⟨some 52, .read (.load none), [.t 51], some (50, true)⟩,
 ⟨some 53, .pure (.bin .leq), [.t 52, .c (.int .i64 255)], some (50, true)⟩,
 ⟨some 54, .pure .pick, [.t 50, .t 53, .c (.bool false)], none⟩,
 ⟨some 55, .pure .move, [.t 54], none⟩,
 ⟨some 56, .pure (.faddr 3), [.t 1], some (55, true)⟩,
 ⟨some 57, .read (.load none), [.t 56], some (55, true)⟩,
 ⟨some 58, .pure (.bin .eql), [.t 57, .c (.int .i64 0)], some (55, true)⟩,
 ⟨some 59, .pure .pick, [.t 55, .t 58, .c (.bool false)], none⟩,
 ⟨some 60, .pure .move, [.t 59], none⟩,
 ⟨some 61, .pure (.faddr 4), [.t 1], some (60, true)⟩,
 ⟨some 62, .read (.load none), [.t 61], some (60, true)⟩,
 ⟨some 63, .pure (.bin .eql), [.t 62, .c (.int .i64 0)], some (60, true)⟩,
 ⟨some 64, .pure .pick, [.t 60, .t 63, .c (.bool false)], none⟩,
 ⟨some 2, .pure .move, [.t 64], none⟩])
 .ret)
 (.seq (.seq (.ops [⟨some 66, .pure (.bin .eql), [.t 8, .c (.int .i64 3)], none⟩,
 ⟨some 65, .pure .move, [.t 66], none⟩])
 (.cond (.t 65)
 .skip
 (.seq (.ops [⟨some 67, .pure (.bin .eql), [.t 8, .c (.int .i64 4)], none⟩,
 ⟨some 65, .pure .move, [.t 67], none⟩])
 (.cond (.t 65)
 .skip
 (.ops [⟨some 68, .pure (.bin .eql), [.t 8, .c (.int .i64 6)], none⟩,
 ⟨some 65, .pure .move, [.t 68], none⟩])))))
 (.cond (.t 65)
 (.seq (.ops [⟨some 69, .pure .move, [.t 3], none⟩,
 ⟨some 70, .pure (.bin .geq), [.t 69, .c (.int .i64 2)], none⟩,
 ⟨some 71, .pure .move, [.t 70], none⟩,
 ⟨some 72, .pure (.faddr 1), [.t 1], some (71, true)⟩,
 ⟨some 73, .read (.load none), [.t 72], some (71, true)⟩,
 ⟨some 74, .pure (.bin .eql), [.t 73, .c (.int .i64 0)], some (71, true)⟩,
 ⟨some 75, .pure .pick, [.t 71, .t 74, .c (.bool false)], none⟩,
 ⟨some 76, .pure .move, [.t 75], none⟩,
 ⟨some 77, .pure (.faddr 2), [.t 1], some (76, true)⟩,
 ⟨some 78, .read (.load none), [.t 77], some (76, true)⟩,
 ⟨some 79, .pure (.bin .eql), [.t 78, .c (.int .i64 0)], some (76, true)⟩,
 ⟨some 80, .pure .pick, [.t 76, .t 79, .c (.bool false)], none⟩,
 ⟨some 81, .pure .move, [.t 80], none⟩,
 ⟨some 82, .pure (.faddr 3), [.t 1], some (81, true)⟩,
 ⟨some 83, .read (.load none), [.t 82], some (81, true)⟩,
 ⟨some 84, .pure (.bin .eql), [.t 83, .c (.int .i64 0)], some (81, true)⟩,
 ⟨some 85, .pure .pick, [.t 81, .t 84, .c (.bool false)], none⟩,
 ⟨some 86, .pure .move, [.t 85], none⟩,
 ⟨some 87, .pure (.faddr 4), [.t 1], some (86, true)⟩,
 ⟨some 88, .read (.load none), [.t 87], some (86, true)⟩,
 ⟨some 89, .pure (.bin .eql), [.t 88, .c (.int .i64 0)], some (86, true)⟩,
 ⟨some 90, .pure .pick, [.t 86, .t 89, .c (.bool false)], none⟩,
 ⟨some 2, .pure .move, [.t 90], none⟩])
 .ret)
 (.seq (.ops [⟨some 92, .pure (.bin .eql), [.t 8, .c (.int .i64 5)], none⟩,
 ⟨some 91, .pure .move, [.t 92], none⟩])
 (.cond (.t 91)
 (.seq (.ops [⟨some 93, .pure .move, [.t 3], none⟩,
 ⟨some 94, .pure (.bin .eql), [.t 93, .c (.int .i64 1)], none⟩,
 ⟨some 95, .pure .move, [.t 94], none⟩,
 ⟨some 96, .pure (.faddr 1), [.t 1], some (95, true)⟩,
 ⟨some 97, .read (.load none), [.t 96], some (95, true)⟩,
 ⟨some 98, .pure (.bin .eql), [.t 97, .c (.int .i64 0)], some (95, true)⟩,
 ⟨some 99, .pure .pick, [.t 95, .t 98, .c (.bool false)], none⟩,
 ⟨some 100, .pure .move, [.t 99], none⟩,
 ⟨some 101, .pure (.faddr 2), [.t 1], some (100, true)⟩,
 ⟨some 102, .read (.load none), [.t 101], some (100, true)⟩,
 ⟨some 103, .pure (.bin .eql), [.t 102, .c (.int .i64 0)], some (100, true)⟩,
 ⟨some 104, .pure .pick, [.t 100, .t 103, .c (.bool false)], none⟩,
 ⟨some 105, .pure .move, [.t 104], none⟩,
 ⟨some 106, .pure (.faddr 3), [.t 1], some (105, true)⟩,
 ⟨some 107, .read (.load none), [.t 106], some (105, true)⟩,
 ⟨some 108, .pure (.bin .geq), [.t 107, .c (.int .i64 0)], some (105, true)⟩,
 ⟨some 109, .pure .pick, [.t 105, .t 108, .c (.bool false)], none⟩,
 ⟨some 110, .pure .move, [.t 109], none⟩,
 ⟨some 111, .pure (.faddr 3), [.t 1], some (110, true)⟩,
 ⟨some 112, .read (.load none), [.t 111], some (110, true)⟩,
 ⟨some 113, .pure (.bin .leq), [.t 112, .c (.int .i64 64)], some (110, true)⟩,
 ⟨some 114, .pure .pick, [.t 110, .t 113, .c (.bool false)], none⟩,
 ⟨some 115, .pure .move, [.t 114], none⟩,
 ⟨some 116, .pure (.faddr 4), [.t 1], some (115, true)⟩,
 ⟨some 117, .read (.load none), [.t 116], some (115, true)⟩,
 ⟨some 118, .pure (.bin .eql), [.t 117, .c (.int .i64 (-1))], some (115, true)⟩,
 ⟨some 119, .pure .move, [.t 118], some (115, true)⟩,
 ⟨some 120, .pure (.faddr 4), [.t 1], some (119, false)⟩,
 ⟨some 121, .read (.load none), [.t 120], some (119, false)⟩,
 ⟨some 122, .pure (.faddr 3), [.t 1], some (119, false)⟩,
 ⟨some 123, .read (.load none), [.t 122], some (119, false)⟩,
 ⟨some 124, .pure (.bin .geq), [.t 121, .t 123], some (119, false)⟩,
 ⟨some 125, .pure .move, [.t 124], some (119, false)⟩,
 ⟨some 126, .pure (.faddr 4), [.t 1], some (125, true)⟩,
 ⟨some 127, .read (.load none), [.t 126], some (125, true)⟩,
 ⟨some 128, .pure (.bin .leq), [.t 127, .c (.int .i64 64)], some (125, true)⟩,
 ⟨some 129, .pure .pick, [.t 125, .t 128, .c (.bool false)], some (119, false)⟩,
 ⟨some 130, .pure .pick, [.t 119, .c (.bool true), .t 129], some (115, true)⟩,
 ⟨some 131, .pure .pick, [.t 115, .t 130, .c (.bool false)], none⟩,
 ⟨some 2, .pure .move, [.t 131], none⟩])
 .ret)
 (.seq (.ops [⟨some 133, .pure (.bin .eql), [.t 8, .c (.int .i64 7)], none⟩,
 ⟨some 132, .pure .move, [.t 133], none⟩])
 (.cond (.t 132)
 (.seq (.ops [⟨some 134, .pure .move, [.t 3], none⟩,
 ⟨some 135, .pure (.bin .eql), [.t 134, .c (.int .i64 1)], none⟩,
 ⟨some 136, .pure .move, [.t 135], none⟩,
 ⟨some 137, .pure (.faddr 1), [.t 1], some (136, true)⟩,
 ⟨some 138, .read (.load none), [.t 137], some (136, true)⟩,
 ⟨some 139, .pure (.bin .eql), [.t 138, .c (.int .i64 0)], some (136, true)⟩,
 ⟨some 140, .pure .pick, [.t 136, .t 139, .c (.bool false)], none⟩,
 ⟨some 141, .pure .move, [.t 140], none⟩,
 ⟨some 142, .pure (.faddr 2), [.t 1], some (141, true)⟩,
 ⟨some 143, .read (.load none), [.t 142], some (141, true)⟩,
 ⟨some 144, .pure (.bin .eql), [.t 143, .c (.int .i64 0)], some (141, true)⟩,
 ⟨some 145, .pure .pick, [.t 141, .t 144, .c (.bool false)], none⟩,
 ⟨some 146, .pure .move, [.t 145], none⟩,
 ⟨some 147, .pure (.faddr 3), [.t 1], some (146, true)⟩,
 ⟨some 148, .read (.load none), [.t 147], some (146, true)⟩,
 ⟨some 149, .pure (.bin .eql), [.t 148, .c (.int .i64 0)], some (146, true)⟩,
 ⟨some 150, .pure .pick, [.t 146, .t 149, .c (.bool false)], none⟩,
 ⟨some 151, .pure .move, [.t 150], none⟩,
 ⟨some 152, .pure (.faddr 4), [.t 1], some (151, true)⟩,
 ⟨some 153, .read (.load none), [.t 152], some (151, true)⟩,
 ⟨some 154, .pure (.bin .eql), [.t 153, .c (.int .i64 0)], some (151, true)⟩,
 ⟨some 155, .pure .pick, [.t 151, .t 154, .c (.bool false)], none⟩,
 ⟨some 2, .pure .move, [.t 155], none⟩])
 .ret)
 .skip))))))))))))
 (.seq (.ops [⟨some 2, .pure .move, [.c (.bool false)], none⟩])
 .ret)))) }
/-- datakit/datakitref15.alt -/
def ac388:AFn:=
 { nt:=47, res:=[.cell 6 (some 6), .tmp 7, .tmp 8], body:=
 (.seq (.ops [⟨some 6, .new (.new 6 [.agg [.int .i64 0, .int .i64 0, .int .i64 0, .int .i64 0, .int .i64 0, .snil 6]]), [], none⟩,
 ⟨some 7, .pure .move, [.c (.int .i64 0)], none⟩,
 ⟨some 8, .pure .move, [.c (.bool false)], none⟩])
 (.seq (.ops [⟨some 14, .pure .move, [.t 0], none⟩,
 ⟨some 15, .pure .move, [.t 1], none⟩,
 ⟨some 16, .pure .move, [.t 2], none⟩,
 ⟨some 17, .pcall 399, [.t 14, .t 15, .t 16], none⟩,
 ⟨some 13, .pure .move, [.t 17], none⟩,
 ⟨some 18, .pure (.ext 0), [.t 13], none⟩,
 ⟨some 19, .pure (.ext 1), [.t 13], none⟩,
 ⟨some 20, .pure (.ext 2), [.t 13], none⟩,
 ⟨some 9, .new (.new 6 [.agg [.int .i64 0, .int .i64 0, .int .i64 0, .int .i64 0, .int .i64 0, .snil 6]]), [], none⟩,
 ⟨none, .eff (.store 6), [.t 9, .t 18], none⟩,
 ⟨some 10, .pure .move, [.t 19], none⟩,
 ⟨some 11, .pure .move, [.t 20], none⟩])
 (.seq (.ops [⟨some 21, .read (.load (some 6)), [.t 9], none⟩,
 ⟨some 22, .new (.buildSlice 6 [.agg [.int .i64 0, .int .i64 0, .int .i64 0, .int .i64 0, .int .i64 0, .snil 6]] [0]), [.t 21], none⟩,
 ⟨some 12, .pure .move, [.t 22], none⟩])
 (.seq (.block 0
 (.loop [0, 2, 6, 9, 10, 11, 12]
 (.seq (.seq (.ops [⟨some 23, .pure .move, [.t 11], none⟩,
 ⟨some 24, .pure .move, [.t 23], none⟩,
 ⟨some 25, .pure .move, [.t 0], some (24, true)⟩,
 ⟨some 26, .pure .move, [.t 10], some (24, true)⟩,
 ⟨some 27, .pcall 400, [.t 25, .t 26], some (24, true)⟩,
 ⟨some 28, .pure (.bin .eql), [.t 27, .c (.int .i64 124)], some (24, true)⟩,
 ⟨some 29, .pure .pick, [.t 24, .t 28, .c (.bool false)], none⟩])
 (.cond (.t 29)
 .skip
 (.exit 0)))
 (.block 1
 (.seq (.ops [⟨some 31, .pure .move, [.t 0], none⟩,
 ⟨some 32, .pure .move, [.t 10], none⟩,
 ⟨some 33, .pure (.bin .add), [.t 32, .c (.int .i64 1)], none⟩,
 ⟨some 34, .pure .move, [.t 2], none⟩,
 ⟨some 35, .pcall 399, [.t 31, .t 33, .t 34], none⟩,
 ⟨some 30, .pure .move, [.t 35], none⟩,
 ⟨some 36, .pure (.ext 0), [.t 30], none⟩,
 ⟨some 37, .pure (.ext 1), [.t 30], none⟩,
 ⟨some 38, .pure (.ext 2), [.t 30], none⟩,
 ⟨none, .eff (.store 6), [.t 9, .t 36], none⟩,
 ⟨some 10, .pure .move, [.t 37], none⟩,
 ⟨some 11, .pure .move, [.t 38], none⟩])
 (.ops [⟨some 39, .pure .move, [.t 12], none⟩,
 ⟨some 40, .read (.load (some 6)), [.t 9], none⟩,
 ⟨some 41, .new (.buildSlice 6 [.agg [.int .i64 0, .int .i64 0, .int .i64 0, .int .i64 0, .int .i64 0, .snil 6]] [0]), [.t 40], none⟩,
 ⟨some 42, .eff (.append 6 64), [.t 39, .t 41], none⟩,
 ⟨some 12, .pure .move, [.t 42], none⟩]))))))
 (.seq (.ops [⟨some 43, .pure .move, [.t 12], none⟩,
 ⟨some 44, .pcall 401, [.c (.int .i64 4), .t 43], none⟩,
 ⟨some 45, .pure .move, [.t 10], none⟩,
 ⟨some 46, .pure .move, [.t 11], none⟩,
 ⟨none, .eff (.store 6), [.t 6, .t 44], none⟩,
 ⟨some 7, .pure .move, [.t 45], none⟩,
 ⟨some 8, .pure .move, [.t 46], none⟩])
 .ret))))) }
/-- datakit/datakitref15.Text -/
def ac389:AFn:=
 { nt:=8, res:=[.tmp 2], body:=
 (.seq (.ops [⟨some 1, .new (.box 6), [.t 0], none⟩,
 ⟨some 2, .pure .move, [.c (.str [])], none⟩])
 (.seq (.seq (.ops [⟨some 3, .read (.load (some 6)), [.t 1], none⟩,
 ⟨some 4, .pcall 340, [.t 3], none⟩,
 ⟨some 5, .pure (.un .not), [.t 4], none⟩])
 (.cond (.t 5)
 (.seq (.ops [⟨some 2, .pure .move, [.c (.str [])], none⟩])
 .ret)
 .skip))
 (.seq (.ops [⟨some 6, .read (.load (some 6)), [.t 1], none⟩,
 ⟨some 7, .pcall 402, [.t 6], none⟩,
 ⟨some 2, .pure .move, [.t 7], none⟩])
 .ret))) }
/-- datakit/automaton.addArc -/
def ac390:AFn:=
 { nt:=38, res:=[.tmp 8], body:=
 (.seq (.ops [⟨some 8, .pure .move, [.c (.snil 3)], none⟩])
 (.seq (.seq (.ops [⟨some 10, .pure .move, [.t 0], none⟩,
 ⟨some 11, .pure .lenL, [.t 10], none⟩,
 ⟨some 9, .pure .move, [.t 11], none⟩])
 (.seq (.ops [⟨some 12, .pure .move, [.t 9], none⟩,
 ⟨some 13, .pure (.bin .gtr), [.t 12, .c (.int .i64 0)], none⟩,
 ⟨some 14, .pure .move, [.t 13], none⟩,
 ⟨some 15, .pure .move, [.t 0], some (14, true)⟩,
 ⟨some 16, .pure .move, [.t 9], some (14, true)⟩,
 ⟨some 17, .pure (.bin .sub), [.t 16, .c (.int .i64 1)], some (14, true)⟩,
 ⟨some 18, .pure (.iaddrS 3), [.t 15, .t 17], some (14, true)⟩,
 ⟨some 19, .pure (.faddr 2), [.t 18], some (14, true)⟩,
 ⟨some 20, .read (.load none), [.t 19], some (14, true)⟩,
 ⟨some 21, .pure .move, [.t 3], some (14, true)⟩,
 ⟨some 22, .pure (.bin .eql), [.t 20, .t 21], some (14, true)⟩,
 ⟨some 23, .pure .pick, [.t 14, .t 22, .c (.bool false)], none⟩])
 (.cond (.t 23)
 (.seq (.ops [⟨some 24, .pure .move, [.t 0], none⟩,
 ⟨some 25, .pure .move, [.t 9], none⟩,
 ⟨some 26, .pure (.bin .sub), [.t 25, .c (.int .i64 1)], none⟩,
 ⟨some 27, .pure .move, [.t 2], none⟩,
 ⟨some 28, .pure (.iaddrS 3), [.t 24, .t 26], none⟩,
 ⟨some 29, .pure (.faddr 1), [.t 28], none⟩,
 ⟨none, .eff (.store 1), [.t 29, .t 27], none⟩])
 (.seq (.ops [⟨some 30, .pure .move, [.t 0], none⟩,
 ⟨some 8, .pure .move, [.t 30], none⟩])
 .ret))
 .skip)))
 (.seq (.ops [⟨some 31, .pure .move, [.t 0], none⟩,
 ⟨some 32, .pure .move, [.t 1], none⟩,
 ⟨some 33, .pure .move, [.t 2], none⟩,
 ⟨some 34, .pure .move, [.t 3], none⟩,
 ⟨some 35, .pure (.build [.int .i64 0, .int .i64 0, .int .i64 0] [(0, 1), (1, 1), (2, 1)]), [.t 32, .t 33, .t 34], none⟩,
 ⟨some 36, .new (.buildSlice 3 [.agg [.int .i64 0, .int .i64 0, .int .i64 0]] [0]), [.t 35], none⟩,
 ⟨some 37, .eff (.append 3 24), [.t 31, .t 36], none⟩,
 ⟨some 8, .pure .move, [.t 37], none⟩])
 .ret))) }
/-- datakit/automaton.hiOf -/
def ac391:AFn:=
 { nt:=16, res:=[.tmp 4], body:=
 (.seq (.ops [⟨some 4, .pure .move, [.c (.int .i64 0)], none⟩])
 (.seq (.seq (.ops [⟨some 5, .pure .move, [.t 1], none⟩,
 ⟨some 6, .pure (.bin .add), [.t 5, .c (.int .i64 1)], none⟩,
 ⟨some 7, .pure .move, [.t 0], none⟩,
 ⟨some 8, .pure .lenL, [.t 7], none⟩,
 ⟨some 9, .pure (.bin .lss), [.t 6, .t 8], none⟩])
 (.cond (.t 9)
 (.seq (.ops [⟨some 10, .pure .move, [.t 0], none⟩,
 ⟨some 11, .pure .move, [.t 1], none⟩,
 ⟨some 12, .pure (.bin .add), [.t 11, .c (.int .i64 1)], none⟩,
 ⟨some 13, .pure (.iaddrS 1), [.t 10, .t 12], none⟩,
 ⟨some 14, .read (.load none), [.t 13], none⟩,
 ⟨some 15, .pure (.bin .sub), [.t 14, .c (.int .i64 1)], none⟩,
 ⟨some 4, .pure .move, [.t 15], none⟩])
 .ret)
 .skip))
 (.seq (.ops [⟨some 4, .pure .move, [.c (.int .i64 255)], none⟩])
 .ret))) }
/-- internal/strconv.Itoa -/
def ac395:AFn:=
 { nt:=5, res:=[.tmp 2], body:=
 (.seq (.ops [⟨some 2, .pure .move, [.c (.str [])], none⟩])
 (.seq (.ops [⟨some 3, .pure .move, [.t 0], none⟩,
 ⟨some 4, .pcall 404, [.t 3, .c (.int .i64 10)], none⟩,
 ⟨some 2, .pure .move, [.t 4], none⟩])
 .ret)) }
/-- datakit/regex.form -/
def ac396:AFn:=
 { nt:=104, res:=[.tmp 2], body:=
 (.seq (.ops [⟨some 1, .new (.box 6), [.t 0], none⟩,
 ⟨some 2, .pure .move, [.c (.bool false)], none⟩])
 (.seq (.ops [⟨some 4, .pure (.faddr 5), [.t 1], none⟩,
 ⟨some 5, .read (.load none), [.t 4], none⟩,
 ⟨some 6, .pure .lenL, [.t 5], none⟩,
 ⟨some 3, .pure .move, [.t 6], none⟩])
 (.seq (.seq (.ops [⟨some 7, .pure (.faddr 0), [.t 1], none⟩,
 ⟨some 8, .read (.load none), [.t 7], none⟩,
 ⟨some 9, .pure (.bin .neq), [.t 8, .c (.int .i64 2)], none⟩,
 ⟨some 10, .pure .move, [.t 9], none⟩,
 ⟨some 11, .pure (.faddr 1), [.t 1], some (10, true)⟩,
 ⟨some 12, .read (.load none), [.t 11], some (10, true)⟩,
 ⟨some 13, .pure (.bin .neq), [.t 12, .c (.int .i64 0)], some (10, true)⟩,
 ⟨some 14, .pure .move, [.t 13], some (10, true)⟩,
 ⟨some 15, .pure (.faddr 2), [.t 1], some (14, false)⟩,
 ⟨some 16, .read (.load none), [.t 15], some (14, false)⟩,
 ⟨some 17, .pure (.bin .neq), [.t 16, .c (.int .i64 0)], some (14, false)⟩,
 ⟨some 18, .pure .pick, [.t 14, .c (.bool true), .t 17], some (10, true)⟩,
 ⟨some 19, .pure .pick, [.t 10, .t 18, .c (.bool false)], none⟩,
 ⟨some 20, .pure .move, [.t 19], none⟩,
 ⟨some 21, .pure (.faddr 0), [.t 1], some (20, false)⟩,
 ⟨some 22, .read (.load none), [.t 21], some (20, false)⟩,
 ⟨some 23, .pure (.bin .neq), [.t 22, .c (.int .i64 5)], some (20, false)⟩,
 ⟨some 24, .pure .move, [.t 23], some (20, false)⟩,
 ⟨some 25, .pure (.faddr 3), [.t 1], some (24, true)⟩,
 ⟨some 26, .read (.load none), [.t 25], some (24, true)⟩,
 ⟨some 27, .pure (.bin .neq), [.t 26, .c (.int .i64 0)], some (24, true)⟩,
 ⟨some 28, .pure .move, [.t 27], some (24, true)⟩,
 ⟨some 29, .pure (.faddr 4), [.t 1], some (28, false)⟩,
 ⟨some 30, .read (.load none), [.t 29], some (28, false)⟩,
 ⟨some 31, .pure (.bin .neq), [.t 30, .c (.int .i64 0)], some (28, false)⟩,
 ⟨some 32, .pure .pick, [.t 28, .c (.bool true), .t 31], some (24, true)⟩,
 ⟨some 33, .pure .pick, [.t 24, .t 32, .c (.bool false)], some (20, false)⟩,
 ⟨some 34, .pure .pick, [.t 20, .c (.bool true), .t 33], none⟩])
 (.cond (.t 34)
 (.seq (.ops [⟨some 2, .pure .move, [.c (.bool false)], none⟩])
 .ret)
 .skip))
 (.seq (.seq (.ops [⟨some 35, .pure (.faddr 0), [.t 1], none⟩,
 ⟨some 36, .read (.load none), [.t 35], none⟩])
 (.block 0
 (.seq (.seq (.ops [⟨some 38, .pure (.bin .eql), [.t 36, .c (.int .i64 0)], none⟩,
 ⟨some 37, .pure .move, [.t 38], none⟩])
 (.cond (.t 37)
 .skip
 (.ops [⟨some 39, .pure (.bin .eql), [.t 36, .c (.int .i64 1)], none⟩,
 ⟨some 37, .pure .move, [.t 39], none⟩])))
 (.cond (.t 37)
 (.seq (.ops [⟨some 40, .pure .move, [.t 3], none⟩,
 ⟨some 41, .pure (.bin .eql), [.t 40, .c (.int .i64 0)], none⟩,
 ⟨some 2, .pure .move, [.t 41], none⟩])
 .ret)
 (.seq (.ops [⟨some 43, .pure (.bin .eql), [.t 36, .c (.int .i64 2)], none⟩,
 ⟨some 42, .pure .move, [.t 43], none⟩])
 (.cond (.t 42)
 (.seq (.ops [⟨some 44, .pure .move, [.t 3], none⟩,
 ⟨some 45, .pure (.bin .eql), [.t 44, .c (.int .i64 0)], none⟩,
 ⟨some 46, .pure .move, [.t 45], none⟩,
 ⟨some 47, .pure (.faddr 1), [.t 1], some (46, true)⟩,
 ⟨some 48, .read (.load none), [.t 47], some (46, true)⟩,
 ⟨some 49, .pure (.bin .geq), [.t 48, .c (.int .i64 0)], some (46, true)⟩,
 ⟨some 50, .pure .pick, [.t 46, .t 49, .c (.bool false)], none⟩,
 ⟨some 51, .pure .move, [.t 50], none⟩,
 ⟨some 52, .pure (.faddr 1), [.t 1], some (51, true)⟩,
 ⟨some 53, .read (.load none), [.t 52], some (51, true)⟩,
 ⟨some 54, .pure (.faddr 2), [.t 1], some (51, true)⟩,
 ⟨some 55, .read (.load none), [.t 54], some (51, true)⟩,
 ⟨some 56, .pure (.bin .leq), [.t 53, .t 55], some (51, true)⟩,
 ⟨some 57, .pure .pick, [.t 51, .t 56, .c (.bool false)], none⟩,
 ⟨some 58, .pure .move, [.t 57], none⟩,
 ⟨some 59, .pure (.faddr 2), [.t 1], some (58, true)⟩,
 ⟨some 60, .read (.load none), [.t 59], some (58, true)⟩,
 ⟨some 61, .pure (.bin .leq), [.t 60, .c (.int .i64 255)], some (58, true)⟩,
 ⟨some 62, .pure .pick, [.t 58, .t 61, .c (.bool false)], none⟩,
 ⟨some 2, .pure .move, [.t 62], none⟩])
 .ret)
 (.seq (.seq (.ops [⟨some 64, .pure (.bin .eql), [.t 36, .c (.int .i64 3)], none⟩,
 ⟨some 63, .pure .move, [.t 64], none⟩])
 (.cond (.t 63)
 .skip
 (.seq (.ops [⟨some 65, .pure (.bin .eql), [.t 36, .c (.int .i64 4)], none⟩,
 ⟨some 63, .pure .move, [.t 65], none⟩])
 (.cond (.t 63)
 .skip
 (.ops [⟨some 66, .pure (.bin .eql), [.t 36, .c (.int .i64 6)], none⟩,
 ⟨some 63, .pure .move, [.t 66], none⟩])))))
 (.cond (.t 63)
 (.seq (.ops [⟨some 67, .pure .move, [.t 3], none⟩,
 ⟨some 68, .pure (.bin .geq), [.t 67, .c (.int .i64 2)], none⟩,
 ⟨some 2, .pure .move, [.t 68], none⟩])
 .ret)
 (.seq (.ops [⟨some 70, .pure (.bin .eql), [.t 36, .c (.int .i64 7)], none⟩,
 ⟨some 69, .pure .move, [.t 70], none⟩])
 (.cond (.t 69)
 (.seq (.ops [⟨some 71, .pure .move, [.t 3], none⟩,
 ⟨some 72, .pure (.bin .eql), [.t 71, .c (.int .i64 1)], none⟩,
 ⟨some 2, .pure .move, [.t 72], none⟩])
 .ret)
 (.seq (.ops [⟨some 74, .pure (.bin .eql), [.t 36, .c (.int .i64 5)], none⟩,
 ⟨some 73, .pure .move, [.t 74], none⟩])
 (.cond (.t 73)
 (.seq (.ops [⟨some 75, .pure .move, [.t 3], none⟩,
 ⟨some 76, .pure (.bin .eql), [.t 75, .c (.int .i64 1)], none⟩,
 ⟨some 77, .pure .move, [.t 76], none⟩,
 ⟨some 78, .pure (.faddr 3), [.t 1], some (77, true)⟩,
 ⟨some 79, .read (.load none), [.t 78], some (77, true)⟩,
 ⟨some 80, .pure (.bin .geq), [.t 79, .c (.int .i64 0)], some (77, true)⟩,
 ⟨some 81, .pure .pick, [.t 77, .t 80, .c (.bool false)], none⟩,
 ⟨some 82, .pure .move, [.t 81], none⟩,
 ⟨some 83, .pure (.faddr 3), [.t 1], some (82, true)⟩,
 ⟨some 84, .read (.load none), [.t 83], some (82, true)⟩,
 ⟨some 85, .pure (.bin .leq), [.t 84, .c (.int .i64 64)], some (82, true)⟩,
 ⟨some 86, .pure .pick, [.t 82, .t 85, .c (.bool false)], none⟩,
 ⟨some 87, .pure .move, [.t 86], none⟩,
 ⟨some 88, .pure (.faddr 4), [.t 1], some (87, true)⟩,
 ⟨some 89, .read (.load none), [.t 88], some (87, true)⟩,
 ⟨some 90, .pure (.bin .eql), [.t 89, .c (.int .i64 (-1))], some (87, true)⟩,
 ⟨some 91, .pure .move, [.t 90], some (87, true)⟩,
 ⟨some 92, .pure (.faddr 4), [.t 1], some (91, false)⟩,
 ⟨some 93, .read (.load none), [.t 92], some (91, false)⟩,
 ⟨some 94, .pure (.faddr 3), [.t 1], some (91, false)⟩,
 ⟨some 95, .read (.load none), [.t 94], some (91, false)⟩,
 ⟨some 96, .pure (.bin .geq), [.t 93, .t 95], some (91, false)⟩,
 ⟨some 97, .pure .move, [.t 96], some (91, false)⟩,
 ⟨some 98, .pure (.faddr 4), [.t 1], some (97, true)⟩,
 ⟨some 99, .read (.load none), [.t 98], some (97, true)⟩,
 ⟨some 100, .pure (.bin .leq), [.t 99, .c (.int .i64 64)], some (97, true)⟩,
 ⟨some 101, .pure .pick, [.t 97, .t 100, .c (.bool false)], some (91, false)⟩,
 ⟨some 102, .pure .pick, [.t 91, .c (.bool true), .t 101], some (87, true)⟩,
 ⟨some 103, .pure .pick, [.t 87, .t 102, .c (.bool false)], none⟩,
 ⟨some 2, .pure .move, [.t 103], none⟩])
 .ret)
 .skip))))))))))))
 (.seq (.ops [⟨some 2, .pure .move, [.c (.bool false)], none⟩])
 .ret))))) }
/-- datakit/automaton.followed -/
def ac397:AFn:=
 { nt:=21, res:=[.cell 4 (some 1), .tmp 5], body:=
 (.seq (.ops [⟨some 2, .new (.box 1), [.t 0], none⟩,
 ⟨some 3, .new (.box 1), [.t 1], none⟩,
 ⟨some 4, .new (.new 1 [.agg [.snil 2]]), [], none⟩,
 ⟨some 5, .pure .move, [.c (.bool false)], none⟩])
 (.seq (.ops [⟨some 8, .pure (.mkfn 405), [.t 2], none⟩,
 ⟨some 6, .new (.new 1 [.nilf]), [], none⟩,
 ⟨none, .eff (.store 1), [.t 6, .t 8], none⟩])
 (.seq (.ops [⟨some 9, .pure (.mkfn 407), [.t 6, .t 2, .t 3], none⟩,
 ⟨some 7, .pure .move, [.t 9], none⟩])
 (.seq (.draw 1 [[⟨some 10, .read (.load none), [.t 6], none⟩,
 ⟨some 16, .pure .move, [.t 7], none⟩,
 ⟨some 17, .pure (.mkfn 410), [.t 3], none⟩,
 ⟨some 11, .callv, [.t 10, .c (.int .i64 0), .c (.snil 0)], none⟩,
 ⟨some 12, .read (.load (some 1)), [.t 2], none⟩,
 ⟨some 13, .read (.load (some 1)), [.t 3], none⟩,
 ⟨some 14, .newAt 0 (.buildSlice 1 [.agg [.snil 2], .agg [.snil 2]] [0, 1]), [.t 12, .t 13], none⟩,
 ⟨some 15, .pcall 370, [.t 14], none⟩,
 ⟨some 18, .pcall 409, [.t 11, .t 15, .t 16, .t 17], none⟩,
 ⟨some 19, .pure (.ext 0), [.t 18], none⟩,
 ⟨some 20, .pure (.ext 1), [.t 18], none⟩,
 ⟨none, .eff (.store 1), [.t 4, .t 19], none⟩,
 ⟨some 5, .pure .move, [.t 20], none⟩],
 [⟨some 10, .read (.load none), [.t 6], none⟩,
 ⟨some 16, .pure .move, [.t 7], none⟩,
 ⟨some 17, .pure (.mkfn 410), [.t 3], none⟩,
 ⟨some 12, .read (.load (some 1)), [.t 2], none⟩,
 ⟨some 11, .callv, [.t 10, .c (.int .i64 0), .c (.snil 0)], none⟩,
 ⟨some 13, .read (.load (some 1)), [.t 3], none⟩,
 ⟨some 14, .newAt 0 (.buildSlice 1 [.agg [.snil 2], .agg [.snil 2]] [0, 1]), [.t 12, .t 13], none⟩,
 ⟨some 15, .pcall 370, [.t 14], none⟩,
 ⟨some 18, .pcall 409, [.t 11, .t 15, .t 16, .t 17], none⟩,
 ⟨some 19, .pure (.ext 0), [.t 18], none⟩,
 ⟨some 20, .pure (.ext 1), [.t 18], none⟩,
 ⟨none, .eff (.store 1), [.t 4, .t 19], none⟩,
 ⟨some 5, .pure .move, [.t 20], none⟩],
 [⟨some 10, .read (.load none), [.t 6], none⟩,
 ⟨some 16, .pure .move, [.t 7], none⟩,
 ⟨some 17, .pure (.mkfn 410), [.t 3], none⟩,
 ⟨some 12, .read (.load (some 1)), [.t 2], none⟩,
 ⟨some 13, .read (.load (some 1)), [.t 3], none⟩,
 ⟨some 11, .callv, [.t 10, .c (.int .i64 0), .c (.snil 0)], none⟩,
 ⟨some 14, .newAt 0 (.buildSlice 1 [.agg [.snil 2], .agg [.snil 2]] [0, 1]), [.t 12, .t 13], none⟩,
 ⟨some 15, .pcall 370, [.t 14], none⟩,
 ⟨some 18, .pcall 409, [.t 11, .t 15, .t 16, .t 17], none⟩,
 ⟨some 19, .pure (.ext 0), [.t 18], none⟩,
 ⟨some 20, .pure (.ext 1), [.t 18], none⟩,
 ⟨none, .eff (.store 1), [.t 4, .t 19], none⟩,
 ⟨some 5, .pure .move, [.t 20], none⟩],
 [⟨some 10, .read (.load none), [.t 6], none⟩,
 ⟨some 16, .pure .move, [.t 7], none⟩,
 ⟨some 17, .pure (.mkfn 410), [.t 3], none⟩,
 ⟨some 12, .read (.load (some 1)), [.t 2], none⟩,
 ⟨some 13, .read (.load (some 1)), [.t 3], none⟩,
 ⟨some 14, .newAt 0 (.buildSlice 1 [.agg [.snil 2], .agg [.snil 2]] [0, 1]), [.t 12, .t 13], none⟩,
 ⟨some 11, .callv, [.t 10, .c (.int .i64 0), .c (.snil 0)], none⟩,
 ⟨some 15, .pcall 370, [.t 14], none⟩,
 ⟨some 18, .pcall 409, [.t 11, .t 15, .t 16, .t 17], none⟩,
 ⟨some 19, .pure (.ext 0), [.t 18], none⟩,
 ⟨some 20, .pure (.ext 1), [.t 18], none⟩,
 ⟨none, .eff (.store 1), [.t 4, .t 19], none⟩,
 ⟨some 5, .pure .move, [.t 20], none⟩],
 [⟨some 10, .read (.load none), [.t 6], none⟩,
 ⟨some 16, .pure .move, [.t 7], none⟩,
 ⟨some 17, .pure (.mkfn 410), [.t 3], none⟩,
 ⟨some 13, .read (.load (some 1)), [.t 3], none⟩,
 ⟨some 11, .callv, [.t 10, .c (.int .i64 0), .c (.snil 0)], none⟩,
 ⟨some 12, .read (.load (some 1)), [.t 2], none⟩,
 ⟨some 14, .newAt 0 (.buildSlice 1 [.agg [.snil 2], .agg [.snil 2]] [0, 1]), [.t 12, .t 13], none⟩,
 ⟨some 15, .pcall 370, [.t 14], none⟩,
 ⟨some 18, .pcall 409, [.t 11, .t 15, .t 16, .t 17], none⟩,
 ⟨some 19, .pure (.ext 0), [.t 18], none⟩,
 ⟨some 20, .pure (.ext 1), [.t 18], none⟩,
 ⟨none, .eff (.store 1), [.t 4, .t 19], none⟩,
 ⟨some 5, .pure .move, [.t 20], none⟩],
 [⟨some 10, .read (.load none), [.t 6], none⟩,
 ⟨some 16, .pure .move, [.t 7], none⟩,
 ⟨some 17, .pure (.mkfn 410), [.t 3], none⟩,
 ⟨some 13, .read (.load (some 1)), [.t 3], none⟩,
 ⟨some 12, .read (.load (some 1)), [.t 2], none⟩,
 ⟨some 11, .callv, [.t 10, .c (.int .i64 0), .c (.snil 0)], none⟩,
 ⟨some 14, .newAt 0 (.buildSlice 1 [.agg [.snil 2], .agg [.snil 2]] [0, 1]), [.t 12, .t 13], none⟩,
 ⟨some 15, .pcall 370, [.t 14], none⟩,
 ⟨some 18, .pcall 409, [.t 11, .t 15, .t 16, .t 17], none⟩,
 ⟨some 19, .pure (.ext 0), [.t 18], none⟩,
 ⟨some 20, .pure (.ext 1), [.t 18], none⟩,
 ⟨none, .eff (.store 1), [.t 4, .t 19], none⟩,
 ⟨some 5, .pure .move, [.t 20], none⟩],
 [⟨some 10, .read (.load none), [.t 6], none⟩,
 ⟨some 16, .pure .move, [.t 7], none⟩,
 ⟨some 17, .pure (.mkfn 410), [.t 3], none⟩,
 ⟨some 13, .read (.load (some 1)), [.t 3], none⟩,
 ⟨some 12, .read (.load (some 1)), [.t 2], none⟩,
 ⟨some 14, .newAt 0 (.buildSlice 1 [.agg [.snil 2], .agg [.snil 2]] [0, 1]), [.t 12, .t 13], none⟩,
 ⟨some 11, .callv, [.t 10, .c (.int .i64 0), .c (.snil 0)], none⟩,
 ⟨some 15, .pcall 370, [.t 14], none⟩,
 ⟨some 18, .pcall 409, [.t 11, .t 15, .t 16, .t 17], none⟩,
 ⟨some 19, .pure (.ext 0), [.t 18], none⟩,
 ⟨some 20, .pure (.ext 1), [.t 18], none⟩,
 ⟨none, .eff (.store 1), [.t 4, .t 19], none⟩,
 ⟨some 5, .pure .move, [.t 20], none⟩]])
 .ret)))) }
/-- datakit/automaton.starred -/
def ac398:AFn:=
 { nt:=16, res:=[.cell 2 (some 1), .tmp 3], body:=
 (.seq (.ops [⟨some 1, .new (.box 1), [.t 0], none⟩,
 ⟨some 2, .new (.new 1 [.agg [.snil 2]]), [], none⟩,
 ⟨some 3, .pure .move, [.c (.bool false)], none⟩])
 (.seq (.ops [⟨some 5, .pure (.mkfn 412), [.t 1], none⟩,
 ⟨some 4, .pure .move, [.t 5], none⟩])
 (.seq (.ops [⟨some 6, .new (.buildSlice 1 [.int .i64 0] [0]), [.c (.int .i64 0)], none⟩,
 ⟨some 7, .pure (.build [.bool false, .int .i64 0, .snil 1] [(0, 1), (2, 1)]), [.c (.bool true), .t 6], none⟩,
 ⟨some 8, .read (.load (some 1)), [.t 1], none⟩,
 ⟨some 9, .new (.buildSlice 1 [.agg [.snil 2]] [0]), [.t 8], none⟩,
 ⟨some 10, .pcall 370, [.t 9], none⟩,
 ⟨some 11, .pure .move, [.t 4], none⟩,
 ⟨some 12, .pure (.mkfn 413), [.t 1], none⟩,
 ⟨some 13, .pcall 409, [.t 7, .t 10, .t 11, .t 12], none⟩,
 ⟨some 14, .pure (.ext 0), [.t 13], none⟩,
 ⟨some 15, .pure (.ext 1), [.t 13], none⟩,
 ⟨none, .eff (.store 1), [.t 2, .t 14], none⟩,
 ⟨some 3, .pure .move, [.t 15], none⟩])
 .ret))) }
/-- datakit/datakitref15.and -/
def ac399:AFn:=
 { nt:=47, res:=[.cell 6 (some 6), .tmp 7, .tmp 8], body:=
 (.seq (.ops [⟨some 6, .new (.new 6 [.agg [.int .i64 0, .int .i64 0, .int .i64 0, .int .i64 0, .int .i64 0, .snil 6]]), [], none⟩,
 ⟨some 7, .pure .move, [.c (.int .i64 0)], none⟩,
 ⟨some 8, .pure .move, [.c (.bool false)], none⟩])
 (.seq (.ops [⟨some 14, .pure .move, [.t 0], none⟩,
 ⟨some 15, .pure .move, [.t 1], none⟩,
 ⟨some 16, .pure .move, [.t 2], none⟩,
 ⟨some 17, .pcall 414, [.t 14, .t 15, .t 16], none⟩,
 ⟨some 13, .pure .move, [.t 17], none⟩,
 ⟨some 18, .pure (.ext 0), [.t 13], none⟩,
 ⟨some 19, .pure (.ext 1), [.t 13], none⟩,
 ⟨some 20, .pure (.ext 2), [.t 13], none⟩,
 ⟨some 9, .new (.new 6 [.agg [.int .i64 0, .int .i64 0, .int .i64 0, .int .i64 0, .int .i64 0, .snil 6]]), [], none⟩,
 ⟨none, .eff (.store 6), [.t 9, .t 18], none⟩,
 ⟨some 10, .pure .move, [.t 19], none⟩,
 ⟨some 11, .pure .move, [.t 20], none⟩])
 (.seq (.ops [⟨some 21, .read (.load (some 6)), [.t 9], none⟩,
 ⟨some 22, .new (.buildSlice 6 [.agg [.int .i64 0, .int .i64 0, .int .i64 0, .int .i64 0, .int .i64 0, .snil 6]] [0]), [.t 21], none⟩,
 ⟨some 12, .pure .move, [.t 22], none⟩])
 (.seq (.block 0
 (.loop [0, 2, 6, 9, 10, 11, 12]
 (.seq (.seq (.ops [⟨some 23, .pure .move, [.t 11], none⟩,
 ⟨some 24, .pure .move, [.t 23], none⟩,
 ⟨some 25, .pure .move, [.t 0], some (24, true)⟩,
 ⟨some 26, .pure .move, [.t 10], some (24, true)⟩,
 ⟨some 27, .pcall 400, [.t 25, .t 26], some (24, true)⟩,
 ⟨some 28, .pure (.bin .eql), [.t 27, .c (.int .i64 38)], some (24, true)⟩,
 ⟨some 29, .pure .pick, [.t 24, .t 28, .c (.bool false)], none⟩])
 (.cond (.t 29)
 .skip
 (.exit 0)))
 (.block 1
 (.seq (.ops [⟨some 31, .pure .move, [.t 0], none⟩,
 ⟨some 32, .pure .move, [.t 10], none⟩,
 ⟨some 33, .pure (.bin .add), [.t 32, .c (.int .i64 1)], none⟩,
 ⟨some 34, .pure .move, [.t 2], none⟩,
 ⟨some 35, .pcall 414, [.t 31, .t 33, .t 34], none⟩,
 ⟨some 30, .pure .move, [.t 35], none⟩,
 ⟨some 36, .pure (.ext 0), [.t 30], none⟩,
 ⟨some 37, .pure (.ext 1), [.t 30], none⟩,
 ⟨some 38, .pure (.ext 2), [.t 30], none⟩,
 ⟨none, .eff (.store 6), [.t 9, .t 36], none⟩,
 ⟨some 10, .pure .move, [.t 37], none⟩,
 ⟨some 11, .pure .move, [.t 38], none⟩])
 (.ops [⟨some 39, .pure .move, [.t 12], none⟩,
 ⟨some 40, .read (.load (some 6)), [.t 9], none⟩,
 ⟨some 41, .new (.buildSlice 6 [.agg [.int .i64 0, .int .i64 0, .int .i64 0, .int .i64 0, .int .i64 0, .snil 6]] [0]), [.t 40], none⟩,
 ⟨some 42, .eff (.append 6 64), [.t 39, .t 41], none⟩,
 ⟨some 12, .pure .move, [.t 42], none⟩]))))))
 (.seq (.ops [⟨some 43, .pure .move, [.t 12], none⟩,
 ⟨some 44, .pcall 401, [.c (.int .i64 6), .t 43], none⟩,
 ⟨some 45, .pure .move, [.t 10], none⟩,
 ⟨some 46, .pure .move, [.t 11], none⟩,
 ⟨none, .eff (.store 6), [.t 6, .t 44], none⟩,
 ⟨some 7, .pure .move, [.t 45], none⟩,
 ⟨some 8, .pure .move, [.t 46], none⟩])
 .ret))))) }
/-- datakit/datakitref15.at -/
def ac400:AFn:=
 { nt:=17, res:=[.tmp 4], body:=
 (.seq (.ops [⟨some 4, .pure .move, [.c (.int .i64 0)], none⟩])
 (.seq (.seq (.ops [⟨some 5, .pure .move, [.t 1], none⟩,
 ⟨some 6, .pure (.bin .lss), [.t 5, .c (.int .i64 0)], none⟩,
 ⟨some 7, .pure .move, [.t 6], none⟩,
 ⟨some 8, .pure .move, [.t 1], some (7, false)⟩,
 ⟨some 9, .pure .move, [.t 0], some (7, false)⟩,
 ⟨some 10, .pure .lenS, [.t 9], some (7, false)⟩,
 ⟨some 11, .pure (.bin .geq), [.t 8, .t 10], some (7, false)⟩,
 ⟨some 12, .pure .pick, [.t 7, .c (.bool true), .t 11], none⟩])
 (.cond (.t 12)
 (.seq (.ops [⟨some 4, .pure .move, [.c (.int .i64 (-1))], none⟩])
 .ret)
 .skip))
 (.seq (.ops [⟨some 13, .pure .move, [.t 0], none⟩,
 ⟨some 14, .pure .move, [.t 1], none⟩,
 ⟨some 15, .pure .idxStr, [.t 13, .t 14], none⟩,
 ⟨some 16, .pure (.conv .i64), [.t 15], none⟩,
 ⟨some 4, .pure .move, [.t 16], none⟩])
 .ret))) }
/-- datakit/datakitref15.joined -/
def ac401:AFn:=
 { nt:=14, res:=[.cell 4 (some 6)], body:=
 (.seq (.ops [⟨some 4, .new (.new 6 [.agg [.int .i64 0, .int .i64 0, .int .i64 0, .int .i64 0, .int .i64 0, .snil 6]]), [], none⟩])
 (.seq (.seq (.ops [⟨some 5, .pure .move, [.t 1], none⟩,
 ⟨some 6, .pure .lenL, [.t 5], none⟩,
 ⟨some 7, .pure (.bin .eql), [.t 6, .c (.int .i64 1)], none⟩])
 (.cond (.t 7)
 (.seq (.ops [⟨some 8, .pure .move, [.t 1], none⟩,
 ⟨some 9, .pure (.iaddrS 6), [.t 8, .c (.int .i64 0)], none⟩,
 ⟨some 10, .read (.load (some 6)), [.t 9], none⟩,
 ⟨none, .eff (.store 6), [.t 4, .t 10], none⟩])
 .ret)
 .skip))
 (.seq (.ops [⟨some 11, .pure .move, [.t 0], none⟩,
 ⟨some 12, .pure .move, [.t 1], none⟩,
 ⟨some 13, .pure (.build [.int .i64 0, .int .i64 0, .int .i64 0, .int .i64 0, .int .i64 0, .snil 6] [(0, 1), (5, 1)]), [.t 11, .t 12], none⟩,
 ⟨none, .eff (.store 6), [.t 4, .t 13], none⟩])
 .ret))) }
/-- datakit/datakitref15.show -/
def ac402:AFn:=
 { nt:=71, res:=[.tmp 2], body:=
 (.seq (.ops [⟨some 1, .new (.box 6), [.t 0], none⟩,
 ⟨some 2, .pure .move, [.c (.str [])], none⟩])
 (.seq (.seq (.ops [⟨some 3, .pure (.faddr 0), [.t 1], none⟩,
 ⟨some 4, .read (.load none), [.t 3], none⟩])
 (.block 0
 (.seq (.ops [⟨some 6, .pure (.bin .eql), [.t 4, .c (.int .i64 1)], none⟩,
 ⟨some 5, .pure .move, [.t 6], none⟩])
 (.cond (.t 5)
 (.seq (.ops [⟨some 2, .pure .move, [.c (.str [40, 41])], none⟩])
 .ret)
 (.seq (.ops [⟨some 8, .pure (.bin .eql), [.t 4, .c (.int .i64 2)], none⟩,
 ⟨some 7, .pure .move, [.t 8], none⟩])
 (.cond (.t 7)
 (.seq (.seq (.ops [⟨some 9, .pure (.faddr 1), [.t 1], none⟩,
 ⟨some 10, .read (.load none), [.t 9], none⟩,
 ⟨some 11, .pure (.faddr 2), [.t 1], none⟩,
 ⟨some 12, .read (.load none), [.t 11], none⟩,
 ⟨some 13, .pure (.bin .eql), [.t 10, .t 12], none⟩])
 (.cond (.t 13)
 (.seq (.ops [⟨some 14, .pure (.faddr 1), [.t 1], none⟩,
 ⟨some 15, .read (.load none), [.t 14], none⟩,
 ⟨some 16, .pcall 415, [.t 15], none⟩,
 ⟨some 2, .pure .move, [.t 16], none⟩])
 .ret)
 .skip))
 (.seq (.seq (.ops [⟨some 17, .pure (.faddr 1), [.t 1], none⟩,
 ⟨some 18, .read (.load none), [.t 17], none⟩,
 ⟨some 19, .pure (.bin .eql), [.t 18, .c (.int .i64 0)], none⟩,
 ⟨some 20, .pure .move, [.t 19], none⟩,
 ⟨some 21, .pure (.faddr 2), [.t 1], some (20, true)⟩,
 ⟨some 22, .read (.load none), [.t 21], some (20, true)⟩,
 ⟨some 23, .pure (.bin .eql), [.t 22, .c (.int .i64 255)], some (20, true)⟩,
 ⟨some 24, .pure .pick, [.t 20, .t 23, .c (.bool false)], none⟩])
 (.cond (.t 24)
 (.seq (.ops [⟨some 2, .pure .move, [.c (.str [46])], none⟩])
 .ret)
 .skip))
 (.seq (.ops [⟨some 25, .pure (.faddr 1), [.t 1], none⟩,
 ⟨some 26, .read (.load none), [.t 25], none⟩,
 ⟨some 27, .pcall 415, [.t 26], none⟩,
 ⟨some 28, .pure (.bin .add), [.c (.str [91]), .t 27], none⟩,
 ⟨some 29, .pure (.bin .add), [.t 28, .c (.str [45])], none⟩,
 ⟨some 30, .pure (.faddr 2), [.t 1], none⟩,
 ⟨some 31, .read (.load none), [.t 30], none⟩,
 ⟨some 32, .pcall 415, [.t 31], none⟩,
 ⟨some 33, .pure (.bin .add), [.t 29, .t 32], none⟩,
 ⟨some 34, .pure (.bin .add), [.t 33, .c (.str [93])], none⟩,
 ⟨some 2, .pure .move, [.t 34], none⟩])
 .ret)))
 (.seq (.ops [⟨some 36, .pure (.bin .eql), [.t 4, .c (.int .i64 4)], none⟩,
 ⟨some 35, .pure .move, [.t 36], none⟩])
 (.cond (.t 35)
 (.seq (.ops [⟨some 37, .pure (.faddr 5), [.t 1], none⟩,
 ⟨some 38, .read (.load none), [.t 37], none⟩,
 ⟨some 39, .pcall 416, [.t 38, .c (.str [124]), .c (.int .i64 2)], none⟩,
 ⟨some 2, .pure .move, [.t 39], none⟩])
 .ret)
 (.seq (.ops [⟨some 41, .pure (.bin .eql), [.t 4, .c (.int .i64 6)], none⟩,
 ⟨some 40, .pure .move, [.t 41], none⟩])
 (.cond (.t 40)
 (.seq (.ops [⟨some 42, .pure (.faddr 5), [.t 1], none⟩,
 ⟨some 43, .read (.load none), [.t 42], none⟩,
 ⟨some 44, .pcall 416, [.t 43, .c (.str [38]), .c (.int .i64 3)], none⟩,
 ⟨some 2, .pure .move, [.t 44], none⟩])
 .ret)
 (.seq (.ops [⟨some 46, .pure (.bin .eql), [.t 4, .c (.int .i64 3)], none⟩,
 ⟨some 45, .pure .move, [.t 46], none⟩])
 (.cond (.t 45)
 (.seq (.ops [⟨some 47, .pure (.faddr 5), [.t 1], none⟩,
 ⟨some 48, .read (.load none), [.t 47], none⟩,
 ⟨some 49, .pcall 416, [.t 48, .c (.str []), .c (.int .i64 4)], none⟩,
 ⟨some 2, .pure .move, [.t 49], none⟩])
 .ret)
 (.seq (.ops [⟨some 51, .pure (.bin .eql), [.t 4, .c (.int .i64 7)], none⟩,
 ⟨some 50, .pure .move, [.t 51], none⟩])
 (.cond (.t 50)
 (.seq (.ops [⟨some 52, .pure (.faddr 5), [.t 1], none⟩,
 ⟨some 53, .read (.load none), [.t 52], none⟩,
 ⟨some 54, .pure (.iaddrS 6), [.t 53, .c (.int .i64 0)], none⟩,
 ⟨some 55, .read (.load (some 6)), [.t 54], none⟩,
 ⟨some 56, .pcall 417, [.t 55, .c (.int .i64 4)], none⟩,
 ⟨some 57, .pure (.bin .add), [.c (.str [33]), .t 56], none⟩,
 ⟨some 2, .pure .move, [.t 57], none⟩])
 .ret)
 (.seq (.ops [⟨some 59, .pure (.bin .eql), [.t 4, .c (.int .i64 5)], none⟩,
 ⟨some 58, .pure .move, [.t 59], none⟩])
 (.cond (.t 58)
 (.seq (.ops [⟨some 60, .pure (.faddr 5), [.t 1], none⟩,
 ⟨some 61, .read (.load none), [.t 60], none⟩,
 ⟨some 62, .pure (.iaddrS 6), [.t 61, .c (.int .i64 0)], none⟩,
 ⟨some 63, .read (.load (some 6)), [.t 62], none⟩,
 ⟨some 64, .pcall 417, [.t 63, .c (.int .i64 5)], none⟩,
 ⟨some 65, .pure (.faddr 3), [.t 1], none⟩,
 ⟨some 66, .read (.load none), [.t 65], none⟩,
 ⟨some 67, .pure (.faddr 4), [.t 1], none⟩,
 ⟨some 68, .read (.load none), [.t 67], none⟩,
 ⟨some 69, .pcall 418, [.t 66, .t 68], none⟩,
 ⟨some 70, .pure (.bin .add), [.t 64, .t 69], none⟩,
 ⟨some 2, .pure .move, [.t 70], none⟩])
 .ret)
 .skip))))))))))))))))
 (.seq (.ops [⟨some 2, .pure .move, [.c (.str [91, 93])], none⟩])
 .ret))) }
/-- internal/strconv.FormatInt -/
def ac404:AFn:=
 { nt:=54, res:=[.tmp 4], body:=
 (.seq (.ops [⟨some 4, .pure .move, [.c (.str [])], none⟩])
 (.seq (.seq (.ops [⟨some 10, .pure .move, [.t 1], none⟩,
 ⟨some 11, .pure (.bin .eql), [.t 10, .c (.int .i64 10)], none⟩])
 (.cond (.t 11)
 (.seq (.seq (.ops [⟨some 12, .pure .move, [.t 0], none⟩,
 ⟨some 13, .pure (.bin .leq), [.c (.int .i64 0), .t 12], none⟩,
 ⟨some 14, .pure .move, [.t 13], none⟩,
 ⟨some 15, .pure .move, [.t 0], some (14, true)⟩,
 ⟨some 16, .pure (.bin .lss), [.t 15, .c (.int .i64 100)], some (14, true)⟩,
 ⟨some 17, .pure .pick, [.t 14, .t 16, .c (.bool false)], none⟩])
 (.cond (.t 17)
 (.seq (.ops [⟨some 18, .pure .move, [.t 0], none⟩,
 ⟨some 19, .pcall 419, [.t 18], none⟩,
 ⟨some 4, .pure .move, [.t 19], none⟩])
 .ret)
 .skip))
 (.seq (.ops [⟨some 5, .new (.new 1 [.int .u8 0, .int .u8 0, .int .u8 0, .int .u8 0, .int .u8 0, .int .u8 0, .int .u8 0, .int .u8 0, .int .u8 0, .int .u8 0, .int .u8 0, .int .u8 0, .int .u8 0, .int .u8 0, .int .u8 0, .int .u8 0, .int .u8 0, .int .u8 0, .int .u8 0, .int .u8 0, .int .u8 0, .int .u8 0, .int .u8 0, .int .u8 0]), [], none⟩])
 (.seq (.ops [⟨some 20, .pure .move, [.t 0], none⟩,
 ⟨some 21, .pure (.conv .u64), [.t 20], none⟩,
 ⟨some 6, .pure .move, [.t 21], none⟩])
 (.seq (.seq (.ops [⟨some 22, .pure .move, [.t 0], none⟩,
 ⟨some 23, .pure (.bin .lss), [.t 22, .c (.int .i64 0)], none⟩])
 (.cond (.t 23)
 (.ops [⟨some 24, .pure .move, [.t 6], none⟩,
 ⟨some 25, .pure (.un .neg), [.t 24], none⟩,
 ⟨some 6, .pure .move, [.t 25], none⟩])
 .skip))
 (.seq (.ops [⟨some 26, .pure .move, [.t 6], none⟩,
 ⟨some 27, .pcall 420, [.t 26], none⟩,
 ⟨some 7, .pure .move, [.t 27], none⟩])
 (.seq (.ops [⟨some 28, .pure .move, [.t 7], none⟩,
 ⟨some 29, .pure (.bin .add), [.c (.int .i64 1), .t 28], none⟩,
 ⟨some 30, .bad, [], none⟩,
 ⟨some 31, .pure .move, [.t 6], none⟩,
 ⟨some 32, .pcall 421, [.t 30, .t 31], none⟩])
 (.seq (.seq (.ops [⟨some 33, .pure .move, [.t 0], none⟩,
 ⟨some 34, .pure (.bin .lss), [.t 33, .c (.int .i64 0)], none⟩])
 (.cond (.t 34)
 (.seq (.ops [⟨some 35, .pure (.iaddrA 24 1), [.t 5, .c (.int .i64 0)], none⟩,
 ⟨none, .eff (.store 1), [.t 35, .c (.int .u8 45)], none⟩])
 (.seq (.ops [⟨some 36, .pure .move, [.t 7], none⟩,
 ⟨some 37, .pure (.bin .add), [.c (.int .i64 1), .t 36], none⟩,
 ⟨some 38, .bad, [], none⟩,
 ⟨some 39, .read .bytesStr, [.t 38], none⟩,
 ⟨some 4, .pure .move, [.t 39], none⟩])
 .ret))
 .skip))
 (.seq (.ops [⟨some 40, .pure .move, [.t 7], none⟩,
 ⟨some 41, .pure (.bin .add), [.c (.int .i64 1), .t 40], none⟩,
 ⟨some 42, .bad, [], none⟩,
 ⟨some 43, .read .bytesStr, [.t 42], none⟩,
 ⟨some 4, .pure .move, [.t 43], none⟩])
 .ret))))))))
 .skip))
 (.seq (.ops [⟨some 45, .pure .move, [.t 0], none⟩,
 ⟨some 46, .pure (.conv .u64), [.t 45], none⟩,
 ⟨some 47, .pure .move, [.t 1], none⟩,
 ⟨some 48, .pure .move, [.t 0], none⟩,
 ⟨some 49, .pure (.bin .lss), [.t 48, .c (.int .i64 0)], none⟩,
 ⟨some 50, .pcall 422, [.c (.snil 1), .t 46, .t 47, .t 49, .c (.bool false)], none⟩,
 ⟨some 44, .pure .move, [.t 50], none⟩,
 ⟨some 51, .pure (.ext 0), [.t 44], none⟩,
 ⟨some 52, .pure (.ext 1), [.t 44], none⟩,
 ⟨some 8, .pure .move, [.t 51], none⟩,
 ⟨some 9, .pure .move, [.t 52], none⟩])
 (.seq (.ops [⟨some 53, .pure .move, [.t 9], none⟩,
 ⟨some 4, .pure .move, [.t 53], none⟩])
 .ret)))) }
/-- datakit/automaton.followed$1 -/
def ac405:AFn:=
 { nt:=19, res:=[.cell 5 (some 3)], body:=
 (.seq (.ops [⟨some 5, .new (.new 3 [.agg [.bool false, .int .i64 0, .snil 1]]), [], none⟩])
 (.seq (.seq (.ops [⟨some 6, .pure (.faddr 0), [.t 2], none⟩,
 ⟨some 7, .read (.load none), [.t 6], none⟩,
 ⟨some 8, .pure .move, [.t 0], none⟩,
 ⟨some 9, .pure (.iaddrS 2), [.t 7, .t 8], none⟩,
 ⟨some 10, .pure (.faddr 0), [.t 9], none⟩,
 ⟨some 11, .read (.load none), [.t 10], none⟩])
 (.cond (.t 11)
 (.ops [⟨some 12, .pure .move, [.t 1], none⟩,
 ⟨some 13, .new (.buildSlice 1 [.int .i64 0] [0]), [.c (.int .i64 0)], none⟩,
 ⟨some 14, .eff (.append 1 8), [.t 12, .t 13], none⟩,
 ⟨some 15, .call 406, [.t 14], none⟩,
 ⟨some 1, .pure .move, [.t 15], none⟩])
 .skip))
 (.seq (.ops [⟨some 16, .pure .move, [.t 0], none⟩,
 ⟨some 17, .pure .move, [.t 1], none⟩,
 ⟨some 18, .pure (.build [.bool false, .int .i64 0, .snil 1] [(1, 1), (2, 1)]), [.t 16, .t 17], none⟩,
 ⟨none, .eff (.store 3), [.t 5, .t 18], none⟩])
 .ret))) }
/-- datakit/automaton.sorted -/
def ac406:AFn:=
 { nt:=7, res:=[.tmp 2], body:=
 (.seq (.ops [⟨some 2, .pure .move, [.c (.snil 1)], none⟩])
 (.seq (.ops [⟨some 3, .pure .move, [.t 0], none⟩,
 ⟨some 4, .call 199, [.t 3], none⟩])
 (.seq (.ops [⟨some 5, .pure .move, [.t 0], none⟩,
 ⟨some 6, .call 200, [.t 5], none⟩,
 ⟨some 2, .pure .move, [.t 6], none⟩])
 .ret))) }
/-- datakit/automaton.followed$2 -/
def ac407:AFn:=
 { nt:=20, res:=[.cell 7 (some 3)], body:=
 (.seq (.ops [⟨some 5, .new (.box 3), [.t 0], none⟩,
 ⟨some 7, .new (.new 3 [.agg [.bool false, .int .i64 0, .snil 1]]), [], none⟩])
 (.seq (.draw 0 [[⟨some 9, .read (.load (some 1)), [.t 3], none⟩,
 ⟨some 10, .pure (.faddr 1), [.t 5], none⟩,
 ⟨some 11, .read (.load none), [.t 10], none⟩,
 ⟨some 12, .pure .move, [.t 1], none⟩,
 ⟨some 13, .pcall 252, [.t 9, .t 11, .t 12], none⟩,
 ⟨some 14, .read (.load (some 1)), [.t 4], none⟩,
 ⟨some 15, .pure (.faddr 2), [.t 5], none⟩,
 ⟨some 16, .read (.load none), [.t 15], none⟩,
 ⟨some 17, .pure .move, [.t 1], none⟩,
 ⟨some 8, .read (.load none), [.t 2], none⟩,
 ⟨some 18, .call 408, [.t 14, .t 16, .t 17], none⟩,
 ⟨some 19, .callv, [.t 8, .t 13, .t 18], none⟩,
 ⟨none, .eff (.store 3), [.t 7, .t 19], none⟩],
 [⟨some 9, .read (.load (some 1)), [.t 3], none⟩,
 ⟨some 10, .pure (.faddr 1), [.t 5], none⟩,
 ⟨some 11, .read (.load none), [.t 10], none⟩,
 ⟨some 12, .pure .move, [.t 1], none⟩,
 ⟨some 13, .pcall 252, [.t 9, .t 11, .t 12], none⟩,
 ⟨some 14, .read (.load (some 1)), [.t 4], none⟩,
 ⟨some 15, .pure (.faddr 2), [.t 5], none⟩,
 ⟨some 16, .read (.load none), [.t 15], none⟩,
 ⟨some 17, .pure .move, [.t 1], none⟩,
 ⟨some 18, .call 408, [.t 14, .t 16, .t 17], none⟩,
 ⟨some 8, .read (.load none), [.t 2], none⟩,
 ⟨some 19, .callv, [.t 8, .t 13, .t 18], none⟩,
 ⟨none, .eff (.store 3), [.t 7, .t 19], none⟩]])
 .ret)) }
/-- datakit/automaton.after -/
def ac408:AFn:=
 { nt:=26, res:=[.tmp 6], body:=
 (.seq (.ops [⟨some 3, .new (.box 1), [.t 0], none⟩,
 ⟨some 6, .pure .move, [.c (.snil 1)], none⟩])
 (.seq (.ops [⟨some 7, .pure .move, [.c (.snil 1)], none⟩])
 (.seq (.seq (.ops [⟨some 10, .pure .move, [.t 1], none⟩,
 ⟨some 11, .pure .lenL, [.t 10], none⟩,
 ⟨some 12, .pure .move, [.c (.int .i64 0)], none⟩])
 (.block 0
 (.loop [2, 3, 7, 10, 11, 12]
 (.seq (.ops [⟨some 13, .pure (.bin .lss), [.t 12, .t 11], none⟩])
 (.seq (.cond (.t 13)
 .skip
 (.exit 0))
 (.seq (.block 1
 (.seq (.ops [⟨some 14, .pure (.iaddrS 1), [.t 10, .t 12], none⟩,
 ⟨some 15, .read (.load none), [.t 14], none⟩,
 ⟨some 9, .pure .move, [.t 15], none⟩])
 (.ops [⟨some 16, .pure .move, [.t 7], none⟩,
 ⟨some 17, .read (.load (some 1)), [.t 3], none⟩,
 ⟨some 18, .pure .move, [.t 9], none⟩,
 ⟨some 19, .pure .move, [.t 2], none⟩,
 ⟨some 20, .pcall 252, [.t 17, .t 18, .t 19], none⟩,
 ⟨some 21, .new (.buildSlice 1 [.int .i64 0] [0]), [.t 20], none⟩,
 ⟨some 22, .eff (.append 1 8), [.t 16, .t 21], none⟩,
 ⟨some 7, .pure .move, [.t 22], none⟩])))
 (.ops [⟨some 23, .pure (.bin .add), [.t 12, .c (.int .i64 1)], none⟩,
 ⟨some 12, .pure .move, [.t 23], none⟩])))))))
 (.seq (.ops [⟨some 24, .pure .move, [.t 7], none⟩,
 ⟨some 25, .call 406, [.t 24], none⟩,
 ⟨some 6, .pure .move, [.t 25], none⟩])
 .ret)))) }
/-- datakit/automaton.reach -/
def ac409:AFn:=
 { nt:=94, res:=[.cell 8 (some 1), .tmp 9], body:=
 (.seq (.ops [⟨some 4, .new (.box 3), [.t 0], none⟩,
 ⟨some 8, .new (.new 1 [.agg [.snil 2]]), [], none⟩,
 ⟨some 9, .pure .move, [.c (.bool false)], none⟩])
 (.seq (.ops [⟨some 20, .new .mkMap, [], none⟩,
 ⟨some 21, .read (.load (some 3)), [.t 4], none⟩,
 ⟨some 22, .pcall 423, [.t 21], none⟩,
 ⟨none, .eff (.mapSet (.one .str)), [.t 20, .t 22, .c (.int .i64 0)], none⟩,
 ⟨some 23, .pure .move, [.t 20], none⟩,
 ⟨some 10, .pure .move, [.t 23], none⟩])
 (.seq (.ops [⟨some 24, .read (.load (some 3)), [.t 4], none⟩,
 ⟨some 25, .new (.buildSlice 3 [.agg [.bool false, .int .i64 0, .snil 1]] [0]), [.t 24], none⟩,
 ⟨some 11, .pure .move, [.t 25], none⟩])
 (.seq (.ops [⟨some 12, .new (.new 1 [.agg [.snil 2]]), [], none⟩])
 (.seq (.seq (.ops [⟨some 13, .pure .move, [.c (.int .i64 0)], none⟩])
 (.block 0
 (.loop [1, 2, 3, 8, 10, 11, 12, 13]
 (.seq (.seq (.ops [⟨some 26, .pure .move, [.t 13], none⟩,
 ⟨some 27, .pure .move, [.t 11], none⟩,
 ⟨some 28, .pure .lenL, [.t 27], none⟩,
 ⟨some 29, .pure (.bin .lss), [.t 26, .t 28], none⟩])
 (.cond (.t 29)
 .skip
 (.exit 0)))
 (.seq (.block 1
 (.seq (.ops [⟨some 32, .pure .move, [.t 3], none⟩,
 ⟨some 33, .pure .move, [.t 11], none⟩,
 ⟨some 34, .pure .move, [.t 13], none⟩,
 ⟨some 35, .pure (.iaddrS 3), [.t 33, .t 34], none⟩,
 ⟨some 36, .read (.load (some 3)), [.t 35], none⟩,
 ⟨some 37, .callv, [.t 32, .t 36], none⟩,
 ⟨some 38, .pure (.build [.bool false, .snil 3] [(0, 1)]), [.t 37], none⟩,
 ⟨some 14, .new (.new 2 [.agg [.bool false, .snil 3]]), [], none⟩,
 ⟨none, .eff (.store 2), [.t 14, .t 38], none⟩])
 (.seq (.seq (.ops [⟨some 39, .pure .move, [.t 1], none⟩,
 ⟨some 40, .pure .lenL, [.t 39], none⟩,
 ⟨some 41, .pure .move, [.c (.int .i64 0)], none⟩])
 (.block 2
 (.loop [1, 2, 3, 8, 10, 11, 12, 13, 14, 39, 40, 41]
 (.seq (.ops [⟨some 42, .pure (.bin .lss), [.t 41, .t 40], none⟩])
 (.seq (.cond (.t 42)
 .skip
 (.exit 2))
 (.seq (.block 3
 (.seq (.ops [⟨some 43, .pure .move, [.t 41], none⟩,
 ⟨some 44, .pure (.iaddrS 1), [.t 39, .t 41], none⟩,
 ⟨some 45, .read (.load none), [.t 44], none⟩,
 ⟨some 15, .pure .move, [.t 43], none⟩,
 ⟨some 16, .pure .move, [.t 45], none⟩])
 (.seq (.ops [⟨some 46, .pure .move, [.t 2], none⟩,
 ⟨some 47, .pure .move, [.t 11], none⟩,
 ⟨some 48, .pure .move, [.t 13], none⟩,
 ⟨some 49, .pure (.iaddrS 3), [.t 47, .t 48], none⟩,
 ⟨some 50, .read (.load (some 3)), [.t 49], none⟩,
 ⟨some 51, .pure .move, [.t 16], none⟩,
 ⟨some 52, .callv, [.t 46, .t 50, .t 51], none⟩,
 ⟨some 17, .new (.new 3 [.agg [.bool false, .int .i64 0, .snil 1]]), [], none⟩,
 ⟨none, .eff (.store 3), [.t 17, .t 52], none⟩])
 (.seq (.ops [⟨some 54, .pure .move, [.t 10], none⟩,
 ⟨some 55, .read (.load (some 3)), [.t 17], none⟩,
 ⟨some 56, .pcall 423, [.t 55], none⟩,
 ⟨some 57, .read (.lookup (.one .str) (.int .i64 0) true), [.t 54, .t 56], none⟩,
 ⟨some 53, .pure .move, [.t 57], none⟩,
 ⟨some 58, .pure (.ext 0), [.t 53], none⟩,
 ⟨some 59, .pure (.ext 1), [.t 53], none⟩,
 ⟨some 18, .pure .move, [.t 58], none⟩,
 ⟨some 19, .pure .move, [.t 59], none⟩])
 (.seq (.seq (.ops [⟨some 60, .pure .move, [.t 19], none⟩,
 ⟨some 61, .pure (.un .not), [.t 60], none⟩])
 (.cond (.t 61)
 (.seq (.seq (.ops [⟨some 62, .pure .move, [.t 11], none⟩,
 ⟨some 63, .pure .lenL, [.t 62], none⟩,
 ⟨some 64, .pure (.bin .geq), [.t 63, .c (.int .i64 1024)], none⟩])
 (.cond (.t 64)
 (.seq (.ops [⟨some 65, .pure (.build [.snil 2] []), [], none⟩,
 ⟨none, .eff (.store 1), [.t 8, .t 65], none⟩,
 ⟨some 9, .pure .move, [.c (.bool false)], none⟩])
 .ret)
 .skip))
 (.seq (.ops [⟨some 66, .pure .move, [.t 11], none⟩,
 ⟨some 67, .pure .lenL, [.t 66], none⟩,
 ⟨some 18, .pure .move, [.t 67], none⟩])
 (.seq (.ops [⟨some 68, .pure .move, [.t 10], none⟩,
 ⟨some 69, .read (.load (some 3)), [.t 17], none⟩,
 ⟨some 70, .pcall 423, [.t 69], none⟩,
 ⟨some 71, .pure .move, [.t 18], none⟩,
 ⟨none, .eff (.mapSet (.one .str)), [.t 68, .t 70, .t 71], none⟩])
 (.ops [⟨some 72, .pure .move, [.t 11], none⟩,
 ⟨some 73, .read (.load (some 3)), [.t 17], none⟩,
 ⟨some 74, .new (.buildSlice 3 [.agg [.bool false, .int .i64 0, .snil 1]] [0]), [.t 73], none⟩,
 ⟨some 75, .eff (.append 3 40), [.t 72, .t 74], none⟩,
 ⟨some 11, .pure .move, [.t 75], none⟩]))))
 .skip))
 (.ops [⟨some 76, .pure (.faddr 1), [.t 14], none⟩,
 ⟨some 77, .read (.load none), [.t 76], none⟩,
 ⟨some 78, .pure .move, [.t 16], none⟩,
 ⟨some 79, .pure .move, [.t 1], none⟩,
 ⟨some 80, .pure .move, [.t 15], none⟩,
 ⟨some 81, .pcall 391, [.t 79, .t 80], none⟩,
 ⟨some 82, .pure .move, [.t 18], none⟩,
 ⟨some 83, .call 390, [.t 77, .t 78, .t 81, .t 82], none⟩,
 ⟨some 84, .pure (.faddr 1), [.t 14], none⟩,
 ⟨none, .eff (.store 1), [.t 84, .t 83], none⟩]))))))
 (.ops [⟨some 85, .pure (.bin .add), [.t 41, .c (.int .i64 1)], none⟩,
 ⟨some 41, .pure .move, [.t 85], none⟩])))))))
 (.ops [⟨some 86, .pure (.faddr 0), [.t 12], none⟩,
 ⟨some 87, .read (.load none), [.t 86], none⟩,
 ⟨some 88, .read (.load (some 2)), [.t 14], none⟩,
 ⟨some 89, .new (.buildSlice 2 [.agg [.bool false, .snil 3]] [0]), [.t 88], none⟩,
 ⟨some 90, .eff (.append 2 32), [.t 87, .t 89], none⟩,
 ⟨some 91, .pure (.faddr 0), [.t 12], none⟩,
 ⟨none, .eff (.store 1), [.t 91, .t 90], none⟩]))))
 (.ops [⟨some 30, .pure .move, [.t 13], none⟩,
 ⟨some 31, .pure (.bin .add), [.t 30, .c (.int .i64 1)], none⟩,
 ⟨some 13, .pure .move, [.t 31], none⟩]))))))
 (.seq (.ops [⟨some 92, .read (.load (some 1)), [.t 12], none⟩,
 ⟨some 93, .pcall 355, [.t 92], none⟩,
 ⟨none, .eff (.store 1), [.t 8, .t 93], none⟩,
 ⟨some 9, .pure .move, [.c (.bool true)], none⟩])
 .ret)))))) }
/-- datakit/automaton.followed$3 -/
def ac410:AFn:=
 { nt:=8, res:=[.tmp 3], body:=
 (.seq (.ops [⟨some 2, .new (.box 3), [.t 0], none⟩,
 ⟨some 3, .pure .move, [.c (.bool false)], none⟩])
 (.seq (.ops [⟨some 4, .read (.load (some 1)), [.t 1], none⟩,
 ⟨some 5, .pure (.faddr 2), [.t 2], none⟩,
 ⟨some 6, .read (.load none), [.t 5], none⟩,
 ⟨some 7, .pcall 411, [.t 4, .t 6], none⟩,
 ⟨some 3, .pure .move, [.t 7], none⟩])
 .ret)) }
/-- datakit/automaton.some -/
def ac411:AFn:=
 { nt:=8, res:=[.tmp 4], body:=
 (.seq (.ops [⟨some 2, .new (.box 1), [.t 0], none⟩,
 ⟨some 4, .pure .move, [.c (.bool false)], none⟩])
 (.seq (.ops [⟨some 5, .pure .move, [.t 1], none⟩,
 ⟨some 6, .pure (.mkfn 424), [.t 2], none⟩,
 ⟨some 7, .call 201, [.t 5, .t 6], none⟩,
 ⟨some 4, .pure .move, [.t 7], none⟩])
 .ret)) }
/-- datakit/automaton.starred$1 -/
def ac412:AFn:=
 { nt:=21, res:=[.cell 5 (some 3)], body:=
 (.seq (.ops [⟨some 3, .new (.box 3), [.t 0], none⟩,
 ⟨some 5, .new (.new 3 [.agg [.bool false, .int .i64 0, .snil 1]]), [], none⟩])
 (.seq (.ops [⟨some 7, .read (.load (some 1)), [.t 2], none⟩,
 ⟨some 8, .pure (.faddr 2), [.t 3], none⟩,
 ⟨some 9, .read (.load none), [.t 8], none⟩,
 ⟨some 10, .pure .move, [.t 1], none⟩,
 ⟨some 11, .call 408, [.t 7, .t 9, .t 10], none⟩,
 ⟨some 6, .pure .move, [.t 11], none⟩])
 (.seq (.seq (.ops [⟨some 12, .read (.load (some 1)), [.t 2], none⟩,
 ⟨some 13, .pure .move, [.t 6], none⟩,
 ⟨some 14, .pcall 411, [.t 12, .t 13], none⟩])
 (.cond (.t 14)
 (.ops [⟨some 15, .pure .move, [.t 6], none⟩,
 ⟨some 16, .new (.buildSlice 1 [.int .i64 0] [0]), [.c (.int .i64 0)], none⟩,
 ⟨some 17, .eff (.append 1 8), [.t 15, .t 16], none⟩,
 ⟨some 18, .call 406, [.t 17], none⟩,
 ⟨some 6, .pure .move, [.t 18], none⟩])
 .skip))
 (.seq (.ops [⟨some 19, .pure .move, [.t 6], none⟩,
 ⟨some 20, .pure (.build [.bool false, .int .i64 0, .snil 1] [(2, 1)]), [.t 19], none⟩,
 ⟨none, .eff (.store 3), [.t 5, .t 20], none⟩])
 .ret)))) }
/-- datakit/automaton.starred$2 -/
def ac413:AFn:=
 { nt:=12, res:=[.tmp 3], body:=
 (.seq (.ops [⟨some 2, .new (.box 3), [.t 0], none⟩,
 ⟨some 3, .pure .move, [.c (.bool false)], none⟩])
 (.seq (.ops [⟨some 4, .pure (.faddr 0), [.t 2], none⟩,
 ⟨some 5, .read (.load none), [.t 4], none⟩,
 ⟨some 6, .pure .move, [.t 5], none⟩,
 ⟨some 7, .read (.load (some 1)), [.t 1], some (6, false)⟩,
 ⟨some 8, .pure (.faddr 2), [.t 2], some (6, false)⟩,
 ⟨some 9, .read (.load none), [.t 8], some (6, false)⟩,
 ⟨some 10, .pcall 411, [.t 7, .t 9], some (6, false)⟩,
 ⟨some 11, .pure .pick, [.t 6, .c (.bool true), .t 10], none⟩,
 ⟨some 3, .pure .move, [.t 11], none⟩])
 .ret)) }
/-- datakit/datakitref15.cat -/
def ac414:AFn:=
 { nt:=49, res:=[.cell 6 (some 6), .tmp 7, .tmp 8], body:=
 (.seq (.ops [⟨some 6, .new (.new 6 [.agg [.int .i64 0, .int .i64 0, .int .i64 0, .int .i64 0, .int .i64 0, .snil 6]]), [], none⟩,
 ⟨some 7, .pure .move, [.c (.int .i64 0)], none⟩,
 ⟨some 8, .pure .move, [.c (.bool false)], none⟩])
 (.seq (.ops [⟨some 9, .pure .move, [.c (.snil 6)], none⟩])
 (.seq (.ops [⟨some 14, .pure .move, [.t 1], none⟩,
 ⟨some 10, .pure .move, [.t 14], none⟩,
 ⟨some 11, .pure .move, [.c (.bool true)], none⟩])
 (.seq (.block 0
 (.loop [0, 2, 6, 9, 10, 11]
 (.seq (.seq (.ops [⟨some 15, .pure .move, [.t 11], none⟩])
 (.cond (.t 15)
 .skip
 (.exit 0)))
 (.block 1
 (.seq (.ops [⟨some 12, .new (.new 6 [.agg [.int .i64 0, .int .i64 0, .int .i64 0, .int .i64 0, .int .i64 0, .snil 6]]), [], none⟩])
 (.seq (.ops [⟨some 17, .pure .move, [.t 0], none⟩,
 ⟨some 18, .pure .move, [.t 10], none⟩,
 ⟨some 19, .pure .move, [.t 2], none⟩,
 ⟨some 20, .pcall 425, [.t 17, .t 18, .t 19], none⟩,
 ⟨some 16, .pure .move, [.t 20], none⟩,
 ⟨some 21, .pure (.ext 0), [.t 16], none⟩,
 ⟨some 22, .pure (.ext 1), [.t 16], none⟩,
 ⟨some 23, .pure (.ext 2), [.t 16], none⟩,
 ⟨none, .eff (.store 6), [.t 12, .t 21], none⟩,
 ⟨some 10, .pure .move, [.t 22], none⟩,
 ⟨some 11, .pure .move, [.t 23], none⟩])
 (.seq (.ops [⟨some 24, .pure .move, [.t 9], none⟩,
 ⟨some 25, .read (.load (some 6)), [.t 12], none⟩,
 ⟨some 26, .new (.buildSlice 6 [.agg [.int .i64 0, .int .i64 0, .int .i64 0, .int .i64 0, .int .i64 0, .snil 6]] [0]), [.t 25], none⟩,
 ⟨some 27, .eff (.append 6 64), [.t 24, .t 26], none⟩,
 ⟨some 9, .pure .move, [.t 27], none⟩])
 (.seq (.ops [⟨some 28, .pure .move, [.t 0], none⟩,
 ⟨some 29, .pure .move, [.t 10], none⟩,
 ⟨some 30, .pcall 400, [.t 28, .t 29], none⟩,
 ⟨some 13, .pure .move, [.t 30], none⟩])
 (.seq (.ops [⟨some 31, .pure .move, [.t 13], none⟩,
 ⟨some 32, .pure (.bin .eql), [.t 31, .c (.int .i64 (-1))], none⟩,
 ⟨some 33, .pure .move, [.t 32], none⟩,
 ⟨some 34, .pure .move, [.t 13], some (33, false)⟩,
 ⟨some 35, .pure (.bin .eql), [.t 34, .c (.int .i64 124)], some (33, false)⟩,
 ⟨some 36, .pure .pick, [.t 33, .c (.bool true), .t 35], none⟩,
 ⟨some 37, .pure .move, [.t 36], none⟩,
 ⟨some 38, .pure .move, [.t 13], some (37, false)⟩,
 ⟨some 39, .pure (.bin .eql), [.t 38, .c (.int .i64 38)], some (37, false)⟩,
 ⟨some 40, .pure .pick, [.t 37, .c (.bool true), .t 39], none⟩,
 ⟨some 41, .pure .move, [.t 40], none⟩,
 ⟨some 42, .pure .move, [.t 13], some (41, false)⟩,
 ⟨some 43, .pure (.bin .eql), [.t 42, .c (.int .i64 41)], some (41, false)⟩,
 ⟨some 44, .pure .pick, [.t 41, .c (.bool true), .t 43], none⟩])
 (.cond (.t 44)
 (.exit 0)
 .skip))))))))))
 (.seq (.ops [⟨some 45, .pure .move, [.t 9], none⟩,
 ⟨some 46, .pcall 401, [.c (.int .i64 3), .t 45], none⟩,
 ⟨some 47, .pure .move, [.t 10], none⟩,
 ⟨some 48, .pure .move, [.t 11], none⟩,
 ⟨none, .eff (.store 6), [.t 6, .t 46], none⟩,
 ⟨some 7, .pure .move, [.t 47], none⟩,
 ⟨some 8, .pure .move, [.t 48], none⟩])
 .ret))))) }
/-- datakit/datakitref15.byteText -/
def ac415:AFn:=
 { nt:=51, res:=[.tmp 2], body:=
 (.seq (.ops [⟨some 2, .pure .move, [.c (.str [])], none⟩])
 (.seq (.seq (.ops [⟨some 4, .pure .move, [.t 0], none⟩,
 ⟨some 5, .pure (.bin .lss), [.t 4, .c (.int .i64 33)], none⟩,
 ⟨some 6, .pure .move, [.t 5], none⟩,
 ⟨some 7, .pure .move, [.t 0], some (6, false)⟩,
 ⟨some 8, .pure (.bin .gtr), [.t 7, .c (.int .i64 126)], some (6, false)⟩,
 ⟨some 9, .pure .pick, [.t 6, .c (.bool true), .t 8], none⟩])
 (.cond (.t 9)
 (.seq (.ops [⟨some 10, .pure .move, [.t 0], none⟩,
 ⟨some 11, .pure (.bin .quo), [.t 10, .c (.int .i64 16)], none⟩,
 ⟨some 12, .pure .move, [.t 0], none⟩,
 ⟨some 13, .pure (.bin .quo), [.t 12, .c (.int .i64 16)], none⟩,
 ⟨some 14, .pure (.bin .add), [.t 13, .c (.int .i64 1)], none⟩,
 ⟨some 15, .pure (.sliceS true true), [.c (.str [48, 49, 50, 51, 52, 53, 54, 55, 56, 57, 97, 98, 99, 100, 101, 102]), .t 11, .t 14], none⟩,
 ⟨some 16, .pure (.bin .add), [.c (.str [92, 120]), .t 15], none⟩,
 ⟨some 17, .pure .move, [.t 0], none⟩,
 ⟨some 18, .pure (.bin .rem), [.t 17, .c (.int .i64 16)], none⟩,
 ⟨some 19, .pure .move, [.t 0], none⟩,
 ⟨some 20, .pure (.bin .rem), [.t 19, .c (.int .i64 16)], none⟩,
 ⟨some 21, .pure (.bin .add), [.t 20, .c (.int .i64 1)], none⟩,
 ⟨some 22, .pure (.sliceS true true), [.c (.str [48, 49, 50, 51, 52, 53, 54, 55, 56, 57, 97, 98, 99, 100, 101, 102]), .t 18, .t 21], none⟩,
 ⟨some 23, .pure (.bin .add), [.t 16, .t 22], none⟩,
 ⟨some 2, .pure .move, [.t 23], none⟩])
 .ret)
 .skip))
 (.seq (.seq (.ops [⟨some 3, .pure .move, [.c (.int .i64 0)], none⟩])
 (.block 0
 (.loop [0, 3]
 (.seq (.seq (.ops [⟨some 24, .pure .move, [.t 3], none⟩,
 ⟨some 25, .pure (.bin .lss), [.t 24, .c (.int .i64 14)], none⟩])
 (.cond (.t 25)
 .skip
 (.exit 0)))
 (.seq (.block 1
 (.seq (.ops [⟨some 28, .pure .move, [.t 3], none⟩,
 ⟨some 29, .pure .idxStr, [.c (.str [124, 38, 33, 42, 43, 63, 123, 125, 40, 41, 91, 93, 46, 92]), .t 28], none⟩,
 ⟨some 30, .pure (.conv .i64), [.t 29], none⟩,
 ⟨some 31, .pure .move, [.t 0], none⟩,
 ⟨some 32, .pure (.bin .eql), [.t 30, .t 31], none⟩])
 (.cond (.t 32)
 (.seq (.ops [⟨some 33, .pure .move, [.t 0], none⟩,
 ⟨some 34, .pure (.bin .quo), [.t 33, .c (.int .i64 16)], none⟩,
 ⟨some 35, .pure .move, [.t 0], none⟩,
 ⟨some 36, .pure (.bin .quo), [.t 35, .c (.int .i64 16)], none⟩,
 ⟨some 37, .pure (.bin .add), [.t 36, .c (.int .i64 1)], none⟩,
 ⟨some 38, .pure (.sliceS true true), [.c (.str [48, 49, 50, 51, 52, 53, 54, 55, 56, 57, 97, 98, 99, 100, 101, 102]), .t 34, .t 37], none⟩,
 ⟨some 39, .pure (.bin .add), [.c (.str [92, 120]), .t 38], none⟩,
 ⟨some 40, .pure .move, [.t 0], none⟩,
 ⟨some 41, .pure (.bin .rem), [.t 40, .c (.int .i64 16)], none⟩,
 ⟨some 42, .pure .move, [.t 0], none⟩,
 ⟨some 43, .pure (.bin .rem), [.t 42, .c (.int .i64 16)], none⟩,
 ⟨some 44, .pure (.bin .add), [.t 43, .c (.int .i64 1)], none⟩,
 ⟨some 45, .pure (.sliceS true true), [.c (.str [48, 49, 50, 51, 52, 53, 54, 55, 56, 57, 97, 98, 99, 100, 101, 102]), .t 41, .t 44], none⟩,
 ⟨some 46, .pure (.bin .add), [.t 39, .t 45], none⟩,
 ⟨some 2, .pure .move, [.t 46], none⟩])
 .ret)
 .skip)))
 (.ops [⟨some 26, .pure .move, [.t 3], none⟩,
 ⟨some 27, .pure (.bin .add), [.t 26, .c (.int .i64 1)], none⟩,
 ⟨some 3, .pure .move, [.t 27], none⟩]))))))
 (.seq (.ops [⟨some 47, .pure .move, [.t 0], none⟩,
 ⟨some 48, .pure (.conv .u8), [.t 47], none⟩,
 ⟨some 49, .new (.buildSlice 1 [.int .u8 0] [0]), [.t 48], none⟩,
 ⟨some 50, .read .bytesStr, [.t 49], none⟩,
 ⟨some 2, .pure .move, [.t 50], none⟩])
 .ret)))) }
/-- datakit/datakitref15.list -/
def ac416:AFn:=
 { nt:=29, res:=[.tmp 6], body:=
 (.seq (.ops [⟨some 6, .pure .move, [.c (.str [])], none⟩])
 (.seq (.ops [⟨some 7, .pure .move, [.c (.str [])], none⟩])
 (.seq (.seq (.ops [⟨some 8, .pure .move, [.c (.int .i64 0)], none⟩])
 (.block 0
 (.loop [0, 1, 2, 7, 8]
 (.seq (.seq (.ops [⟨some 9, .pure .move, [.t 8], none⟩,
 ⟨some 10, .pure .move, [.t 0], none⟩,
 ⟨some 11, .pure .lenL, [.t 10], none⟩,
 ⟨some 12, .pure (.bin .lss), [.t 9, .t 11], none⟩])
 (.cond (.t 12)
 .skip
 (.exit 0)))
 (.seq (.block 1
 (.seq (.seq (.ops [⟨some 15, .pure .move, [.t 8], none⟩,
 ⟨some 16, .pure (.bin .gtr), [.t 15, .c (.int .i64 0)], none⟩])
 (.cond (.t 16)
 (.ops [⟨some 17, .pure .move, [.t 7], none⟩,
 ⟨some 18, .pure .move, [.t 1], none⟩,
 ⟨some 19, .pure (.bin .add), [.t 17, .t 18], none⟩,
 ⟨some 7, .pure .move, [.t 19], none⟩])
 .skip))
 (.ops [⟨some 20, .pure .move, [.t 7], none⟩,
 ⟨some 21, .pure .move, [.t 0], none⟩,
 ⟨some 22, .pure .move, [.t 8], none⟩,
 ⟨some 23, .pure (.iaddrS 6), [.t 21, .t 22], none⟩,
 ⟨some 24, .read (.load (some 6)), [.t 23], none⟩,
 ⟨some 25, .pure .move, [.t 2], none⟩,
 ⟨some 26, .pcall 417, [.t 24, .t 25], none⟩,
 ⟨some 27, .pure (.bin .add), [.t 20, .t 26], none⟩,
 ⟨some 7, .pure .move, [.t 27], none⟩])))
 (.ops [⟨some 13, .pure .move, [.t 8], none⟩,
 ⟨some 14, .pure (.bin .add), [.t 13, .c (.int .i64 1)], none⟩,
 ⟨some 8, .pure .move, [.t 14], none⟩]))))))
 (.seq (.ops [⟨some 28, .pure .move, [.t 7], none⟩,
 ⟨some 6, .pure .move, [.t 28], none⟩])
 .ret)))) }
/-- datakit/datakitref15.arg -/
def ac417:AFn:=
 { nt:=16, res:=[.tmp 4], body:=
 (.seq (.ops [⟨some 2, .new (.box 6), [.t 0], none⟩,
 ⟨some 4, .pure .move, [.c (.str [])], none⟩])
 (.seq (.seq (.ops [⟨some 5, .pure (.faddr 0), [.t 2], none⟩,
 ⟨some 6, .read (.load none), [.t 5], none⟩,
 ⟨some 7, .pcall 426, [.t 6], none⟩,
 ⟨some 8, .pure .move, [.t 1], none⟩,
 ⟨some 9, .pure (.bin .lss), [.t 7, .t 8], none⟩])
 (.cond (.t 9)
 (.seq (.ops [⟨some 10, .read (.load (some 6)), [.t 2], none⟩,
 ⟨some 11, .pcall 402, [.t 10], none⟩,
 ⟨some 12, .pure (.bin .add), [.c (.str [40]), .t 11], none⟩,
 ⟨some 13, .pure (.bin .add), [.t 12, .c (.str [41])], none⟩,
 ⟨some 4, .pure .move, [.t 13], none⟩])
 .ret)
 .skip))
 (.seq (.ops [⟨some 14, .read (.load (some 6)), [.t 2], none⟩,
 ⟨some 15, .pcall 402, [.t 14], none⟩,
 ⟨some 4, .pure .move, [.t 15], none⟩])
 .ret))) }
/-- datakit/datakitref15.bounds -/
def ac418:AFn:=
 { nt:=41, res:=[.tmp 4], body:=
 (.seq (.ops [⟨some 4, .pure .move, [.c (.str [])], none⟩])
 (.seq (.block 0
 (.seq (.ops [⟨some 6, .pure .move, [.t 0], none⟩,
 ⟨some 7, .pure (.bin .eql), [.t 6, .c (.int .i64 0)], none⟩,
 ⟨some 8, .pure .move, [.t 7], none⟩,
 ⟨some 9, .pure .move, [.t 1], some (8, true)⟩,
 ⟨some 10, .pure (.bin .eql), [.t 9, .c (.int .i64 (-1))], some (8, true)⟩,
 ⟨some 11, .pure .pick, [.t 8, .t 10, .c (.bool false)], none⟩,
 ⟨some 5, .pure .move, [.t 11], none⟩])
 (.cond (.t 5)
 (.seq (.ops [⟨some 4, .pure .move, [.c (.str [42])], none⟩])
 .ret)
 (.seq (.ops [⟨some 13, .pure .move, [.t 0], none⟩,
 ⟨some 14, .pure (.bin .eql), [.t 13, .c (.int .i64 1)], none⟩,
 ⟨some 15, .pure .move, [.t 14], none⟩,
 ⟨some 16, .pure .move, [.t 1], some (15, true)⟩,
 ⟨some 17, .pure (.bin .eql), [.t 16, .c (.int .i64 (-1))], some (15, true)⟩,
 ⟨some 18, .pure .pick, [.t 15, .t 17, .c (.bool false)], none⟩,
 ⟨some 12, .pure .move, [.t 18], none⟩])
 (.cond (.t 12)
 (.seq (.ops [⟨some 4, .pure .move, [.c (.str [43])], none⟩])
 .ret)
 (.seq (.ops [⟨some 20, .pure .move, [.t 0], none⟩,
 ⟨some 21, .pure (.bin .eql), [.t 20, .c (.int .i64 0)], none⟩,
 ⟨some 22, .pure .move, [.t 21], none⟩,
 ⟨some 23, .pure .move, [.t 1], some (22, true)⟩,
 ⟨some 24, .pure (.bin .eql), [.t 23, .c (.int .i64 1)], some (22, true)⟩,
 ⟨some 25, .pure .pick, [.t 22, .t 24, .c (.bool false)], none⟩,
 ⟨some 19, .pure .move, [.t 25], none⟩])
 (.cond (.t 19)
 (.seq (.ops [⟨some 4, .pure .move, [.c (.str [63])], none⟩])
 .ret)
 (.seq (.ops [⟨some 27, .pure .move, [.t 1], none⟩,
 ⟨some 28, .pure (.bin .eql), [.t 27, .c (.int .i64 (-1))], none⟩,
 ⟨some 26, .pure .move, [.t 28], none⟩])
 (.cond (.t 26)
 (.seq (.ops [⟨some 29, .pure .move, [.t 0], none⟩,
 ⟨some 30, .pcall 427, [.t 29], none⟩,
 ⟨some 31, .pure (.bin .add), [.c (.str [123]), .t 30], none⟩,
 ⟨some 32, .pure (.bin .add), [.t 31, .c (.str [44, 125])], none⟩,
 ⟨some 4, .pure .move, [.t 32], none⟩])
 .ret)
 .skip)))))))))
 (.seq (.ops [⟨some 33, .pure .move, [.t 0], none⟩,
 ⟨some 34, .pcall 427, [.t 33], none⟩,
 ⟨some 35, .pure (.bin .add), [.c (.str [123]), .t 34], none⟩,
 ⟨some 36, .pure (.bin .add), [.t 35, .c (.str [44])], none⟩,
 ⟨some 37, .pure .move, [.t 1], none⟩,
 ⟨some 38, .pcall 427, [.t 37], none⟩,
 ⟨some 39, .pure (.bin .add), [.t 36, .t 38], none⟩,
 ⟨some 40, .pure (.bin .add), [.t 39, .c (.str [125])], none⟩,
 ⟨some 4, .pure .move, [.t 40], none⟩])
 .ret))) }
/-- internal/strconv.small -/
def ac419:AFn:=
 { nt:=15, res:=[.tmp 2], body:=
 (.seq (.ops [⟨some 2, .pure .move, [.c (.str [])], none⟩])
 (.seq (.seq (.ops [⟨some 3, .pure .move, [.t 0], none⟩,
 ⟨some 4, .pure (.bin .lss), [.t 3, .c (.int .i64 10)], none⟩])
 (.cond (.t 4)
 (.seq (.ops [⟨some 5, .pure .move, [.t 0], none⟩,
 ⟨some 6, .pure .move, [.t 0], none⟩,
 ⟨some 7, .pure (.bin .add), [.t 6, .c (.int .i64 1)], none⟩,
 ⟨some 8, .pure (.sliceS true true), [.c (.str [48, 49, 50, 51, 52, 53, 54, 55, 56, 57, 97, 98, 99, 100, 101, 102, 103, 104, 105, 106, 107, 108, 109, 110, 111, 112, 113, 114, 115, 116, 117, 118, 119, 120, 121, 122]), .t 5, .t 7], none⟩,
 ⟨some 2, .pure .move, [.t 8], none⟩])
 .ret)
 .skip))
 (.seq (.ops [⟨some 9, .pure .move, [.t 0], none⟩,
 ⟨some 10, .pure (.bin .mul), [.t 9, .c (.int .i64 2)], none⟩,
 ⟨some 11, .pure .move, [.t 0], none⟩,
 ⟨some 12, .pure (.bin .mul), [.t 11, .c (.int .i64 2)], none⟩,
 ⟨some 13, .pure (.bin .add), [.t 12, .c (.int .i64 2)], none⟩,
 ⟨some 14, .pure (.sliceS true true), [.c (.str [48, 48, 48, 49, 48, 50, 48, 51, 48, 52, 48, 53, 48, 54, 48, 55, 48, 56, 48, 57, 49, 48, 49, 49, 49, 50, 49, 51, 49, 52, 49, 53, 49, 54, 49, 55, 49, 56, 49, 57, 50, 48, 50, 49, 50, 50, 50, 51, 50, 52, 50, 53, 50, 54, 50, 55, 50, 56, 50, 57, 51, 48, 51, 49, 51, 50, 51, 51, 51, 52, 51, 53, 51, 54, 51, 55, 51, 56, 51, 57, 52, 48, 52, 49, 52, 50, 52, 51, 52, 52, 52, 53, 52, 54, 52, 55, 52, 56, 52, 57, 53, 48, 53, 49, 53, 50, 53, 51, 53, 52, 53, 53, 53, 54, 53, 55, 53, 56, 53, 57, 54, 48, 54, 49, 54, 50, 54, 51, 54, 52, 54, 53, 54, 54, 54, 55, 54, 56, 54, 57, 55, 48, 55, 49, 55, 50, 55, 51, 55, 52, 55, 53, 55, 54, 55, 55, 55, 56, 55, 57, 56, 48, 56, 49, 56, 50, 56, 51, 56, 52, 56, 53, 56, 54, 56, 55, 56, 56, 56, 57, 57, 48, 57, 49, 57, 50, 57, 51, 57, 52, 57, 53, 57, 54, 57, 55, 57, 56, 57, 57]), .t 10, .t 13], none⟩,
 ⟨some 2, .pure .move, [.t 14], none⟩])
 .ret))) }
/-- internal/strconv.numDigits -/
def ac420:AFn:=
 { nt:=15, res:=[.tmp 2], body:=
 (.seq (.ops [⟨some 2, .pure .move, [.c (.int .i64 0)], none⟩])
 (.seq (.ops [⟨some 4, .pure .move, [.t 0], none⟩,
 ⟨some 5, .pcall 73, [.t 4], none⟩,
 ⟨some 6, .pcall 428, [.t 5], none⟩,
 ⟨some 3, .pure .move, [.t 6], none⟩])
 (.seq (.ops [⟨some 7, .pure .move, [.t 3], none⟩,
 ⟨some 8, .pure .move, [.t 0], none⟩,
 ⟨some 9, .pure .move, [.t 3], none⟩,
 ⟨some 10, .bad, [], none⟩,
 ⟨some 11, .read (.load none), [.t 10], none⟩,
 ⟨some 12, .pure (.bin .geq), [.t 8, .t 11], none⟩,
 ⟨some 13, .pcall 429, [.t 12], none⟩,
 ⟨some 14, .pure (.bin .add), [.t 7, .t 13], none⟩,
 ⟨some 2, .pure .move, [.t 14], none⟩])
 .ret))) }
/-- internal/strconv.formatBase10 -/
def ac421:AFn:=
 { nt:=167, res:=[], body:=
 (.seq (.ops [⟨some 17, .pure .move, [.t 0], none⟩,
 ⟨some 18, .pure .lenL, [.t 17], none⟩,
 ⟨some 4, .pure .move, [.t 18], none⟩])
 (.seq (.block 0
 (.loop [0, 1, 4]
 (.seq (.seq (.ops [⟨some 19, .pure .move, [.t 4], none⟩,
 ⟨some 20, .pure (.bin .geq), [.t 19, .c (.int .i64 8)], none⟩])
 (.cond (.t 20)
 .skip
 (.exit 0)))
 (.block 1
 (.seq (.ops [⟨some 21, .pure .move, [.t 1], none⟩,
 ⟨some 22, .pure (.bin .rem), [.t 21, .c (.int .u64 100000000)], none⟩,
 ⟨some 23, .pure (.conv .u32), [.t 22], none⟩,
 ⟨some 5, .pure .move, [.t 23], none⟩])
 (.seq (.ops [⟨some 24, .pure .move, [.t 1], none⟩,
 ⟨some 25, .pure (.bin .quo), [.t 24, .c (.int .u64 100000000)], none⟩,
 ⟨some 1, .pure .move, [.t 25], none⟩])
 (.seq (.ops [⟨some 26, .pure .move, [.t 5], none⟩,
 ⟨some 27, .pure (.bin .quo), [.t 26, .c (.int .u32 10000)], none⟩,
 ⟨some 28, .pure .move, [.t 5], none⟩,
 ⟨some 29, .pure (.bin .rem), [.t 28, .c (.int .u32 10000)], none⟩,
 ⟨some 6, .pure .move, [.t 27], none⟩,
 ⟨some 7, .pure .move, [.t 29], none⟩])
 (.seq (.ops [⟨some 30, .pure .move, [.t 7], none⟩,
 ⟨some 31, .pure (.bin .quo), [.t 30, .c (.int .u32 100)], none⟩,
 ⟨some 32, .pure (.bin .mul), [.t 31, .c (.int .u32 2)], none⟩,
 ⟨some 33, .pure .move, [.t 7], none⟩,
 ⟨some 34, .pure (.bin .rem), [.t 33, .c (.int .u32 100)], none⟩,
 ⟨some 35, .pure (.bin .mul), [.t 34, .c (.int .u32 2)], none⟩,
 ⟨some 8, .pure .move, [.t 32], none⟩,
 ⟨some 9, .pure .move, [.t 35], none⟩])
 (.seq (.ops [⟨some 36, .pure .move, [.t 6], none⟩,
 ⟨some 37, .pure (.bin .quo), [.t 36, .c (.int .u32 100)], none⟩,
 ⟨some 38, .pure (.bin .mul), [.t 37, .c (.int .u32 2)], none⟩,
 ⟨some 39, .pure .move, [.t 6], none⟩,
 ⟨some 40, .pure (.bin .rem), [.t 39, .c (.int .u32 100)], none⟩,
 ⟨some 41, .pure (.bin .mul), [.t 40, .c (.int .u32 2)], none⟩,
 ⟨some 10, .pure .move, [.t 38], none⟩,
 ⟨some 11, .pure .move, [.t 41], none⟩])
 (.seq (.ops [⟨some 42, .pure .move, [.t 0], none⟩,
 ⟨some 43, .pure .move, [.t 4], none⟩,
 ⟨some 44, .pure (.bin .sub), [.t 43, .c (.int .i64 1)], none⟩,
 ⟨some 45, .pure .move, [.t 0], none⟩,
 ⟨some 46, .pure .move, [.t 4], none⟩,
 ⟨some 47, .pure (.bin .sub), [.t 46, .c (.int .i64 2)], none⟩,
 ⟨some 48, .pure .move, [.t 9], none⟩,
 ⟨some 49, .pure (.bin .add), [.t 48, .c (.int .u32 1)], none⟩,
 ⟨some 50, .pure .idxStr, [.c (.str [48, 48, 48, 49, 48, 50, 48, 51, 48, 52, 48, 53, 48, 54, 48, 55, 48, 56, 48, 57, 49, 48, 49, 49, 49, 50, 49, 51, 49, 52, 49, 53, 49, 54, 49, 55, 49, 56, 49, 57, 50, 48, 50, 49, 50, 50, 50, 51, 50, 52, 50, 53, 50, 54, 50, 55, 50, 56, 50, 57, 51, 48, 51, 49, 51, 50, 51, 51, 51, 52, 51, 53, 51, 54, 51, 55, 51, 56, 51, 57, 52, 48, 52, 49, 52, 50, 52, 51, 52, 52, 52, 53, 52, 54, 52, 55, 52, 56, 52, 57, 53, 48, 53, 49, 53, 50, 53, 51, 53, 52, 53, 53, 53, 54, 53, 55, 53, 56, 53, 57, 54, 48, 54, 49, 54, 50, 54, 51, 54, 52, 54, 53, 54, 54, 54, 55, 54, 56, 54, 57, 55, 48, 55, 49, 55, 50, 55, 51, 55, 52, 55, 53, 55, 54, 55, 55, 55, 56, 55, 57, 56, 48, 56, 49, 56, 50, 56, 51, 56, 52, 56, 53, 56, 54, 56, 55, 56, 56, 56, 57, 57, 48, 57, 49, 57, 50, 57, 51, 57, 52, 57, 53, 57, 54, 57, 55, 57, 56, 57, 57]), .t 49], none⟩,
 ⟨some 51, .pure .move, [.t 9], none⟩,
 ⟨some 52, .pure .idxStr, [.c (.str [48, 48, 48, 49, 48, 50, 48, 51, 48, 52, 48, 53, 48, 54, 48, 55, 48, 56, 48, 57, 49, 48, 49, 49, 49, 50, 49, 51, 49, 52, 49, 53, 49, 54, 49, 55, 49, 56, 49, 57, 50, 48, 50, 49, 50, 50, 50, 51, 50, 52, 50, 53, 50, 54, 50, 55, 50, 56, 50, 57, 51, 48, 51, 49, 51, 50, 51, 51, 51, 52, 51, 53, 51, 54, 51, 55, 51, 56, 51, 57, 52, 48, 52, 49, 52, 50, 52, 51, 52, 52, 52, 53, 52, 54, 52, 55, 52, 56, 52, 57, 53, 48, 53, 49, 53, 50, 53, 51, 53, 52, 53, 53, 53, 54, 53, 55, 53, 56, 53, 57, 54, 48, 54, 49, 54, 50, 54, 51, 54, 52, 54, 53, 54, 54, 54, 55, 54, 56, 54, 57, 55, 48, 55, 49, 55, 50, 55, 51, 55, 52, 55, 53, 55, 54, 55, 55, 55, 56, 55, 57, 56, 48, 56, 49, 56, 50, 56, 51, 56, 52, 56, 53, 56, 54, 56, 55, 56, 56, 56, 57, 57, 48, 57, 49, 57, 50, 57, 51, 57, 52, 57, 53, 57, 54, 57, 55, 57, 56, 57, 57]), .t 51], none⟩,
 ⟨some 53, .pure (.iaddrS 1), [.t 42, .t 44], none⟩,
 ⟨none, .eff (.store 1), [.t 53, .t 50], none⟩,
 ⟨some 54, .pure (.iaddrS 1), [.t 45, .t 47], none⟩,
 ⟨none, .eff (.store 1), [.t 54, .t 52], none⟩])
 (.seq (.ops [⟨some 55, .pure .move, [.t 0], none⟩,
 ⟨some 56, .pure .move, [.t 4], none⟩,
 ⟨some 57, .pure (.bin .sub), [.t 56, .c (.int .i64 3)], none⟩,
 ⟨some 58, .pure .move, [.t 0], none⟩,
 ⟨some 59, .pure .move, [.t 4], none⟩,
 ⟨some 60, .pure (.bin .sub), [.t 59, .c (.int .i64 4)], none⟩,
 ⟨some 61, .pure .move, [.t 8], none⟩,
 ⟨some 62, .pure (.bin .add), [.t 61, .c (.int .u32 1)], none⟩,
 ⟨some 63, .pure .idxStr, [.c (.str [48, 48, 48, 49, 48, 50, 48, 51, 48, 52, 48, 53, 48, 54, 48, 55, 48, 56, 48, 57, 49, 48, 49, 49, 49, 50, 49, 51, 49, 52, 49, 53, 49, 54, 49, 55, 49, 56, 49, 57, 50, 48, 50, 49, 50, 50, 50, 51, 50, 52, 50, 53, 50, 54, 50, 55, 50, 56, 50, 57, 51, 48, 51, 49, 51, 50, 51, 51, 51, 52, 51, 53, 51, 54, 51, 55, 51, 56, 51, 57, 52, 48, 52, 49, 52, 50, 52, 51, 52, 52, 52, 53, 52, 54, 52, 55, 52, 56, 52, 57, 53, 48, 53, 49, 53, 50, 53, 51, 53, 52, 53, 53, 53, 54, 53, 55, 53, 56, 53, 57, 54, 48, 54, 49, 54, 50, 54, 51, 54, 52, 54, 53, 54, 54, 54, 55, 54, 56, 54, 57, 55, 48, 55, 49, 55, 50, 55, 51, 55, 52, 55, 53, 55, 54, 55, 55, 55, 56, 55, 57, 56, 48, 56, 49, 56, 50, 56, 51, 56, 52, 56, 53, 56, 54, 56, 55, 56, 56, 56, 57, 57, 48, 57, 49, 57, 50, 57, 51, 57, 52, 57, 53, 57, 54, 57, 55, 57, 56, 57, 57]), .t 62], none⟩,
 ⟨some 64, .pure .move, [.t 8], none⟩,
 ⟨some 65, .pure .idxStr, [.c (.str [48, 48, 48, 49, 48, 50, 48, 51, 48, 52, 48, 53, 48, 54, 48, 55, 48, 56, 48, 57, 49, 48, 49, 49, 49, 50, 49, 51, 49, 52, 49, 53, 49, 54, 49, 55, 49, 56, 49, 57, 50, 48, 50, 49, 50, 50, 50, 51, 50, 52, 50, 53, 50, 54, 50, 55, 50, 56, 50, 57, 51, 48, 51, 49, 51, 50, 51, 51, 51, 52, 51, 53, 51, 54, 51, 55, 51, 56, 51, 57, 52, 48, 52, 49, 52, 50, 52, 51, 52, 52, 52, 53, 52, 54, 52, 55, 52, 56, 52, 57, 53, 48, 53, 49, 53, 50, 53, 51, 53, 52, 53, 53, 53, 54, 53, 55, 53, 56, 53, 57, 54, 48, 54, 49, 54, 50, 54, 51, 54, 52, 54, 53, 54, 54, 54, 55, 54, 56, 54, 57, 55, 48, 55, 49, 55, 50, 55, 51, 55, 52, 55, 53, 55, 54, 55, 55, 55, 56, 55, 57, 56, 48, 56, 49, 56, 50, 56, 51, 56, 52, 56, 53, 56, 54, 56, 55, 56, 56, 56, 57, 57, 48, 57, 49, 57, 50, 57, 51, 57, 52, 57, 53, 57, 54, 57, 55, 57, 56, 57, 57]), .t 64], none⟩,
 ⟨some 66, .pure (.iaddrS 1), [.t 55, .t 57], none⟩,
 ⟨none, .eff (.store 1), [.t 66, .t 63], none⟩,
 ⟨some 67, .pure (.iaddrS 1), [.t 58, .t 60], none⟩,
 ⟨none, .eff (.store 1), [.t 67, .t 65], none⟩])
 (.seq (.ops [⟨some 68, .pure .move, [.t 0], none⟩,
 ⟨some 69, .pure .move, [.t 4], none⟩,
 ⟨some 70, .pure (.bin .sub), [.t 69, .c (.int .i64 5)], none⟩,
 ⟨some 71, .pure .move, [.t 0], none⟩,
 ⟨some 72, .pure .move, [.t 4], none⟩,
 ⟨some 73, .pure (.bin .sub), [.t 72, .c (.int .i64 6)], none⟩,
 ⟨some 74, .pure .move, [.t 11], none⟩,
 ⟨some 75, .pure (.bin .add), [.t 74, .c (.int .u32 1)], none⟩,
 ⟨some 76, .pure .idxStr, [.c (.str [48, 48, 48, 49, 48, 50, 48, 51, 48, 52, 48, 53, 48, 54, 48, 55, 48, 56, 48, 57, 49, 48, 49, 49, 49, 50, 49, 51, 49, 52, 49, 53, 49, 54, 49, 55, 49, 56, 49, 57, 50, 48, 50, 49, 50, 50, 50, 51, 50, 52, 50, 53, 50, 54, 50, 55, 50, 56, 50, 57, 51, 48, 51, 49, 51, 50, 51, 51, 51, 52, 51, 53, 51, 54, 51, 55, 51, 56, 51, 57, 52, 48, 52, 49, 52, 50, 52, 51, 52, 52, 52, 53, 52, 54, 52, 55, 52, 56, 52, 57, 53, 48, 53, 49, 53, 50, 53, 51, 53, 52, 53, 53, 53, 54, 53, 55, 53, 56, 53, 57, 54, 48, 54, 49, 54, 50, 54, 51, 54, 52, 54, 53, 54, 54, 54, 55, 54, 56, 54, 57, 55, 48, 55, 49, 55, 50, 55, 51, 55, 52, 55, 53, 55, 54, 55, 55, 55, 56, 55, 57, 56, 48, 56, 49, 56, 50, 56, 51, 56, 52, 56, 53, 56, 54, 56, 55, 56, 56, 56, 57, 57, 48, 57, 49, 57, 50, 57, 51, 57, 52, 57, 53, 57, 54, 57, 55, 57, 56, 57, 57]), .t 75], none⟩,
 ⟨some 77, .pure .move, [.t 11], none⟩,
 ⟨some 78, .pure .idxStr, [.c (.str [48, 48, 48, 49, 48, 50, 48, 51, 48, 52, 48, 53, 48, 54, 48, 55, 48, 56, 48, 57, 49, 48, 49, 49, 49, 50, 49, 51, 49, 52, 49, 53, 49, 54, 49, 55, 49, 56, 49, 57, 50, 48, 50, 49, 50, 50, 50, 51, 50, 52, 50, 53, 50, 54, 50, 55, 50, 56, 50, 57, 51, 48, 51, 49, 51, 50, 51, 51, 51, 52, 51, 53, 51, 54, 51, 55, 51, 56, 51, 57, 52, 48, 52, 49, 52, 50, 52, 51, 52, 52, 52, 53, 52, 54, 52, 55, 52, 56, 52, 57, 53, 48, 53, 49, 53, 50, 53, 51, 53, 52, 53, 53, 53, 54, 53, 55, 53, 56, 53, 57, 54, 48, 54, 49, 54, 50, 54, 51, 54, 52, 54, 53, 54, 54, 54, 55, 54, 56, 54, 57, 55, 48, 55, 49, 55, 50, 55, 51, 55, 52, 55, 53, 55, 54, 55, 55, 55, 56, 55, 57, 56, 48, 56, 49, 56, 50, 56, 51, 56, 52, 56, 53, 56, 54, 56, 55, 56, 56, 56, 57, 57, 48, 57, 49, 57, 50, 57, 51, 57, 52, 57, 53, 57, 54, 57, 55, 57, 56, 57, 57]), .t 77], none⟩,
 ⟨some 79, .pure (.iaddrS 1), [.t 68, .t 70], none⟩,
 ⟨none, .eff (.store 1), [.t 79, .t 76], none⟩,
 ⟨some 80, .pure (.iaddrS 1), [.t 71, .t 73], none⟩,
 ⟨none, .eff (.store 1), [.t 80, .t 78], none⟩])
 (.seq (.ops [⟨some 81, .pure .move, [.t 0], none⟩,
 ⟨some 82, .pure .move, [.t 4], none⟩,
 ⟨some 83, .pure (.bin .sub), [.t 82, .c (.int .i64 7)], none⟩,
 ⟨some 84, .pure .move, [.t 0], none⟩,
 ⟨some 85, .pure .move, [.t 4], none⟩,
 ⟨some 86, .pure (.bin .sub), [.t 85, .c (.int .i64 8)], none⟩,
 ⟨some 87, .pure .move, [.t 10], none⟩,
 ⟨some 88, .pure (.bin .add), [.t 87, .c (.int .u32 1)], none⟩,
 ⟨some 89, .pure .idxStr, [.c (.str [48, 48, 48, 49, 48, 50, 48, 51, 48, 52, 48, 53, 48, 54, 48, 55, 48, 56, 48, 57, 49, 48, 49, 49, 49, 50, 49, 51, 49, 52, 49, 53, 49, 54, 49, 55, 49, 56, 49, 57, 50, 48, 50, 49, 50, 50, 50, 51, 50, 52, 50, 53, 50, 54, 50, 55, 50, 56, 50, 57, 51, 48, 51, 49, 51, 50, 51, 51, 51, 52, 51, 53, 51, 54, 51, 55, 51, 56, 51, 57, 52, 48, 52, 49, 52, 50, 52, 51, 52, 52, 52, 53, 52, 54, 52, 55, 52, 56, 52, 57, 53, 48, 53, 49, 53, 50, 53, 51, 53, 52, 53, 53, 53, 54, 53, 55, 53, 56, 53, 57, 54, 48, 54, 49, 54, 50, 54, 51, 54, 52, 54, 53, 54, 54, 54, 55, 54, 56, 54, 57, 55, 48, 55, 49, 55, 50, 55, 51, 55, 52, 55, 53, 55, 54, 55, 55, 55, 56, 55, 57, 56, 48, 56, 49, 56, 50, 56, 51, 56, 52, 56, 53, 56, 54, 56, 55, 56, 56, 56, 57, 57, 48, 57, 49, 57, 50, 57, 51, 57, 52, 57, 53, 57, 54, 57, 55, 57, 56, 57, 57]), .t 88], none⟩,
 ⟨some 90, .pure .move, [.t 10], none⟩,
 ⟨some 91, .pure .idxStr, [.c (.str [48, 48, 48, 49, 48, 50, 48, 51, 48, 52, 48, 53, 48, 54, 48, 55, 48, 56, 48, 57, 49, 48, 49, 49, 49, 50, 49, 51, 49, 52, 49, 53, 49, 54, 49, 55, 49, 56, 49, 57, 50, 48, 50, 49, 50, 50, 50, 51, 50, 52, 50, 53, 50, 54, 50, 55, 50, 56, 50, 57, 51, 48, 51, 49, 51, 50, 51, 51, 51, 52, 51, 53, 51, 54, 51, 55, 51, 56, 51, 57, 52, 48, 52, 49, 52, 50, 52, 51, 52, 52, 52, 53, 52, 54, 52, 55, 52, 56, 52, 57, 53, 48, 53, 49, 53, 50, 53, 51, 53, 52, 53, 53, 53, 54, 53, 55, 53, 56, 53, 57, 54, 48, 54, 49, 54, 50, 54, 51, 54, 52, 54, 53, 54, 54, 54, 55, 54, 56, 54, 57, 55, 48, 55, 49, 55, 50, 55, 51, 55, 52, 55, 53, 55, 54, 55, 55, 55, 56, 55, 57, 56, 48, 56, 49, 56, 50, 56, 51, 56, 52, 56, 53, 56, 54, 56, 55, 56, 56, 56, 57, 57, 48, 57, 49, 57, 50, 57, 51, 57, 52, 57, 53, 57, 54, 57, 55, 57, 56, 57, 57]), .t 90], none⟩,
 ⟨some 92, .pure (.iaddrS 1), [.t 81, .t 83], none⟩,
 ⟨none, .eff (.store 1), [.t 92, .t 89], none⟩,
 ⟨some 93, .pure (.iaddrS 1), [.t 84, .t 86], none⟩,
 ⟨none, .eff (.store 1), [.t 93, .t 91], none⟩])
 (.ops [⟨some 94, .pure .move, [.t 4], none⟩,
 ⟨some 95, .pure (.bin .sub), [.t 94, .c (.int .i64 8)], none⟩,
 ⟨some 4, .pure .move, [.t 95], none⟩]))))))))))))))
 (.seq (.ops [⟨some 96, .pure .move, [.t 1], none⟩,
 ⟨some 97, .pure (.conv .u32), [.t 96], none⟩,
 ⟨some 12, .pure .move, [.t 97], none⟩])
 (.seq (.seq (.ops [⟨some 98, .pure .move, [.t 4], none⟩,
 ⟨some 99, .pure (.bin .geq), [.t 98, .c (.int .i64 4)], none⟩])
 (.cond (.t 99)
 (.seq (.ops [⟨some 100, .pure .move, [.t 12], none⟩,
 ⟨some 101, .pure (.bin .rem), [.t 100, .c (.int .u32 10000)], none⟩,
 ⟨some 13, .pure .move, [.t 101], none⟩])
 (.seq (.ops [⟨some 102, .pure .move, [.t 12], none⟩,
 ⟨some 103, .pure (.bin .quo), [.t 102, .c (.int .u32 10000)], none⟩,
 ⟨some 12, .pure .move, [.t 103], none⟩])
 (.seq (.ops [⟨some 104, .pure .move, [.t 13], none⟩,
 ⟨some 105, .pure (.bin .quo), [.t 104, .c (.int .u32 100)], none⟩,
 ⟨some 106, .pure (.bin .mul), [.t 105, .c (.int .u32 2)], none⟩,
 ⟨some 107, .pure .move, [.t 13], none⟩,
 ⟨some 108, .pure (.bin .rem), [.t 107, .c (.int .u32 100)], none⟩,
 ⟨some 109, .pure (.bin .mul), [.t 108, .c (.int .u32 2)], none⟩,
 ⟨some 14, .pure .move, [.t 106], none⟩,
 ⟨some 15, .pure .move, [.t 109], none⟩])
 (.seq (.ops [⟨some 110, .pure .move, [.t 0], none⟩,
 ⟨some 111, .pure .move, [.t 4], none⟩,
 ⟨some 112, .pure (.bin .sub), [.t 111, .c (.int .i64 1)], none⟩,
 ⟨some 113, .pure .move, [.t 0], none⟩,
 ⟨some 114, .pure .move, [.t 4], none⟩,
 ⟨some 115, .pure (.bin .sub), [.t 114, .c (.int .i64 2)], none⟩,
 ⟨some 116, .pure .move, [.t 15], none⟩,
 ⟨some 117, .pure (.bin .add), [.t 116, .c (.int .u32 1)], none⟩,
 ⟨some 118, .pure .idxStr, [.c (.str [48, 48, 48, 49, 48, 50, 48, 51, 48, 52, 48, 53, 48, 54, 48, 55, 48, 56, 48, 57, 49, 48, 49, 49, 49, 50, 49, 51, 49, 52, 49, 53, 49, 54, 49, 55, 49, 56, 49, 57, 50, 48, 50, 49, 50, 50, 50, 51, 50, 52, 50, 53, 50, 54, 50, 55, 50, 56, 50, 57, 51, 48, 51, 49, 51, 50, 51, 51, 51, 52, 51, 53, 51, 54, 51, 55, 51, 56, 51, 57, 52, 48, 52, 49, 52, 50, 52, 51, 52, 52, 52, 53, 52, 54, 52, 55, 52, 56, 52, 57, 53, 48, 53, 49, 53, 50, 53, 51, 53, 52, 53, 53, 53, 54, 53, 55, 53, 56, 53, 57, 54, 48, 54, 49, 54, 50, 54, 51, 54, 52, 54, 53, 54, 54, 54, 55, 54, 56, 54, 57, 55, 48, 55, 49, 55, 50, 55, 51, 55, 52, 55, 53, 55, 54, 55, 55, 55, 56, 55, 57, 56, 48, 56, 49, 56, 50, 56, 51, 56, 52, 56, 53, 56, 54, 56, 55, 56, 56, 56, 57, 57, 48, 57, 49, 57, 50, 57, 51, 57, 52, 57, 53, 57, 54, 57, 55, 57, 56, 57, 57]), .t 117], none⟩,
 ⟨some 119, .pure .move, [.t 15], none⟩,
 ⟨some 120, .pure .idxStr, [.c (.str [48, 48, 48, 49, 48, 50, 48, 51, 48, 52, 48, 53, 48, 54, 48, 55, 48, 56, 48, 57, 49, 48, 49, 49, 49, 50, 49, 51, 49, 52, 49, 53, 49, 54, 49, 55, 49, 56, 49, 57, 50, 48, 50, 49, 50, 50, 50, 51, 50, 52, 50, 53, 50, 54, 50, 55, 50, 56, 50, 57, 51, 48, 51, 49, 51, 50, 51, 51, 51, 52, 51, 53, 51, 54, 51, 55, 51, 56, 51, 57, 52, 48, 52, 49, 52, 50, 52, 51, 52, 52, 52, 53, 52, 54, 52, 55, 52, 56, 52, 57, 53, 48, 53, 49, 53, 50, 53, 51, 53, 52, 53, 53, 53, 54, 53, 55, 53, 56, 53, 57, 54, 48, 54, 49, 54, 50, 54, 51, 54, 52, 54, 53, 54, 54, 54, 55, 54, 56, 54, 57, 55, 48, 55, 49, 55, 50, 55, 51, 55, 52, 55, 53, 55, 54, 55, 55, 55, 56, 55, 57, 56, 48, 56, 49, 56, 50, 56, 51, 56, 52, 56, 53, 56, 54, 56, 55, 56, 56, 56, 57, 57, 48, 57, 49, 57, 50, 57, 51, 57, 52, 57, 53, 57, 54, 57, 55, 57, 56, 57, 57]), .t 119], none⟩,
 ⟨some 121, .pure (.iaddrS 1), [.t 110, .t 112], none⟩,
 ⟨none, .eff (.store 1), [.t 121, .t 118], none⟩,
 ⟨some 122, .pure (.iaddrS 1), [.t 113, .t 115], none⟩,
 ⟨none, .eff (.store 1), [.t 122, .t 120], none⟩])
 (.seq (.ops [⟨some 123, .pure .move, [.t 0], none⟩,
 ⟨some 124, .pure .move, [.t 4], none⟩,
 ⟨some 125, .pure (.bin .sub), [.t 124, .c (.int .i64 3)], none⟩,
 ⟨some 126, .pure .move, [.t 0], none⟩,
 ⟨some 127, .pure .move, [.t 4], none⟩,
 ⟨some 128, .pure (.bin .sub), [.t 127, .c (.int .i64 4)], none⟩,
 ⟨some 129, .pure .move, [.t 14], none⟩,
 ⟨some 130, .pure (.bin .add), [.t 129, .c (.int .u32 1)], none⟩,
 ⟨some 131, .pure .idxStr, [.c (.str [48, 48, 48, 49, 48, 50, 48, 51, 48, 52, 48, 53, 48, 54, 48, 55, 48, 56, 48, 57, 49, 48, 49, 49, 49, 50, 49, 51, 49, 52, 49, 53, 49, 54, 49, 55, 49, 56, 49, 57, 50, 48, 50, 49, 50, 50, 50, 51, 50, 52, 50, 53, 50, 54, 50, 55, 50, 56, 50, 57, 51, 48, 51, 49, 51, 50, 51, 51, 51, 52, 51, 53, 51, 54, 51, 55, 51, 56, 51, 57, 52, 48, 52, 49, 52, 50, 52, 51, 52, 52, 52, 53, 52, 54, 52, 55, 52, 56, 52, 57, 53, 48, 53, 49, 53, 50, 53, 51, 53, 52, 53, 53, 53, 54, 53, 55, 53, 56, 53, 57, 54, 48, 54, 49, 54, 50, 54, 51, 54, 52, 54, 53, 54, 54, 54, 55, 54, 56, 54, 57, 55, 48, 55, 49, 55, 50, 55, 51, 55, 52, 55, 53, 55, 54, 55, 55, 55, 56, 55, 57, 56, 48, 56, 49, 56, 50, 56, 51, 56, 52, 56, 53, 56, 54, 56, 55, 56, 56, 56, 57, 57, 48, 57, 49, 57, 50, 57, 51, 57, 52, 57, 53, 57, 54, 57, 55, 57, 56, 57, 57]), .t 130], none⟩,
 ⟨some 132, .pure .move, [.t 14], none⟩,
 ⟨some 133, .pure .idxStr, [.c (.str [48, 48, 48, 49, 48, 50, 48, 51, 48, 52, 48, 53, 48, 54, 48, 55, 48, 56, 48, 57, 49, 48, 49, 49, 49, 50, 49, 51, 49, 52, 49, 53, 49, 54, 49, 55, 49, 56, 49, 57, 50, 48, 50, 49, 50, 50, 50, 51, 50, 52, 50, 53, 50, 54, 50, 55, 50, 56, 50, 57, 51, 48, 51, 49, 51, 50, 51, 51, 51, 52, 51, 53, 51, 54, 51, 55, 51, 56, 51, 57, 52, 48, 52, 49, 52, 50, 52, 51, 52, 52, 52, 53, 52, 54, 52, 55, 52, 56, 52, 57, 53, 48, 53, 49, 53, 50, 53, 51, 53, 52, 53, 53, 53, 54, 53, 55, 53, 56, 53, 57, 54, 48, 54, 49, 54, 50, 54, 51, 54, 52, 54, 53, 54, 54, 54, 55, 54, 56, 54, 57, 55, 48, 55, 49, 55, 50, 55, 51, 55, 52, 55, 53, 55, 54, 55, 55, 55, 56, 55, 57, 56, 48, 56, 49, 56, 50, 56, 51, 56, 52, 56, 53, 56, 54, 56, 55, 56, 56, 56, 57, 57, 48, 57, 49, 57, 50, 57, 51, 57, 52, 57, 53, 57, 54, 57, 55, 57, 56, 57, 57]), .t 132], none⟩,
 ⟨some 134, .pure (.iaddrS 1), [.t 123, .t 125], none⟩,
 ⟨none, .eff (.store 1), [.t 134, .t 131], none⟩,
 ⟨some 135, .pure (.iaddrS 1), [.t 126, .t 128], none⟩,
 ⟨none, .eff (.store 1), [.t 135, .t 133], none⟩])
 (.ops [⟨some 136, .pure .move, [.t 4], none⟩,
 ⟨some 137, .pure (.bin .sub), [.t 136, .c (.int .i64 4)], none⟩,
 ⟨some 4, .pure .move, [.t 137], none⟩]))))))
 .skip))
 (.seq (.seq (.ops [⟨some 138, .pure .move, [.t 4], none⟩,
 ⟨some 139, .pure (.bin .geq), [.t 138, .c (.int .i64 2)], none⟩])
 (.cond (.t 139)
 (.seq (.ops [⟨some 140, .pure .move, [.t 12], none⟩,
 ⟨some 141, .pure (.bin .rem), [.t 140, .c (.int .u32 100)], none⟩,
 ⟨some 142, .pure (.bin .mul), [.t 141, .c (.int .u32 2)], none⟩,
 ⟨some 16, .pure .move, [.t 142], none⟩])
 (.seq (.ops [⟨some 143, .pure .move, [.t 12], none⟩,
 ⟨some 144, .pure (.bin .quo), [.t 143, .c (.int .u32 100)], none⟩,
 ⟨some 12, .pure .move, [.t 144], none⟩])
 (.seq (.ops [⟨some 145, .pure .move, [.t 0], none⟩,
 ⟨some 146, .pure .move, [.t 4], none⟩,
 ⟨some 147, .pure (.bin .sub), [.t 146, .c (.int .i64 1)], none⟩,
 ⟨some 148, .pure .move, [.t 0], none⟩,
 ⟨some 149, .pure .move, [.t 4], none⟩,
 ⟨some 150, .pure (.bin .sub), [.t 149, .c (.int .i64 2)], none⟩,
 ⟨some 151, .pure .move, [.t 16], none⟩,
 ⟨some 152, .pure (.bin .add), [.t 151, .c (.int .u32 1)], none⟩,
 ⟨some 153, .pure .idxStr, [.c (.str [48, 48, 48, 49, 48, 50, 48, 51, 48, 52, 48, 53, 48, 54, 48, 55, 48, 56, 48, 57, 49, 48, 49, 49, 49, 50, 49, 51, 49, 52, 49, 53, 49, 54, 49, 55, 49, 56, 49, 57, 50, 48, 50, 49, 50, 50, 50, 51, 50, 52, 50, 53, 50, 54, 50, 55, 50, 56, 50, 57, 51, 48, 51, 49, 51, 50, 51, 51, 51, 52, 51, 53, 51, 54, 51, 55, 51, 56, 51, 57, 52, 48, 52, 49, 52, 50, 52, 51, 52, 52, 52, 53, 52, 54, 52, 55, 52, 56, 52, 57, 53, 48, 53, 49, 53, 50, 53, 51, 53, 52, 53, 53, 53, 54, 53, 55, 53, 56, 53, 57, 54, 48, 54, 49, 54, 50, 54, 51, 54, 52, 54, 53, 54, 54, 54, 55, 54, 56, 54, 57, 55, 48, 55, 49, 55, 50, 55, 51, 55, 52, 55, 53, 55, 54, 55, 55, 55, 56, 55, 57, 56, 48, 56, 49, 56, 50, 56, 51, 56, 52, 56, 53, 56, 54, 56, 55, 56, 56, 56, 57, 57, 48, 57, 49, 57, 50, 57, 51, 57, 52, 57, 53, 57, 54, 57, 55, 57, 56, 57, 57]), .t 152], none⟩,
 ⟨some 154, .pure .move, [.t 16], none⟩,
 ⟨some 155, .pure .idxStr, [.c (.str [48, 48, 48, 49, 48, 50, 48, 51, 48, 52, 48, 53, 48, 54, 48, 55, 48, 56, 48, 57, 49, 48, 49, 49, 49, 50, 49, 51, 49, 52, 49, 53, 49, 54, 49, 55, 49, 56, 49, 57, 50, 48, 50, 49, 50, 50, 50, 51, 50, 52, 50, 53, 50, 54, 50, 55, 50, 56, 50, 57, 51, 48, 51, 49, 51, 50, 51, 51, 51, 52, 51, 53, 51, 54, 51, 55, 51, 56, 51, 57, 52, 48, 52, 49, 52, 50, 52, 51, 52, 52, 52, 53, 52, 54, 52, 55, 52, 56, 52, 57, 53, 48, 53, 49, 53, 50, 53, 51, 53, 52, 53, 53, 53, 54, 53, 55, 53, 56, 53, 57, 54, 48, 54, 49, 54, 50, 54, 51, 54, 52, 54, 53, 54, 54, 54, 55, 54, 56, 54, 57, 55, 48, 55, 49, 55, 50, 55, 51, 55, 52, 55, 53, 55, 54, 55, 55, 55, 56, 55, 57, 56, 48, 56, 49, 56, 50, 56, 51, 56, 52, 56, 53, 56, 54, 56, 55, 56, 56, 56, 57, 57, 48, 57, 49, 57, 50, 57, 51, 57, 52, 57, 53, 57, 54, 57, 55, 57, 56, 57, 57]), .t 154], none⟩,
 ⟨some 156, .pure (.iaddrS 1), [.t 145, .t 147], none⟩,
 ⟨none, .eff (.store 1), [.t 156, .t 153], none⟩,
 ⟨some 157, .pure (.iaddrS 1), [.t 148, .t 150], none⟩,
 ⟨none, .eff (.store 1), [.t 157, .t 155], none⟩])
 (.ops [⟨some 158, .pure .move, [.t 4], none⟩,
 ⟨some 159, .pure (.bin .sub), [.t 158, .c (.int .i64 2)], none⟩,
 ⟨some 4, .pure .move, [.t 159], none⟩]))))
 .skip))
 (.seq (.ops [⟨some 160, .pure .move, [.t 4], none⟩,
 ⟨some 161, .pure (.bin .gtr), [.t 160, .c (.int .i64 0)], none⟩])
 (.cond (.t 161)
 (.ops [⟨some 162, .pure .move, [.t 0], none⟩,
 ⟨some 163, .pure .move, [.t 12], none⟩,
 ⟨some 164, .pure (.bin .add), [.c (.int .u32 48), .t 163], none⟩,
 ⟨some 165, .pure (.conv .u8), [.t 164], none⟩,
 ⟨some 166, .pure (.iaddrS 1), [.t 162, .c (.int .i64 0)], none⟩,
 ⟨none, .eff (.store 1), [.t 166, .t 165], none⟩])
 .skip))))))) }
/-- internal/strconv.formatBits -/
def ac422:AFn:=
 { nt:=102, res:=[.tmp 10, .tmp 11], body:=
 (.seq (.ops [⟨some 10, .pure .move, [.c (.snil 1)], none⟩,
 ⟨some 11, .pure .move, [.c (.str [])], none⟩])
 (.seq (.seq (.ops [⟨some 19, .pure .move, [.t 2], none⟩,
 ⟨some 20, .pure (.bin .lss), [.t 19, .c (.int .i64 2)], none⟩,
 ⟨some 21, .pure .move, [.t 20], none⟩,
 ⟨some 22, .pure .move, [.t 2], some (21, false)⟩,
 ⟨some 23, .pure (.bin .eql), [.t 22, .c (.int .i64 10)], some (21, false)⟩,
 ⟨some 24, .pure .pick, [.t 21, .c (.bool true), .t 23], none⟩,
 ⟨some 25, .pure .move, [.t 24], none⟩,
 ⟨some 26, .pure .move, [.t 2], some (25, false)⟩,
 ⟨some 27, .pure (.bin .gtr), [.t 26, .c (.int .i64 36)], some (25, false)⟩,
 ⟨some 28, .pure .pick, [.t 25, .c (.bool true), .t 27], none⟩])
 (.cond (.t 28)
 (.ops [⟨some 29, .pure (.mkifc 9), [.c (.str [115, 116, 114, 99, 111, 110, 118, 58, 32, 105, 108, 108, 101, 103, 97, 108, 32, 65, 112, 112, 101, 110, 100, 73, 110, 116, 47, 70, 111, 114, 109, 97, 116, 73, 110, 116, 32, 98, 97, 115, 101])], none⟩,
 ⟨none, .bad, [], none⟩])
 .skip))
 (.seq (.ops [⟨some 12, .new (.new 1 [.int .u8 0, .int .u8 0, .int .u8 0, .int .u8 0, .int .u8 0, .int .u8 0, .int .u8 0, .int .u8 0, .int .u8 0, .int .u8 0, .int .u8 0, .int .u8 0, .int .u8 0, .int .u8 0, .int .u8 0, .int .u8 0, .int .u8 0, .int .u8 0, .int .u8 0, .int .u8 0, .int .u8 0, .int .u8 0, .int .u8 0, .int .u8 0, .int .u8 0, .int .u8 0, .int .u8 0, .int .u8 0, .int .u8 0, .int .u8 0, .int .u8 0, .int .u8 0, .int .u8 0, .int .u8 0, .int .u8 0, .int .u8 0, .int .u8 0, .int .u8 0, .int .u8 0, .int .u8 0, .int .u8 0, .int .u8 0, .int .u8 0, .int .u8 0, .int .u8 0, .int .u8 0, .int .u8 0, .int .u8 0, .int .u8 0, .int .u8 0, .int .u8 0, .int .u8 0, .int .u8 0, .int .u8 0, .int .u8 0, .int .u8 0, .int .u8 0, .int .u8 0, .int .u8 0, .int .u8 0, .int .u8 0, .int .u8 0, .int .u8 0, .int .u8 0, .int .u8 0]), [], none⟩])
 (.seq (.ops [⟨some 13, .pure .move, [.c (.int .i64 65)], none⟩])
 (.seq (.seq (.ops [⟨some 30, .pure .move, [.t 3], none⟩])
 (.cond (.t 30)
 (.ops [⟨some 31, .pure .move, [.t 1], none⟩,
 ⟨some 32, .pure (.un .neg), [.t 31], none⟩,
 ⟨some 1, .pure .move, [.t 32], none⟩])
 .skip))
 (.seq (.seq (.ops [⟨some 33, .pure .move, [.t 2], none⟩,
 ⟨some 34, .pcall 430, [.t 33], none⟩])
 (.cond (.t 34)
 (.seq (.ops [⟨some 35, .pure .move, [.t 2], none⟩,
 ⟨some 36, .pure (.conv .u64), [.t 35], none⟩,
 ⟨some 37, .pcall 431, [.t 36], none⟩,
 ⟨some 38, .pure (.conv .u64), [.t 37], none⟩,
 ⟨some 14, .pure .move, [.t 38], none⟩])
 (.seq (.ops [⟨some 39, .pure .move, [.t 2], none⟩,
 ⟨some 40, .pure (.conv .u64), [.t 39], none⟩,
 ⟨some 15, .pure .move, [.t 40], none⟩])
 (.seq (.ops [⟨some 41, .pure .move, [.t 2], none⟩,
 ⟨some 42, .pure (.conv .u64), [.t 41], none⟩,
 ⟨some 43, .pure (.bin .sub), [.t 42, .c (.int .u64 1)], none⟩,
 ⟨some 16, .pure .move, [.t 43], none⟩])
 (.seq (.block 0
 (.loop [0, 1, 3, 4, 10, 11, 12, 13, 14, 15, 16]
 (.seq (.seq (.ops [⟨some 44, .pure .move, [.t 1], none⟩,
 ⟨some 45, .pure .move, [.t 15], none⟩,
 ⟨some 46, .pure (.bin .geq), [.t 44, .t 45], none⟩])
 (.cond (.t 46)
 .skip
 (.exit 0)))
 (.block 1
 (.seq (.ops [⟨some 47, .pure .move, [.t 13], none⟩,
 ⟨some 48, .pure (.bin .sub), [.t 47, .c (.int .i64 1)], none⟩,
 ⟨some 13, .pure .move, [.t 48], none⟩])
 (.seq (.ops [⟨some 49, .pure .move, [.t 13], none⟩,
 ⟨some 50, .pure .move, [.t 1], none⟩,
 ⟨some 51, .pure .move, [.t 16], none⟩,
 ⟨some 52, .pure (.bin .and), [.t 50, .t 51], none⟩,
 ⟨some 53, .pure .idxStr, [.c (.str [48, 49, 50, 51, 52, 53, 54, 55, 56, 57, 97, 98, 99, 100, 101, 102, 103, 104, 105, 106, 107, 108, 109, 110, 111, 112, 113, 114, 115, 116, 117, 118, 119, 120, 121, 122]), .t 52], none⟩,
 ⟨some 54, .pure (.iaddrA 65 1), [.t 12, .t 49], none⟩,
 ⟨none, .eff (.store 1), [.t 54, .t 53], none⟩])
 (.ops [⟨some 55, .pure .move, [.t 1], none⟩,
 ⟨some 56, .pure .move, [.t 14], none⟩,
 ⟨some 57, .pure (.bin .shr), [.t 55, .t 56], none⟩,
 ⟨some 1, .pure .move, [.t 57], none⟩])))))))
 (.seq (.ops [⟨some 58, .pure .move, [.t 13], none⟩,
 ⟨some 59, .pure (.bin .sub), [.t 58, .c (.int .i64 1)], none⟩,
 ⟨some 13, .pure .move, [.t 59], none⟩])
 (.ops [⟨some 60, .pure .move, [.t 13], none⟩,
 ⟨some 61, .pure .move, [.t 1], none⟩,
 ⟨some 62, .pure .idxStr, [.c (.str [48, 49, 50, 51, 52, 53, 54, 55, 56, 57, 97, 98, 99, 100, 101, 102, 103, 104, 105, 106, 107, 108, 109, 110, 111, 112, 113, 114, 115, 116, 117, 118, 119, 120, 121, 122]), .t 61], none⟩,
 ⟨some 63, .pure (.iaddrA 65 1), [.t 12, .t 60], none⟩,
 ⟨none, .eff (.store 1), [.t 63, .t 62], none⟩]))))))
 (.seq (.ops [⟨some 64, .pure .move, [.t 2], none⟩,
 ⟨some 65, .pure (.conv .u64), [.t 64], none⟩,
 ⟨some 17, .pure .move, [.t 65], none⟩])
 (.seq (.block 2
 (.loop [0, 1, 3, 4, 10, 11, 12, 13, 17]
 (.seq (.seq (.ops [⟨some 66, .pure .move, [.t 1], none⟩,
 ⟨some 67, .pure .move, [.t 17], none⟩,
 ⟨some 68, .pure (.bin .geq), [.t 66, .t 67], none⟩])
 (.cond (.t 68)
 .skip
 (.exit 2)))
 (.block 3
 (.seq (.ops [⟨some 69, .pure .move, [.t 13], none⟩,
 ⟨some 70, .pure (.bin .sub), [.t 69, .c (.int .i64 1)], none⟩,
 ⟨some 13, .pure .move, [.t 70], none⟩])
 (.seq (.ops [⟨some 71, .pure .move, [.t 1], none⟩,
 ⟨some 72, .pure .move, [.t 17], none⟩,
 ⟨some 73, .pure (.bin .quo), [.t 71, .t 72], none⟩,
 ⟨some 18, .pure .move, [.t 73], none⟩])
 (.seq (.ops [⟨some 74, .pure .move, [.t 13], none⟩,
 ⟨some 75, .pure .move, [.t 1], none⟩,
 ⟨some 76, .pure .move, [.t 18], none⟩,
 ⟨some 77, .pure .move, [.t 17], none⟩,
 ⟨some 78, .pure (.bin .mul), [.t 76, .t 77], none⟩,
 ⟨some 79, .pure (.bin .sub), [.t 75, .t 78], none⟩,
 ⟨some 80, .pure .idxStr, [.c (.str [48, 49, 50, 51, 52, 53, 54, 55, 56, 57, 97, 98, 99, 100, 101, 102, 103, 104, 105, 106, 107, 108, 109, 110, 111, 112, 113, 114, 115, 116, 117, 118, 119, 120, 121, 122]), .t 79], none⟩,
 ⟨some 81, .pure (.iaddrA 65 1), [.t 12, .t 74], none⟩,
 ⟨none, .eff (.store 1), [.t 81, .t 80], none⟩])
 (.ops [⟨some 82, .pure .move, [.t 18], none⟩,
 ⟨some 1, .pure .move, [.t 82], none⟩]))))))))
 (.seq (.ops [⟨some 83, .pure .move, [.t 13], none⟩,
 ⟨some 84, .pure (.bin .sub), [.t 83, .c (.int .i64 1)], none⟩,
 ⟨some 13, .pure .move, [.t 84], none⟩])
 (.ops [⟨some 85, .pure .move, [.t 13], none⟩,
 ⟨some 86, .pure .move, [.t 1], none⟩,
 ⟨some 87, .pure .idxStr, [.c (.str [48, 49, 50, 51, 52, 53, 54, 55, 56, 57, 97, 98, 99, 100, 101, 102, 103, 104, 105, 106, 107, 108, 109, 110, 111, 112, 113, 114, 115, 116, 117, 118, 119, 120, 121, 122]), .t 86], none⟩,
 ⟨some 88, .pure (.iaddrA 65 1), [.t 12, .t 85], none⟩,
 ⟨none, .eff (.store 1), [.t 88, .t 87], none⟩]))))))
 (.seq (.seq (.ops [⟨some 89, .pure .move, [.t 3], none⟩])
 (.cond (.t 89)
 (.seq (.ops [⟨some 90, .pure .move, [.t 13], none⟩,
 ⟨some 91, .pure (.bin .sub), [.t 90, .c (.int .i64 1)], none⟩,
 ⟨some 13, .pure .move, [.t 91], none⟩])
 (.ops [⟨some 92, .pure .move, [.t 13], none⟩,
 ⟨some 93, .pure (.iaddrA 65 1), [.t 12, .t 92], none⟩,
 ⟨none, .eff (.store 1), [.t 93, .c (.int .u8 45)], none⟩]))
 .skip))
 (.seq (.seq (.ops [⟨some 94, .pure .move, [.t 4], none⟩])
 (.cond (.t 94)
 (.seq (.ops [⟨some 95, .pure .move, [.t 0], none⟩,
 ⟨some 96, .pure .move, [.t 13], none⟩,
 ⟨some 97, .bad, [], none⟩,
 ⟨some 98, .eff (.append 1 1), [.t 95, .t 97], none⟩,
 ⟨some 10, .pure .move, [.t 98], none⟩])
 .ret)
 .skip))
 (.seq (.ops [⟨some 99, .pure .move, [.t 13], none⟩,
 ⟨some 100, .bad, [], none⟩,
 ⟨some 101, .read .bytesStr, [.t 100], none⟩,
 ⟨some 11, .pure .move, [.t 101], none⟩])
 .ret))))))))) }
/-- (datakit/automaton.combo).key -/
def ac423:AFn:=
 { nt:=25, res:=[.tmp 2], body:=
 (.seq (.ops [⟨some 1, .new (.box 3), [.t 0], none⟩,
 ⟨some 2, .pure .move, [.c (.str [])], none⟩])
 (.seq (.ops [⟨some 6, .pure (.faddr 1), [.t 1], none⟩,
 ⟨some 7, .read (.load none), [.t 6], none⟩,
 ⟨some 8, .pcall 371, [.t 7], none⟩,
 ⟨some 3, .pure .move, [.t 8], none⟩])
 (.seq (.seq (.ops [⟨some 9, .pure (.faddr 0), [.t 1], none⟩,
 ⟨some 10, .read (.load none), [.t 9], none⟩])
 (.cond (.t 10)
 (.ops [⟨some 3, .pure .move, [.c (.str [102, 105, 114, 115, 116])], none⟩])
 .skip))
 (.seq (.seq (.ops [⟨some 11, .pure (.faddr 2), [.t 1], none⟩,
 ⟨some 12, .read (.load none), [.t 11], none⟩,
 ⟨some 13, .pure .lenL, [.t 12], none⟩,
 ⟨some 14, .pure .move, [.c (.int .i64 0)], none⟩])
 (.block 0
 (.loop [3, 12, 13, 14]
 (.seq (.ops [⟨some 15, .pure (.bin .lss), [.t 14, .t 13], none⟩])
 (.seq (.cond (.t 15)
 .skip
 (.exit 0))
 (.seq (.block 1
 (.seq (.ops [⟨some 16, .pure (.iaddrS 1), [.t 12, .t 14], none⟩,
 ⟨some 17, .read (.load none), [.t 16], none⟩,
 ⟨some 5, .pure .move, [.t 17], none⟩])
 (.ops [⟨some 18, .pure .move, [.t 3], none⟩,
 ⟨some 19, .pure .move, [.t 5], none⟩,
 ⟨some 20, .pcall 371, [.t 19], none⟩,
 ⟨some 21, .pure (.bin .add), [.c (.str [44]), .t 20], none⟩,
 ⟨some 22, .pure (.bin .add), [.t 18, .t 21], none⟩,
 ⟨some 3, .pure .move, [.t 22], none⟩])))
 (.ops [⟨some 23, .pure (.bin .add), [.t 14, .c (.int .i64 1)], none⟩,
 ⟨some 14, .pure .move, [.t 23], none⟩])))))))
 (.seq (.ops [⟨some 24, .pure .move, [.t 3], none⟩,
 ⟨some 2, .pure .move, [.t 24], none⟩])
 .ret))))) }
/-- datakit/automaton.some$1 -/
def ac424:AFn:=
 { nt:=10, res:=[.tmp 3], body:=
 (.seq (.ops [⟨some 3, .pure .move, [.c (.bool false)], none⟩])
 (.seq (.ops [⟨some 4, .pure (.faddr 0), [.t 1], none⟩,
 ⟨some 5, .read (.load none), [.t 4], none⟩,
 ⟨some 6, .pure .move, [.t 0], none⟩,
 ⟨some 7, .pure (.iaddrS 2), [.t 5, .t 6], none⟩,
 ⟨some 8, .pure (.faddr 0), [.t 7], none⟩,
 ⟨some 9, .read (.load none), [.t 8], none⟩,
 ⟨some 3, .pure .move, [.t 9], none⟩])
 .ret)) }
/-- datakit/datakitref15.not -/
def ac425:AFn:=
 { nt:=72, res:=[.cell 6 (some 6), .tmp 7, .tmp 8], body:=
 (.seq (.ops [⟨some 6, .new (.new 6 [.agg [.int .i64 0, .int .i64 0, .int .i64 0, .int .i64 0, .int .i64 0, .snil 6]]), [], none⟩,
 ⟨some 7, .pure .move, [.c (.int .i64 0)], none⟩,
 ⟨some 8, .pure .move, [.c (.bool false)], none⟩])
 (.seq (.seq (.ops [⟨some 19, .pure .move, [.t 2], none⟩,
 ⟨some 20, .pure (.bin .lss), [.t 19, .c (.int .i64 0)], none⟩])
 (.cond (.t 20)
 (.seq (.ops [⟨some 21, .pure (.build [.int .i64 0, .int .i64 0, .int .i64 0, .int .i64 0, .int .i64 0, .snil 6] []), [], none⟩,
 ⟨some 22, .pure .move, [.t 1], none⟩,
 ⟨none, .eff (.store 6), [.t 6, .t 21], none⟩,
 ⟨some 7, .pure .move, [.t 22], none⟩,
 ⟨some 8, .pure .move, [.c (.bool false)], none⟩])
 .ret)
 .skip))
 (.seq (.seq (.ops [⟨some 23, .pure .move, [.t 0], none⟩,
 ⟨some 24, .pure .move, [.t 1], none⟩,
 ⟨some 25, .pcall 400, [.t 23, .t 24], none⟩,
 ⟨some 26, .pure (.bin .eql), [.t 25, .c (.int .i64 33)], none⟩])
 (.cond (.t 26)
 (.seq (.ops [⟨some 28, .pure .move, [.t 0], none⟩,
 ⟨some 29, .pure .move, [.t 1], none⟩,
 ⟨some 30, .pure (.bin .add), [.t 29, .c (.int .i64 1)], none⟩,
 ⟨some 31, .pure .move, [.t 2], none⟩,
 ⟨some 32, .pure (.bin .sub), [.t 31, .c (.int .i64 1)], none⟩,
 ⟨some 33, .pcall 425, [.t 28, .t 30, .t 32], none⟩,
 ⟨some 27, .pure .move, [.t 33], none⟩,
 ⟨some 34, .pure (.ext 0), [.t 27], none⟩,
 ⟨some 35, .pure (.ext 1), [.t 27], none⟩,
 ⟨some 36, .pure (.ext 2), [.t 27], none⟩,
 ⟨some 9, .new (.new 6 [.agg [.int .i64 0, .int .i64 0, .int .i64 0, .int .i64 0, .int .i64 0, .snil 6]]), [], none⟩,
 ⟨none, .eff (.store 6), [.t 9, .t 34], none⟩,
 ⟨some 10, .pure .move, [.t 35], none⟩,
 ⟨some 11, .pure .move, [.t 36], none⟩])
 (.seq (.ops [⟨some 37, .read (.load (some 6)), [.t 9], none⟩,
 ⟨some 38, .new (.buildSlice 6 [.agg [.int .i64 0, .int .i64 0, .int .i64 0, .int .i64 0, .int .i64 0, .snil 6]] [0]), [.t 37], none⟩,
 ⟨some 39, .pure (.build [.int .i64 0, .int .i64 0, .int .i64 0, .int .i64 0, .int .i64 0, .snil 6] [(0, 1), (5, 1)]), [.c (.int .i64 7), .t 38], none⟩,
 ⟨some 40, .pure .move, [.t 10], none⟩,
 ⟨some 41, .pure .move, [.t 11], none⟩,
 ⟨none, .eff (.store 6), [.t 6, .t 39], none⟩,
 ⟨some 7, .pure .move, [.t 40], none⟩,
 ⟨some 8, .pure .move, [.t 41], none⟩])
 .ret))
 .skip))
 (.seq (.ops [⟨some 43, .pure .move, [.t 0], none⟩,
 ⟨some 44, .pure .move, [.t 1], none⟩,
 ⟨some 45, .pure .move, [.t 2], none⟩,
 ⟨some 46, .pcall 432, [.t 43, .t 44, .t 45], none⟩,
 ⟨some 42, .pure .move, [.t 46], none⟩,
 ⟨some 47, .pure (.ext 0), [.t 42], none⟩,
 ⟨some 48, .pure (.ext 1), [.t 42], none⟩,
 ⟨some 49, .pure (.ext 2), [.t 42], none⟩,
 ⟨some 12, .new (.new 6 [.agg [.int .i64 0, .int .i64 0, .int .i64 0, .int .i64 0, .int .i64 0, .snil 6]]), [], none⟩,
 ⟨none, .eff (.store 6), [.t 12, .t 47], none⟩,
 ⟨some 13, .pure .move, [.t 48], none⟩,
 ⟨some 14, .pure .move, [.t 49], none⟩])
 (.seq (.seq (.ops [⟨some 15, .pure .move, [.c (.int .i64 0)], none⟩])
 (.block 0
 (.loop [0, 6, 12, 13, 14, 15]
 (.seq (.seq (.ops [⟨some 50, .pure .move, [.t 14], none⟩,
 ⟨some 51, .pure .move, [.t 50], none⟩,
 ⟨some 52, .pure .move, [.t 15], some (51, true)⟩,
 ⟨some 53, .pure (.bin .leq), [.t 52, .c (.int .i64 48)], some (51, true)⟩,
 ⟨some 54, .pure .pick, [.t 51, .t 53, .c (.bool false)], none⟩])
 (.cond (.t 54)
 .skip
 (.exit 0)))
 (.seq (.block 1
 (.seq (.ops [⟨some 58, .read (.load (some 6)), [.t 12], none⟩,
 ⟨some 59, .pure .move, [.t 0], none⟩,
 ⟨some 60, .pure .move, [.t 13], none⟩,
 ⟨some 61, .pcall 433, [.t 58, .t 59, .t 60], none⟩,
 ⟨some 57, .pure .move, [.t 61], none⟩,
 ⟨some 62, .pure (.ext 0), [.t 57], none⟩,
 ⟨some 63, .pure (.ext 1), [.t 57], none⟩,
 ⟨some 64, .pure (.ext 2), [.t 57], none⟩,
 ⟨some 16, .new (.new 6 [.agg [.int .i64 0, .int .i64 0, .int .i64 0, .int .i64 0, .int .i64 0, .snil 6]]), [], none⟩,
 ⟨none, .eff (.store 6), [.t 16, .t 62], none⟩,
 ⟨some 17, .pure .move, [.t 63], none⟩,
 ⟨some 18, .pure .move, [.t 64], none⟩])
 (.seq (.seq (.ops [⟨some 65, .pure .move, [.t 18], none⟩,
 ⟨some 66, .pure (.un .not), [.t 65], none⟩])
 (.cond (.t 66)
 (.exit 0)
 .skip))
 (.ops [⟨some 67, .read (.load (some 6)), [.t 16], none⟩,
 ⟨some 68, .pure .move, [.t 17], none⟩,
 ⟨none, .eff (.store 6), [.t 12, .t 67], none⟩,
 ⟨some 13, .pure .move, [.t 68], none⟩]))))
 (.ops [⟨some 55, .pure .move, [.t 15], none⟩,
 ⟨some 56, .pure (.bin .add), [.t 55, .c (.int .i64 1)], none⟩,
 ⟨some 15, .pure .move, [.t 56], none⟩]))))))
 (.seq (.ops [⟨some 69, .read (.load (some 6)), [.t 12], none⟩,
 ⟨some 70, .pure .move, [.t 13], none⟩,
 ⟨some 71, .pure .move, [.t 14], none⟩,
 ⟨none, .eff (.store 6), [.t 6, .t 69], none⟩,
 ⟨some 7, .pure .move, [.t 70], none⟩,
 ⟨some 8, .pure .move, [.t 71], none⟩])
 .ret)))))) }
/-- datakit/datakitref15.level -/
def ac426:AFn:=
 { nt:=14, res:=[.tmp 2], body:=
 (.seq (.ops [⟨some 2, .pure .move, [.c (.int .i64 0)], none⟩])
 (.seq (.seq (.ops [⟨some 3, .pure .move, [.t 0], none⟩])
 (.block 0
 (.seq (.ops [⟨some 5, .pure (.bin .eql), [.t 3, .c (.int .i64 4)], none⟩,
 ⟨some 4, .pure .move, [.t 5], none⟩])
 (.cond (.t 4)
 (.seq (.ops [⟨some 2, .pure .move, [.c (.int .i64 1)], none⟩])
 .ret)
 (.seq (.ops [⟨some 7, .pure (.bin .eql), [.t 3, .c (.int .i64 6)], none⟩,
 ⟨some 6, .pure .move, [.t 7], none⟩])
 (.cond (.t 6)
 (.seq (.ops [⟨some 2, .pure .move, [.c (.int .i64 2)], none⟩])
 .ret)
 (.seq (.ops [⟨some 9, .pure (.bin .eql), [.t 3, .c (.int .i64 3)], none⟩,
 ⟨some 8, .pure .move, [.t 9], none⟩])
 (.cond (.t 8)
 (.seq (.ops [⟨some 2, .pure .move, [.c (.int .i64 3)], none⟩])
 .ret)
 (.seq (.ops [⟨some 11, .pure (.bin .eql), [.t 3, .c (.int .i64 7)], none⟩,
 ⟨some 10, .pure .move, [.t 11], none⟩])
 (.cond (.t 10)
 (.seq (.ops [⟨some 2, .pure .move, [.c (.int .i64 4)], none⟩])
 .ret)
 (.seq (.ops [⟨some 13, .pure (.bin .eql), [.t 3, .c (.int .i64 5)], none⟩,
 ⟨some 12, .pure .move, [.t 13], none⟩])
 (.cond (.t 12)
 (.seq (.ops [⟨some 2, .pure .move, [.c (.int .i64 5)], none⟩])
 .ret)
 .skip))))))))))))
 (.seq (.ops [⟨some 2, .pure .move, [.c (.int .i64 6)], none⟩])
 .ret))) }
/-- datakit/datakitref15.number -/
def ac427:AFn:=
 { nt:=17, res:=[.tmp 2], body:=
 (.seq (.ops [⟨some 2, .pure .move, [.c (.str [])], none⟩])
 (.seq (.seq (.ops [⟨some 3, .pure .move, [.t 0], none⟩,
 ⟨some 4, .pure (.bin .lss), [.t 3, .c (.int .i64 10)], none⟩])
 (.cond (.t 4)
 (.seq (.ops [⟨some 5, .pure .move, [.t 0], none⟩,
 ⟨some 6, .pure (.bin .add), [.c (.int .i64 48), .t 5], none⟩,
 ⟨some 7, .pure (.conv .u8), [.t 6], none⟩,
 ⟨some 8, .new (.buildSlice 1 [.int .u8 0] [0]), [.t 7], none⟩,
 ⟨some 9, .read .bytesStr, [.t 8], none⟩,
 ⟨some 2, .pure .move, [.t 9], none⟩])
 .ret)
 .skip))
 (.seq (.ops [⟨some 10, .pure .move, [.t 0], none⟩,
 ⟨some 11, .pure (.bin .quo), [.t 10, .c (.int .i64 10)], none⟩,
 ⟨some 12, .pcall 427, [.t 11], none⟩,
 ⟨some 13, .pure .move, [.t 0], none⟩,
 ⟨some 14, .pure (.bin .rem), [.t 13, .c (.int .i64 10)], none⟩,
 ⟨some 15, .pcall 427, [.t 14], none⟩,
 ⟨some 16, .pure (.bin .add), [.t 12, .t 15], none⟩,
 ⟨some 2, .pure .move, [.t 16], none⟩])
 .ret))) }
/-- internal/strconv.log10Pow2 -/
def ac428:AFn:=
 { nt:=6, res:=[.tmp 2], body:=
 (.seq (.ops [⟨some 2, .pure .move, [.c (.int .i64 0)], none⟩])
 (.seq (.ops [⟨some 3, .pure .move, [.t 0], none⟩,
 ⟨some 4, .pure (.bin .mul), [.t 3, .c (.int .i64 78913)], none⟩,
 ⟨some 5, .pure (.bin .shr), [.t 4, .c (.int .u64 18)], none⟩,
 ⟨some 2, .pure .move, [.t 5], none⟩])
 .ret)) }
/-- internal/strconv.bool2[int] -/
def ac429:AFn:=
 { nt:=4, res:=[.tmp 2], body:=
 (.seq (.ops [⟨some 2, .pure .move, [.c (.int .i64 0)], none⟩])
 (.seq (.seq (.ops [⟨some 3, .pure .move, [.t 0], none⟩])
 (.cond (.t 3)
 (.seq (.ops [⟨some 2, .pure .move, [.c (.int .i64 1)], none⟩])
 .ret)
 .skip))
 (.seq (.ops [⟨some 2, .pure .move, [.c (.int .i64 0)], none⟩])
 .ret))) }
/-- internal/strconv.isPowerOfTwo -/
def ac430:AFn:=
 { nt:=8, res:=[.tmp 2], body:=
 (.seq (.ops [⟨some 2, .pure .move, [.c (.bool false)], none⟩])
 (.seq (.ops [⟨some 3, .pure .move, [.t 0], none⟩,
 ⟨some 4, .pure .move, [.t 0], none⟩,
 ⟨some 5, .pure (.bin .sub), [.t 4, .c (.int .i64 1)], none⟩,
 ⟨some 6, .pure (.bin .and), [.t 3, .t 5], none⟩,
 ⟨some 7, .pure (.bin .eql), [.t 6, .c (.int .i64 0)], none⟩,
 ⟨some 2, .pure .move, [.t 7], none⟩])
 .ret)) }
/-- math/bits.TrailingZeros -/
def ac431:AFn:=
 { nt:=8, res:=[.tmp 2], body:=
 (.seq (.ops [⟨some 2, .pure .move, [.c (.int .i64 0)], none⟩])
 (.seq (.cond (.c (.bool false))
 (.seq (.ops [⟨some 3, .pure .move, [.t 0], none⟩,
 ⟨some 4, .pure (.conv .u32), [.t 3], none⟩,
 ⟨some 5, .pcall 434, [.t 4], none⟩,
 ⟨some 2, .pure .move, [.t 5], none⟩])
 .ret)
 .skip)
 (.seq (.ops [⟨some 6, .pure .move, [.t 0], none⟩,
 ⟨some 7, .pcall 435, [.t 6], none⟩,
 ⟨some 2, .pure .move, [.t 7], none⟩])
 .ret))) }
/-- datakit/datakitref15.atom -/
def ac432:AFn:=
 { nt:=114, res:=[.cell 6 (some 6), .tmp 7, .tmp 8], body:=
 (.seq (.ops [⟨some 6, .new (.new 6 [.agg [.int .i64 0, .int .i64 0, .int .i64 0, .int .i64 0, .int .i64 0, .snil 6]]), [], none⟩,
 ⟨some 7, .pure .move, [.c (.int .i64 0)], none⟩,
 ⟨some 8, .pure .move, [.c (.bool false)], none⟩])
 (.seq (.seq (.ops [⟨some 17, .pure .move, [.t 0], none⟩,
 ⟨some 18, .pure .move, [.t 1], none⟩,
 ⟨some 19, .pcall 400, [.t 17, .t 18], none⟩])
 (.block 0
 (.seq (.ops [⟨some 21, .pure (.bin .eql), [.t 19, .c (.int .i64 40)], none⟩,
 ⟨some 20, .pure .move, [.t 21], none⟩])
 (.cond (.t 20)
 (.seq (.seq (.ops [⟨some 22, .pure .move, [.t 0], none⟩,
 ⟨some 23, .pure .move, [.t 1], none⟩,
 ⟨some 24, .pure (.bin .add), [.t 23, .c (.int .i64 1)], none⟩,
 ⟨some 25, .pcall 400, [.t 22, .t 24], none⟩,
 ⟨some 26, .pure (.bin .eql), [.t 25, .c (.int .i64 41)], none⟩])
 (.cond (.t 26)
 (.seq (.ops [⟨some 27, .pure (.build [.int .i64 0, .int .i64 0, .int .i64 0, .int .i64 0, .int .i64 0, .snil 6] [(0, 1)]), [.c (.int .i64 1)], none⟩,
 ⟨some 28, .pure .move, [.t 1], none⟩,
 ⟨some 29, .pure (.bin .add), [.t 28, .c (.int .i64 2)], none⟩,
 ⟨none, .eff (.store 6), [.t 6, .t 27], none⟩,
 ⟨some 7, .pure .move, [.t 29], none⟩,
 ⟨some 8, .pure .move, [.c (.bool true)], none⟩])
 .ret)
 .skip))
 (.seq (.ops [⟨some 31, .pure .move, [.t 0], none⟩,
 ⟨some 32, .pure .move, [.t 1], none⟩,
 ⟨some 33, .pure (.bin .add), [.t 32, .c (.int .i64 1)], none⟩,
 ⟨some 34, .pure .move, [.t 2], none⟩,
 ⟨some 35, .pure (.bin .sub), [.t 34, .c (.int .i64 1)], none⟩,
 ⟨some 36, .pcall 388, [.t 31, .t 33, .t 35], none⟩,
 ⟨some 30, .pure .move, [.t 36], none⟩,
 ⟨some 37, .pure (.ext 0), [.t 30], none⟩,
 ⟨some 38, .pure (.ext 1), [.t 30], none⟩,
 ⟨some 39, .pure (.ext 2), [.t 30], none⟩,
 ⟨some 9, .new (.new 6 [.agg [.int .i64 0, .int .i64 0, .int .i64 0, .int .i64 0, .int .i64 0, .snil 6]]), [], none⟩,
 ⟨none, .eff (.store 6), [.t 9, .t 37], none⟩,
 ⟨some 10, .pure .move, [.t 38], none⟩,
 ⟨some 11, .pure .move, [.t 39], none⟩])
 (.seq (.ops [⟨some 40, .read (.load (some 6)), [.t 9], none⟩,
 ⟨some 41, .pure .move, [.t 10], none⟩,
 ⟨some 42, .pure (.bin .add), [.t 41, .c (.int .i64 1)], none⟩,
 ⟨some 43, .pure .move, [.t 11], none⟩,
 ⟨some 44, .pure .move, [.t 43], none⟩,
 ⟨some 45, .pure .move, [.t 0], some (44, true)⟩,
 ⟨some 46, .pure .move, [.t 10], some (44, true)⟩,
 ⟨some 47, .pcall 400, [.t 45, .t 46], some (44, true)⟩,
 ⟨some 48, .pure (.bin .eql), [.t 47, .c (.int .i64 41)], some (44, true)⟩,
 ⟨some 49, .pure .pick, [.t 44, .t 48, .c (.bool false)], none⟩,
 ⟨none, .eff (.store 6), [.t 6, .t 40], none⟩,
 ⟨some 7, .pure .move, [.t 42], none⟩,
 ⟨some 8, .pure .move, [.t 49], none⟩])
 .ret)))
 (.seq (.ops [⟨some 51, .pure (.bin .eql), [.t 19, .c (.int .i64 91)], none⟩,
 ⟨some 50, .pure .move, [.t 51], none⟩])
 (.cond (.t 50)
 (.seq (.seq (.ops [⟨some 52, .pure .move, [.t 0], none⟩,
 ⟨some 53, .pure .move, [.t 1], none⟩,
 ⟨some 54, .pure (.bin .add), [.t 53, .c (.int .i64 1)], none⟩,
 ⟨some 55, .pcall 400, [.t 52, .t 54], none⟩,
 ⟨some 56, .pure (.bin .eql), [.t 55, .c (.int .i64 93)], none⟩])
 (.cond (.t 56)
 (.seq (.ops [⟨some 57, .pure (.build [.int .i64 0, .int .i64 0, .int .i64 0, .int .i64 0, .int .i64 0, .snil 6] []), [], none⟩,
 ⟨some 58, .pure .move, [.t 1], none⟩,
 ⟨some 59, .pure (.bin .add), [.t 58, .c (.int .i64 2)], none⟩,
 ⟨none, .eff (.store 6), [.t 6, .t 57], none⟩,
 ⟨some 7, .pure .move, [.t 59], none⟩,
 ⟨some 8, .pure .move, [.c (.bool true)], none⟩])
 .ret)
 .skip))
 (.seq (.ops [⟨some 61, .pure .move, [.t 0], none⟩,
 ⟨some 62, .pure .move, [.t 1], none⟩,
 ⟨some 63, .pure (.bin .add), [.t 62, .c (.int .i64 1)], none⟩,
 ⟨some 64, .pcall 436, [.t 61, .t 63], none⟩,
 ⟨some 60, .pure .move, [.t 64], none⟩,
 ⟨some 65, .pure (.ext 0), [.t 60], none⟩,
 ⟨some 66, .pure (.ext 1), [.t 60], none⟩,
 ⟨some 12, .pure .move, [.t 65], none⟩,
 ⟨some 13, .pure .move, [.t 66], none⟩])
 (.seq (.seq (.ops [⟨some 67, .pure .move, [.t 12], none⟩,
 ⟨some 68, .pure (.bin .lss), [.t 67, .c (.int .i64 0)], none⟩,
 ⟨some 69, .pure .move, [.t 68], none⟩,
 ⟨some 70, .pure .move, [.t 0], some (69, false)⟩,
 ⟨some 71, .pure .move, [.t 13], some (69, false)⟩,
 ⟨some 72, .pcall 400, [.t 70, .t 71], some (69, false)⟩,
 ⟨some 73, .pure (.bin .neq), [.t 72, .c (.int .i64 45)], some (69, false)⟩,
 ⟨some 74, .pure .pick, [.t 69, .c (.bool true), .t 73], none⟩])
 (.cond (.t 74)
 (.seq (.ops [⟨some 75, .pure (.build [.int .i64 0, .int .i64 0, .int .i64 0, .int .i64 0, .int .i64 0, .snil 6] []), [], none⟩,
 ⟨some 76, .pure .move, [.t 1], none⟩,
 ⟨none, .eff (.store 6), [.t 6, .t 75], none⟩,
 ⟨some 7, .pure .move, [.t 76], none⟩,
 ⟨some 8, .pure .move, [.c (.bool false)], none⟩])
 .ret)
 .skip))
 (.seq (.ops [⟨some 78, .pure .move, [.t 0], none⟩,
 ⟨some 79, .pure .move, [.t 13], none⟩,
 ⟨some 80, .pure (.bin .add), [.t 79, .c (.int .i64 1)], none⟩,
 ⟨some 81, .pcall 436, [.t 78, .t 80], none⟩,
 ⟨some 77, .pure .move, [.t 81], none⟩,
 ⟨some 82, .pure (.ext 0), [.t 77], none⟩,
 ⟨some 83, .pure (.ext 1), [.t 77], none⟩,
 ⟨some 14, .pure .move, [.t 82], none⟩,
 ⟨some 13, .pure .move, [.t 83], none⟩])
 (.seq (.ops [⟨some 84, .pure .move, [.t 12], none⟩,
 ⟨some 85, .pure .move, [.t 14], none⟩,
 ⟨some 86, .pure (.build [.int .i64 0, .int .i64 0, .int .i64 0, .int .i64 0, .int .i64 0, .snil 6] [(0, 1), (1, 1), (2, 1)]), [.c (.int .i64 2), .t 84, .t 85], none⟩,
 ⟨some 87, .pure .move, [.t 13], none⟩,
 ⟨some 88, .pure (.bin .add), [.t 87, .c (.int .i64 1)], none⟩,
 ⟨some 89, .pure .move, [.t 14], none⟩,
 ⟨some 90, .pure (.bin .geq), [.t 89, .c (.int .i64 0)], none⟩,
 ⟨some 91, .pure .move, [.t 90], none⟩,
 ⟨some 92, .pure .move, [.t 0], some (91, true)⟩,
 ⟨some 93, .pure .move, [.t 13], some (91, true)⟩,
 ⟨some 94, .pcall 400, [.t 92, .t 93], some (91, true)⟩,
 ⟨some 95, .pure (.bin .eql), [.t 94, .c (.int .i64 93)], some (91, true)⟩,
 ⟨some 96, .pure .pick, [.t 91, .t 95, .c (.bool false)], none⟩,
 ⟨none, .eff (.store 6), [.t 6, .t 86], none⟩,
 ⟨some 7, .pure .move, [.t 88], none⟩,
 ⟨some 8, .pure .move, [.t 96], none⟩])
 .ret)))))
 (.seq (.ops [⟨some 98, .pure (.bin .eql), [.t 19, .c (.int .i64 46)], none⟩,
 ⟨some 97, .pure .move, [.t 98], none⟩])
 (.cond (.t 97)
 (.seq (.ops [⟨some 99, .pure (.build [.int .i64 0, .int .i64 0, .int .i64 0, .int .i64 0, .int .i64 0, .snil 6] [(0, 1), (2, 1)]), [.c (.int .i64 2), .c (.int .i64 255)], none⟩,
 ⟨some 100, .pure .move, [.t 1], none⟩,
 ⟨some 101, .pure (.bin .add), [.t 100, .c (.int .i64 1)], none⟩,
 ⟨none, .eff (.store 6), [.t 6, .t 99], none⟩,
 ⟨some 7, .pure .move, [.t 101], none⟩,
 ⟨some 8, .pure .move, [.c (.bool true)], none⟩])
 .ret)
 .skip))))))))
 (.seq (.ops [⟨some 103, .pure .move, [.t 0], none⟩,
 ⟨some 104, .pure .move, [.t 1], none⟩,
 ⟨some 105, .pcall 436, [.t 103, .t 104], none⟩,
 ⟨some 102, .pure .move, [.t 105], none⟩,
 ⟨some 106, .pure (.ext 0), [.t 102], none⟩,
 ⟨some 107, .pure (.ext 1), [.t 102], none⟩,
 ⟨some 15, .pure .move, [.t 106], none⟩,
 ⟨some 16, .pure .move, [.t 107], none⟩])
 (.seq (.ops [⟨some 108, .pure .move, [.t 15], none⟩,
 ⟨some 109, .pure .move, [.t 15], none⟩,
 ⟨some 110, .pure (.build [.int .i64 0, .int .i64 0, .int .i64 0, .int .i64 0, .int .i64 0, .snil 6] [(0, 1), (1, 1), (2, 1)]), [.c (.int .i64 2), .t 108, .t 109], none⟩,
 ⟨some 111, .pure .move, [.t 16], none⟩,
 ⟨some 112, .pure .move, [.t 15], none⟩,
 ⟨some 113, .pure (.bin .geq), [.t 112, .c (.int .i64 0)], none⟩,
 ⟨none, .eff (.store 6), [.t 6, .t 110], none⟩,
 ⟨some 7, .pure .move, [.t 111], none⟩,
 ⟨some 8, .pure .move, [.t 113], none⟩])
 .ret)))) }
/-- datakit/datakitref15.repeated -/
def ac433:AFn:=
 { nt:=88, res:=[.cell 6 (some 6), .tmp 7, .tmp 8], body:=
 (.seq (.ops [⟨some 3, .new (.box 6), [.t 0], none⟩,
 ⟨some 6, .new (.new 6 [.agg [.int .i64 0, .int .i64 0, .int .i64 0, .int .i64 0, .int .i64 0, .snil 6]]), [], none⟩,
 ⟨some 7, .pure .move, [.c (.int .i64 0)], none⟩,
 ⟨some 8, .pure .move, [.c (.bool false)], none⟩])
 (.seq (.ops [⟨some 13, .read (.load (some 6)), [.t 3], none⟩,
 ⟨some 14, .new (.buildSlice 6 [.agg [.int .i64 0, .int .i64 0, .int .i64 0, .int .i64 0, .int .i64 0, .snil 6]] [0]), [.t 13], none⟩,
 ⟨some 9, .pure .move, [.t 14], none⟩])
 (.seq (.seq (.ops [⟨some 15, .pure .move, [.t 1], none⟩,
 ⟨some 16, .pure .move, [.t 2], none⟩,
 ⟨some 17, .pcall 400, [.t 15, .t 16], none⟩])
 (.block 0
 (.seq (.ops [⟨some 19, .pure (.bin .eql), [.t 17, .c (.int .i64 42)], none⟩,
 ⟨some 18, .pure .move, [.t 19], none⟩])
 (.cond (.t 18)
 (.seq (.ops [⟨some 20, .pure .move, [.t 9], none⟩,
 ⟨some 21, .pure (.build [.int .i64 0, .int .i64 0, .int .i64 0, .int .i64 0, .int .i64 0, .snil 6] [(0, 1), (4, 1), (5, 1)]), [.c (.int .i64 5), .c (.int .i64 (-1)), .t 20], none⟩,
 ⟨some 22, .pure .move, [.t 2], none⟩,
 ⟨some 23, .pure (.bin .add), [.t 22, .c (.int .i64 1)], none⟩,
 ⟨none, .eff (.store 6), [.t 6, .t 21], none⟩,
 ⟨some 7, .pure .move, [.t 23], none⟩,
 ⟨some 8, .pure .move, [.c (.bool true)], none⟩])
 .ret)
 (.seq (.ops [⟨some 25, .pure (.bin .eql), [.t 17, .c (.int .i64 43)], none⟩,
 ⟨some 24, .pure .move, [.t 25], none⟩])
 (.cond (.t 24)
 (.seq (.ops [⟨some 26, .pure .move, [.t 9], none⟩,
 ⟨some 27, .pure (.build [.int .i64 0, .int .i64 0, .int .i64 0, .int .i64 0, .int .i64 0, .snil 6] [(0, 1), (3, 1), (4, 1), (5, 1)]), [.c (.int .i64 5), .c (.int .i64 1), .c (.int .i64 (-1)), .t 26], none⟩,
 ⟨some 28, .pure .move, [.t 2], none⟩,
 ⟨some 29, .pure (.bin .add), [.t 28, .c (.int .i64 1)], none⟩,
 ⟨none, .eff (.store 6), [.t 6, .t 27], none⟩,
 ⟨some 7, .pure .move, [.t 29], none⟩,
 ⟨some 8, .pure .move, [.c (.bool true)], none⟩])
 .ret)
 (.seq (.ops [⟨some 31, .pure (.bin .eql), [.t 17, .c (.int .i64 63)], none⟩,
 ⟨some 30, .pure .move, [.t 31], none⟩])
 (.cond (.t 30)
 (.seq (.ops [⟨some 32, .pure .move, [.t 9], none⟩,
 ⟨some 33, .pure (.build [.int .i64 0, .int .i64 0, .int .i64 0, .int .i64 0, .int .i64 0, .snil 6] [(0, 1), (4, 1), (5, 1)]), [.c (.int .i64 5), .c (.int .i64 1), .t 32], none⟩,
 ⟨some 34, .pure .move, [.t 2], none⟩,
 ⟨some 35, .pure (.bin .add), [.t 34, .c (.int .i64 1)], none⟩,
 ⟨none, .eff (.store 6), [.t 6, .t 33], none⟩,
 ⟨some 7, .pure .move, [.t 35], none⟩,
 ⟨some 8, .pure .move, [.c (.bool true)], none⟩])
 .ret)
 (.seq (.ops [⟨some 37, .pure (.bin .eql), [.t 17, .c (.int .i64 123)], none⟩,
 ⟨some 36, .pure .move, [.t 37], none⟩])
 (.cond (.t 36)
 (.seq (.ops [⟨some 39, .pure .move, [.t 1], none⟩,
 ⟨some 40, .pure .move, [.t 2], none⟩,
 ⟨some 41, .pure (.bin .add), [.t 40, .c (.int .i64 1)], none⟩,
 ⟨some 42, .pcall 437, [.t 39, .t 41], none⟩,
 ⟨some 38, .pure .move, [.t 42], none⟩,
 ⟨some 43, .pure (.ext 0), [.t 38], none⟩,
 ⟨some 44, .pure (.ext 1), [.t 38], none⟩,
 ⟨some 10, .pure .move, [.t 43], none⟩,
 ⟨some 11, .pure .move, [.t 44], none⟩])
 (.seq (.seq (.ops [⟨some 45, .pure .move, [.t 10], none⟩,
 ⟨some 46, .pure (.bin .lss), [.t 45, .c (.int .i64 0)], none⟩,
 ⟨some 47, .pure .move, [.t 46], none⟩,
 ⟨some 48, .pure .move, [.t 1], some (47, false)⟩,
 ⟨some 49, .pure .move, [.t 11], some (47, false)⟩,
 ⟨some 50, .pcall 400, [.t 48, .t 49], some (47, false)⟩,
 ⟨some 51, .pure (.bin .neq), [.t 50, .c (.int .i64 44)], some (47, false)⟩,
 ⟨some 52, .pure .pick, [.t 47, .c (.bool true), .t 51], none⟩])
 (.cond (.t 52)
 (.seq (.ops [⟨some 53, .read (.load (some 6)), [.t 3], none⟩,
 ⟨some 54, .pure .move, [.t 2], none⟩,
 ⟨none, .eff (.store 6), [.t 6, .t 53], none⟩,
 ⟨some 7, .pure .move, [.t 54], none⟩,
 ⟨some 8, .pure .move, [.c (.bool false)], none⟩])
 .ret)
 .skip))
 (.seq (.seq (.ops [⟨some 55, .pure .move, [.t 1], none⟩,
 ⟨some 56, .pure .move, [.t 11], none⟩,
 ⟨some 57, .pure (.bin .add), [.t 56, .c (.int .i64 1)], none⟩,
 ⟨some 58, .pcall 400, [.t 55, .t 57], none⟩,
 ⟨some 59, .pure (.bin .eql), [.t 58, .c (.int .i64 125)], none⟩])
 (.cond (.t 59)
 (.seq (.ops [⟨some 60, .pure .move, [.t 10], none⟩,
 ⟨some 61, .pure .move, [.t 9], none⟩,
 ⟨some 62, .pure (.build [.int .i64 0, .int .i64 0, .int .i64 0, .int .i64 0, .int .i64 0, .snil 6] [(0, 1), (3, 1), (4, 1), (5, 1)]), [.c (.int .i64 5), .t 60, .c (.int .i64 (-1)), .t 61], none⟩,
 ⟨some 63, .pure .move, [.t 11], none⟩,
 ⟨some 64, .pure (.bin .add), [.t 63, .c (.int .i64 2)], none⟩,
 ⟨none, .eff (.store 6), [.t 6, .t 62], none⟩,
 ⟨some 7, .pure .move, [.t 64], none⟩,
 ⟨some 8, .pure .move, [.c (.bool true)], none⟩])
 .ret)
 .skip))
 (.seq (.ops [⟨some 66, .pure .move, [.t 1], none⟩,
 ⟨some 67, .pure .move, [.t 11], none⟩,
 ⟨some 68, .pure (.bin .add), [.t 67, .c (.int .i64 1)], none⟩,
 ⟨some 69, .pcall 437, [.t 66, .t 68], none⟩,
 ⟨some 65, .pure .move, [.t 69], none⟩,
 ⟨some 70, .pure (.ext 0), [.t 65], none⟩,
 ⟨some 71, .pure (.ext 1), [.t 65], none⟩,
 ⟨some 12, .pure .move, [.t 70], none⟩,
 ⟨some 11, .pure .move, [.t 71], none⟩])
 (.seq (.ops [⟨some 72, .pure .move, [.t 10], none⟩,
 ⟨some 73, .pure .move, [.t 12], none⟩,
 ⟨some 74, .pure .move, [.t 9], none⟩,
 ⟨some 75, .pure (.build [.int .i64 0, .int .i64 0, .int .i64 0, .int .i64 0, .int .i64 0, .snil 6] [(0, 1), (3, 1), (4, 1), (5, 1)]), [.c (.int .i64 5), .t 72, .t 73, .t 74], none⟩,
 ⟨some 76, .pure .move, [.t 11], none⟩,
 ⟨some 77, .pure (.bin .add), [.t 76, .c (.int .i64 1)], none⟩,
 ⟨some 78, .pure .move, [.t 12], none⟩,
 ⟨some 79, .pure (.bin .geq), [.t 78, .c (.int .i64 0)], none⟩,
 ⟨some 80, .pure .move, [.t 79], none⟩,
 ⟨some 81, .pure .move, [.t 1], some (80, true)⟩,
 ⟨some 82, .pure .move, [.t 11], some (80, true)⟩,
 ⟨some 83, .pcall 400, [.t 81, .t 82], some (80, true)⟩,
 ⟨some 84, .pure (.bin .eql), [.t 83, .c (.int .i64 125)], some (80, true)⟩,
 ⟨some 85, .pure .pick, [.t 80, .t 84, .c (.bool false)], none⟩,
 ⟨none, .eff (.store 6), [.t 6, .t 75], none⟩,
 ⟨some 7, .pure .move, [.t 77], none⟩,
 ⟨some 8, .pure .move, [.t 85], none⟩])
 .ret)))))
 .skip))))))))))
 (.seq (.ops [⟨some 86, .read (.load (some 6)), [.t 3], none⟩,
 ⟨some 87, .pure .move, [.t 2], none⟩,
 ⟨none, .eff (.store 6), [.t 6, .t 86], none⟩,
 ⟨some 7, .pure .move, [.t 87], none⟩,
 ⟨some 8, .pure .move, [.c (.bool false)], none⟩])
 .ret)))) }
/-- math/bits.TrailingZeros32 -/
def ac434:AFn:=
 { nt:=14, res:=[.tmp 2], body:=
 (.seq (.ops [⟨some 2, .pure .move, [.c (.int .i64 0)], none⟩])
 (.seq (.seq (.ops [⟨some 3, .pure .move, [.t 0], none⟩,
 ⟨some 4, .pure (.bin .eql), [.t 3, .c (.int .u32 0)], none⟩])
 (.cond (.t 4)
 (.seq (.ops [⟨some 2, .pure .move, [.c (.int .i64 32)], none⟩])
 .ret)
 .skip))
 (.seq (.ops [⟨some 5, .pure .move, [.t 0], none⟩,
 ⟨some 6, .pure .move, [.t 0], none⟩,
 ⟨some 7, .pure (.un .neg), [.t 6], none⟩,
 ⟨some 8, .pure (.bin .and), [.t 5, .t 7], none⟩,
 ⟨some 9, .pure (.bin .mul), [.t 8, .c (.int .u32 125613361)], none⟩,
 ⟨some 10, .pure (.bin .shr), [.t 9, .c (.int .u64 27)], none⟩,
 ⟨some 11, .bad, [], none⟩,
 ⟨some 12, .read (.load none), [.t 11], none⟩,
 ⟨some 13, .pure (.conv .i64), [.t 12], none⟩,
 ⟨some 2, .pure .move, [.t 13], none⟩])
 .ret))) }
/-- math/bits.TrailingZeros64 -/
def ac435:AFn:=
 { nt:=14, res:=[.tmp 2], body:=
 (.seq (.ops [⟨some 2, .pure .move, [.c (.int .i64 0)], none⟩])
 (.seq (.seq (.ops [⟨some 3, .pure .move, [.t 0], none⟩,
 ⟨some 4, .pure (.bin .eql), [.t 3, .c (.int .u64 0)], none⟩])
 (.cond (.t 4)
 (.seq (.ops [⟨some 2, .pure .move, [.c (.int .i64 64)], none⟩])
 .ret)
 .skip))
 (.seq (.ops [⟨some 5, .pure .move, [.t 0], none⟩,
 ⟨some 6, .pure .move, [.t 0], none⟩,
 ⟨some 7, .pure (.un .neg), [.t 6], none⟩,
 ⟨some 8, .pure (.bin .and), [.t 5, .t 7], none⟩,
 ⟨some 9, .pure (.bin .mul), [.t 8, .c (.int .u64 285870213051353865)], none⟩,
 ⟨some 10, .pure (.bin .shr), [.t 9, .c (.int .u64 58)], none⟩,
 ⟨some 11, .bad, [], none⟩,
 ⟨some 12, .read (.load none), [.t 11], none⟩,
 ⟨some 13, .pure (.conv .i64), [.t 12], none⟩,
 ⟨some 2, .pure .move, [.t 13], none⟩])
 .ret))) }
/-- datakit/datakitref15.letter -/
def ac436:AFn:=
 { nt:=59, res:=[.tmp 4, .tmp 5], body:=
 (.seq (.ops [⟨some 4, .pure .move, [.c (.int .i64 0)], none⟩,
 ⟨some 5, .pure .move, [.c (.int .i64 0)], none⟩])
 (.seq (.ops [⟨some 9, .pure .move, [.t 0], none⟩,
 ⟨some 10, .pure .move, [.t 1], none⟩,
 ⟨some 11, .pcall 400, [.t 9, .t 10], none⟩,
 ⟨some 6, .pure .move, [.t 11], none⟩])
 (.seq (.seq (.ops [⟨some 12, .pure .move, [.t 6], none⟩,
 ⟨some 13, .pure (.bin .neq), [.t 12, .c (.int .i64 92)], none⟩])
 (.cond (.t 13)
 (.seq (.seq (.draw 1 [[⟨some 14, .pure .move, [.t 6], none⟩,
 ⟨some 15, .pure (.bin .geq), [.t 14, .c (.int .i64 0)], none⟩,
 ⟨some 16, .pure .move, [.t 15], none⟩,
 ⟨some 17, .pure .move, [.t 6], some (16, true)⟩,
 ⟨some 18, .pcall 415, [.t 17], some (16, true)⟩,
 ⟨some 19, .pure .move, [.t 6], some (16, true)⟩,
 ⟨some 20, .pure (.conv .u8), [.t 19], some (16, true)⟩,
 ⟨some 21, .newAt 0 (.buildSlice 1 [.int .u8 0] [0]), [.t 20], some (16, true)⟩,
 ⟨some 22, .read .bytesStr, [.t 21], some (16, true)⟩,
 ⟨some 23, .pure (.bin .eql), [.t 18, .t 22], some (16, true)⟩,
 ⟨some 24, .pure .pick, [.t 16, .t 23, .c (.bool false)], none⟩]])
 (.cond (.t 24)
 (.seq (.ops [⟨some 25, .pure .move, [.t 6], none⟩,
 ⟨some 26, .pure .move, [.t 1], none⟩,
 ⟨some 27, .pure (.bin .add), [.t 26, .c (.int .i64 1)], none⟩,
 ⟨some 4, .pure .move, [.t 25], none⟩,
 ⟨some 5, .pure .move, [.t 27], none⟩])
 .ret)
 .skip))
 (.seq (.ops [⟨some 28, .pure .move, [.t 1], none⟩,
 ⟨some 4, .pure .move, [.c (.int .i64 (-1))], none⟩,
 ⟨some 5, .pure .move, [.t 28], none⟩])
 .ret))
 .skip))
 (.seq (.ops [⟨some 29, .pure .move, [.t 0], none⟩,
 ⟨some 30, .pure .move, [.t 1], none⟩,
 ⟨some 31, .pure (.bin .add), [.t 30, .c (.int .i64 2)], none⟩,
 ⟨some 32, .pcall 400, [.t 29, .t 31], none⟩,
 ⟨some 33, .pcall 438, [.t 32], none⟩,
 ⟨some 34, .pure .move, [.t 0], none⟩,
 ⟨some 35, .pure .move, [.t 1], none⟩,
 ⟨some 36, .pure (.bin .add), [.t 35, .c (.int .i64 3)], none⟩,
 ⟨some 37, .pcall 400, [.t 34, .t 36], none⟩,
 ⟨some 38, .pcall 438, [.t 37], none⟩,
 ⟨some 7, .pure .move, [.t 33], none⟩,
 ⟨some 8, .pure .move, [.t 38], none⟩])
 (.seq (.seq (.ops [⟨some 39, .pure .move, [.t 0], none⟩,
 ⟨some 40, .pure .move, [.t 1], none⟩,
 ⟨some 41, .pure (.bin .add), [.t 40, .c (.int .i64 1)], none⟩,
 ⟨some 42, .pcall 400, [.t 39, .t 41], none⟩,
 ⟨some 43, .pure (.bin .neq), [.t 42, .c (.int .i64 120)], none⟩,
 ⟨some 44, .pure .move, [.t 43], none⟩,
 ⟨some 45, .pure .move, [.t 7], some (44, false)⟩,
 ⟨some 46, .pure (.bin .lss), [.t 45, .c (.int .i64 0)], some (44, false)⟩,
 ⟨some 47, .pure .pick, [.t 44, .c (.bool true), .t 46], none⟩,
 ⟨some 48, .pure .move, [.t 47], none⟩,
 ⟨some 49, .pure .move, [.t 8], some (48, false)⟩,
 ⟨some 50, .pure (.bin .lss), [.t 49, .c (.int .i64 0)], some (48, false)⟩,
 ⟨some 51, .pure .pick, [.t 48, .c (.bool true), .t 50], none⟩])
 (.cond (.t 51)
 (.seq (.ops [⟨some 52, .pure .move, [.t 1], none⟩,
 ⟨some 4, .pure .move, [.c (.int .i64 (-1))], none⟩,
 ⟨some 5, .pure .move, [.t 52], none⟩])
 .ret)
 .skip))
 (.seq (.ops [⟨some 53, .pure .move, [.t 7], none⟩,
 ⟨some 54, .pure (.bin .mul), [.t 53, .c (.int .i64 16)], none⟩,
 ⟨some 55, .pure .move, [.t 8], none⟩,
 ⟨some 56, .pure (.bin .add), [.t 54, .t 55], none⟩,
 ⟨some 57, .pure .move, [.t 1], none⟩,
 ⟨some 58, .pure (.bin .add), [.t 57, .c (.int .i64 4)], none⟩,
 ⟨some 4, .pure .move, [.t 56], none⟩,
 ⟨some 5, .pure .move, [.t 58], none⟩])
 .ret)))))) }
/-- datakit/datakitref15.digits -/
def ac437:AFn:=
 { nt:=40, res:=[.tmp 4, .tmp 5], body:=
 (.seq (.ops [⟨some 4, .pure .move, [.c (.int .i64 0)], none⟩,
 ⟨some 5, .pure .move, [.c (.int .i64 0)], none⟩])
 (.seq (.ops [⟨some 8, .pure .move, [.t 1], none⟩,
 ⟨some 6, .pure .move, [.c (.int .i64 0)], none⟩,
 ⟨some 7, .pure .move, [.t 8], none⟩])
 (.seq (.block 0
 (.loop [0, 1, 6, 7]
 (.seq (.seq (.ops [⟨some 9, .pure .move, [.t 7], none⟩,
 ⟨some 10, .pure .move, [.t 1], none⟩,
 ⟨some 11, .pure (.bin .add), [.t 10, .c (.int .i64 3)], none⟩,
 ⟨some 12, .pure (.bin .lss), [.t 9, .t 11], none⟩,
 ⟨some 13, .pure .move, [.t 12], none⟩,
 ⟨some 14, .pure .move, [.t 0], some (13, true)⟩,
 ⟨some 15, .pure .move, [.t 7], some (13, true)⟩,
 ⟨some 16, .pcall 400, [.t 14, .t 15], some (13, true)⟩,
 ⟨some 17, .pure (.bin .geq), [.t 16, .c (.int .i64 48)], some (13, true)⟩,
 ⟨some 18, .pure .pick, [.t 13, .t 17, .c (.bool false)], none⟩,
 ⟨some 19, .pure .move, [.t 18], none⟩,
 ⟨some 20, .pure .move, [.t 0], some (19, true)⟩,
 ⟨some 21, .pure .move, [.t 7], some (19, true)⟩,
 ⟨some 22, .pcall 400, [.t 20, .t 21], some (19, true)⟩,
 ⟨some 23, .pure (.bin .leq), [.t 22, .c (.int .i64 57)], some (19, true)⟩,
 ⟨some 24, .pure .pick, [.t 19, .t 23, .c (.bool false)], none⟩])
 (.cond (.t 24)
 .skip
 (.exit 0)))
 (.block 1
 (.seq (.ops [⟨some 25, .pure .move, [.t 6], none⟩,
 ⟨some 26, .pure (.bin .mul), [.t 25, .c (.int .i64 10)], none⟩,
 ⟨some 27, .pure .move, [.t 0], none⟩,
 ⟨some 28, .pure .move, [.t 7], none⟩,
 ⟨some 29, .pcall 400, [.t 27, .t 28], none⟩,
 ⟨some 30, .pure (.bin .add), [.t 26, .t 29], none⟩,
 ⟨some 31, .pure (.bin .sub), [.t 30, .c (.int .i64 48)], none⟩,
 ⟨some 6, .pure .move, [.t 31], none⟩])
 (.ops [⟨some 32, .pure .move, [.t 7], none⟩,
 ⟨some 33, .pure (.bin .add), [.t 32, .c (.int .i64 1)], none⟩,
 ⟨some 7, .pure .move, [.t 33], none⟩]))))))
 (.seq (.seq (.ops [⟨some 34, .pure .move, [.t 7], none⟩,
 ⟨some 35, .pure .move, [.t 1], none⟩,
 ⟨some 36, .pure (.bin .eql), [.t 34, .t 35], none⟩])
 (.cond (.t 36)
 (.seq (.ops [⟨some 37, .pure .move, [.t 1], none⟩,
 ⟨some 4, .pure .move, [.c (.int .i64 (-1))], none⟩,
 ⟨some 5, .pure .move, [.t 37], none⟩])
 .ret)
 .skip))
 (.seq (.ops [⟨some 38, .pure .move, [.t 6], none⟩,
 ⟨some 39, .pure .move, [.t 7], none⟩,
 ⟨some 4, .pure .move, [.t 38], none⟩,
 ⟨some 5, .pure .move, [.t 39], none⟩])
 .ret))))) }
/-- datakit/datakitref15.hex -/
def ac438:AFn:=
 { nt:=20, res:=[.tmp 2], body:=
 (.seq (.ops [⟨some 2, .pure .move, [.c (.int .i64 0)], none⟩])
 (.seq (.seq (.ops [⟨some 3, .pure .move, [.t 0], none⟩,
 ⟨some 4, .pure (.bin .geq), [.t 3, .c (.int .i64 48)], none⟩,
 ⟨some 5, .pure .move, [.t 4], none⟩,
 ⟨some 6, .pure .move, [.t 0], some (5, true)⟩,
 ⟨some 7, .pure (.bin .leq), [.t 6, .c (.int .i64 57)], some (5, true)⟩,
 ⟨some 8, .pure .pick, [.t 5, .t 7, .c (.bool false)], none⟩])
 (.cond (.t 8)
 (.seq (.ops [⟨some 9, .pure .move, [.t 0], none⟩,
 ⟨some 10, .pure (.bin .sub), [.t 9, .c (.int .i64 48)], none⟩,
 ⟨some 2, .pure .move, [.t 10], none⟩])
 .ret)
 .skip))
 (.seq (.seq (.ops [⟨some 11, .pure .move, [.t 0], none⟩,
 ⟨some 12, .pure (.bin .geq), [.t 11, .c (.int .i64 97)], none⟩,
 ⟨some 13, .pure .move, [.t 12], none⟩,
 ⟨some 14, .pure .move, [.t 0], some (13, true)⟩,
 ⟨some 15, .pure (.bin .leq), [.t 14, .c (.int .i64 102)], some (13, true)⟩,
 ⟨some 16, .pure .pick, [.t 13, .t 15, .c (.bool false)], none⟩])
 (.cond (.t 16)
 (.seq (.ops [⟨some 17, .pure .move, [.t 0], none⟩,
 ⟨some 18, .pure (.bin .sub), [.t 17, .c (.int .i64 97)], none⟩,
 ⟨some 19, .pure (.bin .add), [.t 18, .c (.int .i64 10)], none⟩,
 ⟨some 2, .pure .move, [.t 19], none⟩])
 .ret)
 .skip))
 (.seq (.ops [⟨some 2, .pure .move, [.c (.int .i64 (-1))], none⟩])
 .ret)))) }
def codeA:Nat→Option AFn
 | 49=>some ac49
 | 72=>some ac72
 | 73=>some ac73
 | 74=>some ac74
 | 86=>some ac86
 | 87=>some ac87
 | 199=>some ac199
 | 200=>some ac200
 | 201=>some ac201
 | 208=>some ac208
 | 209=>some ac209
 | 219=>some ac219
 | 220=>some ac220
 | 221=>some ac221
 | 222=>some ac222
 | 223=>some ac223
 | 224=>some ac224
 | 225=>some ac225
 | 226=>some ac226
 | 227=>some ac227
 | 231=>some ac231
 | 247=>some ac247
 | 248=>some ac248
 | 249=>some ac249
 | 252=>some ac252
 | 261=>some ac261
 | 318=>some ac318
 | 319=>some ac319
 | 321=>some ac321
 | 322=>some ac322
 | 328=>some ac328
 | 339=>some ac339
 | 340=>some ac340
 | 344=>some ac344
 | 345=>some ac345
 | 346=>some ac346
 | 348=>some ac348
 | 352=>some ac352
 | 354=>some ac354
 | 355=>some ac355
 | 357=>some ac357
 | 358=>some ac358
 | 359=>some ac359
 | 360=>some ac360
 | 366=>some ac366
 | 367=>some ac367
 | 370=>some ac370
 | 371=>some ac371
 | 372=>some ac372
 | 376=>some ac376
 | 377=>some ac377
 | 378=>some ac378
 | 379=>some ac379
 | 380=>some ac380
 | 381=>some ac381
 | 382=>some ac382
 | 383=>some ac383
 | 384=>some ac384
 | 388=>some ac388
 | 389=>some ac389
 | 390=>some ac390
 | 391=>some ac391
 | 395=>some ac395
 | 396=>some ac396
 | 397=>some ac397
 | 398=>some ac398
 | 399=>some ac399
 | 400=>some ac400
 | 401=>some ac401
 | 402=>some ac402
 | 404=>some ac404
 | 405=>some ac405
 | 406=>some ac406
 | 407=>some ac407
 | 408=>some ac408
 | 409=>some ac409
 | 410=>some ac410
 | 411=>some ac411
 | 412=>some ac412
 | 413=>some ac413
 | 414=>some ac414
 | 415=>some ac415
 | 416=>some ac416
 | 417=>some ac417
 | 418=>some ac418
 | 419=>some ac419
 | 420=>some ac420
 | 421=>some ac421
 | 422=>some ac422
 | 423=>some ac423
 | 424=>some ac424
 | 425=>some ac425
 | 426=>some ac426
 | 427=>some ac427
 | 428=>some ac428
 | 429=>some ac429
 | 430=>some ac430
 | 431=>some ac431
 | 432=>some ac432
 | 433=>some ac433
 | 434=>some ac434
 | 435=>some ac435
 | 436=>some ac436
 | 437=>some ac437
 | 438=>some ac438
 | _=>none
def clRA:Nat→Option (Nat × Nat)
 | _=>none
def clPA:Nat→Option (Nat × Nat)
 | 217=>some (3, 24)
 | _=>none
def CA:Ctx:=mkCtx codeA clRA clPA
theorem fitsA:Fits CA codeA clRA clPA:=fits_mk _ _ _
end Ago
