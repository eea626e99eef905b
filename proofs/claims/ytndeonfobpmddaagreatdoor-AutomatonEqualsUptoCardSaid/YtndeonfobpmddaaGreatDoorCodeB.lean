/- The abstract code of the functions, printed by program. -/
import Derived.Test.YtndeonfobpmddaaGreatDoorCode
set_option linter.unusedSimpArgs false
set_option linter.unusedVariables false
set_option maxRecDepth 100000
namespace Ago
/-- datakit/datakitlaw16.AutomatonLeasts -/
def ac314:AFn:=
 { nt:=23, res:=[.tmp 2], body:=
 (.seq (.ops [⟨some 1, .new (.box 1), [.t 0], none⟩,
 ⟨some 2, .pure .move, [.c (.bool false)], none⟩])
 (.seq (.ops [⟨some 3, .read (.load (some 1)), [.t 1], none⟩,
 ⟨some 4, .pcall 317, [.t 3, .c (.int .i64 60)], none⟩,
 ⟨some 5, .pure (.un .not), [.t 4], none⟩,
 ⟨some 6, .pure .move, [.t 5], none⟩,
 ⟨some 7, .read (.load (some 1)), [.t 1], some (6, false)⟩,
 ⟨some 8, .pcall 334, [.t 7], some (6, false)⟩,
 ⟨some 9, .read (.load (some 1)), [.t 1], some (6, false)⟩,
 ⟨some 10, .pcall 335, [.t 9], some (6, false)⟩,
 ⟨some 11, .pcall 321, [.t 8, .t 10], some (6, false)⟩,
 ⟨some 12, .pure .move, [.t 11], some (6, false)⟩,
 ⟨some 13, .read (.load (some 1)), [.t 1], some (12, true)⟩,
 ⟨some 14, .pcall 336, [.t 13], some (12, true)⟩,
 ⟨some 15, .read (.load (some 1)), [.t 1], some (12, true)⟩,
 ⟨some 16, .pcall 337, [.t 15], some (12, true)⟩,
 ⟨some 17, .pcall 321, [.t 14, .t 16], some (12, true)⟩,
 ⟨some 18, .pure .pick, [.t 12, .t 17, .c (.bool false)], some (6, false)⟩,
 ⟨some 19, .pure .pick, [.t 6, .c (.bool true), .t 18], none⟩,
 ⟨some 20, .pure .move, [.t 19], none⟩,
 ⟨some 21, .pcall 318, [], some (20, true)⟩,
 ⟨some 22, .pure .pick, [.t 20, .t 21, .c (.bool false)], none⟩,
 ⟨some 2, .pure .move, [.t 22], none⟩])
 .ret)) }
/-- datakit/datakitlaw16.AutomatonEquals -/
def ac316:AFn:=
 { nt:=51, res:=[.tmp 4], body:=
 (.seq (.ops [⟨some 2, .new (.box 1), [.t 0], none⟩,
 ⟨some 3, .new (.box 1), [.t 1], none⟩,
 ⟨some 4, .pure .move, [.c (.bool false)], none⟩])
 (.seq (.seq (.ops [⟨some 6, .read (.load (some 1)), [.t 2], none⟩,
 ⟨some 7, .pcall 317, [.t 6, .c (.int .i64 40)], none⟩,
 ⟨some 8, .pure (.un .not), [.t 7], none⟩,
 ⟨some 9, .pure .move, [.t 8], none⟩,
 ⟨some 10, .read (.load (some 1)), [.t 3], some (9, false)⟩,
 ⟨some 11, .pcall 317, [.t 10, .c (.int .i64 40)], some (9, false)⟩,
 ⟨some 12, .pure (.un .not), [.t 11], some (9, false)⟩,
 ⟨some 13, .pure .pick, [.t 9, .c (.bool true), .t 12], none⟩])
 (.cond (.t 13)
 (.seq (.ops [⟨some 14, .pcall 318, [], none⟩,
 ⟨some 4, .pure .move, [.t 14], none⟩])
 .ret)
 .skip))
 (.seq (.ops [⟨some 15, .read (.load (some 1)), [.t 2], none⟩,
 ⟨some 16, .read (.load (some 1)), [.t 3], none⟩,
 ⟨some 17, .pcall 342, [.t 15, .t 16], none⟩,
 ⟨some 5, .pure .move, [.t 17], none⟩])
 (.seq (.seq (.ops [⟨some 18, .pure .move, [.t 5], none⟩,
 ⟨some 19, .read (.load (some 1)), [.t 2], none⟩,
 ⟨some 20, .read (.load (some 1)), [.t 3], none⟩,
 ⟨some 21, .pcall 343, [.t 19, .t 20], none⟩,
 ⟨some 22, .pure (.eqB true), [.t 18, .t 21], none⟩,
 ⟨some 23, .pure .move, [.t 22], none⟩,
 ⟨some 24, .read (.load (some 1)), [.t 2], some (23, false)⟩,
 ⟨some 25, .read (.load (some 1)), [.t 2], some (23, false)⟩,
 ⟨some 26, .pcall 342, [.t 24, .t 25], some (23, false)⟩,
 ⟨some 27, .read (.load (some 1)), [.t 2], some (23, false)⟩,
 ⟨some 28, .pcall 231, [.t 27], some (23, false)⟩,
 ⟨some 29, .pure (.eqB true), [.t 26, .t 28], some (23, false)⟩,
 ⟨some 30, .pure .pick, [.t 23, .c (.bool true), .t 29], none⟩])
 (.cond (.t 30)
 (.seq (.ops [⟨some 4, .pure .move, [.c (.bool false)], none⟩])
 .ret)
 .skip))
 (.seq (.ops [⟨some 31, .read (.load (some 1)), [.t 2], none⟩,
 ⟨some 32, .pcall 231, [.t 31], none⟩,
 ⟨some 33, .pure (.un .not), [.t 32], none⟩,
 ⟨some 34, .pure .move, [.t 33], none⟩,
 ⟨some 35, .read (.load (some 1)), [.t 3], some (34, false)⟩,
 ⟨some 36, .pcall 231, [.t 35], some (34, false)⟩,
 ⟨some 37, .pure (.un .not), [.t 36], some (34, false)⟩,
 ⟨some 38, .pure .pick, [.t 34, .c (.bool true), .t 37], none⟩,
 ⟨some 39, .pure .move, [.t 38], none⟩,
 ⟨some 40, .pure .move, [.t 5], some (39, false)⟩,
 ⟨some 41, .read (.load (some 1)), [.t 2], some (39, false)⟩,
 ⟨some 42, .pcall 336, [.t 41], some (39, false)⟩,
 ⟨some 43, .read (.load (some 1)), [.t 3], some (39, false)⟩,
 ⟨some 44, .pcall 336, [.t 43], some (39, false)⟩,
 ⟨some 45, .pcall 321, [.t 42, .t 44], some (39, false)⟩,
 ⟨some 46, .pure (.eqB false), [.t 40, .t 45], some (39, false)⟩,
 ⟨some 47, .pure .pick, [.t 39, .c (.bool true), .t 46], none⟩,
 ⟨some 48, .pure .move, [.t 47], none⟩,
 ⟨some 49, .pcall 318, [], some (48, true)⟩,
 ⟨some 50, .pure .pick, [.t 48, .t 49, .c (.bool false)], none⟩,
 ⟨some 4, .pure .move, [.t 50], none⟩])
 .ret))))) }
/-- datakit/datakitlaw16.few -/
def ac317:AFn:=
 { nt:=26, res:=[.tmp 4], body:=
 (.seq (.ops [⟨some 2, .new (.box 1), [.t 0], none⟩,
 ⟨some 4, .pure .move, [.c (.bool false)], none⟩])
 (.seq (.seq (.ops [⟨some 6, .pure (.faddr 0), [.t 2], none⟩,
 ⟨some 7, .read (.load none), [.t 6], none⟩,
 ⟨some 8, .pure .lenL, [.t 7], none⟩,
 ⟨some 9, .pure .move, [.t 1], none⟩,
 ⟨some 10, .pure (.bin .gtr), [.t 8, .t 9], none⟩])
 (.cond (.t 10)
 (.seq (.ops [⟨some 4, .pure .move, [.c (.bool false)], none⟩])
 .ret)
 .skip))
 (.seq (.seq (.ops [⟨some 5, .pure .move, [.c (.int .i64 0)], none⟩])
 (.block 0
 (.loop [2, 5]
 (.seq (.seq (.ops [⟨some 11, .pure .move, [.t 5], none⟩,
 ⟨some 12, .pure (.faddr 0), [.t 2], none⟩,
 ⟨some 13, .read (.load none), [.t 12], none⟩,
 ⟨some 14, .pure .lenL, [.t 13], none⟩,
 ⟨some 15, .pure (.bin .lss), [.t 11, .t 14], none⟩])
 (.cond (.t 15)
 .skip
 (.exit 0)))
 (.seq (.block 1
 (.seq (.ops [⟨some 18, .pure (.faddr 0), [.t 2], none⟩,
 ⟨some 19, .read (.load none), [.t 18], none⟩,
 ⟨some 20, .pure .move, [.t 5], none⟩,
 ⟨some 21, .pure (.iaddrS 2), [.t 19, .t 20], none⟩,
 ⟨some 22, .pure (.faddr 1), [.t 21], none⟩,
 ⟨some 23, .read (.load none), [.t 22], none⟩,
 ⟨some 24, .pure .lenL, [.t 23], none⟩,
 ⟨some 25, .pure (.bin .gtr), [.t 24, .c (.int .i64 20)], none⟩])
 (.cond (.t 25)
 (.seq (.ops [⟨some 4, .pure .move, [.c (.bool false)], none⟩])
 .ret)
 .skip)))
 (.ops [⟨some 16, .pure .move, [.t 5], none⟩,
 ⟨some 17, .pure (.bin .add), [.t 16, .c (.int .i64 1)], none⟩,
 ⟨some 5, .pure .move, [.t 17], none⟩]))))))
 (.seq (.ops [⟨some 4, .pure .move, [.c (.bool true)], none⟩])
 .ret)))) }
/-- datakit/datakitref16.Valid -/
def ac326:AFn:=
 { nt:=31, res:=[.tmp 2], body:=
 (.seq (.ops [⟨some 1, .new (.box 1), [.t 0], none⟩,
 ⟨some 2, .pure .move, [.c (.bool false)], none⟩])
 (.seq (.seq (.ops [⟨some 3, .pure .move, [.c (.int .i64 0)], none⟩])
 (.block 0
 (.loop [1, 3]
 (.seq (.seq (.ops [⟨some 4, .pure .move, [.t 3], none⟩,
 ⟨some 5, .pure (.faddr 0), [.t 1], none⟩,
 ⟨some 6, .read (.load none), [.t 5], none⟩,
 ⟨some 7, .pure .lenL, [.t 6], none⟩,
 ⟨some 8, .pure (.bin .lss), [.t 4, .t 7], none⟩])
 (.cond (.t 8)
 .skip
 (.exit 0)))
 (.seq (.block 1
 (.seq (.ops [⟨some 11, .pure (.faddr 0), [.t 1], none⟩,
 ⟨some 12, .read (.load none), [.t 11], none⟩,
 ⟨some 13, .pure .move, [.t 3], none⟩,
 ⟨some 14, .pure (.iaddrS 2), [.t 12, .t 13], none⟩,
 ⟨some 15, .read (.load (some 2)), [.t 14], none⟩,
 ⟨some 16, .pure (.faddr 0), [.t 1], none⟩,
 ⟨some 17, .read (.load none), [.t 16], none⟩,
 ⟨some 18, .pure .lenL, [.t 17], none⟩,
 ⟨some 19, .pcall 350, [.t 15, .t 18], none⟩,
 ⟨some 20, .pure (.un .not), [.t 19], none⟩])
 (.cond (.t 20)
 (.seq (.ops [⟨some 2, .pure .move, [.c (.bool false)], none⟩])
 .ret)
 .skip)))
 (.ops [⟨some 9, .pure .move, [.t 3], none⟩,
 ⟨some 10, .pure (.bin .add), [.t 9, .c (.int .i64 1)], none⟩,
 ⟨some 3, .pure .move, [.t 10], none⟩]))))))
 (.seq (.ops [⟨some 21, .pure (.faddr 0), [.t 1], none⟩,
 ⟨some 22, .read (.load none), [.t 21], none⟩,
 ⟨some 23, .pure .lenL, [.t 22], none⟩,
 ⟨some 24, .pure (.bin .geq), [.t 23, .c (.int .i64 1)], none⟩,
 ⟨some 25, .pure .move, [.t 24], none⟩,
 ⟨some 26, .pure (.faddr 0), [.t 1], some (25, true)⟩,
 ⟨some 27, .read (.load none), [.t 26], some (25, true)⟩,
 ⟨some 28, .pure .lenL, [.t 27], some (25, true)⟩,
 ⟨some 29, .pure (.bin .leq), [.t 28, .c (.int .i64 1024)], some (25, true)⟩,
 ⟨some 30, .pure .pick, [.t 25, .t 29, .c (.bool false)], none⟩,
 ⟨some 2, .pure .move, [.t 30], none⟩])
 .ret))) }
/-- datakit/automaton.Not -/
def ac334:AFn:=
 { nt:=9, res:=[.cell 2 (some 1)], body:=
 (.seq (.ops [⟨some 1, .new (.box 1), [.t 0], none⟩,
 ⟨some 2, .new (.new 1 [.agg [.snil 2]]), [], none⟩])
 (.seq (.seq (.ops [⟨some 3, .read (.load (some 1)), [.t 1], none⟩,
 ⟨some 4, .pcall 231, [.t 3], none⟩,
 ⟨some 5, .pure (.un .not), [.t 4], none⟩])
 (.cond (.t 5)
 (.seq (.ops [⟨some 6, .pure (.build [.snil 2] []), [], none⟩,
 ⟨none, .eff (.store 1), [.t 2, .t 6], none⟩])
 .ret)
 .skip))
 (.seq (.ops [⟨some 7, .read (.load (some 1)), [.t 1], none⟩,
 ⟨some 8, .pcall 354, [.t 7], none⟩,
 ⟨none, .eff (.store 1), [.t 2, .t 8], none⟩])
 .ret))) }
/-- datakit/datakitref16.Not -/
def ac335:AFn:=
 { nt:=37, res:=[.cell 2 (some 1)], body:=
 (.seq (.ops [⟨some 1, .new (.box 1), [.t 0], none⟩,
 ⟨some 2, .new (.new 1 [.agg [.snil 2]]), [], none⟩])
 (.seq (.seq (.ops [⟨some 5, .read (.load (some 1)), [.t 1], none⟩,
 ⟨some 6, .pcall 326, [.t 5], none⟩,
 ⟨some 7, .pure (.un .not), [.t 6], none⟩])
 (.cond (.t 7)
 (.seq (.ops [⟨some 8, .pure (.build [.snil 2] []), [], none⟩,
 ⟨none, .eff (.store 1), [.t 2, .t 8], none⟩])
 .ret)
 .skip))
 (.seq (.ops [⟨some 3, .new (.new 1 [.agg [.snil 2]]), [], none⟩])
 (.seq (.seq (.ops [⟨some 4, .pure .move, [.c (.int .i64 0)], none⟩])
 (.block 0
 (.loop [1, 2, 3, 4, 3003]
 (.seq (.seq (.ops [⟨some 9, .pure .move, [.t 4], none⟩,
 ⟨some 10, .pure (.faddr 0), [.t 1], none⟩,
 ⟨some 11, .read (.load none), [.t 10], none⟩,
 ⟨some 12, .pure .lenL, [.t 11], none⟩,
 ⟨some 13, .pure (.bin .lss), [.t 9, .t 12], none⟩])
 (.cond (.t 13)
 .skip
 (.exit 0)))
 (.seq (.block 1
 (.draw 1 [[⟨some 16, .pure (.faddr 0), [.t 3], none⟩,
 ⟨some 18, .pure (.faddr 0), [.t 1], none⟩,
 ⟨some 20, .pure .move, [.t 4], none⟩,
 ⟨some 25, .pure (.faddr 0), [.t 1], none⟩,
 ⟨some 26, .read (.load none), [.t 25], none⟩,
 ⟨some 27, .pure .move, [.t 4], none⟩,
 ⟨some 28, .pure (.iaddrS 2), [.t 26, .t 27], none⟩,
 ⟨some 29, .pure (.faddr 1), [.t 28], none⟩,
 ⟨some 30, .read (.load none), [.t 29], none⟩,
 ⟨some 17, .read (.load none), [.t 16], none⟩,
 ⟨some 19, .read (.load none), [.t 18], none⟩,
 ⟨some 21, .pure (.iaddrS 2), [.t 19, .t 20], none⟩,
 ⟨some 22, .pure (.faddr 0), [.t 21], none⟩,
 ⟨some 23, .read (.load none), [.t 22], none⟩,
 ⟨some 24, .pure (.un .not), [.t 23], none⟩,
 ⟨some 31, .eff (.append 3 24), [.c (.snil 3), .t 30], none⟩,
 ⟨some 32, .pure (.build [.bool false, .snil 3] [(0, 1), (1, 1)]), [.t 24, .t 31], none⟩,
 ⟨some 33, .newAt 0 (.buildSlice 2 [.agg [.bool false, .snil 3]] [0]), [.t 32], none⟩,
 ⟨some 34, .eff (.append 2 32), [.t 17, .t 33], none⟩,
 ⟨some 35, .pure (.faddr 0), [.t 3], none⟩,
 ⟨none, .eff (.store 1), [.t 35, .t 34], none⟩],
 [⟨some 16, .pure (.faddr 0), [.t 3], none⟩,
 ⟨some 18, .pure (.faddr 0), [.t 1], none⟩,
 ⟨some 20, .pure .move, [.t 4], none⟩,
 ⟨some 25, .pure (.faddr 0), [.t 1], none⟩,
 ⟨some 26, .read (.load none), [.t 25], none⟩,
 ⟨some 27, .pure .move, [.t 4], none⟩,
 ⟨some 28, .pure (.iaddrS 2), [.t 26, .t 27], none⟩,
 ⟨some 29, .pure (.faddr 1), [.t 28], none⟩,
 ⟨some 30, .read (.load none), [.t 29], none⟩,
 ⟨some 17, .read (.load none), [.t 16], none⟩,
 ⟨some 19, .read (.load none), [.t 18], none⟩,
 ⟨some 21, .pure (.iaddrS 2), [.t 19, .t 20], none⟩,
 ⟨some 22, .pure (.faddr 0), [.t 21], none⟩,
 ⟨some 31, .eff (.append 3 24), [.c (.snil 3), .t 30], none⟩,
 ⟨some 23, .read (.load none), [.t 22], none⟩,
 ⟨some 24, .pure (.un .not), [.t 23], none⟩,
 ⟨some 32, .pure (.build [.bool false, .snil 3] [(0, 1), (1, 1)]), [.t 24, .t 31], none⟩,
 ⟨some 33, .newAt 0 (.buildSlice 2 [.agg [.bool false, .snil 3]] [0]), [.t 32], none⟩,
 ⟨some 34, .eff (.append 2 32), [.t 17, .t 33], none⟩,
 ⟨some 35, .pure (.faddr 0), [.t 3], none⟩,
 ⟨none, .eff (.store 1), [.t 35, .t 34], none⟩],
 [⟨some 16, .pure (.faddr 0), [.t 3], none⟩,
 ⟨some 18, .pure (.faddr 0), [.t 1], none⟩,
 ⟨some 20, .pure .move, [.t 4], none⟩,
 ⟨some 25, .pure (.faddr 0), [.t 1], none⟩,
 ⟨some 26, .read (.load none), [.t 25], none⟩,
 ⟨some 27, .pure .move, [.t 4], none⟩,
 ⟨some 28, .pure (.iaddrS 2), [.t 26, .t 27], none⟩,
 ⟨some 29, .pure (.faddr 1), [.t 28], none⟩,
 ⟨some 30, .read (.load none), [.t 29], none⟩,
 ⟨some 17, .read (.load none), [.t 16], none⟩,
 ⟨some 31, .eff (.append 3 24), [.c (.snil 3), .t 30], none⟩,
 ⟨some 19, .read (.load none), [.t 18], none⟩,
 ⟨some 21, .pure (.iaddrS 2), [.t 19, .t 20], none⟩,
 ⟨some 22, .pure (.faddr 0), [.t 21], none⟩,
 ⟨some 23, .read (.load none), [.t 22], none⟩,
 ⟨some 24, .pure (.un .not), [.t 23], none⟩,
 ⟨some 32, .pure (.build [.bool false, .snil 3] [(0, 1), (1, 1)]), [.t 24, .t 31], none⟩,
 ⟨some 33, .newAt 0 (.buildSlice 2 [.agg [.bool false, .snil 3]] [0]), [.t 32], none⟩,
 ⟨some 34, .eff (.append 2 32), [.t 17, .t 33], none⟩,
 ⟨some 35, .pure (.faddr 0), [.t 3], none⟩,
 ⟨none, .eff (.store 1), [.t 35, .t 34], none⟩],
 [⟨some 16, .pure (.faddr 0), [.t 3], none⟩,
 ⟨some 18, .pure (.faddr 0), [.t 1], none⟩,
 ⟨some 20, .pure .move, [.t 4], none⟩,
 ⟨some 25, .pure (.faddr 0), [.t 1], none⟩,
 ⟨some 26, .read (.load none), [.t 25], none⟩,
 ⟨some 27, .pure .move, [.t 4], none⟩,
 ⟨some 28, .pure (.iaddrS 2), [.t 26, .t 27], none⟩,
 ⟨some 29, .pure (.faddr 1), [.t 28], none⟩,
 ⟨some 30, .read (.load none), [.t 29], none⟩,
 ⟨some 19, .read (.load none), [.t 18], none⟩,
 ⟨some 21, .pure (.iaddrS 2), [.t 19, .t 20], none⟩,
 ⟨some 22, .pure (.faddr 0), [.t 21], none⟩,
 ⟨some 17, .read (.load none), [.t 16], none⟩,
 ⟨some 23, .read (.load none), [.t 22], none⟩,
 ⟨some 24, .pure (.un .not), [.t 23], none⟩,
 ⟨some 31, .eff (.append 3 24), [.c (.snil 3), .t 30], none⟩,
 ⟨some 32, .pure (.build [.bool false, .snil 3] [(0, 1), (1, 1)]), [.t 24, .t 31], none⟩,
 ⟨some 33, .newAt 0 (.buildSlice 2 [.agg [.bool false, .snil 3]] [0]), [.t 32], none⟩,
 ⟨some 34, .eff (.append 2 32), [.t 17, .t 33], none⟩,
 ⟨some 35, .pure (.faddr 0), [.t 3], none⟩,
 ⟨none, .eff (.store 1), [.t 35, .t 34], none⟩],
 [⟨some 16, .pure (.faddr 0), [.t 3], none⟩,
 ⟨some 18, .pure (.faddr 0), [.t 1], none⟩,
 ⟨some 20, .pure .move, [.t 4], none⟩,
 ⟨some 25, .pure (.faddr 0), [.t 1], none⟩,
 ⟨some 26, .read (.load none), [.t 25], none⟩,
 ⟨some 27, .pure .move, [.t 4], none⟩,
 ⟨some 28, .pure (.iaddrS 2), [.t 26, .t 27], none⟩,
 ⟨some 29, .pure (.faddr 1), [.t 28], none⟩,
 ⟨some 30, .read (.load none), [.t 29], none⟩,
 ⟨some 19, .read (.load none), [.t 18], none⟩,
 ⟨some 21, .pure (.iaddrS 2), [.t 19, .t 20], none⟩,
 ⟨some 22, .pure (.faddr 0), [.t 21], none⟩,
 ⟨some 17, .read (.load none), [.t 16], none⟩,
 ⟨some 31, .eff (.append 3 24), [.c (.snil 3), .t 30], none⟩,
 ⟨some 23, .read (.load none), [.t 22], none⟩,
 ⟨some 24, .pure (.un .not), [.t 23], none⟩,
 ⟨some 32, .pure (.build [.bool false, .snil 3] [(0, 1), (1, 1)]), [.t 24, .t 31], none⟩,
 ⟨some 33, .newAt 0 (.buildSlice 2 [.agg [.bool false, .snil 3]] [0]), [.t 32], none⟩,
 ⟨some 34, .eff (.append 2 32), [.t 17, .t 33], none⟩,
 ⟨some 35, .pure (.faddr 0), [.t 3], none⟩,
 ⟨none, .eff (.store 1), [.t 35, .t 34], none⟩],
 [⟨some 16, .pure (.faddr 0), [.t 3], none⟩,
 ⟨some 18, .pure (.faddr 0), [.t 1], none⟩,
 ⟨some 20, .pure .move, [.t 4], none⟩,
 ⟨some 25, .pure (.faddr 0), [.t 1], none⟩,
 ⟨some 26, .read (.load none), [.t 25], none⟩,
 ⟨some 27, .pure .move, [.t 4], none⟩,
 ⟨some 28, .pure (.iaddrS 2), [.t 26, .t 27], none⟩,
 ⟨some 29, .pure (.faddr 1), [.t 28], none⟩,
 ⟨some 30, .read (.load none), [.t 29], none⟩,
 ⟨some 19, .read (.load none), [.t 18], none⟩,
 ⟨some 21, .pure (.iaddrS 2), [.t 19, .t 20], none⟩,
 ⟨some 22, .pure (.faddr 0), [.t 21], none⟩,
 ⟨some 23, .read (.load none), [.t 22], none⟩,
 ⟨some 24, .pure (.un .not), [.t 23], none⟩,
 ⟨some 17, .read (.load none), [.t 16], none⟩,
 ⟨some 31, .eff (.append 3 24), [.c (.snil 3), .t 30], none⟩,
 ⟨some 32, .pure (.build [.bool false, .snil 3] [(0, 1), (1, 1)]), [.t 24, .t 31], none⟩,
 ⟨some 33, .newAt 0 (.buildSlice 2 [.agg [.bool false, .snil 3]] [0]), [.t 32], none⟩,
 ⟨some 34, .eff (.append 2 32), [.t 17, .t 33], none⟩,
 ⟨some 35, .pure (.faddr 0), [.t 3], none⟩,
 ⟨none, .eff (.store 1), [.t 35, .t 34], none⟩],
 [⟨some 16, .pure (.faddr 0), [.t 3], none⟩,
 ⟨some 18, .pure (.faddr 0), [.t 1], none⟩,
 ⟨some 20, .pure .move, [.t 4], none⟩,
 ⟨some 25, .pure (.faddr 0), [.t 1], none⟩,
 ⟨some 26, .read (.load none), [.t 25], none⟩,
 ⟨some 27, .pure .move, [.t 4], none⟩,
 ⟨some 28, .pure (.iaddrS 2), [.t 26, .t 27], none⟩,
 ⟨some 29, .pure (.faddr 1), [.t 28], none⟩,
 ⟨some 30, .read (.load none), [.t 29], none⟩,
 ⟨some 19, .read (.load none), [.t 18], none⟩,
 ⟨some 21, .pure (.iaddrS 2), [.t 19, .t 20], none⟩,
 ⟨some 22, .pure (.faddr 0), [.t 21], none⟩,
 ⟨some 23, .read (.load none), [.t 22], none⟩,
 ⟨some 24, .pure (.un .not), [.t 23], none⟩,
 ⟨some 31, .eff (.append 3 24), [.c (.snil 3), .t 30], none⟩,
 ⟨some 17, .read (.load none), [.t 16], none⟩,
 ⟨some 32, .pure (.build [.bool false, .snil 3] [(0, 1), (1, 1)]), [.t 24, .t 31], none⟩,
 ⟨some 33, .newAt 0 (.buildSlice 2 [.agg [.bool false, .snil 3]] [0]), [.t 32], none⟩,
 ⟨some 34, .eff (.append 2 32), [.t 17, .t 33], none⟩,
 ⟨some 35, .pure (.faddr 0), [.t 3], none⟩,
 ⟨none, .eff (.store 1), [.t 35, .t 34], none⟩],
 [⟨some 16, .pure (.faddr 0), [.t 3], none⟩,
 ⟨some 18, .pure (.faddr 0), [.t 1], none⟩,
 ⟨some 20, .pure .move, [.t 4], none⟩,
 ⟨some 25, .pure (.faddr 0), [.t 1], none⟩,
 ⟨some 26, .read (.load none), [.t 25], none⟩,
 ⟨some 27, .pure .move, [.t 4], none⟩,
 ⟨some 28, .pure (.iaddrS 2), [.t 26, .t 27], none⟩,
 ⟨some 29, .pure (.faddr 1), [.t 28], none⟩,
 ⟨some 30, .read (.load none), [.t 29], none⟩,
 ⟨some 19, .read (.load none), [.t 18], none⟩,
 ⟨some 21, .pure (.iaddrS 2), [.t 19, .t 20], none⟩,
 ⟨some 22, .pure (.faddr 0), [.t 21], none⟩,
 ⟨some 31, .eff (.append 3 24), [.c (.snil 3), .t 30], none⟩,
 ⟨some 17, .read (.load none), [.t 16], none⟩,
 ⟨some 23, .read (.load none), [.t 22], none⟩,
 ⟨some 24, .pure (.un .not), [.t 23], none⟩,
 ⟨some 32, .pure (.build [.bool false, .snil 3] [(0, 1), (1, 1)]), [.t 24, .t 31], none⟩,
 ⟨some 33, .newAt 0 (.buildSlice 2 [.agg [.bool false, .snil 3]] [0]), [.t 32], none⟩,
 ⟨some 34, .eff (.append 2 32), [.t 17, .t 33], none⟩,
 ⟨some 35, .pure (.faddr 0), [.t 3], none⟩,
 ⟨none, .eff (.store 1), [.t 35, .t 34], none⟩],
 [⟨some 16, .pure (.faddr 0), [.t 3], none⟩,
 ⟨some 18, .pure (.faddr 0), [.t 1], none⟩,
 ⟨some 20, .pure .move, [.t 4], none⟩,
 ⟨some 25, .pure (.faddr 0), [.t 1], none⟩,
 ⟨some 26, .read (.load none), [.t 25], none⟩,
 ⟨some 27, .pure .move, [.t 4], none⟩,
 ⟨some 28, .pure (.iaddrS 2), [.t 26, .t 27], none⟩,
 ⟨some 29, .pure (.faddr 1), [.t 28], none⟩,
 ⟨some 30, .read (.load none), [.t 29], none⟩,
 ⟨some 31, .eff (.append 3 24), [.c (.snil 3), .t 30], none⟩,
 ⟨some 17, .read (.load none), [.t 16], none⟩,
 ⟨some 19, .read (.load none), [.t 18], none⟩,
 ⟨some 21, .pure (.iaddrS 2), [.t 19, .t 20], none⟩,
 ⟨some 22, .pure (.faddr 0), [.t 21], none⟩,
 ⟨some 23, .read (.load none), [.t 22], none⟩,
 ⟨some 24, .pure (.un .not), [.t 23], none⟩,
 ⟨some 32, .pure (.build [.bool false, .snil 3] [(0, 1), (1, 1)]), [.t 24, .t 31], none⟩,
 ⟨some 33, .newAt 0 (.buildSlice 2 [.agg [.bool false, .snil 3]] [0]), [.t 32], none⟩,
 ⟨some 34, .eff (.append 2 32), [.t 17, .t 33], none⟩,
 ⟨some 35, .pure (.faddr 0), [.t 3], none⟩,
 ⟨none, .eff (.store 1), [.t 35, .t 34], none⟩]]))
 (.ops [⟨some 14, .pure .move, [.t 4], none⟩,
 ⟨some 15, .pure (.bin .add), [.t 14, .c (.int .i64 1)], none⟩,
 ⟨some 4, .pure .move, [.t 15], none⟩]))))))
 (.seq (.ops [⟨some 36, .read (.load (some 1)), [.t 3], none⟩,
 ⟨none, .eff (.store 1), [.t 2, .t 36], none⟩])
 .ret))))) }
/-- datakit/automaton.Least -/
def ac336:AFn:=
 { nt:=9, res:=[.cell 2 (some 1)], body:=
 (.seq (.ops [⟨some 1, .new (.box 1), [.t 0], none⟩,
 ⟨some 2, .new (.new 1 [.agg [.snil 2]]), [], none⟩])
 (.seq (.seq (.ops [⟨some 3, .read (.load (some 1)), [.t 1], none⟩,
 ⟨some 4, .pcall 231, [.t 3], none⟩,
 ⟨some 5, .pure (.un .not), [.t 4], none⟩])
 (.cond (.t 5)
 (.seq (.ops [⟨some 6, .pure (.build [.snil 2] []), [], none⟩,
 ⟨none, .eff (.store 1), [.t 2, .t 6], none⟩])
 .ret)
 .skip))
 (.seq (.ops [⟨some 7, .read (.load (some 1)), [.t 1], none⟩,
 ⟨some 8, .pcall 355, [.t 7], none⟩,
 ⟨none, .eff (.store 1), [.t 2, .t 8], none⟩])
 .ret))) }
/-- datakit/datakitref16.Least -/
def ac337:AFn:=
 { nt:=9, res:=[.cell 2 (some 1)], body:=
 (.seq (.ops [⟨some 1, .new (.box 1), [.t 0], none⟩,
 ⟨some 2, .new (.new 1 [.agg [.snil 2]]), [], none⟩])
 (.seq (.seq (.ops [⟨some 3, .read (.load (some 1)), [.t 1], none⟩,
 ⟨some 4, .pcall 326, [.t 3], none⟩,
 ⟨some 5, .pure (.un .not), [.t 4], none⟩])
 (.cond (.t 5)
 (.seq (.ops [⟨some 6, .pure (.build [.snil 2] []), [], none⟩,
 ⟨none, .eff (.store 1), [.t 2, .t 6], none⟩])
 .ret)
 .skip))
 (.seq (.ops [⟨some 7, .read (.load (some 1)), [.t 1], none⟩,
 ⟨some 8, .pcall 356, [.t 7], none⟩,
 ⟨none, .eff (.store 1), [.t 2, .t 8], none⟩])
 .ret))) }
/-- datakit/automaton.Equal -/
def ac342:AFn:=
 { nt:=24, res:=[.tmp 4], body:=
 (.seq (.ops [⟨some 2, .new (.box 1), [.t 0], none⟩,
 ⟨some 3, .new (.box 1), [.t 1], none⟩,
 ⟨some 4, .pure .move, [.c (.bool false)], none⟩])
 (.seq (.seq (.ops [⟨some 7, .read (.load (some 1)), [.t 2], none⟩,
 ⟨some 8, .pcall 231, [.t 7], none⟩,
 ⟨some 9, .pure (.un .not), [.t 8], none⟩,
 ⟨some 10, .pure .move, [.t 9], none⟩,
 ⟨some 11, .read (.load (some 1)), [.t 3], some (10, false)⟩,
 ⟨some 12, .pcall 231, [.t 11], some (10, false)⟩,
 ⟨some 13, .pure (.un .not), [.t 12], some (10, false)⟩,
 ⟨some 14, .pure .pick, [.t 10, .c (.bool true), .t 13], none⟩])
 (.cond (.t 14)
 (.seq (.ops [⟨some 4, .pure .move, [.c (.bool false)], none⟩])
 .ret)
 .skip))
 (.seq (.draw 2 [[⟨some 15, .read (.load (some 1)), [.t 2], none⟩,
 ⟨some 16, .pcall 355, [.t 15], none⟩,
 ⟨some 17, .read (.load (some 1)), [.t 3], none⟩,
 ⟨some 18, .pcall 355, [.t 17], none⟩,
 ⟨some 5, .newAt 0 (.new 1 [.agg [.snil 2]]), [], none⟩,
 ⟨some 6, .newAt 1 (.new 1 [.agg [.snil 2]]), [], none⟩,
 ⟨none, .eff (.store 1), [.t 5, .t 16], none⟩,
 ⟨none, .eff (.store 1), [.t 6, .t 18], none⟩]])
 (.seq (.ops [⟨some 19, .pure (.faddr 0), [.t 5], none⟩,
 ⟨some 20, .read (.load none), [.t 19], none⟩,
 ⟨some 21, .pure (.faddr 0), [.t 6], none⟩,
 ⟨some 22, .read (.load none), [.t 21], none⟩,
 ⟨some 23, .pcall 363, [.t 20, .t 22, .c (.fn 364 [])], none⟩,
 ⟨some 4, .pure .move, [.t 23], none⟩])
 .ret)))) }
/-- datakit/datakitref16.Equal -/
def ac343:AFn:=
 { nt:=18, res:=[.tmp 4], body:=
 (.seq (.ops [⟨some 2, .new (.box 1), [.t 0], none⟩,
 ⟨some 3, .new (.box 1), [.t 1], none⟩,
 ⟨some 4, .pure .move, [.c (.bool false)], none⟩])
 (.seq (.ops [⟨some 5, .read (.load (some 1)), [.t 2], none⟩,
 ⟨some 6, .pcall 326, [.t 5], none⟩,
 ⟨some 7, .pure .move, [.t 6], none⟩,
 ⟨some 8, .read (.load (some 1)), [.t 3], some (7, true)⟩,
 ⟨some 9, .pcall 326, [.t 8], some (7, true)⟩,
 ⟨some 10, .pure .pick, [.t 7, .t 9, .c (.bool false)], none⟩,
 ⟨some 11, .pure .move, [.t 10], none⟩,
 ⟨some 12, .read (.load (some 1)), [.t 2], some (11, true)⟩,
 ⟨some 13, .pcall 356, [.t 12], some (11, true)⟩,
 ⟨some 14, .read (.load (some 1)), [.t 3], some (11, true)⟩,
 ⟨some 15, .pcall 356, [.t 14], some (11, true)⟩,
 ⟨some 16, .pcall 321, [.t 13, .t 15], some (11, true)⟩,
 ⟨some 17, .pure .pick, [.t 11, .t 16, .c (.bool false)], none⟩,
 ⟨some 4, .pure .move, [.t 17], none⟩])
 .ret)) }
/-- datakit/datakitref16.state -/
def ac350:AFn:=
 { nt:=52, res:=[.tmp 4], body:=
 (.seq (.ops [⟨some 2, .new (.box 2), [.t 0], none⟩,
 ⟨some 4, .pure .move, [.c (.bool false)], none⟩])
 (.seq (.ops [⟨some 5, .pure .move, [.c (.int .i64 0)], none⟩])
 (.seq (.seq (.ops [⟨some 6, .pure .move, [.c (.int .i64 0)], none⟩])
 (.block 0
 (.loop [1, 2, 5, 6]
 (.seq (.seq (.ops [⟨some 8, .pure .move, [.t 6], none⟩,
 ⟨some 9, .pure (.faddr 1), [.t 2], none⟩,
 ⟨some 10, .read (.load none), [.t 9], none⟩,
 ⟨some 11, .pure .lenL, [.t 10], none⟩,
 ⟨some 12, .pure (.bin .lss), [.t 8, .t 11], none⟩])
 (.cond (.t 12)
 .skip
 (.exit 0)))
 (.seq (.block 1
 (.seq (.ops [⟨some 15, .pure (.faddr 1), [.t 2], none⟩,
 ⟨some 16, .read (.load none), [.t 15], none⟩,
 ⟨some 17, .pure .move, [.t 6], none⟩,
 ⟨some 18, .pure (.iaddrS 3), [.t 16, .t 17], none⟩,
 ⟨some 19, .read (.load (some 3)), [.t 18], none⟩,
 ⟨some 7, .new (.new 3 [.agg [.int .i64 0, .int .i64 0, .int .i64 0]]), [], none⟩,
 ⟨none, .eff (.store 3), [.t 7, .t 19], none⟩])
 (.seq (.seq (.ops [⟨some 20, .pure (.faddr 0), [.t 7], none⟩,
 ⟨some 21, .read (.load none), [.t 20], none⟩,
 ⟨some 22, .pure .move, [.t 5], none⟩,
 ⟨some 23, .pure (.bin .neq), [.t 21, .t 22], none⟩,
 ⟨some 24, .pure .move, [.t 23], none⟩,
 ⟨some 25, .pure (.faddr 1), [.t 7], some (24, false)⟩,
 ⟨some 26, .read (.load none), [.t 25], some (24, false)⟩,
 ⟨some 27, .pure (.faddr 0), [.t 7], some (24, false)⟩,
 ⟨some 28, .read (.load none), [.t 27], some (24, false)⟩,
 ⟨some 29, .pure (.bin .lss), [.t 26, .t 28], some (24, false)⟩,
 ⟨some 30, .pure .pick, [.t 24, .c (.bool true), .t 29], none⟩,
 ⟨some 31, .pure .move, [.t 30], none⟩,
 ⟨some 32, .pure (.faddr 1), [.t 7], some (31, false)⟩,
 ⟨some 33, .read (.load none), [.t 32], some (31, false)⟩,
 ⟨some 34, .pure (.bin .gtr), [.t 33, .c (.int .i64 255)], some (31, false)⟩,
 ⟨some 35, .pure .pick, [.t 31, .c (.bool true), .t 34], none⟩,
 ⟨some 36, .pure .move, [.t 35], none⟩,
 ⟨some 37, .pure (.faddr 2), [.t 7], some (36, false)⟩,
 ⟨some 38, .read (.load none), [.t 37], some (36, false)⟩,
 ⟨some 39, .pure (.bin .lss), [.t 38, .c (.int .i64 0)], some (36, false)⟩,
 ⟨some 40, .pure .pick, [.t 36, .c (.bool true), .t 39], none⟩,
 ⟨some 41, .pure .move, [.t 40], none⟩,
 ⟨some 42, .pure (.faddr 2), [.t 7], some (41, false)⟩,
 ⟨some 43, .read (.load none), [.t 42], some (41, false)⟩,
 ⟨some 44, .pure .move, [.t 1], some (41, false)⟩,
 ⟨some 45, .pure (.bin .geq), [.t 43, .t 44], some (41, false)⟩,
 ⟨some 46, .pure .pick, [.t 41, .c (.bool true), .t 45], none⟩])
 (.cond (.t 46)
 (.seq (.ops [⟨some 4, .pure .move, [.c (.bool false)], none⟩])
 .ret)
 .skip))
 (.ops [⟨some 47, .pure (.faddr 1), [.t 7], none⟩,
 ⟨some 48, .read (.load none), [.t 47], none⟩,
 ⟨some 49, .pure (.bin .add), [.t 48, .c (.int .i64 1)], none⟩,
 ⟨some 5, .pure .move, [.t 49], none⟩]))))
 (.ops [⟨some 13, .pure .move, [.t 6], none⟩,
 ⟨some 14, .pure (.bin .add), [.t 13, .c (.int .i64 1)], none⟩,
 ⟨some 6, .pure .move, [.t 14], none⟩]))))))
 (.seq (.ops [⟨some 50, .pure .move, [.t 5], none⟩,
 ⟨some 51, .pure (.bin .eql), [.t 50, .c (.int .i64 256)], none⟩,
 ⟨some 4, .pure .move, [.t 51], none⟩])
 .ret)))) }
/-- datakit/datakitref16.Next -/
def ac351:AFn:=
 { nt:=41, res:=[.tmp 6], body:=
 (.seq (.ops [⟨some 3, .new (.box 1), [.t 0], none⟩,
 ⟨some 6, .pure .move, [.c (.int .i64 0)], none⟩])
 (.seq (.seq (.ops [⟨some 7, .pure .move, [.c (.int .i64 0)], none⟩])
 (.block 0
 (.loop [1, 2, 3, 7]
 (.seq (.seq (.ops [⟨some 9, .pure .move, [.t 7], none⟩,
 ⟨some 10, .pure (.faddr 0), [.t 3], none⟩,
 ⟨some 11, .read (.load none), [.t 10], none⟩,
 ⟨some 12, .pure .move, [.t 1], none⟩,
 ⟨some 13, .pure (.iaddrS 2), [.t 11, .t 12], none⟩,
 ⟨some 14, .pure (.faddr 1), [.t 13], none⟩,
 ⟨some 15, .read (.load none), [.t 14], none⟩,
 ⟨some 16, .pure .lenL, [.t 15], none⟩,
 ⟨some 17, .pure (.bin .lss), [.t 9, .t 16], none⟩])
 (.cond (.t 17)
 .skip
 (.exit 0)))
 (.seq (.block 1
 (.seq (.ops [⟨some 20, .pure (.faddr 0), [.t 3], none⟩,
 ⟨some 21, .read (.load none), [.t 20], none⟩,
 ⟨some 22, .pure .move, [.t 1], none⟩,
 ⟨some 23, .pure (.iaddrS 2), [.t 21, .t 22], none⟩,
 ⟨some 24, .pure (.faddr 1), [.t 23], none⟩,
 ⟨some 25, .read (.load none), [.t 24], none⟩,
 ⟨some 26, .pure .move, [.t 7], none⟩,
 ⟨some 27, .pure (.iaddrS 3), [.t 25, .t 26], none⟩,
 ⟨some 28, .read (.load (some 3)), [.t 27], none⟩,
 ⟨some 8, .new (.new 3 [.agg [.int .i64 0, .int .i64 0, .int .i64 0]]), [], none⟩,
 ⟨none, .eff (.store 3), [.t 8, .t 28], none⟩])
 (.seq (.ops [⟨some 29, .pure .move, [.t 2], none⟩,
 ⟨some 30, .pure (.faddr 0), [.t 8], none⟩,
 ⟨some 31, .read (.load none), [.t 30], none⟩,
 ⟨some 32, .pure (.bin .geq), [.t 29, .t 31], none⟩,
 ⟨some 33, .pure .move, [.t 32], none⟩,
 ⟨some 34, .pure .move, [.t 2], some (33, true)⟩,
 ⟨some 35, .pure (.faddr 1), [.t 8], some (33, true)⟩,
 ⟨some 36, .read (.load none), [.t 35], some (33, true)⟩,
 ⟨some 37, .pure (.bin .leq), [.t 34, .t 36], some (33, true)⟩,
 ⟨some 38, .pure .pick, [.t 33, .t 37, .c (.bool false)], none⟩])
 (.cond (.t 38)
 (.seq (.ops [⟨some 39, .pure (.faddr 2), [.t 8], none⟩,
 ⟨some 40, .read (.load none), [.t 39], none⟩,
 ⟨some 6, .pure .move, [.t 40], none⟩])
 .ret)
 .skip))))
 (.ops [⟨some 18, .pure .move, [.t 7], none⟩,
 ⟨some 19, .pure (.bin .add), [.t 18, .c (.int .i64 1)], none⟩,
 ⟨some 7, .pure .move, [.t 19], none⟩]))))))
 (.seq (.ops [⟨some 6, .pure .move, [.c (.int .i64 0)], none⟩])
 .ret))) }
/-- datakit/datakitref16.least -/
def ac356:AFn:=
 { nt:=90, res:=[.cell 2 (some 1)], body:=
 (.seq (.ops [⟨some 1, .new (.box 1), [.t 0], none⟩,
 ⟨some 2, .new (.new 1 [.agg [.snil 2]]), [], none⟩])
 (.seq (.ops [⟨some 13, .read (.load (some 1)), [.t 1], none⟩,
 ⟨some 14, .pcall 373, [.t 13], none⟩,
 ⟨some 3, .pure .move, [.t 14], none⟩])
 (.seq (.ops [⟨some 15, .read (.load (some 1)), [.t 1], none⟩,
 ⟨some 16, .new (.buildSlice 1 [.agg [.snil 2]] [0]), [.t 15], none⟩,
 ⟨some 17, .pcall 374, [.t 16], none⟩,
 ⟨some 4, .pure .move, [.t 17], none⟩])
 (.seq (.ops [⟨some 18, .new (.buildSlice 1 [.int .i64 0] [0]), [.c (.int .i64 0)], none⟩,
 ⟨some 5, .pure .move, [.t 18], none⟩])
 (.seq (.ops [⟨some 6, .new (.new 1 [.agg [.snil 2]]), [], none⟩])
 (.seq (.seq (.ops [⟨some 7, .pure .move, [.c (.int .i64 0)], none⟩])
 (.block 0
 (.loop [1, 2, 3, 4, 5, 6, 7]
 (.seq (.seq (.ops [⟨some 19, .pure .move, [.t 7], none⟩,
 ⟨some 20, .pure .move, [.t 5], none⟩,
 ⟨some 21, .pure .lenL, [.t 20], none⟩,
 ⟨some 22, .pure (.bin .lss), [.t 19, .t 21], none⟩])
 (.cond (.t 22)
 .skip
 (.exit 0)))
 (.seq (.block 1
 (.seq (.ops [⟨some 25, .pure .move, [.t 5], none⟩,
 ⟨some 26, .pure .move, [.t 7], none⟩,
 ⟨some 27, .pure (.iaddrS 1), [.t 25, .t 26], none⟩,
 ⟨some 28, .read (.load none), [.t 27], none⟩,
 ⟨some 8, .pure .move, [.t 28], none⟩])
 (.seq (.ops [⟨some 9, .pure .move, [.c (.snil 1)], none⟩])
 (.seq (.seq (.ops [⟨some 10, .pure .move, [.c (.int .i64 0)], none⟩])
 (.block 2
 (.loop [1, 2, 3, 4, 5, 6, 7, 8, 9, 10]
 (.seq (.seq (.ops [⟨some 29, .pure .move, [.t 10], none⟩,
 ⟨some 30, .pure .move, [.t 4], none⟩,
 ⟨some 31, .pure .lenL, [.t 30], none⟩,
 ⟨some 32, .pure (.bin .lss), [.t 29, .t 31], none⟩])
 (.cond (.t 32)
 .skip
 (.exit 2)))
 (.seq (.block 3
 (.seq (.ops [⟨some 35, .read (.load (some 1)), [.t 1], none⟩,
 ⟨some 36, .pure .move, [.t 8], none⟩,
 ⟨some 37, .pure .move, [.t 4], none⟩,
 ⟨some 38, .pure .move, [.t 10], none⟩,
 ⟨some 39, .pure (.iaddrS 1), [.t 37, .t 38], none⟩,
 ⟨some 40, .read (.load none), [.t 39], none⟩,
 ⟨some 41, .pcall 351, [.t 35, .t 36, .t 40], none⟩,
 ⟨some 11, .pure .move, [.t 41], none⟩])
 (.seq (.ops [⟨some 12, .pure .move, [.c (.int .i64 0)], none⟩])
 (.seq (.block 4
 (.loop [1, 2, 3, 4, 5, 6, 7, 8, 9, 10, 11, 12]
 (.seq (.seq (.ops [⟨some 42, .pure .move, [.t 12], none⟩,
 ⟨some 43, .pure .move, [.t 5], none⟩,
 ⟨some 44, .pure .lenL, [.t 43], none⟩,
 ⟨some 45, .pure (.bin .lss), [.t 42, .t 44], none⟩,
 ⟨some 46, .pure .move, [.t 45], none⟩,
 ⟨some 47, .pure .move, [.t 3], some (46, true)⟩,
 ⟨some 48, .pure .move, [.t 5], some (46, true)⟩,
 ⟨some 49, .pure .move, [.t 12], some (46, true)⟩,
 ⟨some 50, .pure (.iaddrS 1), [.t 48, .t 49], some (46, true)⟩,
 ⟨some 51, .read (.load none), [.t 50], some (46, true)⟩,
 ⟨some 52, .pure (.iaddrS 1), [.t 47, .t 51], some (46, true)⟩,
 ⟨some 53, .read (.load none), [.t 52], some (46, true)⟩,
 ⟨some 54, .pure .move, [.t 3], some (46, true)⟩,
 ⟨some 55, .pure .move, [.t 11], some (46, true)⟩,
 ⟨some 56, .pure (.iaddrS 1), [.t 54, .t 55], some (46, true)⟩,
 ⟨some 57, .read (.load none), [.t 56], some (46, true)⟩,
 ⟨some 58, .pure (.bin .neq), [.t 53, .t 57], some (46, true)⟩,
 ⟨some 59, .pure .pick, [.t 46, .t 58, .c (.bool false)], none⟩])
 (.cond (.t 59)
 .skip
 (.exit 4)))
 (.block 5
 (.ops [⟨some 60, .pure .move, [.t 12], none⟩,
 ⟨some 61, .pure (.bin .add), [.t 60, .c (.int .i64 1)], none⟩,
 ⟨some 12, .pure .move, [.t 61], none⟩])))))
 (.seq (.seq (.ops [⟨some 62, .pure .move, [.t 12], none⟩,
 ⟨some 63, .pure .move, [.t 5], none⟩,
 ⟨some 64, .pure .lenL, [.t 63], none⟩,
 ⟨some 65, .pure (.bin .eql), [.t 62, .t 64], none⟩])
 (.cond (.t 65)
 (.ops [⟨some 66, .pure .move, [.t 5], none⟩,
 ⟨some 67, .pure .move, [.t 11], none⟩,
 ⟨some 68, .new (.buildSlice 1 [.int .i64 0] [0]), [.t 67], none⟩,
 ⟨some 69, .eff (.append 1 8), [.t 66, .t 68], none⟩,
 ⟨some 5, .pure .move, [.t 69], none⟩])
 .skip))
 (.ops [⟨some 70, .pure .move, [.t 9], none⟩,
 ⟨some 71, .pure .move, [.t 12], none⟩,
 ⟨some 72, .new (.buildSlice 1 [.int .i64 0] [0]), [.t 71], none⟩,
 ⟨some 73, .eff (.append 1 8), [.t 70, .t 72], none⟩,
 ⟨some 9, .pure .move, [.t 73], none⟩]))))))
 (.ops [⟨some 33, .pure .move, [.t 10], none⟩,
 ⟨some 34, .pure (.bin .add), [.t 33, .c (.int .i64 1)], none⟩,
 ⟨some 10, .pure .move, [.t 34], none⟩]))))))
 (.draw 1 [[⟨some 74, .pure (.faddr 0), [.t 6], none⟩,
 ⟨some 75, .read (.load none), [.t 74], none⟩,
 ⟨some 76, .pure (.faddr 0), [.t 1], none⟩,
 ⟨some 77, .read (.load none), [.t 76], none⟩,
 ⟨some 78, .pure .move, [.t 8], none⟩,
 ⟨some 79, .pure (.iaddrS 2), [.t 77, .t 78], none⟩,
 ⟨some 80, .pure (.faddr 0), [.t 79], none⟩,
 ⟨some 81, .read (.load none), [.t 80], none⟩,
 ⟨some 82, .pure .move, [.t 4], none⟩,
 ⟨some 83, .pure .move, [.t 9], none⟩,
 ⟨some 84, .pcall 375, [.t 82, .t 83], none⟩,
 ⟨some 85, .pure (.build [.bool false, .snil 3] [(0, 1), (1, 1)]), [.t 81, .t 84], none⟩,
 ⟨some 86, .newAt 0 (.buildSlice 2 [.agg [.bool false, .snil 3]] [0]), [.t 85], none⟩,
 ⟨some 87, .eff (.append 2 32), [.t 75, .t 86], none⟩,
 ⟨some 88, .pure (.faddr 0), [.t 6], none⟩,
 ⟨none, .eff (.store 1), [.t 88, .t 87], none⟩]])))))
 (.ops [⟨some 23, .pure .move, [.t 7], none⟩,
 ⟨some 24, .pure (.bin .add), [.t 23, .c (.int .i64 1)], none⟩,
 ⟨some 7, .pure .move, [.t 24], none⟩]))))))
 (.seq (.ops [⟨some 89, .read (.load (some 1)), [.t 6], none⟩,
 ⟨none, .eff (.store 1), [.t 2, .t 89], none⟩])
 .ret))))))) }
/-- slices.EqualFunc[[]datakit/api.State,[]datakit/api.State,datakit/api.State,datakit/api.State] -/
def ac363:AFn:=
 { nt:=32, res:=[.tmp 6], body:=
 (.seq (.ops [⟨some 6, .pure .move, [.c (.bool false)], none⟩])
 (.seq (.seq (.ops [⟨some 10, .pure .move, [.t 0], none⟩,
 ⟨some 11, .pure .lenL, [.t 10], none⟩,
 ⟨some 12, .pure .move, [.t 1], none⟩,
 ⟨some 13, .pure .lenL, [.t 12], none⟩,
 ⟨some 14, .pure (.bin .neq), [.t 11, .t 13], none⟩])
 (.cond (.t 14)
 (.seq (.ops [⟨some 6, .pure .move, [.c (.bool false)], none⟩])
 .ret)
 .skip))
 (.seq (.seq (.ops [⟨some 15, .pure .move, [.t 0], none⟩,
 ⟨some 16, .pure .lenL, [.t 15], none⟩,
 ⟨some 17, .pure .move, [.c (.int .i64 0)], none⟩])
 (.block 0
 (.loop [1, 2, 15, 16, 17]
 (.seq (.ops [⟨some 18, .pure (.bin .lss), [.t 17, .t 16], none⟩])
 (.seq (.cond (.t 18)
 .skip
 (.exit 0))
 (.seq (.block 1
 (.seq (.ops [⟨some 19, .pure .move, [.t 17], none⟩,
 ⟨some 20, .pure (.iaddrS 2), [.t 15, .t 17], none⟩,
 ⟨some 21, .read (.load (some 2)), [.t 20], none⟩,
 ⟨some 8, .new (.new 2 [.agg [.bool false, .snil 3]]), [], none⟩,
 ⟨some 7, .pure .move, [.t 19], none⟩,
 ⟨none, .eff (.store 2), [.t 8, .t 21], none⟩])
 (.seq (.ops [⟨some 22, .pure .move, [.t 1], none⟩,
 ⟨some 23, .pure .move, [.t 7], none⟩,
 ⟨some 24, .pure (.iaddrS 2), [.t 22, .t 23], none⟩,
 ⟨some 25, .read (.load (some 2)), [.t 24], none⟩,
 ⟨some 9, .new (.new 2 [.agg [.bool false, .snil 3]]), [], none⟩,
 ⟨none, .eff (.store 2), [.t 9, .t 25], none⟩])
 (.seq (.ops [⟨some 26, .pure .move, [.t 2], none⟩,
 ⟨some 27, .read (.load (some 2)), [.t 8], none⟩,
 ⟨some 28, .read (.load (some 2)), [.t 9], none⟩,
 ⟨some 29, .callv, [.t 26, .t 27, .t 28], none⟩,
 ⟨some 30, .pure (.un .not), [.t 29], none⟩])
 (.cond (.t 30)
 (.seq (.ops [⟨some 6, .pure .move, [.c (.bool false)], none⟩])
 .ret)
 .skip)))))
 (.ops [⟨some 31, .pure (.bin .add), [.t 17, .c (.int .i64 1)], none⟩,
 ⟨some 17, .pure .move, [.t 31], none⟩])))))))
 (.seq (.ops [⟨some 6, .pure .move, [.c (.bool true)], none⟩])
 .ret)))) }
/-- datakit/automaton.Equal$1 -/
def ac364:AFn:=
 { nt:=17, res:=[.tmp 4], body:=
 (.seq (.ops [⟨some 2, .new (.box 2), [.t 0], none⟩,
 ⟨some 3, .new (.box 2), [.t 1], none⟩,
 ⟨some 4, .pure .move, [.c (.bool false)], none⟩])
 (.seq (.ops [⟨some 5, .pure (.faddr 0), [.t 2], none⟩,
 ⟨some 6, .read (.load none), [.t 5], none⟩,
 ⟨some 7, .pure (.faddr 0), [.t 3], none⟩,
 ⟨some 8, .read (.load none), [.t 7], none⟩,
 ⟨some 9, .pure (.eqB false), [.t 6, .t 8], none⟩,
 ⟨some 10, .pure .move, [.t 9], none⟩,
 ⟨some 11, .pure (.faddr 1), [.t 2], some (10, true)⟩,
 ⟨some 12, .read (.load none), [.t 11], some (10, true)⟩,
 ⟨some 13, .pure (.faddr 1), [.t 3], some (10, true)⟩,
 ⟨some 14, .read (.load none), [.t 13], some (10, true)⟩,
 ⟨some 15, .pcall 365, [.t 12, .t 14], some (10, true)⟩,
 ⟨some 16, .pure .pick, [.t 10, .t 15, .c (.bool false)], none⟩,
 ⟨some 4, .pure .move, [.t 16], none⟩])
 .ret)) }
/-- slices.Equal[[]datakit/api.Arc,datakit/api.Arc] -/
def ac365:AFn:=
 { nt:=26, res:=[.tmp 4], body:=
 (.seq (.ops [⟨some 4, .pure .move, [.c (.bool false)], none⟩])
 (.seq (.seq (.ops [⟨some 6, .pure .move, [.t 0], none⟩,
 ⟨some 7, .pure .lenL, [.t 6], none⟩,
 ⟨some 8, .pure .move, [.t 1], none⟩,
 ⟨some 9, .pure .lenL, [.t 8], none⟩,
 ⟨some 10, .pure (.bin .neq), [.t 7, .t 9], none⟩])
 (.cond (.t 10)
 (.seq (.ops [⟨some 4, .pure .move, [.c (.bool false)], none⟩])
 .ret)
 .skip))
 (.seq (.seq (.ops [⟨some 11, .pure .move, [.t 0], none⟩,
 ⟨some 12, .pure .lenL, [.t 11], none⟩,
 ⟨some 13, .pure .move, [.c (.int .i64 0)], none⟩])
 (.block 0
 (.loop [0, 1, 12, 13]
 (.seq (.ops [⟨some 14, .pure (.bin .lss), [.t 13, .t 12], none⟩])
 (.seq (.cond (.t 14)
 .skip
 (.exit 0))
 (.seq (.block 1
 (.seq (.ops [⟨some 15, .pure .move, [.t 13], none⟩,
 ⟨some 5, .pure .move, [.t 15], none⟩])
 (.seq (.ops [⟨some 16, .pure .move, [.t 0], none⟩,
 ⟨some 17, .pure .move, [.t 5], none⟩,
 ⟨some 18, .pure (.iaddrS 3), [.t 16, .t 17], none⟩,
 ⟨some 19, .read (.load (some 3)), [.t 18], none⟩,
 ⟨some 20, .pure .move, [.t 1], none⟩,
 ⟨some 21, .pure .move, [.t 5], none⟩,
 ⟨some 22, .pure (.iaddrS 3), [.t 20, .t 21], none⟩,
 ⟨some 23, .read (.load (some 3)), [.t 22], none⟩,
 ⟨some 24, .pure (.eqF [.int, .int, .int] true), [.t 19, .t 23], none⟩])
 (.cond (.t 24)
 (.seq (.ops [⟨some 4, .pure .move, [.c (.bool false)], none⟩])
 .ret)
 .skip))))
 (.ops [⟨some 25, .pure (.bin .add), [.t 13, .c (.int .i64 1)], none⟩,
 ⟨some 13, .pure .move, [.t 25], none⟩])))))))
 (.seq (.ops [⟨some 4, .pure .move, [.c (.bool true)], none⟩])
 .ret)))) }
/-- datakit/datakitref16.classes -/
def ac373:AFn:=
 { nt:=91, res:=[.tmp 2], body:=
 (.seq (.ops [⟨some 1, .new (.box 1), [.t 0], none⟩,
 ⟨some 2, .pure .move, [.c (.snil 1)], none⟩])
 (.seq (.ops [⟨some 13, .read (.load (some 1)), [.t 1], none⟩,
 ⟨some 14, .new (.buildSlice 1 [.agg [.snil 2]] [0]), [.t 13], none⟩,
 ⟨some 15, .pcall 374, [.t 14], none⟩,
 ⟨some 3, .pure .move, [.t 15], none⟩])
 (.seq (.ops [⟨some 16, .pure (.faddr 0), [.t 1], none⟩,
 ⟨some 17, .read (.load none), [.t 16], none⟩,
 ⟨some 18, .pure .lenL, [.t 17], none⟩,
 ⟨some 19, .new (.mkSlice 1 8 (.int .i64 0)), [.t 18, .t 18], none⟩,
 ⟨some 4, .pure .move, [.t 19], none⟩])
 (.seq (.seq (.ops [⟨some 5, .pure .move, [.c (.int .i64 0)], none⟩])
 (.block 0
 (.loop [1, 3, 4, 5]
 (.seq (.seq (.ops [⟨some 20, .pure .move, [.t 5], none⟩,
 ⟨some 21, .pure .move, [.t 4], none⟩,
 ⟨some 22, .pure .lenL, [.t 21], none⟩,
 ⟨some 23, .pure (.bin .lss), [.t 20, .t 22], none⟩])
 (.cond (.t 23)
 .skip
 (.exit 0)))
 (.seq (.block 1
 (.seq (.ops [⟨some 26, .pure (.faddr 0), [.t 1], none⟩,
 ⟨some 27, .read (.load none), [.t 26], none⟩,
 ⟨some 28, .pure .move, [.t 5], none⟩,
 ⟨some 29, .pure (.iaddrS 2), [.t 27, .t 28], none⟩,
 ⟨some 30, .pure (.faddr 0), [.t 29], none⟩,
 ⟨some 31, .read (.load none), [.t 30], none⟩])
 (.cond (.t 31)
 (.ops [⟨some 32, .pure .move, [.t 4], none⟩,
 ⟨some 33, .pure .move, [.t 5], none⟩,
 ⟨some 34, .pure (.iaddrS 1), [.t 32, .t 33], none⟩,
 ⟨none, .eff (.store 1), [.t 34, .c (.int .i64 1)], none⟩])
 .skip)))
 (.ops [⟨some 24, .pure .move, [.t 5], none⟩,
 ⟨some 25, .pure (.bin .add), [.t 24, .c (.int .i64 1)], none⟩,
 ⟨some 5, .pure .move, [.t 25], none⟩]))))))
 (.seq (.ops [⟨some 6, .pure .move, [.c (.int .i64 0)], none⟩])
 (.block 2
 (.loop [1, 3, 4, 6]
 (.block 3
 (.seq (.ops [⟨some 7, .pure .move, [.c (.snil 1)], none⟩])
 (.seq (.ops [⟨some 35, .pure .move, [.t 4], none⟩,
 ⟨some 36, .pure .lenL, [.t 35], none⟩,
 ⟨some 37, .new (.mkSlice 1 8 (.int .i64 0)), [.t 36, .t 36], none⟩,
 ⟨some 8, .pure .move, [.t 37], none⟩])
 (.seq (.seq (.ops [⟨some 9, .pure .move, [.c (.int .i64 0)], none⟩])
 (.block 4
 (.loop [1, 3, 4, 6, 7, 8, 9, 2007]
 (.seq (.seq (.ops [⟨some 38, .pure .move, [.t 9], none⟩,
 ⟨some 39, .pure .move, [.t 4], none⟩,
 ⟨some 40, .pure .lenL, [.t 39], none⟩,
 ⟨some 41, .pure (.bin .lss), [.t 38, .t 40], none⟩])
 (.cond (.t 41)
 .skip
 (.exit 4)))
 (.seq (.block 5
 (.seq (.ops [⟨some 44, .pure .move, [.t 4], none⟩,
 ⟨some 45, .pure .move, [.t 9], none⟩,
 ⟨some 46, .pure (.iaddrS 1), [.t 44, .t 45], none⟩,
 ⟨some 47, .read (.load none), [.t 46], none⟩,
 ⟨some 48, .new (.buildSlice 1 [.int .i64 0] [0]), [.t 47], none⟩,
 ⟨some 10, .pure .move, [.t 48], none⟩])
 (.seq (.seq (.ops [⟨some 11, .pure .move, [.c (.int .i64 0)], none⟩])
 (.block 6
 (.loop [1, 3, 4, 6, 7, 8, 9, 10, 11]
 (.seq (.seq (.ops [⟨some 49, .pure .move, [.t 11], none⟩,
 ⟨some 50, .pure .move, [.t 3], none⟩,
 ⟨some 51, .pure .lenL, [.t 50], none⟩,
 ⟨some 52, .pure (.bin .lss), [.t 49, .t 51], none⟩])
 (.cond (.t 52)
 .skip
 (.exit 6)))
 (.seq (.block 7
 (.draw 1 [[⟨some 55, .pure .move, [.t 10], none⟩,
 ⟨some 56, .pure .move, [.t 4], none⟩,
 ⟨some 57, .read (.load (some 1)), [.t 1], none⟩,
 ⟨some 58, .pure .move, [.t 9], none⟩,
 ⟨some 59, .pure .move, [.t 3], none⟩,
 ⟨some 60, .pure .move, [.t 11], none⟩,
 ⟨some 61, .pure (.iaddrS 1), [.t 59, .t 60], none⟩,
 ⟨some 62, .read (.load none), [.t 61], none⟩,
 ⟨some 63, .pcall 351, [.t 57, .t 58, .t 62], none⟩,
 ⟨some 64, .pure (.iaddrS 1), [.t 56, .t 63], none⟩,
 ⟨some 65, .read (.load none), [.t 64], none⟩,
 ⟨some 66, .newAt 0 (.buildSlice 1 [.int .i64 0] [0]), [.t 65], none⟩,
 ⟨some 67, .eff (.append 1 8), [.t 55, .t 66], none⟩,
 ⟨some 10, .pure .move, [.t 67], none⟩]]))
 (.ops [⟨some 53, .pure .move, [.t 11], none⟩,
 ⟨some 54, .pure (.bin .add), [.t 53, .c (.int .i64 1)], none⟩,
 ⟨some 11, .pure .move, [.t 54], none⟩]))))))
 (.seq (.ops [⟨some 68, .pure .move, [.t 7], none⟩,
 ⟨some 69, .pure .move, [.t 10], none⟩,
 ⟨some 70, .pcall 392, [.t 68, .t 69], none⟩,
 ⟨some 12, .pure .move, [.t 70], none⟩])
 (.seq (.seq (.ops [⟨some 71, .pure .move, [.t 12], none⟩,
 ⟨some 72, .pure (.bin .lss), [.t 71, .c (.int .i64 0)], none⟩])
 (.cond (.t 72)
 (.seq (.ops [⟨some 73, .pure .move, [.t 7], none⟩,
 ⟨some 74, .pure .lenL, [.t 73], none⟩,
 ⟨some 12, .pure .move, [.t 74], none⟩])
 (.ops [⟨some 75, .pure .move, [.t 7], none⟩,
 ⟨some 76, .pure .move, [.t 10], none⟩,
 ⟨some 77, .new (.buildSlice 1 [.snil 1] [0]), [.t 76], none⟩,
 ⟨some 78, .eff (.append 1 24), [.t 75, .t 77], none⟩,
 ⟨some 7, .pure .move, [.t 78], none⟩]))
 .skip))
 (.ops [⟨some 79, .pure .move, [.t 8], none⟩,
 ⟨some 80, .pure .move, [.t 9], none⟩,
 ⟨some 81, .pure .move, [.t 12], none⟩,
 ⟨some 82, .pure (.iaddrS 1), [.t 79, .t 80], none⟩,
 ⟨none, .eff (.store 1), [.t 82, .t 81], none⟩]))))))
 (.ops [⟨some 42, .pure .move, [.t 9], none⟩,
 ⟨some 43, .pure (.bin .add), [.t 42, .c (.int .i64 1)], none⟩,
 ⟨some 9, .pure .move, [.t 43], none⟩]))))))
 (.seq (.ops [⟨some 83, .pure .move, [.t 8], none⟩,
 ⟨some 4, .pure .move, [.t 83], none⟩])
 (.seq (.seq (.ops [⟨some 84, .pure .move, [.t 7], none⟩,
 ⟨some 85, .pure .lenL, [.t 84], none⟩,
 ⟨some 86, .pure .move, [.t 6], none⟩,
 ⟨some 87, .pure (.bin .eql), [.t 85, .t 86], none⟩])
 (.cond (.t 87)
 (.seq (.ops [⟨some 88, .pure .move, [.t 4], none⟩,
 ⟨some 2, .pure .move, [.t 88], none⟩])
 .ret)
 .skip))
 (.ops [⟨some 89, .pure .move, [.t 7], none⟩,
 ⟨some 90, .pure .lenL, [.t 89], none⟩,
 ⟨some 6, .pure .move, [.t 90], none⟩])))))))))))))) }
/-- datakit/datakitref16.cuts -/
def ac374:AFn:=
 { nt:=65, res:=[.tmp 2], body:=
 (.seq (.ops [⟨some 2, .pure .move, [.c (.snil 1)], none⟩])
 (.seq (.ops [⟨some 3, .new (.new 1 [.bool false, .bool false, .bool false, .bool false, .bool false, .bool false, .bool false, .bool false, .bool false, .bool false, .bool false, .bool false, .bool false, .bool false, .bool false, .bool false, .bool false, .bool false, .bool false, .bool false, .bool false, .bool false, .bool false, .bool false, .bool false, .bool false, .bool false, .bool false, .bool false, .bool false, .bool false, .bool false, .bool false, .bool false, .bool false, .bool false, .bool false, .bool false, .bool false, .bool false, .bool false, .bool false, .bool false, .bool false, .bool false, .bool false, .bool false, .bool false, .bool false, .bool false, .bool false, .bool false, .bool false, .bool false, .bool false, .bool false, .bool false, .bool false, .bool false, .bool false, .bool false, .bool false, .bool false, .bool false, .bool false, .bool false, .bool false, .bool false, .bool false, .bool false, .bool false, .bool false, .bool false, .bool false, .bool false, .bool false, .bool false, .bool false, .bool false, .bool false, .bool false, .bool false, .bool false, .bool false, .bool false, .bool false, .bool false, .bool false, .bool false, .bool false, .bool false, .bool false, .bool false, .bool false, .bool false, .bool false, .bool false, .bool false, .bool false, .bool false, .bool false, .bool false, .bool false, .bool false, .bool false, .bool false, .bool false, .bool false, .bool false, .bool false, .bool false, .bool false, .bool false, .bool false, .bool false, .bool false, .bool false, .bool false, .bool false, .bool false, .bool false, .bool false, .bool false, .bool false, .bool false, .bool false, .bool false, .bool false, .bool false, .bool false, .bool false, .bool false, .bool false, .bool false, .bool false, .bool false, .bool false, .bool false, .bool false, .bool false, .bool false, .bool false, .bool false, .bool false, .bool false, .bool false, .bool false, .bool false, .bool false, .bool false, .bool false, .bool false, .bool false, .bool false, .bool false, .bool false, .bool false, .bool false, .bool false, .bool false, .bool false, .bool false, .bool false, .bool false, .bool false, .bool false, .bool false, .bool false, .bool false, .bool false, .bool false, .bool false, .bool false, .bool false, .bool false, .bool false, .bool false, .bool false, .bool false, .bool false, .bool false, .bool false, .bool false, .bool false, .bool false, .bool false, .bool false, .bool false, .bool false, .bool false, .bool false, .bool false, .bool false, .bool false, .bool false, .bool false, .bool false, .bool false, .bool false, .bool false, .bool false, .bool false, .bool false, .bool false, .bool false, .bool false, .bool false, .bool false, .bool false, .bool false, .bool false, .bool false, .bool false, .bool false, .bool false, .bool false, .bool false, .bool false, .bool false, .bool false, .bool false, .bool false, .bool false, .bool false, .bool false, .bool false, .bool false, .bool false, .bool false, .bool false, .bool false, .bool false, .bool false, .bool false, .bool false, .bool false, .bool false, .bool false, .bool false, .bool false, .bool false, .bool false, .bool false, .bool false, .bool false, .bool false, .bool false, .bool false, .bool false, .bool false, .bool false, .bool false, .bool false, .bool false, .bool false, .bool false, .bool false]), [], none⟩])
 (.seq (.seq (.ops [⟨some 4, .pure .move, [.c (.int .i64 0)], none⟩])
 (.block 0
 (.loop [0, 3, 4]
 (.seq (.seq (.ops [⟨some 9, .pure .move, [.t 4], none⟩,
 ⟨some 10, .pure .move, [.t 0], none⟩,
 ⟨some 11, .pure .lenL, [.t 10], none⟩,
 ⟨some 12, .pure (.bin .lss), [.t 9, .t 11], none⟩])
 (.cond (.t 12)
 .skip
 (.exit 0)))
 (.seq (.block 1
 (.seq (.ops [⟨some 5, .pure .move, [.c (.int .i64 0)], none⟩])
 (.block 2
 (.loop [0, 3, 4, 5]
 (.seq (.seq (.ops [⟨some 15, .pure .move, [.t 5], none⟩,
 ⟨some 16, .pure .move, [.t 0], none⟩,
 ⟨some 17, .pure .move, [.t 4], none⟩,
 ⟨some 18, .pure (.iaddrS 1), [.t 16, .t 17], none⟩,
 ⟨some 19, .pure (.faddr 0), [.t 18], none⟩,
 ⟨some 20, .read (.load none), [.t 19], none⟩,
 ⟨some 21, .pure .lenL, [.t 20], none⟩,
 ⟨some 22, .pure (.bin .lss), [.t 15, .t 21], none⟩])
 (.cond (.t 22)
 .skip
 (.exit 2)))
 (.seq (.block 3
 (.seq (.ops [⟨some 6, .pure .move, [.c (.int .i64 0)], none⟩])
 (.block 4
 (.loop [0, 3, 4, 5, 6]
 (.seq (.seq (.ops [⟨some 25, .pure .move, [.t 6], none⟩,
 ⟨some 26, .pure .move, [.t 0], none⟩,
 ⟨some 27, .pure .move, [.t 4], none⟩,
 ⟨some 28, .pure (.iaddrS 1), [.t 26, .t 27], none⟩,
 ⟨some 29, .pure (.faddr 0), [.t 28], none⟩,
 ⟨some 30, .read (.load none), [.t 29], none⟩,
 ⟨some 31, .pure .move, [.t 5], none⟩,
 ⟨some 32, .pure (.iaddrS 2), [.t 30, .t 31], none⟩,
 ⟨some 33, .pure (.faddr 1), [.t 32], none⟩,
 ⟨some 34, .read (.load none), [.t 33], none⟩,
 ⟨some 35, .pure .lenL, [.t 34], none⟩,
 ⟨some 36, .pure (.bin .lss), [.t 25, .t 35], none⟩])
 (.cond (.t 36)
 .skip
 (.exit 4)))
 (.seq (.block 5
 (.ops [⟨some 39, .pure .move, [.t 0], none⟩,
 ⟨some 40, .pure .move, [.t 4], none⟩,
 ⟨some 41, .pure (.iaddrS 1), [.t 39, .t 40], none⟩,
 ⟨some 42, .pure (.faddr 0), [.t 41], none⟩,
 ⟨some 43, .read (.load none), [.t 42], none⟩,
 ⟨some 44, .pure .move, [.t 5], none⟩,
 ⟨some 45, .pure (.iaddrS 2), [.t 43, .t 44], none⟩,
 ⟨some 46, .pure (.faddr 1), [.t 45], none⟩,
 ⟨some 47, .read (.load none), [.t 46], none⟩,
 ⟨some 48, .pure .move, [.t 6], none⟩,
 ⟨some 49, .pure (.iaddrS 3), [.t 47, .t 48], none⟩,
 ⟨some 50, .pure (.faddr 0), [.t 49], none⟩,
 ⟨some 51, .read (.load none), [.t 50], none⟩,
 ⟨some 52, .pure (.iaddrA 257 1), [.t 3, .t 51], none⟩,
 ⟨none, .eff (.store 1), [.t 52, .c (.bool true)], none⟩]))
 (.ops [⟨some 37, .pure .move, [.t 6], none⟩,
 ⟨some 38, .pure (.bin .add), [.t 37, .c (.int .i64 1)], none⟩,
 ⟨some 6, .pure .move, [.t 38], none⟩])))))))
 (.ops [⟨some 23, .pure .move, [.t 5], none⟩,
 ⟨some 24, .pure (.bin .add), [.t 23, .c (.int .i64 1)], none⟩,
 ⟨some 5, .pure .move, [.t 24], none⟩])))))))
 (.ops [⟨some 13, .pure .move, [.t 4], none⟩,
 ⟨some 14, .pure (.bin .add), [.t 13, .c (.int .i64 1)], none⟩,
 ⟨some 4, .pure .move, [.t 14], none⟩]))))))
 (.seq (.ops [⟨some 7, .pure .move, [.c (.snil 1)], none⟩])
 (.seq (.seq (.ops [⟨some 8, .pure .move, [.c (.int .i64 0)], none⟩])
 (.block 6
 (.loop [3, 7, 8]
 (.seq (.seq (.ops [⟨some 53, .pure .move, [.t 8], none⟩,
 ⟨some 54, .pure (.bin .lss), [.t 53, .c (.int .i64 256)], none⟩])
 (.cond (.t 54)
 .skip
 (.exit 6)))
 (.seq (.block 7
 (.seq (.ops [⟨some 57, .pure .move, [.t 8], none⟩,
 ⟨some 58, .pure (.iaddrA 257 1), [.t 3, .t 57], none⟩,
 ⟨some 59, .read (.load none), [.t 58], none⟩])
 (.cond (.t 59)
 (.ops [⟨some 60, .pure .move, [.t 7], none⟩,
 ⟨some 61, .pure .move, [.t 8], none⟩,
 ⟨some 62, .new (.buildSlice 1 [.int .i64 0] [0]), [.t 61], none⟩,
 ⟨some 63, .eff (.append 1 8), [.t 60, .t 62], none⟩,
 ⟨some 7, .pure .move, [.t 63], none⟩])
 .skip)))
 (.ops [⟨some 55, .pure .move, [.t 8], none⟩,
 ⟨some 56, .pure (.bin .add), [.t 55, .c (.int .i64 1)], none⟩,
 ⟨some 8, .pure .move, [.t 56], none⟩]))))))
 (.seq (.ops [⟨some 64, .pure .move, [.t 7], none⟩,
 ⟨some 2, .pure .move, [.t 64], none⟩])
 .ret)))))) }
/-- datakit/datakitref16.arcs -/
def ac375:AFn:=
 { nt:=63, res:=[.tmp 4], body:=
 (.seq (.ops [⟨some 4, .pure .move, [.c (.snil 3)], none⟩])
 (.seq (.ops [⟨some 5, .pure .move, [.c (.snil 3)], none⟩])
 (.seq (.seq (.ops [⟨some 6, .pure .move, [.c (.int .i64 0)], none⟩])
 (.block 0
 (.loop [0, 1, 5, 6]
 (.seq (.seq (.ops [⟨some 9, .pure .move, [.t 6], none⟩,
 ⟨some 10, .pure .move, [.t 0], none⟩,
 ⟨some 11, .pure .lenL, [.t 10], none⟩,
 ⟨some 12, .pure (.bin .lss), [.t 9, .t 11], none⟩])
 (.cond (.t 12)
 .skip
 (.exit 0)))
 (.seq (.block 1
 (.seq (.ops [⟨some 7, .pure .move, [.c (.int .i64 255)], none⟩])
 (.seq (.seq (.ops [⟨some 15, .pure .move, [.t 6], none⟩,
 ⟨some 16, .pure (.bin .add), [.t 15, .c (.int .i64 1)], none⟩,
 ⟨some 17, .pure .move, [.t 0], none⟩,
 ⟨some 18, .pure .lenL, [.t 17], none⟩,
 ⟨some 19, .pure (.bin .lss), [.t 16, .t 18], none⟩])
 (.cond (.t 19)
 (.ops [⟨some 20, .pure .move, [.t 0], none⟩,
 ⟨some 21, .pure .move, [.t 6], none⟩,
 ⟨some 22, .pure (.bin .add), [.t 21, .c (.int .i64 1)], none⟩,
 ⟨some 23, .pure (.iaddrS 1), [.t 20, .t 22], none⟩,
 ⟨some 24, .read (.load none), [.t 23], none⟩,
 ⟨some 25, .pure (.bin .sub), [.t 24, .c (.int .i64 1)], none⟩,
 ⟨some 7, .pure .move, [.t 25], none⟩])
 .skip))
 (.seq (.ops [⟨some 26, .pure .move, [.t 5], none⟩,
 ⟨some 27, .pure .lenL, [.t 26], none⟩,
 ⟨some 8, .pure .move, [.t 27], none⟩])
 (.seq (.ops [⟨some 28, .pure .move, [.t 8], none⟩,
 ⟨some 29, .pure (.bin .gtr), [.t 28, .c (.int .i64 0)], none⟩,
 ⟨some 30, .pure .move, [.t 29], none⟩,
 ⟨some 31, .pure .move, [.t 5], some (30, true)⟩,
 ⟨some 32, .pure .move, [.t 8], some (30, true)⟩,
 ⟨some 33, .pure (.bin .sub), [.t 32, .c (.int .i64 1)], some (30, true)⟩,
 ⟨some 34, .pure (.iaddrS 3), [.t 31, .t 33], some (30, true)⟩,
 ⟨some 35, .pure (.faddr 2), [.t 34], some (30, true)⟩,
 ⟨some 36, .read (.load none), [.t 35], some (30, true)⟩,
 ⟨some 37, .pure .move, [.t 1], some (30, true)⟩,
 ⟨some 38, .pure .move, [.t 6], some (30, true)⟩,
 ⟨some 39, .pure (.iaddrS 1), [.t 37, .t 38], some (30, true)⟩,
 ⟨some 40, .read (.load none), [.t 39], some (30, true)⟩,
 ⟨some 41, .pure (.bin .eql), [.t 36, .t 40], some (30, true)⟩,
 ⟨some 42, .pure .pick, [.t 30, .t 41, .c (.bool false)], none⟩])
 (.cond (.t 42)
 (.ops [⟨some 43, .pure .move, [.t 5], none⟩,
 ⟨some 44, .pure .move, [.t 8], none⟩,
 ⟨some 45, .pure (.bin .sub), [.t 44, .c (.int .i64 1)], none⟩,
 ⟨some 46, .pure .move, [.t 7], none⟩,
 ⟨some 47, .pure (.iaddrS 3), [.t 43, .t 45], none⟩,
 ⟨some 48, .pure (.faddr 1), [.t 47], none⟩,
 ⟨none, .eff (.store 1), [.t 48, .t 46], none⟩])
 (.draw 1 [[⟨some 49, .pure .move, [.t 5], none⟩,
 ⟨some 50, .pure .move, [.t 0], none⟩,
 ⟨some 51, .pure .move, [.t 6], none⟩,
 ⟨some 52, .pure (.iaddrS 1), [.t 50, .t 51], none⟩,
 ⟨some 53, .read (.load none), [.t 52], none⟩,
 ⟨some 54, .pure .move, [.t 7], none⟩,
 ⟨some 55, .pure .move, [.t 1], none⟩,
 ⟨some 56, .pure .move, [.t 6], none⟩,
 ⟨some 57, .pure (.iaddrS 1), [.t 55, .t 56], none⟩,
 ⟨some 58, .read (.load none), [.t 57], none⟩,
 ⟨some 59, .pure (.build [.int .i64 0, .int .i64 0, .int .i64 0] [(0, 1), (1, 1), (2, 1)]), [.t 53, .t 54, .t 58], none⟩,
 ⟨some 60, .newAt 0 (.buildSlice 3 [.agg [.int .i64 0, .int .i64 0, .int .i64 0]] [0]), [.t 59], none⟩,
 ⟨some 61, .eff (.append 3 24), [.t 49, .t 60], none⟩,
 ⟨some 5, .pure .move, [.t 61], none⟩]])))))))
 (.ops [⟨some 13, .pure .move, [.t 6], none⟩,
 ⟨some 14, .pure (.bin .add), [.t 13, .c (.int .i64 1)], none⟩,
 ⟨some 6, .pure .move, [.t 14], none⟩]))))))
 (.seq (.ops [⟨some 62, .pure .move, [.t 5], none⟩,
 ⟨some 4, .pure .move, [.t 62], none⟩])
 .ret)))) }
/-- datakit/datakitref16.find -/
def ac392:AFn:=
 { nt:=19, res:=[.tmp 4], body:=
 (.seq (.ops [⟨some 4, .pure .move, [.c (.int .i64 0)], none⟩])
 (.seq (.seq (.ops [⟨some 5, .pure .move, [.c (.int .i64 0)], none⟩])
 (.block 0
 (.loop [0, 1, 5]
 (.seq (.seq (.ops [⟨some 6, .pure .move, [.t 5], none⟩,
 ⟨some 7, .pure .move, [.t 0], none⟩,
 ⟨some 8, .pure .lenL, [.t 7], none⟩,
 ⟨some 9, .pure (.bin .lss), [.t 6, .t 8], none⟩])
 (.cond (.t 9)
 .skip
 (.exit 0)))
 (.seq (.block 1
 (.seq (.ops [⟨some 12, .pure .move, [.t 0], none⟩,
 ⟨some 13, .pure .move, [.t 5], none⟩,
 ⟨some 14, .pure (.iaddrS 1), [.t 12, .t 13], none⟩,
 ⟨some 15, .read (.load none), [.t 14], none⟩,
 ⟨some 16, .pure .move, [.t 1], none⟩,
 ⟨some 17, .pcall 403, [.t 15, .t 16], none⟩])
 (.cond (.t 17)
 (.seq (.ops [⟨some 18, .pure .move, [.t 5], none⟩,
 ⟨some 4, .pure .move, [.t 18], none⟩])
 .ret)
 .skip)))
 (.ops [⟨some 10, .pure .move, [.t 5], none⟩,
 ⟨some 11, .pure (.bin .add), [.t 10, .c (.int .i64 1)], none⟩,
 ⟨some 5, .pure .move, [.t 11], none⟩]))))))
 (.seq (.ops [⟨some 4, .pure .move, [.c (.int .i64 (-1))], none⟩])
 .ret))) }
/-- datakit/datakitref16.equal -/
def ac403:AFn:=
 { nt:=26, res:=[.tmp 4], body:=
 (.seq (.ops [⟨some 4, .pure .move, [.c (.bool false)], none⟩])
 (.seq (.seq (.ops [⟨some 6, .pure .move, [.t 0], none⟩,
 ⟨some 7, .pure .lenL, [.t 6], none⟩,
 ⟨some 8, .pure .move, [.t 1], none⟩,
 ⟨some 9, .pure .lenL, [.t 8], none⟩,
 ⟨some 10, .pure (.bin .neq), [.t 7, .t 9], none⟩])
 (.cond (.t 10)
 (.seq (.ops [⟨some 4, .pure .move, [.c (.bool false)], none⟩])
 .ret)
 .skip))
 (.seq (.seq (.ops [⟨some 5, .pure .move, [.c (.int .i64 0)], none⟩])
 (.block 0
 (.loop [0, 1, 5]
 (.seq (.seq (.ops [⟨some 11, .pure .move, [.t 5], none⟩,
 ⟨some 12, .pure .move, [.t 0], none⟩,
 ⟨some 13, .pure .lenL, [.t 12], none⟩,
 ⟨some 14, .pure (.bin .lss), [.t 11, .t 13], none⟩])
 (.cond (.t 14)
 .skip
 (.exit 0)))
 (.seq (.block 1
 (.seq (.ops [⟨some 17, .pure .move, [.t 0], none⟩,
 ⟨some 18, .pure .move, [.t 5], none⟩,
 ⟨some 19, .pure (.iaddrS 1), [.t 17, .t 18], none⟩,
 ⟨some 20, .read (.load none), [.t 19], none⟩,
 ⟨some 21, .pure .move, [.t 1], none⟩,
 ⟨some 22, .pure .move, [.t 5], none⟩,
 ⟨some 23, .pure (.iaddrS 1), [.t 21, .t 22], none⟩,
 ⟨some 24, .read (.load none), [.t 23], none⟩,
 ⟨some 25, .pure (.bin .neq), [.t 20, .t 24], none⟩])
 (.cond (.t 25)
 (.seq (.ops [⟨some 4, .pure .move, [.c (.bool false)], none⟩])
 .ret)
 .skip)))
 (.ops [⟨some 15, .pure .move, [.t 5], none⟩,
 ⟨some 16, .pure (.bin .add), [.t 15, .c (.int .i64 1)], none⟩,
 ⟨some 5, .pure .move, [.t 16], none⟩]))))))
 (.seq (.ops [⟨some 4, .pure .move, [.c (.bool true)], none⟩])
 .ret)))) }
def codeB1:Nat→Option AFn
 | 314=>some ac314
 | 316=>some ac316
 | 317=>some ac317
 | 326=>some ac326
 | 334=>some ac334
 | 335=>some ac335
 | 336=>some ac336
 | 337=>some ac337
 | 342=>some ac342
 | 343=>some ac343
 | 350=>some ac350
 | 351=>some ac351
 | 356=>some ac356
 | 363=>some ac363
 | 364=>some ac364
 | 365=>some ac365
 | 373=>some ac373
 | 374=>some ac374
 | 375=>some ac375
 | 392=>some ac392
 | 403=>some ac403
 | _=>none
def codeB (f:Nat):Option AFn:=match codeA f with
 | some a=>some a
 | none=>codeB1 f
def clRB:Nat→Option (Nat × Nat)
 | _=>none
def clPB:Nat→Option (Nat × Nat)
 | 217=>some (3, 24)
 | _=>none
def CB:Ctx:=mkCtx codeB clRB clPB
end Ago
