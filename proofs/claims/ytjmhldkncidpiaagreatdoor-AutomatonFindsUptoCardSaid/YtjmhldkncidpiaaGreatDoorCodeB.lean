/- The abstract code of the functions, printed by program. -/
import Derived.Test.YtjmhldkncidpiaaGreatDoorCode
set_option linter.unusedSimpArgs false
set_option linter.unusedVariables false
set_option maxRecDepth 100000
namespace Ago
/-- datakit/datakitlaw16.AutomatonFinds -/
def ac313:AFn:=
 { nt:=74, res:=[.tmp 4], body:=
 (.seq (.ops [⟨some 2, .new (.box 1), [.t 0], none⟩,
 ⟨some 4, .pure .move, [.c (.bool false)], none⟩])
 (.seq (.seq (.ops [⟨some 12, .read (.load (some 1)), [.t 2], none⟩,
 ⟨some 13, .pcall 317, [.t 12, .c (.int .i64 20)], none⟩,
 ⟨some 14, .pure (.un .not), [.t 13], none⟩,
 ⟨some 15, .pure .move, [.t 14], none⟩,
 ⟨some 16, .pure .move, [.t 1], some (15, false)⟩,
 ⟨some 17, .pure (.bin .gtr), [.t 16, .c (.int .i64 40)], some (15, false)⟩,
 ⟨some 18, .pure .pick, [.t 15, .c (.bool true), .t 17], none⟩])
 (.cond (.t 18)
 (.seq (.ops [⟨some 19, .pcall 318, [], none⟩,
 ⟨some 4, .pure .move, [.t 19], none⟩])
 .ret)
 .skip))
 (.seq (.ops [⟨some 20, .read (.load (some 1)), [.t 2], none⟩,
 ⟨some 21, .pure .move, [.t 1], none⟩,
 ⟨some 22, .pcall 328, [.t 20, .t 21], none⟩,
 ⟨some 23, .read (.load (some 1)), [.t 2], none⟩,
 ⟨some 24, .pure .move, [.t 1], none⟩,
 ⟨some 25, .pcall 329, [.t 23, .t 24], none⟩,
 ⟨some 5, .pure .move, [.t 22], none⟩,
 ⟨some 6, .pure .move, [.t 25], none⟩])
 (.seq (.seq (.ops [⟨some 26, .pure .move, [.t 5], none⟩,
 ⟨some 27, .pure .lenL, [.t 26], none⟩,
 ⟨some 28, .pure .move, [.t 6], none⟩,
 ⟨some 29, .pure .lenL, [.t 28], none⟩,
 ⟨some 30, .pure (.bin .neq), [.t 27, .t 29], none⟩])
 (.cond (.t 30)
 (.seq (.ops [⟨some 4, .pure .move, [.c (.bool false)], none⟩])
 .ret)
 .skip))
 (.seq (.seq (.ops [⟨some 7, .pure .move, [.c (.int .i64 0)], none⟩])
 (.block 0
 (.loop [2, 5, 6, 7]
 (.seq (.seq (.ops [⟨some 31, .pure .move, [.t 7], none⟩,
 ⟨some 32, .pure .move, [.t 5], none⟩,
 ⟨some 33, .pure .lenL, [.t 32], none⟩,
 ⟨some 34, .pure (.bin .lss), [.t 31, .t 33], none⟩])
 (.cond (.t 34)
 .skip
 (.exit 0)))
 (.seq (.block 1
 (.seq (.ops [⟨some 37, .pure .move, [.t 5], none⟩,
 ⟨some 38, .pure .move, [.t 7], none⟩,
 ⟨some 39, .pure (.iaddrS 1), [.t 37, .t 38], none⟩,
 ⟨some 40, .read (.load none), [.t 39], none⟩,
 ⟨some 41, .pure .move, [.t 6], none⟩,
 ⟨some 42, .pure .move, [.t 7], none⟩,
 ⟨some 43, .pure (.iaddrS 1), [.t 41, .t 42], none⟩,
 ⟨some 44, .read (.load none), [.t 43], none⟩,
 ⟨some 45, .pure (.bin .neq), [.t 40, .t 44], none⟩])
 (.cond (.t 45)
 (.seq (.ops [⟨some 4, .pure .move, [.c (.bool false)], none⟩])
 .ret)
 .skip)))
 (.ops [⟨some 35, .pure .move, [.t 7], none⟩,
 ⟨some 36, .pure (.bin .add), [.t 35, .c (.int .i64 1)], none⟩,
 ⟨some 7, .pure .move, [.t 36], none⟩]))))))
 (.seq (.ops [⟨some 47, .read (.load (some 1)), [.t 2], none⟩,
 ⟨some 48, .pcall 330, [.t 47], none⟩,
 ⟨some 46, .pure .move, [.t 48], none⟩,
 ⟨some 49, .pure (.ext 0), [.t 46], none⟩,
 ⟨some 50, .pure (.ext 1), [.t 46], none⟩,
 ⟨some 8, .pure .move, [.t 49], none⟩,
 ⟨some 9, .pure .move, [.t 50], none⟩])
 (.seq (.ops [⟨some 52, .read (.load (some 1)), [.t 2], none⟩,
 ⟨some 53, .pcall 331, [.t 52], none⟩,
 ⟨some 51, .pure .move, [.t 53], none⟩,
 ⟨some 54, .pure (.ext 0), [.t 51], none⟩,
 ⟨some 55, .pure (.ext 1), [.t 51], none⟩,
 ⟨some 10, .pure .move, [.t 54], none⟩,
 ⟨some 11, .pure .move, [.t 55], none⟩])
 (.seq (.ops [⟨some 56, .read (.load (some 1)), [.t 2], none⟩,
 ⟨some 57, .pcall 332, [.t 56], none⟩,
 ⟨some 58, .read (.load (some 1)), [.t 2], none⟩,
 ⟨some 59, .pcall 333, [.t 58], none⟩,
 ⟨some 60, .pure (.eqB false), [.t 57, .t 59], none⟩,
 ⟨some 61, .pure .move, [.t 60], none⟩,
 ⟨some 62, .pure .move, [.t 8], some (61, true)⟩,
 ⟨some 63, .pure .move, [.t 10], some (61, true)⟩,
 ⟨some 64, .pure (.bin .eql), [.t 62, .t 63], some (61, true)⟩,
 ⟨some 65, .pure .pick, [.t 61, .t 64, .c (.bool false)], none⟩,
 ⟨some 66, .pure .move, [.t 65], none⟩,
 ⟨some 67, .pure .move, [.t 9], some (66, true)⟩,
 ⟨some 68, .pure .move, [.t 11], some (66, true)⟩,
 ⟨some 69, .pure (.eqB false), [.t 67, .t 68], some (66, true)⟩,
 ⟨some 70, .pure .pick, [.t 66, .t 69, .c (.bool false)], none⟩,
 ⟨some 71, .pure .move, [.t 70], none⟩,
 ⟨some 72, .pcall 318, [], some (71, true)⟩,
 ⟨some 73, .pure .pick, [.t 71, .t 72, .c (.bool false)], none⟩,
 ⟨some 4, .pure .move, [.t 73], none⟩])
 .ret)))))))) }
/-- datakit/datakitlaw16.few -/
def ac317:AFn:=
 { nt:=26, res:=[.tmp 4], body:=
 (.seq (.ops [⟨some 2, .new (.box 1), [.t 0], none⟩,
 ⟨some 4, .pure .move, [.c (.bool false)], none⟩])
 (.seq (.seq (.ops [⟨some 6, .pure (.faddr 0), [.t 2], none⟩,
 ⟨some 7, .read (.load none), [.t 6], none⟩,
 ⟨some 8, .pure .lenL, [.t 7], none⟩,
 ⟨some 9, .pure .move, [.t 1], none⟩,
 ⟨some 10, .pure (.bin .gtr), [.t 8, .t 9], none⟩])
 (.cond (.t 10)
 (.seq (.ops [⟨some 4, .pure .move, [.c (.bool false)], none⟩])
 .ret)
 .skip))
 (.seq (.seq (.ops [⟨some 5, .pure .move, [.c (.int .i64 0)], none⟩])
 (.block 0
 (.loop [2, 5]
 (.seq (.seq (.ops [⟨some 11, .pure .move, [.t 5], none⟩,
 ⟨some 12, .pure (.faddr 0), [.t 2], none⟩,
 ⟨some 13, .read (.load none), [.t 12], none⟩,
 ⟨some 14, .pure .lenL, [.t 13], none⟩,
 ⟨some 15, .pure (.bin .lss), [.t 11, .t 14], none⟩])
 (.cond (.t 15)
 .skip
 (.exit 0)))
 (.seq (.block 1
 (.seq (.ops [⟨some 18, .pure (.faddr 0), [.t 2], none⟩,
 ⟨some 19, .read (.load none), [.t 18], none⟩,
 ⟨some 20, .pure .move, [.t 5], none⟩,
 ⟨some 21, .pure (.iaddrS 2), [.t 19, .t 20], none⟩,
 ⟨some 22, .pure (.faddr 1), [.t 21], none⟩,
 ⟨some 23, .read (.load none), [.t 22], none⟩,
 ⟨some 24, .pure .lenL, [.t 23], none⟩,
 ⟨some 25, .pure (.bin .gtr), [.t 24, .c (.int .i64 20)], none⟩])
 (.cond (.t 25)
 (.seq (.ops [⟨some 4, .pure .move, [.c (.bool false)], none⟩])
 .ret)
 .skip)))
 (.ops [⟨some 16, .pure .move, [.t 5], none⟩,
 ⟨some 17, .pure (.bin .add), [.t 16, .c (.int .i64 1)], none⟩,
 ⟨some 5, .pure .move, [.t 17], none⟩]))))))
 (.seq (.ops [⟨some 4, .pure .move, [.c (.bool true)], none⟩])
 .ret)))) }
/-- datakit/datakitref16.Valid -/
def ac326:AFn:=
 { nt:=31, res:=[.tmp 2], body:=
 (.seq (.ops [⟨some 1, .new (.box 1), [.t 0], none⟩,
 ⟨some 2, .pure .move, [.c (.bool false)], none⟩])
 (.seq (.seq (.ops [⟨some 3, .pure .move, [.c (.int .i64 0)], none⟩])
 (.block 0
 (.loop [1, 3]
 (.seq (.seq (.ops [⟨some 4, .pure .move, [.t 3], none⟩,
 ⟨some 5, .pure (.faddr 0), [.t 1], none⟩,
 ⟨some 6, .read (.load none), [.t 5], none⟩,
 ⟨some 7, .pure .lenL, [.t 6], none⟩,
 ⟨some 8, .pure (.bin .lss), [.t 4, .t 7], none⟩])
 (.cond (.t 8)
 .skip
 (.exit 0)))
 (.seq (.block 1
 (.seq (.ops [⟨some 11, .pure (.faddr 0), [.t 1], none⟩,
 ⟨some 12, .read (.load none), [.t 11], none⟩,
 ⟨some 13, .pure .move, [.t 3], none⟩,
 ⟨some 14, .pure (.iaddrS 2), [.t 12, .t 13], none⟩,
 ⟨some 15, .read (.load (some 2)), [.t 14], none⟩,
 ⟨some 16, .pure (.faddr 0), [.t 1], none⟩,
 ⟨some 17, .read (.load none), [.t 16], none⟩,
 ⟨some 18, .pure .lenL, [.t 17], none⟩,
 ⟨some 19, .pcall 350, [.t 15, .t 18], none⟩,
 ⟨some 20, .pure (.un .not), [.t 19], none⟩])
 (.cond (.t 20)
 (.seq (.ops [⟨some 2, .pure .move, [.c (.bool false)], none⟩])
 .ret)
 .skip)))
 (.ops [⟨some 9, .pure .move, [.t 3], none⟩,
 ⟨some 10, .pure (.bin .add), [.t 9, .c (.int .i64 1)], none⟩,
 ⟨some 3, .pure .move, [.t 10], none⟩]))))))
 (.seq (.ops [⟨some 21, .pure (.faddr 0), [.t 1], none⟩,
 ⟨some 22, .read (.load none), [.t 21], none⟩,
 ⟨some 23, .pure .lenL, [.t 22], none⟩,
 ⟨some 24, .pure (.bin .geq), [.t 23, .c (.int .i64 1)], none⟩,
 ⟨some 25, .pure .move, [.t 24], none⟩,
 ⟨some 26, .pure (.faddr 0), [.t 1], some (25, true)⟩,
 ⟨some 27, .read (.load none), [.t 26], some (25, true)⟩,
 ⟨some 28, .pure .lenL, [.t 27], some (25, true)⟩,
 ⟨some 29, .pure (.bin .leq), [.t 28, .c (.int .i64 1024)], some (25, true)⟩,
 ⟨some 30, .pure .pick, [.t 25, .t 29, .c (.bool false)], none⟩,
 ⟨some 2, .pure .move, [.t 30], none⟩])
 .ret))) }
/-- datakit/datakitref16.Some -/
def ac329:AFn:=
 { nt:=43, res:=[.tmp 4], body:=
 (.seq (.ops [⟨some 2, .new (.box 1), [.t 0], none⟩,
 ⟨some 4, .pure .move, [.c (.snil 1)], none⟩])
 (.seq (.seq (.ops [⟨some 9, .read (.load (some 1)), [.t 2], none⟩,
 ⟨some 10, .pcall 326, [.t 9], none⟩,
 ⟨some 11, .pure (.un .not), [.t 10], none⟩])
 (.cond (.t 11)
 (.seq (.ops [⟨some 4, .pure .move, [.c (.snil 1)], none⟩])
 .ret)
 .skip))
 (.seq (.ops [⟨some 12, .pure .move, [.t 1], none⟩,
 ⟨some 13, .pure (.minmax false), [.t 12, .c (.int .i64 1024)], none⟩,
 ⟨some 1, .pure .move, [.t 13], none⟩])
 (.seq (.ops [⟨some 5, .pure .move, [.c (.snil 1)], none⟩])
 (.seq (.ops [⟨some 6, .pure .move, [.c (.int .i64 0)], none⟩])
 (.seq (.seq (.ops [⟨some 7, .pure .move, [.c (.int .i64 0)], none⟩])
 (.block 0
 (.loop [1, 2, 5, 6, 7]
 (.seq (.seq (.ops [⟨some 14, .pure .move, [.t 5], none⟩,
 ⟨some 15, .pure .lenL, [.t 14], none⟩,
 ⟨some 16, .pure .move, [.t 1], none⟩,
 ⟨some 17, .pure (.bin .lss), [.t 15, .t 16], none⟩,
 ⟨some 18, .pure .move, [.t 17], none⟩,
 ⟨some 19, .pure .move, [.t 6], some (18, true)⟩,
 ⟨some 20, .pure (.faddr 0), [.t 2], some (18, true)⟩,
 ⟨some 21, .read (.load none), [.t 20], some (18, true)⟩,
 ⟨some 22, .pure .lenL, [.t 21], some (18, true)⟩,
 ⟨some 23, .pure (.bin .leq), [.t 19, .t 22], some (18, true)⟩,
 ⟨some 24, .pure .pick, [.t 18, .t 23, .c (.bool false)], none⟩])
 (.cond (.t 24)
 .skip
 (.exit 0)))
 (.seq (.block 1
 (.seq (.ops [⟨some 27, .read (.load (some 1)), [.t 2], none⟩,
 ⟨some 28, .pure .move, [.t 7], none⟩,
 ⟨some 29, .pure .move, [.t 1], none⟩,
 ⟨some 30, .pure .move, [.t 5], none⟩,
 ⟨some 31, .pure .lenL, [.t 30], none⟩,
 ⟨some 32, .pure (.bin .sub), [.t 29, .t 31], none⟩,
 ⟨some 33, .pcall 353, [.t 27, .c (.int .i64 0), .t 28, .t 32], none⟩,
 ⟨some 8, .pure .move, [.t 33], none⟩])
 (.seq (.seq (.ops [⟨some 34, .pure .move, [.t 8], none⟩,
 ⟨some 35, .pure .lenL, [.t 34], none⟩,
 ⟨some 36, .pure (.bin .eql), [.t 35, .c (.int .i64 0)], none⟩])
 (.cond (.t 36)
 (.ops [⟨some 37, .pure .move, [.t 6], none⟩,
 ⟨some 38, .pure (.bin .add), [.t 37, .c (.int .i64 1)], none⟩,
 ⟨some 6, .pure .move, [.t 38], none⟩])
 (.ops [⟨some 6, .pure .move, [.c (.int .i64 0)], none⟩])))
 (.ops [⟨some 39, .pure .move, [.t 5], none⟩,
 ⟨some 40, .pure .move, [.t 8], none⟩,
 ⟨some 41, .eff (.append 1 16), [.t 39, .t 40], none⟩,
 ⟨some 5, .pure .move, [.t 41], none⟩]))))
 (.ops [⟨some 25, .pure .move, [.t 7], none⟩,
 ⟨some 26, .pure (.bin .add), [.t 25, .c (.int .i64 1)], none⟩,
 ⟨some 7, .pure .move, [.t 26], none⟩]))))))
 (.seq (.ops [⟨some 42, .pure .move, [.t 5], none⟩,
 ⟨some 4, .pure .move, [.t 42], none⟩])
 .ret))))))) }
/-- datakit/automaton.Shortest -/
def ac330:AFn:=
 { nt:=13, res:=[.tmp 2, .tmp 3], body:=
 (.seq (.ops [⟨some 1, .new (.box 1), [.t 0], none⟩,
 ⟨some 2, .pure .move, [.c (.str [])], none⟩,
 ⟨some 3, .pure .move, [.c (.bool false)], none⟩])
 (.seq (.ops [⟨some 5, .read (.load (some 1)), [.t 1], none⟩,
 ⟨some 6, .pcall 328, [.t 5, .c (.int .i64 1)], none⟩,
 ⟨some 4, .pure .move, [.t 6], none⟩])
 (.seq (.seq (.ops [⟨some 7, .pure .move, [.t 4], none⟩,
 ⟨some 8, .pure .lenL, [.t 7], none⟩,
 ⟨some 9, .pure (.bin .eql), [.t 8, .c (.int .i64 0)], none⟩])
 (.cond (.t 9)
 (.seq (.ops [⟨some 2, .pure .move, [.c (.str [])], none⟩,
 ⟨some 3, .pure .move, [.c (.bool false)], none⟩])
 .ret)
 .skip))
 (.seq (.ops [⟨some 10, .pure .move, [.t 4], none⟩,
 ⟨some 11, .pure (.iaddrS 1), [.t 10, .c (.int .i64 0)], none⟩,
 ⟨some 12, .read (.load none), [.t 11], none⟩,
 ⟨some 2, .pure .move, [.t 12], none⟩,
 ⟨some 3, .pure .move, [.c (.bool true)], none⟩])
 .ret)))) }
/-- datakit/datakitref16.Shortest -/
def ac331:AFn:=
 { nt:=13, res:=[.tmp 2, .tmp 3], body:=
 (.seq (.ops [⟨some 1, .new (.box 1), [.t 0], none⟩,
 ⟨some 2, .pure .move, [.c (.str [])], none⟩,
 ⟨some 3, .pure .move, [.c (.bool false)], none⟩])
 (.seq (.ops [⟨some 5, .read (.load (some 1)), [.t 1], none⟩,
 ⟨some 6, .pcall 329, [.t 5, .c (.int .i64 1)], none⟩,
 ⟨some 4, .pure .move, [.t 6], none⟩])
 (.seq (.seq (.ops [⟨some 7, .pure .move, [.t 4], none⟩,
 ⟨some 8, .pure .lenL, [.t 7], none⟩,
 ⟨some 9, .pure (.bin .eql), [.t 8, .c (.int .i64 0)], none⟩])
 (.cond (.t 9)
 (.seq (.ops [⟨some 2, .pure .move, [.c (.str [])], none⟩,
 ⟨some 3, .pure .move, [.c (.bool false)], none⟩])
 .ret)
 .skip))
 (.seq (.ops [⟨some 10, .pure .move, [.t 4], none⟩,
 ⟨some 11, .pure (.iaddrS 1), [.t 10, .c (.int .i64 0)], none⟩,
 ⟨some 12, .read (.load none), [.t 11], none⟩,
 ⟨some 2, .pure .move, [.t 12], none⟩,
 ⟨some 3, .pure .move, [.c (.bool true)], none⟩])
 .ret)))) }
/-- datakit/automaton.Empty -/
def ac332:AFn:=
 { nt:=12, res:=[.tmp 2], body:=
 (.seq (.ops [⟨some 1, .new (.box 1), [.t 0], none⟩,
 ⟨some 2, .pure .move, [.c (.bool false)], none⟩])
 (.seq (.ops [⟨some 6, .read (.load (some 1)), [.t 1], none⟩,
 ⟨some 7, .pcall 330, [.t 6], none⟩,
 ⟨some 5, .pure .move, [.t 7], none⟩,
 ⟨some 8, .pure (.ext 0), [.t 5], none⟩,
 ⟨some 9, .pure (.ext 1), [.t 5], none⟩,
 ⟨some 3, .pure .move, [.t 8], none⟩,
 ⟨some 4, .pure .move, [.t 9], none⟩])
 (.seq (.ops [⟨some 10, .pure .move, [.t 4], none⟩,
 ⟨some 11, .pure (.un .not), [.t 10], none⟩,
 ⟨some 2, .pure .move, [.t 11], none⟩])
 .ret))) }
/-- datakit/datakitref16.Empty -/
def ac333:AFn:=
 { nt:=7, res:=[.tmp 2], body:=
 (.seq (.ops [⟨some 1, .new (.box 1), [.t 0], none⟩,
 ⟨some 2, .pure .move, [.c (.bool false)], none⟩])
 (.seq (.ops [⟨some 3, .read (.load (some 1)), [.t 1], none⟩,
 ⟨some 4, .pcall 329, [.t 3, .c (.int .i64 1)], none⟩,
 ⟨some 5, .pure .lenL, [.t 4], none⟩,
 ⟨some 6, .pure (.bin .eql), [.t 5, .c (.int .i64 0)], none⟩,
 ⟨some 2, .pure .move, [.t 6], none⟩])
 .ret)) }
/-- datakit/datakitref16.state -/
def ac350:AFn:=
 { nt:=52, res:=[.tmp 4], body:=
 (.seq (.ops [⟨some 2, .new (.box 2), [.t 0], none⟩,
 ⟨some 4, .pure .move, [.c (.bool false)], none⟩])
 (.seq (.ops [⟨some 5, .pure .move, [.c (.int .i64 0)], none⟩])
 (.seq (.seq (.ops [⟨some 6, .pure .move, [.c (.int .i64 0)], none⟩])
 (.block 0
 (.loop [1, 2, 5, 6]
 (.seq (.seq (.ops [⟨some 8, .pure .move, [.t 6], none⟩,
 ⟨some 9, .pure (.faddr 1), [.t 2], none⟩,
 ⟨some 10, .read (.load none), [.t 9], none⟩,
 ⟨some 11, .pure .lenL, [.t 10], none⟩,
 ⟨some 12, .pure (.bin .lss), [.t 8, .t 11], none⟩])
 (.cond (.t 12)
 .skip
 (.exit 0)))
 (.seq (.block 1
 (.seq (.ops [⟨some 15, .pure (.faddr 1), [.t 2], none⟩,
 ⟨some 16, .read (.load none), [.t 15], none⟩,
 ⟨some 17, .pure .move, [.t 6], none⟩,
 ⟨some 18, .pure (.iaddrS 3), [.t 16, .t 17], none⟩,
 ⟨some 19, .read (.load (some 3)), [.t 18], none⟩,
 ⟨some 7, .new (.new 3 [.agg [.int .i64 0, .int .i64 0, .int .i64 0]]), [], none⟩,
 ⟨none, .eff (.store 3), [.t 7, .t 19], none⟩])
 (.seq (.seq (.ops [⟨some 20, .pure (.faddr 0), [.t 7], none⟩,
 ⟨some 21, .read (.load none), [.t 20], none⟩,
 ⟨some 22, .pure .move, [.t 5], none⟩,
 ⟨some 23, .pure (.bin .neq), [.t 21, .t 22], none⟩,
 ⟨some 24, .pure .move, [.t 23], none⟩,
 ⟨some 25, .pure (.faddr 1), [.t 7], some (24, false)⟩,
 ⟨some 26, .read (.load none), [.t 25], some (24, false)⟩,
 ⟨some 27, .pure (.faddr 0), [.t 7], some (24, false)⟩,
 ⟨some 28, .read (.load none), [.t 27], some (24, false)⟩,
 ⟨some 29, .pure (.bin .lss), [.t 26, .t 28], some (24, false)⟩,
 ⟨some 30, .pure .pick, [.t 24, .c (.bool true), .t 29], none⟩,
 ⟨some 31, .pure .move, [.t 30], none⟩,
 ⟨some 32, .pure (.faddr 1), [.t 7], some (31, false)⟩,
 ⟨some 33, .read (.load none), [.t 32], some (31, false)⟩,
 ⟨some 34, .pure (.bin .gtr), [.t 33, .c (.int .i64 255)], some (31, false)⟩,
 ⟨some 35, .pure .pick, [.t 31, .c (.bool true), .t 34], none⟩,
 ⟨some 36, .pure .move, [.t 35], none⟩,
 ⟨some 37, .pure (.faddr 2), [.t 7], some (36, false)⟩,
 ⟨some 38, .read (.load none), [.t 37], some (36, false)⟩,
 ⟨some 39, .pure (.bin .lss), [.t 38, .c (.int .i64 0)], some (36, false)⟩,
 ⟨some 40, .pure .pick, [.t 36, .c (.bool true), .t 39], none⟩,
 ⟨some 41, .pure .move, [.t 40], none⟩,
 ⟨some 42, .pure (.faddr 2), [.t 7], some (41, false)⟩,
 ⟨some 43, .read (.load none), [.t 42], some (41, false)⟩,
 ⟨some 44, .pure .move, [.t 1], some (41, false)⟩,
 ⟨some 45, .pure (.bin .geq), [.t 43, .t 44], some (41, false)⟩,
 ⟨some 46, .pure .pick, [.t 41, .c (.bool true), .t 45], none⟩])
 (.cond (.t 46)
 (.seq (.ops [⟨some 4, .pure .move, [.c (.bool false)], none⟩])
 .ret)
 .skip))
 (.ops [⟨some 47, .pure (.faddr 1), [.t 7], none⟩,
 ⟨some 48, .read (.load none), [.t 47], none⟩,
 ⟨some 49, .pure (.bin .add), [.t 48, .c (.int .i64 1)], none⟩,
 ⟨some 5, .pure .move, [.t 49], none⟩]))))
 (.ops [⟨some 13, .pure .move, [.t 6], none⟩,
 ⟨some 14, .pure (.bin .add), [.t 13, .c (.int .i64 1)], none⟩,
 ⟨some 6, .pure .move, [.t 14], none⟩]))))))
 (.seq (.ops [⟨some 50, .pure .move, [.t 5], none⟩,
 ⟨some 51, .pure (.bin .eql), [.t 50, .c (.int .i64 256)], none⟩,
 ⟨some 4, .pure .move, [.t 51], none⟩])
 .ret)))) }
/-- datakit/datakitref16.Next -/
def ac351:AFn:=
 { nt:=41, res:=[.tmp 6], body:=
 (.seq (.ops [⟨some 3, .new (.box 1), [.t 0], none⟩,
 ⟨some 6, .pure .move, [.c (.int .i64 0)], none⟩])
 (.seq (.seq (.ops [⟨some 7, .pure .move, [.c (.int .i64 0)], none⟩])
 (.block 0
 (.loop [1, 2, 3, 7]
 (.seq (.seq (.ops [⟨some 9, .pure .move, [.t 7], none⟩,
 ⟨some 10, .pure (.faddr 0), [.t 3], none⟩,
 ⟨some 11, .read (.load none), [.t 10], none⟩,
 ⟨some 12, .pure .move, [.t 1], none⟩,
 ⟨some 13, .pure (.iaddrS 2), [.t 11, .t 12], none⟩,
 ⟨some 14, .pure (.faddr 1), [.t 13], none⟩,
 ⟨some 15, .read (.load none), [.t 14], none⟩,
 ⟨some 16, .pure .lenL, [.t 15], none⟩,
 ⟨some 17, .pure (.bin .lss), [.t 9, .t 16], none⟩])
 (.cond (.t 17)
 .skip
 (.exit 0)))
 (.seq (.block 1
 (.seq (.ops [⟨some 20, .pure (.faddr 0), [.t 3], none⟩,
 ⟨some 21, .read (.load none), [.t 20], none⟩,
 ⟨some 22, .pure .move, [.t 1], none⟩,
 ⟨some 23, .pure (.iaddrS 2), [.t 21, .t 22], none⟩,
 ⟨some 24, .pure (.faddr 1), [.t 23], none⟩,
 ⟨some 25, .read (.load none), [.t 24], none⟩,
 ⟨some 26, .pure .move, [.t 7], none⟩,
 ⟨some 27, .pure (.iaddrS 3), [.t 25, .t 26], none⟩,
 ⟨some 28, .read (.load (some 3)), [.t 27], none⟩,
 ⟨some 8, .new (.new 3 [.agg [.int .i64 0, .int .i64 0, .int .i64 0]]), [], none⟩,
 ⟨none, .eff (.store 3), [.t 8, .t 28], none⟩])
 (.seq (.ops [⟨some 29, .pure .move, [.t 2], none⟩,
 ⟨some 30, .pure (.faddr 0), [.t 8], none⟩,
 ⟨some 31, .read (.load none), [.t 30], none⟩,
 ⟨some 32, .pure (.bin .geq), [.t 29, .t 31], none⟩,
 ⟨some 33, .pure .move, [.t 32], none⟩,
 ⟨some 34, .pure .move, [.t 2], some (33, true)⟩,
 ⟨some 35, .pure (.faddr 1), [.t 8], some (33, true)⟩,
 ⟨some 36, .read (.load none), [.t 35], some (33, true)⟩,
 ⟨some 37, .pure (.bin .leq), [.t 34, .t 36], some (33, true)⟩,
 ⟨some 38, .pure .pick, [.t 33, .t 37, .c (.bool false)], none⟩])
 (.cond (.t 38)
 (.seq (.ops [⟨some 39, .pure (.faddr 2), [.t 8], none⟩,
 ⟨some 40, .read (.load none), [.t 39], none⟩,
 ⟨some 6, .pure .move, [.t 40], none⟩])
 .ret)
 .skip))))
 (.ops [⟨some 18, .pure .move, [.t 7], none⟩,
 ⟨some 19, .pure (.bin .add), [.t 18, .c (.int .i64 1)], none⟩,
 ⟨some 7, .pure .move, [.t 19], none⟩]))))))
 (.seq (.ops [⟨some 6, .pure .move, [.c (.int .i64 0)], none⟩])
 .ret))) }
/-- datakit/datakitref16.strings -/
def ac353:AFn:=
 { nt:=68, res:=[.tmp 8], body:=
 (.seq (.ops [⟨some 4, .new (.box 1), [.t 0], none⟩,
 ⟨some 8, .pure .move, [.c (.snil 1)], none⟩])
 (.seq (.seq (.ops [⟨some 13, .read (.load (some 1)), [.t 4], none⟩,
 ⟨some 14, .pure .move, [.t 2], none⟩,
 ⟨some 15, .pcall 369, [.t 13, .t 14], none⟩,
 ⟨some 16, .pure .move, [.t 1], none⟩,
 ⟨some 17, .pure (.iaddrS 1), [.t 15, .t 16], none⟩,
 ⟨some 18, .read (.load none), [.t 17], none⟩,
 ⟨some 19, .pure (.un .not), [.t 18], none⟩,
 ⟨some 20, .pure .move, [.t 19], none⟩,
 ⟨some 21, .pure .move, [.t 3], some (20, false)⟩,
 ⟨some 22, .pure (.bin .lss), [.t 21, .c (.int .i64 1)], some (20, false)⟩,
 ⟨some 23, .pure .pick, [.t 20, .c (.bool true), .t 22], none⟩])
 (.cond (.t 23)
 (.seq (.ops [⟨some 8, .pure .move, [.c (.snil 1)], none⟩])
 .ret)
 .skip))
 (.seq (.seq (.ops [⟨some 24, .pure .move, [.t 2], none⟩,
 ⟨some 25, .pure (.bin .eql), [.t 24, .c (.int .i64 0)], none⟩])
 (.cond (.t 25)
 (.seq (.ops [⟨some 26, .new (.buildSlice 1 [.str []] [0]), [.c (.str [])], none⟩,
 ⟨some 8, .pure .move, [.t 26], none⟩])
 .ret)
 .skip))
 (.seq (.ops [⟨some 9, .pure .move, [.c (.snil 1)], none⟩])
 (.seq (.seq (.ops [⟨some 10, .pure .move, [.c (.int .i64 0)], none⟩])
 (.block 0
 (.loop [1, 2, 3, 4, 9, 10]
 (.seq (.seq (.ops [⟨some 27, .pure .move, [.t 10], none⟩,
 ⟨some 28, .pure (.bin .lss), [.t 27, .c (.int .i64 256)], none⟩,
 ⟨some 29, .pure .move, [.t 28], none⟩,
 ⟨some 30, .pure .move, [.t 9], some (29, true)⟩,
 ⟨some 31, .pure .lenL, [.t 30], some (29, true)⟩,
 ⟨some 32, .pure .move, [.t 3], some (29, true)⟩,
 ⟨some 33, .pure (.bin .lss), [.t 31, .t 32], some (29, true)⟩,
 ⟨some 34, .pure .pick, [.t 29, .t 33, .c (.bool false)], none⟩])
 (.cond (.t 34)
 .skip
 (.exit 0)))
 (.seq (.block 1
 (.seq (.ops [⟨some 37, .read (.load (some 1)), [.t 4], none⟩,
 ⟨some 38, .read (.load (some 1)), [.t 4], none⟩,
 ⟨some 39, .pure .move, [.t 1], none⟩,
 ⟨some 40, .pure .move, [.t 10], none⟩,
 ⟨some 41, .pcall 351, [.t 38, .t 39, .t 40], none⟩,
 ⟨some 42, .pure .move, [.t 2], none⟩,
 ⟨some 43, .pure (.bin .sub), [.t 42, .c (.int .i64 1)], none⟩,
 ⟨some 44, .pure .move, [.t 3], none⟩,
 ⟨some 45, .pure .move, [.t 9], none⟩,
 ⟨some 46, .pure .lenL, [.t 45], none⟩,
 ⟨some 47, .pure (.bin .sub), [.t 44, .t 46], none⟩,
 ⟨some 48, .pcall 353, [.t 37, .t 41, .t 43, .t 47], none⟩,
 ⟨some 11, .pure .move, [.t 48], none⟩])
 (.seq (.ops [⟨some 12, .pure .move, [.c (.int .i64 0)], none⟩])
 (.block 2
 (.loop [1, 2, 3, 4, 9, 10, 11, 12]
 (.seq (.seq (.ops [⟨some 49, .pure .move, [.t 12], none⟩,
 ⟨some 50, .pure .move, [.t 11], none⟩,
 ⟨some 51, .pure .lenL, [.t 50], none⟩,
 ⟨some 52, .pure (.bin .lss), [.t 49, .t 51], none⟩])
 (.cond (.t 52)
 .skip
 (.exit 2)))
 (.seq (.block 3
 (.draw 2 [[⟨some 55, .pure .move, [.t 9], none⟩,
 ⟨some 56, .pure .move, [.t 10], none⟩,
 ⟨some 57, .pure (.conv .u8), [.t 56], none⟩,
 ⟨some 58, .newAt 0 (.buildSlice 1 [.int .u8 0] [0]), [.t 57], none⟩,
 ⟨some 59, .read .bytesStr, [.t 58], none⟩,
 ⟨some 60, .pure .move, [.t 11], none⟩,
 ⟨some 61, .pure .move, [.t 12], none⟩,
 ⟨some 62, .pure (.iaddrS 1), [.t 60, .t 61], none⟩,
 ⟨some 63, .read (.load none), [.t 62], none⟩,
 ⟨some 64, .pure (.bin .add), [.t 59, .t 63], none⟩,
 ⟨some 65, .newAt 1 (.buildSlice 1 [.str []] [0]), [.t 64], none⟩,
 ⟨some 66, .eff (.append 1 16), [.t 55, .t 65], none⟩,
 ⟨some 9, .pure .move, [.t 66], none⟩]]))
 (.ops [⟨some 53, .pure .move, [.t 12], none⟩,
 ⟨some 54, .pure (.bin .add), [.t 53, .c (.int .i64 1)], none⟩,
 ⟨some 12, .pure .move, [.t 54], none⟩]))))))))
 (.ops [⟨some 35, .pure .move, [.t 10], none⟩,
 ⟨some 36, .pure (.bin .add), [.t 35, .c (.int .i64 1)], none⟩,
 ⟨some 10, .pure .move, [.t 36], none⟩]))))))
 (.seq (.ops [⟨some 67, .pure .move, [.t 9], none⟩,
 ⟨some 8, .pure .move, [.t 67], none⟩])
 .ret)))))) }
/-- datakit/datakitref16.reach -/
def ac369:AFn:=
 { nt:=36, res:=[.tmp 4], body:=
 (.seq (.ops [⟨some 2, .new (.box 1), [.t 0], none⟩,
 ⟨some 4, .pure .move, [.c (.snil 1)], none⟩])
 (.seq (.ops [⟨some 8, .pure (.faddr 0), [.t 2], none⟩,
 ⟨some 9, .read (.load none), [.t 8], none⟩,
 ⟨some 10, .pure .lenL, [.t 9], none⟩,
 ⟨some 11, .new (.mkSlice 1 1 (.bool false)), [.t 10, .t 10], none⟩,
 ⟨some 5, .pure .move, [.t 11], none⟩])
 (.seq (.seq (.ops [⟨some 6, .pure .move, [.c (.int .i64 0)], none⟩])
 (.block 0
 (.loop [1, 2, 5, 6]
 (.seq (.seq (.ops [⟨some 12, .pure .move, [.t 6], none⟩,
 ⟨some 13, .pure .move, [.t 5], none⟩,
 ⟨some 14, .pure .lenL, [.t 13], none⟩,
 ⟨some 15, .pure (.bin .lss), [.t 12, .t 14], none⟩])
 (.cond (.t 15)
 .skip
 (.exit 0)))
 (.seq (.block 1
 (.ops [⟨some 18, .pure .move, [.t 5], none⟩,
 ⟨some 19, .pure .move, [.t 6], none⟩,
 ⟨some 20, .pure (.faddr 0), [.t 2], none⟩,
 ⟨some 21, .read (.load none), [.t 20], none⟩,
 ⟨some 22, .pure .move, [.t 6], none⟩,
 ⟨some 23, .pure (.iaddrS 2), [.t 21, .t 22], none⟩,
 ⟨some 24, .pure (.faddr 0), [.t 23], none⟩,
 ⟨some 25, .read (.load none), [.t 24], none⟩,
 ⟨some 26, .pure (.iaddrS 1), [.t 18, .t 19], none⟩,
 ⟨none, .eff (.store 1), [.t 26, .t 25], none⟩]))
 (.ops [⟨some 16, .pure .move, [.t 6], none⟩,
 ⟨some 17, .pure (.bin .add), [.t 16, .c (.int .i64 1)], none⟩,
 ⟨some 6, .pure .move, [.t 17], none⟩]))))))
 (.seq (.seq (.ops [⟨some 7, .pure .move, [.c (.int .i64 0)], none⟩])
 (.block 2
 (.loop [1, 2, 5, 7]
 (.seq (.seq (.ops [⟨some 27, .pure .move, [.t 7], none⟩,
 ⟨some 28, .pure .move, [.t 1], none⟩,
 ⟨some 29, .pure (.bin .lss), [.t 27, .t 28], none⟩])
 (.cond (.t 29)
 .skip
 (.exit 2)))
 (.seq (.block 3
 (.ops [⟨some 32, .read (.load (some 1)), [.t 2], none⟩,
 ⟨some 33, .pure .move, [.t 5], none⟩,
 ⟨some 34, .pcall 394, [.t 32, .t 33], none⟩,
 ⟨some 5, .pure .move, [.t 34], none⟩]))
 (.ops [⟨some 30, .pure .move, [.t 7], none⟩,
 ⟨some 31, .pure (.bin .add), [.t 30, .c (.int .i64 1)], none⟩,
 ⟨some 7, .pure .move, [.t 31], none⟩]))))))
 (.seq (.ops [⟨some 35, .pure .move, [.t 5], none⟩,
 ⟨some 4, .pure .move, [.t 35], none⟩])
 .ret))))) }
/-- datakit/datakitref16.before -/
def ac394:AFn:=
 { nt:=51, res:=[.tmp 4], body:=
 (.seq (.ops [⟨some 2, .new (.box 1), [.t 0], none⟩,
 ⟨some 4, .pure .move, [.c (.snil 1)], none⟩])
 (.seq (.ops [⟨some 8, .pure .move, [.t 1], none⟩,
 ⟨some 9, .pure .lenL, [.t 8], none⟩,
 ⟨some 10, .new (.mkSlice 1 1 (.bool false)), [.t 9, .t 9], none⟩,
 ⟨some 5, .pure .move, [.t 10], none⟩])
 (.seq (.seq (.ops [⟨some 6, .pure .move, [.c (.int .i64 0)], none⟩])
 (.block 0
 (.loop [1, 2, 5, 6]
 (.seq (.seq (.ops [⟨some 11, .pure .move, [.t 6], none⟩,
 ⟨some 12, .pure .move, [.t 1], none⟩,
 ⟨some 13, .pure .lenL, [.t 12], none⟩,
 ⟨some 14, .pure (.bin .lss), [.t 11, .t 13], none⟩])
 (.cond (.t 14)
 .skip
 (.exit 0)))
 (.seq (.block 1
 (.seq (.ops [⟨some 7, .pure .move, [.c (.int .i64 0)], none⟩])
 (.block 2
 (.loop [1, 2, 5, 6, 7]
 (.seq (.seq (.ops [⟨some 17, .pure .move, [.t 7], none⟩,
 ⟨some 18, .pure (.faddr 0), [.t 2], none⟩,
 ⟨some 19, .read (.load none), [.t 18], none⟩,
 ⟨some 20, .pure .move, [.t 6], none⟩,
 ⟨some 21, .pure (.iaddrS 2), [.t 19, .t 20], none⟩,
 ⟨some 22, .pure (.faddr 1), [.t 21], none⟩,
 ⟨some 23, .read (.load none), [.t 22], none⟩,
 ⟨some 24, .pure .lenL, [.t 23], none⟩,
 ⟨some 25, .pure (.bin .lss), [.t 17, .t 24], none⟩])
 (.cond (.t 25)
 .skip
 (.exit 2)))
 (.seq (.block 3
 (.ops [⟨some 28, .pure .move, [.t 5], none⟩,
 ⟨some 29, .pure .move, [.t 6], none⟩,
 ⟨some 30, .pure .move, [.t 5], none⟩,
 ⟨some 31, .pure .move, [.t 6], none⟩,
 ⟨some 32, .pure (.iaddrS 1), [.t 30, .t 31], none⟩,
 ⟨some 33, .read (.load none), [.t 32], none⟩,
 ⟨some 34, .pure .move, [.t 33], none⟩,
 ⟨some 35, .pure .move, [.t 1], some (34, false)⟩,
 ⟨some 36, .pure (.faddr 0), [.t 2], some (34, false)⟩,
 ⟨some 37, .read (.load none), [.t 36], some (34, false)⟩,
 ⟨some 38, .pure .move, [.t 6], some (34, false)⟩,
 ⟨some 39, .pure (.iaddrS 2), [.t 37, .t 38], some (34, false)⟩,
 ⟨some 40, .pure (.faddr 1), [.t 39], some (34, false)⟩,
 ⟨some 41, .read (.load none), [.t 40], some (34, false)⟩,
 ⟨some 42, .pure .move, [.t 7], some (34, false)⟩,
 ⟨some 43, .pure (.iaddrS 3), [.t 41, .t 42], some (34, false)⟩,
 ⟨some 44, .pure (.faddr 2), [.t 43], some (34, false)⟩,
 ⟨some 45, .read (.load none), [.t 44], some (34, false)⟩,
 ⟨some 46, .pure (.iaddrS 1), [.t 35, .t 45], some (34, false)⟩,
 ⟨some 47, .read (.load none), [.t 46], some (34, false)⟩,
 ⟨some 48, .pure .pick, [.t 34, .c (.bool true), .t 47], none⟩,
 ⟨some 49, .pure (.iaddrS 1), [.t 28, .t 29], none⟩,
 ⟨none, .eff (.store 1), [.t 49, .t 48], none⟩]))
 (.ops [⟨some 26, .pure .move, [.t 7], none⟩,
 ⟨some 27, .pure (.bin .add), [.t 26, .c (.int .i64 1)], none⟩,
 ⟨some 7, .pure .move, [.t 27], none⟩])))))))
 (.ops [⟨some 15, .pure .move, [.t 6], none⟩,
 ⟨some 16, .pure (.bin .add), [.t 15, .c (.int .i64 1)], none⟩,
 ⟨some 6, .pure .move, [.t 16], none⟩]))))))
 (.seq (.ops [⟨some 50, .pure .move, [.t 5], none⟩,
 ⟨some 4, .pure .move, [.t 50], none⟩])
 .ret)))) }
def codeB1:Nat→Option AFn
 | 313=>some ac313
 | 317=>some ac317
 | 326=>some ac326
 | 329=>some ac329
 | 330=>some ac330
 | 331=>some ac331
 | 332=>some ac332
 | 333=>some ac333
 | 350=>some ac350
 | 351=>some ac351
 | 353=>some ac353
 | 369=>some ac369
 | 394=>some ac394
 | _=>none
def codeB (f:Nat):Option AFn:=match codeA f with
 | some a=>some a
 | none=>codeB1 f
def clRB:Nat→Option (Nat × Nat)
 | _=>none
def clPB:Nat→Option (Nat × Nat)
 | 217=>some (3, 24)
 | _=>none
def CB:Ctx:=mkCtx codeB clRB clPB
end Ago
