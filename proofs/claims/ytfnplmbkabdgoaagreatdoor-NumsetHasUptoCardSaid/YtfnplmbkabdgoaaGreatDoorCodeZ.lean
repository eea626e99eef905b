/- The abstract code of the functions, printed by program. -/
import Derived.Test.YtfnplmbkabdgoaaGreatDoorMachE
set_option linter.unusedSimpArgs false
set_option linter.unusedVariables false
set_option maxRecDepth 100000
namespace Ago
/-- datakit/datakitref01.Noughts -/
def ac40 : AFn :=
 { nt := 17, res := [.tmp 2], body :=
 (.seq (.ops [⟨some 2, .pure .move, [.c (.str [])], none⟩])
 (.seq (.ops [⟨some 5, .pure .move, [.t 0], none⟩,
 ⟨some 6, .new (.mkSlice 1 1 (.int .u8 0)), [.t 5, .t 5], none⟩,
 ⟨some 3, .pure .move, [.t 6], none⟩])
 (.seq (.seq (.ops [⟨some 4, .pure .move, [.c (.int .i64 0)], none⟩])
 (.block 0
 (.loop [0, 3, 4]
 (.seq (.seq (.ops [⟨some 7, .pure .move, [.t 4], none⟩,
 ⟨some 8, .pure .move, [.t 0], none⟩,
 ⟨some 9, .pure (.bin .lss), [.t 7, .t 8], none⟩])
 (.cond (.t 9)
 .skip
 (.exit 0)))
 (.seq (.block 1
 (.ops [⟨some 12, .pure .move, [.t 3], none⟩,
 ⟨some 13, .pure .move, [.t 4], none⟩,
 ⟨some 14, .pure (.iaddrS 1), [.t 12, .t 13], none⟩,
 ⟨none, .eff (.store 1), [.t 14, .c (.int .u8 48)], none⟩]))
 (.ops [⟨some 10, .pure .move, [.t 4], none⟩,
 ⟨some 11, .pure (.bin .add), [.t 10, .c (.int .i64 1)], none⟩,
 ⟨some 4, .pure .move, [.t 11], none⟩]))))))
 (.seq (.ops [⟨some 15, .pure .move, [.t 3], none⟩,
 ⟨some 16, .read .bytesStr, [.t 15], none⟩,
 ⟨some 2, .pure .move, [.t 16], none⟩])
 .ret)))) }
/-- math/bits.Len -/
def ac49 : AFn :=
 { nt := 8, res := [.tmp 2], body :=
 (.seq (.ops [⟨some 2, .pure .move, [.c (.int .i64 0)], none⟩])
 (.seq (.cond (.c (.bool false))
 (.seq (.ops [⟨some 3, .pure .move, [.t 0], none⟩,
 ⟨some 4, .pure (.conv .u32), [.t 3], none⟩,
 ⟨some 5, .pcall 72, [.t 4], none⟩,
 ⟨some 2, .pure .move, [.t 5], none⟩])
 .ret)
 .skip)
 (.seq (.ops [⟨some 6, .pure .move, [.t 0], none⟩,
 ⟨some 7, .pcall 73, [.t 6], none⟩,
 ⟨some 2, .pure .move, [.t 7], none⟩])
 .ret))) }
/-- datakit/datakitref01.Valid -/
def ac59 : AFn :=
 { nt := 20, res := [.tmp 2], body :=
 (.seq (.ops [⟨some 2, .pure .move, [.c (.bool false)], none⟩])
 (.seq (.ops [⟨some 3, .pure .move, [.t 0], none⟩,
 ⟨some 4, .pure .lenS, [.t 3], none⟩,
 ⟨some 5, .pure (.bin .leq), [.t 4, .c (.int .i64 600)], none⟩,
 ⟨some 6, .pure .move, [.t 5], none⟩,
 ⟨some 7, .pure .move, [.t 0], some (6, true)⟩,
 ⟨some 8, .pcall 82, [.t 7], some (6, true)⟩,
 ⟨some 9, .pure .pick, [.t 6, .t 8, .c (.bool false)], none⟩,
 ⟨some 10, .pure .move, [.t 9], none⟩,
 ⟨some 11, .pure .move, [.t 0], some (10, true)⟩,
 ⟨some 12, .pure .lenS, [.t 11], some (10, true)⟩,
 ⟨some 13, .pure (.bin .eql), [.t 12, .c (.int .i64 0)], some (10, true)⟩,
 ⟨some 14, .pure .move, [.t 13], some (10, true)⟩,
 ⟨some 15, .pure .move, [.t 0], some (14, false)⟩,
 ⟨some 16, .pure .idxStr, [.t 15, .c (.int .i64 0)], some (14, false)⟩,
 ⟨some 17, .pure (.bin .neq), [.t 16, .c (.int .u8 48)], some (14, false)⟩,
 ⟨some 18, .pure .pick, [.t 14, .c (.bool true), .t 17], some (10, true)⟩,
 ⟨some 19, .pure .pick, [.t 10, .t 18, .c (.bool false)], none⟩,
 ⟨some 2, .pure .move, [.t 19], none⟩])
 .ret)) }
/-- math/bits.Len32 -/
def ac72 : AFn :=
 { nt := 19, res := [.tmp 2], body :=
 (.seq (.ops [⟨some 2, .pure .move, [.c (.int .i64 0)], none⟩])
 (.seq (.seq (.ops [⟨some 3, .pure .move, [.t 0], none⟩,
 ⟨some 4, .pure (.bin .geq), [.t 3, .c (.int .u32 65536)], none⟩])
 (.cond (.t 4)
 (.seq (.ops [⟨some 5, .pure .move, [.t 0], none⟩,
 ⟨some 6, .pure (.bin .shr), [.t 5, .c (.int .u64 16)], none⟩,
 ⟨some 0, .pure .move, [.t 6], none⟩])
 (.ops [⟨some 2, .pure .move, [.c (.int .i64 16)], none⟩]))
 .skip))
 (.seq (.seq (.ops [⟨some 7, .pure .move, [.t 0], none⟩,
 ⟨some 8, .pure (.bin .geq), [.t 7, .c (.int .u32 256)], none⟩])
 (.cond (.t 8)
 (.seq (.ops [⟨some 9, .pure .move, [.t 0], none⟩,
 ⟨some 10, .pure (.bin .shr), [.t 9, .c (.int .u64 8)], none⟩,
 ⟨some 0, .pure .move, [.t 10], none⟩])
 (.ops [⟨some 11, .pure .move, [.t 2], none⟩,
 ⟨some 12, .pure (.bin .add), [.t 11, .c (.int .i64 8)], none⟩,
 ⟨some 2, .pure .move, [.t 12], none⟩]))
 .skip))
 (.seq (.ops [⟨some 13, .pure .move, [.t 2], none⟩,
 ⟨some 14, .pure .move, [.t 0], none⟩,
 ⟨some 15, .pure (.conv .u8), [.t 14], none⟩,
 ⟨some 16, .pure .idxStr, [.c (.str [0, 1, 2, 2, 3, 3, 3, 3, 4, 4, 4, 4, 4, 4, 4, 4, 5, 5, 5, 5, 5, 5, 5, 5, 5, 5, 5, 5, 5, 5, 5, 5, 6, 6, 6, 6, 6, 6, 6, 6, 6, 6, 6, 6, 6, 6, 6, 6, 6, 6, 6, 6, 6, 6, 6, 6, 6, 6, 6, 6, 6, 6, 6, 6, 7, 7, 7, 7, 7, 7, 7, 7, 7, 7, 7, 7, 7, 7, 7, 7, 7, 7, 7, 7, 7, 7, 7, 7, 7, 7, 7, 7, 7, 7, 7, 7, 7, 7, 7, 7, 7, 7, 7, 7, 7, 7, 7, 7, 7, 7, 7, 7, 7, 7, 7, 7, 7, 7, 7, 7, 7, 7, 7, 7, 7, 7, 7, 7, 8, 8, 8, 8, 8, 8, 8, 8, 8, 8, 8, 8, 8, 8, 8, 8, 8, 8, 8, 8, 8, 8, 8, 8, 8, 8, 8, 8, 8, 8, 8, 8, 8, 8, 8, 8, 8, 8, 8, 8, 8, 8, 8, 8, 8, 8, 8, 8, 8, 8, 8, 8, 8, 8, 8, 8, 8, 8, 8, 8, 8, 8, 8, 8, 8, 8, 8, 8, 8, 8, 8, 8, 8, 8, 8, 8, 8, 8, 8, 8, 8, 8, 8, 8, 8, 8, 8, 8, 8, 8, 8, 8, 8, 8, 8, 8, 8, 8, 8, 8, 8, 8, 8, 8, 8, 8, 8, 8, 8, 8, 8, 8, 8, 8, 8, 8, 8, 8, 8, 8, 8, 8, 8, 8, 8, 8, 8, 8]), .t 15], none⟩,
 ⟨some 17, .pure (.conv .i64), [.t 16], none⟩,
 ⟨some 18, .pure (.bin .add), [.t 13, .t 17], none⟩,
 ⟨some 2, .pure .move, [.t 18], none⟩])
 .ret)))) }
/-- math/bits.Len64 -/
def ac73 : AFn :=
 { nt := 25, res := [.tmp 2], body :=
 (.seq (.ops [⟨some 2, .pure .move, [.c (.int .i64 0)], none⟩])
 (.seq (.seq (.ops [⟨some 3, .pure .move, [.t 0], none⟩,
 ⟨some 4, .pure (.bin .geq), [.t 3, .c (.int .u64 4294967296)], none⟩])
 (.cond (.t 4)
 (.seq (.ops [⟨some 5, .pure .move, [.t 0], none⟩,
 ⟨some 6, .pure (.bin .shr), [.t 5, .c (.int .u64 32)], none⟩,
 ⟨some 0, .pure .move, [.t 6], none⟩])
 (.ops [⟨some 2, .pure .move, [.c (.int .i64 32)], none⟩]))
 .skip))
 (.seq (.seq (.ops [⟨some 7, .pure .move, [.t 0], none⟩,
 ⟨some 8, .pure (.bin .geq), [.t 7, .c (.int .u64 65536)], none⟩])
 (.cond (.t 8)
 (.seq (.ops [⟨some 9, .pure .move, [.t 0], none⟩,
 ⟨some 10, .pure (.bin .shr), [.t 9, .c (.int .u64 16)], none⟩,
 ⟨some 0, .pure .move, [.t 10], none⟩])
 (.ops [⟨some 11, .pure .move, [.t 2], none⟩,
 ⟨some 12, .pure (.bin .add), [.t 11, .c (.int .i64 16)], none⟩,
 ⟨some 2, .pure .move, [.t 12], none⟩]))
 .skip))
 (.seq (.seq (.ops [⟨some 13, .pure .move, [.t 0], none⟩,
 ⟨some 14, .pure (.bin .geq), [.t 13, .c (.int .u64 256)], none⟩])
 (.cond (.t 14)
 (.seq (.ops [⟨some 15, .pure .move, [.t 0], none⟩,
 ⟨some 16, .pure (.bin .shr), [.t 15, .c (.int .u64 8)], none⟩,
 ⟨some 0, .pure .move, [.t 16], none⟩])
 (.ops [⟨some 17, .pure .move, [.t 2], none⟩,
 ⟨some 18, .pure (.bin .add), [.t 17, .c (.int .i64 8)], none⟩,
 ⟨some 2, .pure .move, [.t 18], none⟩]))
 .skip))
 (.seq (.ops [⟨some 19, .pure .move, [.t 2], none⟩,
 ⟨some 20, .pure .move, [.t 0], none⟩,
 ⟨some 21, .pure (.conv .u8), [.t 20], none⟩,
 ⟨some 22, .pure .idxStr, [.c (.str [0, 1, 2, 2, 3, 3, 3, 3, 4, 4, 4, 4, 4, 4, 4, 4, 5, 5, 5, 5, 5, 5, 5, 5, 5, 5, 5, 5, 5, 5, 5, 5, 6, 6, 6, 6, 6, 6, 6, 6, 6, 6, 6, 6, 6, 6, 6, 6, 6, 6, 6, 6, 6, 6, 6, 6, 6, 6, 6, 6, 6, 6, 6, 6, 7, 7, 7, 7, 7, 7, 7, 7, 7, 7, 7, 7, 7, 7, 7, 7, 7, 7, 7, 7, 7, 7, 7, 7, 7, 7, 7, 7, 7, 7, 7, 7, 7, 7, 7, 7, 7, 7, 7, 7, 7, 7, 7, 7, 7, 7, 7, 7, 7, 7, 7, 7, 7, 7, 7, 7, 7, 7, 7, 7, 7, 7, 7, 7, 8, 8, 8, 8, 8, 8, 8, 8, 8, 8, 8, 8, 8, 8, 8, 8, 8, 8, 8, 8, 8, 8, 8, 8, 8, 8, 8, 8, 8, 8, 8, 8, 8, 8, 8, 8, 8, 8, 8, 8, 8, 8, 8, 8, 8, 8, 8, 8, 8, 8, 8, 8, 8, 8, 8, 8, 8, 8, 8, 8, 8, 8, 8, 8, 8, 8, 8, 8, 8, 8, 8, 8, 8, 8, 8, 8, 8, 8, 8, 8, 8, 8, 8, 8, 8, 8, 8, 8, 8, 8, 8, 8, 8, 8, 8, 8, 8, 8, 8, 8, 8, 8, 8, 8, 8, 8, 8, 8, 8, 8, 8, 8, 8, 8, 8, 8, 8, 8, 8, 8, 8, 8, 8, 8, 8, 8, 8, 8]), .t 21], none⟩,
 ⟨some 23, .pure (.conv .i64), [.t 22], none⟩,
 ⟨some 24, .pure (.bin .add), [.t 19, .t 23], none⟩,
 ⟨some 2, .pure .move, [.t 24], none⟩])
 .ret))))) }
/-- datakit/datakitref02.Valid -/
def ac79 : AFn :=
 { nt := 39, res := [.tmp 2], body :=
 (.seq (.ops [⟨some 1, .new (.box 3), [.t 0], none⟩,
 ⟨some 2, .pure .move, [.c (.bool false)], none⟩])
 (.seq (.seq (.ops [⟨some 3, .pure (.faddr 1), [.t 1], none⟩,
 ⟨some 4, .read (.load none), [.t 3], none⟩,
 ⟨some 5, .pure (.bin .eql), [.t 4, .c (.str [])], none⟩])
 (.cond (.t 5)
 (.seq (.ops [⟨some 6, .pure (.faddr 0), [.t 1], none⟩,
 ⟨some 7, .read (.load none), [.t 6], none⟩,
 ⟨some 8, .pure (.un .not), [.t 7], none⟩,
 ⟨some 9, .pure .move, [.t 8], none⟩,
 ⟨some 10, .pure (.faddr 2), [.t 1], some (9, true)⟩,
 ⟨some 11, .read (.load none), [.t 10], some (9, true)⟩,
 ⟨some 12, .pure (.bin .eql), [.t 11, .c (.int .i64 0)], some (9, true)⟩,
 ⟨some 13, .pure .pick, [.t 9, .t 12, .c (.bool false)], none⟩,
 ⟨some 2, .pure .move, [.t 13], none⟩])
 .ret)
 .skip))
 (.seq (.ops [⟨some 14, .pure (.faddr 1), [.t 1], none⟩,
 ⟨some 15, .read (.load none), [.t 14], none⟩,
 ⟨some 16, .pure .lenS, [.t 15], none⟩,
 ⟨some 17, .pure (.bin .leq), [.t 16, .c (.int .i64 120)], none⟩,
 ⟨some 18, .pure .move, [.t 17], none⟩,
 ⟨some 19, .pure (.faddr 1), [.t 1], some (18, true)⟩,
 ⟨some 20, .read (.load none), [.t 19], some (18, true)⟩,
 ⟨some 21, .pcall 59, [.t 20], some (18, true)⟩,
 ⟨some 22, .pure .pick, [.t 18, .t 21, .c (.bool false)], none⟩,
 ⟨some 23, .pure .move, [.t 22], none⟩,
 ⟨some 24, .pure (.faddr 1), [.t 1], some (23, true)⟩,
 ⟨some 25, .read (.load none), [.t 24], some (23, true)⟩,
 ⟨some 26, .pcall 90, [.t 25], some (23, true)⟩,
 ⟨some 27, .pure (.bin .eql), [.t 26, .c (.int .i64 0)], some (23, true)⟩,
 ⟨some 28, .pure .pick, [.t 23, .t 27, .c (.bool false)], none⟩,
 ⟨some 29, .pure .move, [.t 28], none⟩,
 ⟨some 30, .pure (.faddr 2), [.t 1], some (29, true)⟩,
 ⟨some 31, .read (.load none), [.t 30], some (29, true)⟩,
 ⟨some 32, .pure (.bin .geq), [.t 31, .c (.int .i64 (-400))], some (29, true)⟩,
 ⟨some 33, .pure .pick, [.t 29, .t 32, .c (.bool false)], none⟩,
 ⟨some 34, .pure .move, [.t 33], none⟩,
 ⟨some 35, .pure (.faddr 2), [.t 1], some (34, true)⟩,
 ⟨some 36, .read (.load none), [.t 35], some (34, true)⟩,
 ⟨some 37, .pure (.bin .leq), [.t 36, .c (.int .i64 400)], some (34, true)⟩,
 ⟨some 38, .pure .pick, [.t 34, .t 37, .c (.bool false)], none⟩,
 ⟨some 2, .pure .move, [.t 38], none⟩])
 .ret))) }
/-- datakit/datakitref01.Digits -/
def ac82 : AFn :=
 { nt := 20, res := [.tmp 2], body :=
 (.seq (.ops [⟨some 2, .pure .move, [.c (.bool false)], none⟩])
 (.seq (.seq (.ops [⟨some 3, .pure .move, [.c (.int .i64 0)], none⟩])
 (.block 0
 (.loop [0, 3]
 (.seq (.seq (.ops [⟨some 4, .pure .move, [.t 3], none⟩,
 ⟨some 5, .pure .move, [.t 0], none⟩,
 ⟨some 6, .pure .lenS, [.t 5], none⟩,
 ⟨some 7, .pure (.bin .lss), [.t 4, .t 6], none⟩])
 (.cond (.t 7)
 .skip
 (.exit 0)))
 (.seq (.block 1
 (.seq (.ops [⟨some 10, .pure .move, [.t 0], none⟩,
 ⟨some 11, .pure .move, [.t 3], none⟩,
 ⟨some 12, .pure .idxStr, [.t 10, .t 11], none⟩,
 ⟨some 13, .pure (.bin .lss), [.t 12, .c (.int .u8 48)], none⟩,
 ⟨some 14, .pure .move, [.t 13], none⟩,
 ⟨some 15, .pure .move, [.t 0], some (14, false)⟩,
 ⟨some 16, .pure .move, [.t 3], some (14, false)⟩,
 ⟨some 17, .pure .idxStr, [.t 15, .t 16], some (14, false)⟩,
 ⟨some 18, .pure (.bin .gtr), [.t 17, .c (.int .u8 57)], some (14, false)⟩,
 ⟨some 19, .pure .pick, [.t 14, .c (.bool true), .t 18], none⟩])
 (.cond (.t 19)
 (.seq (.ops [⟨some 2, .pure .move, [.c (.bool false)], none⟩])
 .ret)
 .skip)))
 (.ops [⟨some 8, .pure .move, [.t 3], none⟩,
 ⟨some 9, .pure (.bin .add), [.t 8, .c (.int .i64 1)], none⟩,
 ⟨some 3, .pure .move, [.t 9], none⟩]))))))
 (.seq (.ops [⟨some 2, .pure .move, [.c (.bool true)], none⟩])
 .ret))) }
/-- datakit/datakitref01.Zeros -/
def ac90 : AFn :=
 { nt := 21, res := [.tmp 2], body :=
 (.seq (.ops [⟨some 2, .pure .move, [.c (.int .i64 0)], none⟩])
 (.seq (.ops [⟨some 3, .pure .move, [.c (.int .i64 0)], none⟩])
 (.seq (.block 0
 (.loop [0, 3]
 (.seq (.seq (.ops [⟨some 4, .pure .move, [.t 3], none⟩,
 ⟨some 5, .pure .move, [.t 0], none⟩,
 ⟨some 6, .pure .lenS, [.t 5], none⟩,
 ⟨some 7, .pure (.bin .lss), [.t 4, .t 6], none⟩,
 ⟨some 8, .pure .move, [.t 7], none⟩,
 ⟨some 9, .pure .move, [.t 0], some (8, true)⟩,
 ⟨some 10, .pure .move, [.t 0], some (8, true)⟩,
 ⟨some 11, .pure .lenS, [.t 10], some (8, true)⟩,
 ⟨some 12, .pure (.bin .sub), [.t 11, .c (.int .i64 1)], some (8, true)⟩,
 ⟨some 13, .pure .move, [.t 3], some (8, true)⟩,
 ⟨some 14, .pure (.bin .sub), [.t 12, .t 13], some (8, true)⟩,
 ⟨some 15, .pure .idxStr, [.t 9, .t 14], some (8, true)⟩,
 ⟨some 16, .pure (.bin .eql), [.t 15, .c (.int .u8 48)], some (8, true)⟩,
 ⟨some 17, .pure .pick, [.t 8, .t 16, .c (.bool false)], none⟩])
 (.cond (.t 17)
 .skip
 (.exit 0)))
 (.block 1
 (.ops [⟨some 18, .pure .move, [.t 3], none⟩,
 ⟨some 19, .pure (.bin .add), [.t 18, .c (.int .i64 1)], none⟩,
 ⟨some 3, .pure .move, [.t 19], none⟩])))))
 (.seq (.ops [⟨some 20, .pure .move, [.t 3], none⟩,
 ⟨some 2, .pure .move, [.t 20], none⟩])
 .ret)))) }
/-- datakit/decimal.FromInt -/
def ac129 : AFn :=
 { nt := 34, res := [.cell 2 (some 3)], body :=
 (.seq (.ops [⟨some 2, .new (.new 3 [.agg [.bool false, .str [], .int .i64 0]]), [], none⟩])
 (.seq (.ops [⟨some 8, .pure .move, [.t 0], none⟩,
 ⟨some 9, .pure (.bin .lss), [.t 8, .c (.int .i64 0)], none⟩,
 ⟨some 3, .pure .move, [.t 9], none⟩])
 (.seq (.ops [⟨some 4, .pure .move, [.c (.str [])], none⟩])
 (.seq (.seq (.ops [⟨some 10, .pure .move, [.t 3], none⟩])
 (.cond (.t 10)
 (.seq (.ops [⟨some 11, .pure .move, [.t 0], none⟩,
 ⟨some 12, .pure (.bin .rem), [.t 11, .c (.int .i64 10)], none⟩,
 ⟨some 13, .pure (.un .neg), [.t 12], none⟩,
 ⟨some 5, .pure .move, [.t 13], none⟩])
 (.seq (.ops [⟨some 14, .pure .move, [.t 0], none⟩,
 ⟨some 15, .pure (.bin .quo), [.t 14, .c (.int .i64 10)], none⟩,
 ⟨some 16, .pure (.un .neg), [.t 15], none⟩,
 ⟨some 17, .pcall 136, [.t 16], none⟩,
 ⟨some 18, .pure .move, [.t 5], none⟩,
 ⟨some 19, .pure (.bin .add), [.c (.int .i64 48), .t 18], none⟩,
 ⟨some 20, .pure (.conv .i32), [.t 19], none⟩,
 ⟨some 21, .pure .runeStr, [.t 20], none⟩,
 ⟨some 22, .pure (.bin .add), [.t 17, .t 21], none⟩,
 ⟨some 4, .pure .move, [.t 22], none⟩])
 (.ops [⟨some 23, .pure .move, [.t 4], none⟩,
 ⟨some 24, .pcall 137, [.t 23, .c (.str [48])], none⟩,
 ⟨some 4, .pure .move, [.t 24], none⟩])))
 (.ops [⟨some 25, .pure .move, [.t 0], none⟩,
 ⟨some 26, .pcall 136, [.t 25], none⟩,
 ⟨some 4, .pure .move, [.t 26], none⟩])))
 (.seq (.ops [⟨some 28, .pure .move, [.t 3], none⟩,
 ⟨some 29, .pure .move, [.t 4], none⟩,
 ⟨some 30, .pcall 138, [.t 28, .t 29, .c (.int .i64 0)], none⟩,
 ⟨some 27, .pure .move, [.t 30], none⟩,
 ⟨some 31, .pure (.ext 0), [.t 27], none⟩,
 ⟨some 32, .pure (.ext 1), [.t 27], none⟩,
 ⟨some 6, .new (.new 3 [.agg [.bool false, .str [], .int .i64 0]]), [], none⟩,
 ⟨none, .eff (.store 3), [.t 6, .t 31], none⟩,
 ⟨some 7, .pure .move, [.t 32], none⟩])
 (.seq (.ops [⟨some 33, .read (.load (some 3)), [.t 6], none⟩,
 ⟨none, .eff (.store 3), [.t 2, .t 33], none⟩])
 .ret)))))) }
/-- datakit/digits.FromInt -/
def ac136 : AFn :=
 { nt := 19, res := [.tmp 2], body :=
 (.seq (.ops [⟨some 2, .pure .move, [.c (.str [])], none⟩])
 (.seq (.ops [⟨some 3, .pure .move, [.c (.snil 1)], none⟩])
 (.seq (.block 0
 (.loop [0, 3]
 (.seq (.seq (.ops [⟨some 4, .pure .move, [.t 0], none⟩,
 ⟨some 5, .pure (.bin .gtr), [.t 4, .c (.int .i64 0)], none⟩])
 (.cond (.t 5)
 .skip
 (.exit 0)))
 (.seq (.block 1
 (.ops [⟨some 8, .pure .move, [.t 3], none⟩,
 ⟨some 9, .pure .move, [.t 0], none⟩,
 ⟨some 10, .pure (.bin .rem), [.t 9, .c (.int .i64 10)], none⟩,
 ⟨some 11, .pure (.bin .add), [.c (.int .i64 48), .t 10], none⟩,
 ⟨some 12, .pure (.conv .u8), [.t 11], none⟩,
 ⟨some 13, .new (.buildSlice 1 [.int .u8 0] [0]), [.t 12], none⟩,
 ⟨some 14, .eff (.append 1 1), [.t 8, .t 13], none⟩,
 ⟨some 3, .pure .move, [.t 14], none⟩]))
 (.ops [⟨some 6, .pure .move, [.t 0], none⟩,
 ⟨some 7, .pure (.bin .quo), [.t 6, .c (.int .i64 10)], none⟩,
 ⟨some 0, .pure .move, [.t 7], none⟩])))))
 (.seq (.ops [⟨some 15, .pure .move, [.t 3], none⟩,
 ⟨some 16, .call 143, [.t 15], none⟩])
 (.seq (.ops [⟨some 17, .pure .move, [.t 3], none⟩,
 ⟨some 18, .read .bytesStr, [.t 17], none⟩,
 ⟨some 2, .pure .move, [.t 18], none⟩])
 .ret))))) }
/-- datakit/decimal.norm -/
def ac138 : AFn :=
 { nt := 46, res := [.cell 6 (some 3), .tmp 7], body :=
 (.seq (.ops [⟨some 6, .new (.new 3 [.agg [.bool false, .str [], .int .i64 0]]), [], none⟩,
 ⟨some 7, .pure .move, [.c (.int .i64 0)], none⟩])
 (.seq (.seq (.ops [⟨some 9, .pure .move, [.t 1], none⟩,
 ⟨some 10, .pure (.bin .eql), [.t 9, .c (.str [])], none⟩])
 (.cond (.t 10)
 (.seq (.ops [⟨some 11, .pure (.build [.bool false, .str [], .int .i64 0] []), [], none⟩,
 ⟨none, .eff (.store 3), [.t 6, .t 11], none⟩,
 ⟨some 7, .pure .move, [.c (.int .i64 0)], none⟩])
 .ret)
 .skip))
 (.seq (.ops [⟨some 12, .pure .move, [.t 1], none⟩,
 ⟨some 13, .pure .lenS, [.t 12], none⟩,
 ⟨some 14, .pure .move, [.t 1], none⟩,
 ⟨some 15, .pcall 148, [.t 14, .c (.str [48])], none⟩,
 ⟨some 16, .pure .lenS, [.t 15], none⟩,
 ⟨some 17, .pure (.bin .sub), [.t 13, .t 16], none⟩,
 ⟨some 8, .pure .move, [.t 17], none⟩])
 (.seq (.ops [⟨some 18, .pure .move, [.t 1], none⟩,
 ⟨some 19, .pure .move, [.t 1], none⟩,
 ⟨some 20, .pure .lenS, [.t 19], none⟩,
 ⟨some 21, .pure .move, [.t 8], none⟩,
 ⟨some 22, .pure (.bin .sub), [.t 20, .t 21], none⟩,
 ⟨some 23, .pure (.sliceS false true), [.t 18, .t 22], none⟩,
 ⟨some 1, .pure .move, [.t 23], none⟩])
 (.seq (.seq (.ops [⟨some 24, .pure .move, [.t 2], none⟩,
 ⟨some 25, .pure .move, [.t 8], none⟩,
 ⟨some 26, .pure (.bin .sub), [.c (.int .i64 400), .t 25], none⟩,
 ⟨some 27, .pure (.bin .gtr), [.t 24, .t 26], none⟩,
 ⟨some 28, .pure .move, [.t 27], none⟩,
 ⟨some 29, .pure .move, [.t 2], some (28, false)⟩,
 ⟨some 30, .pure .move, [.t 8], some (28, false)⟩,
 ⟨some 31, .pure (.bin .sub), [.c (.int .i64 (-400)), .t 30], some (28, false)⟩,
 ⟨some 32, .pure (.bin .lss), [.t 29, .t 31], some (28, false)⟩,
 ⟨some 33, .pure .pick, [.t 28, .c (.bool true), .t 32], none⟩,
 ⟨some 34, .pure .move, [.t 33], none⟩,
 ⟨some 35, .pure .move, [.t 1], some (34, false)⟩,
 ⟨some 36, .pure .lenS, [.t 35], some (34, false)⟩,
 ⟨some 37, .pure (.bin .gtr), [.t 36, .c (.int .i64 120)], some (34, false)⟩,
 ⟨some 38, .pure .pick, [.t 34, .c (.bool true), .t 37], none⟩])
 (.cond (.t 38)
 (.seq (.ops [⟨some 39, .pure (.build [.bool false, .str [], .int .i64 0] []), [], none⟩,
 ⟨none, .eff (.store 3), [.t 6, .t 39], none⟩,
 ⟨some 7, .pure .move, [.c (.int .i64 2)], none⟩])
 .ret)
 .skip))
 (.seq (.ops [⟨some 40, .pure .move, [.t 0], none⟩,
 ⟨some 41, .pure .move, [.t 1], none⟩,
 ⟨some 42, .pure .move, [.t 2], none⟩,
 ⟨some 43, .pure .move, [.t 8], none⟩,
 ⟨some 44, .pure (.bin .add), [.t 42, .t 43], none⟩,
 ⟨some 45, .pure (.build [.bool false, .str [], .int .i64 0] [(0, 1), (1, 1), (2, 1)]), [.t 40, .t 41, .t 44], none⟩,
 ⟨none, .eff (.store 3), [.t 6, .t 45], none⟩,
 ⟨some 7, .pure .move, [.c (.int .i64 0)], none⟩])
 .ret)))))) }
/-- datakit/decimal.Valid -/
def ac140 : AFn :=
 { nt := 34, res := [.tmp 2], body :=
 (.seq (.ops [⟨some 1, .new (.box 3), [.t 0], none⟩,
 ⟨some 2, .pure .move, [.c (.bool false)], none⟩])
 (.seq (.seq (.ops [⟨some 3, .pure (.faddr 1), [.t 1], none⟩,
 ⟨some 4, .read (.load none), [.t 3], none⟩,
 ⟨some 5, .pure (.bin .eql), [.t 4, .c (.str [])], none⟩])
 (.cond (.t 5)
 (.seq (.ops [⟨some 6, .read (.load (some 3)), [.t 1], none⟩,
 ⟨some 7, .pure (.build [.bool false, .str [], .int .i64 0] []), [], none⟩,
 ⟨some 8, .pure (.eqF [.bool, .str, .int] false), [.t 6, .t 7], none⟩,
 ⟨some 2, .pure .move, [.t 8], none⟩])
 .ret)
 .skip))
 (.seq (.ops [⟨some 9, .pure (.faddr 1), [.t 1], none⟩,
 ⟨some 10, .read (.load none), [.t 9], none⟩,
 ⟨some 11, .pcall 149, [.t 10], none⟩,
 ⟨some 12, .pure .move, [.t 11], none⟩,
 ⟨some 13, .pure (.faddr 1), [.t 1], some (12, true)⟩,
 ⟨some 14, .read (.load none), [.t 13], some (12, true)⟩,
 ⟨some 15, .pure .lenS, [.t 14], some (12, true)⟩,
 ⟨some 16, .pure (.bin .leq), [.t 15, .c (.int .i64 120)], some (12, true)⟩,
 ⟨some 17, .pure .pick, [.t 12, .t 16, .c (.bool false)], none⟩,
 ⟨some 18, .pure .move, [.t 17], none⟩,
 ⟨some 19, .pure (.faddr 1), [.t 1], some (18, true)⟩,
 ⟨some 20, .read (.load none), [.t 19], some (18, true)⟩,
 ⟨some 21, .pcall 150, [.t 20], some (18, true)⟩,
 ⟨some 22, .pure (.bin .eql), [.t 21, .c (.int .i64 0)], some (18, true)⟩,
 ⟨some 23, .pure .pick, [.t 18, .t 22, .c (.bool false)], none⟩,
 ⟨some 24, .pure .move, [.t 23], none⟩,
 ⟨some 25, .pure (.faddr 2), [.t 1], some (24, true)⟩,
 ⟨some 26, .read (.load none), [.t 25], some (24, true)⟩,
 ⟨some 27, .pure (.bin .geq), [.t 26, .c (.int .i64 (-400))], some (24, true)⟩,
 ⟨some 28, .pure .pick, [.t 24, .t 27, .c (.bool false)], none⟩,
 ⟨some 29, .pure .move, [.t 28], none⟩,
 ⟨some 30, .pure (.faddr 2), [.t 1], some (29, true)⟩,
 ⟨some 31, .read (.load none), [.t 30], some (29, true)⟩,
 ⟨some 32, .pure (.bin .leq), [.t 31, .c (.int .i64 400)], some (29, true)⟩,
 ⟨some 33, .pure .pick, [.t 29, .t 32, .c (.bool false)], none⟩,
 ⟨some 2, .pure .move, [.t 33], none⟩])
 .ret))) }
/-- datakit/digits.reverse -/
def ac143 : AFn :=
 { nt := 28, res := [], body :=
 (.seq (.ops [⟨some 4, .pure .move, [.t 0], none⟩,
 ⟨some 5, .pure .lenL, [.t 4], none⟩,
 ⟨some 6, .pure (.bin .sub), [.t 5, .c (.int .i64 1)], none⟩,
 ⟨some 2, .pure .move, [.c (.int .i64 0)], none⟩,
 ⟨some 3, .pure .move, [.t 6], none⟩])
 (.block 0
 (.loop [0, 2, 3]
 (.seq (.seq (.ops [⟨some 7, .pure .move, [.t 2], none⟩,
 ⟨some 8, .pure .move, [.t 3], none⟩,
 ⟨some 9, .pure (.bin .lss), [.t 7, .t 8], none⟩])
 (.cond (.t 9)
 .skip
 (.exit 0)))
 (.seq (.block 1
 (.ops [⟨some 14, .pure .move, [.t 0], none⟩,
 ⟨some 15, .pure .move, [.t 2], none⟩,
 ⟨some 16, .pure .move, [.t 0], none⟩,
 ⟨some 17, .pure .move, [.t 3], none⟩,
 ⟨some 18, .pure .move, [.t 0], none⟩,
 ⟨some 19, .pure .move, [.t 3], none⟩,
 ⟨some 20, .pure (.iaddrS 1), [.t 18, .t 19], none⟩,
 ⟨some 21, .read (.load none), [.t 20], none⟩,
 ⟨some 22, .pure .move, [.t 0], none⟩,
 ⟨some 23, .pure .move, [.t 2], none⟩,
 ⟨some 24, .pure (.iaddrS 1), [.t 22, .t 23], none⟩,
 ⟨some 25, .read (.load none), [.t 24], none⟩,
 ⟨some 26, .pure (.iaddrS 1), [.t 14, .t 15], none⟩,
 ⟨none, .eff (.store 1), [.t 26, .t 21], none⟩,
 ⟨some 27, .pure (.iaddrS 1), [.t 16, .t 17], none⟩,
 ⟨none, .eff (.store 1), [.t 27, .t 25], none⟩]))
 (.ops [⟨some 10, .pure .move, [.t 2], none⟩,
 ⟨some 11, .pure (.bin .add), [.t 10, .c (.int .i64 1)], none⟩,
 ⟨some 12, .pure .move, [.t 3], none⟩,
 ⟨some 13, .pure (.bin .sub), [.t 12, .c (.int .i64 1)], none⟩,
 ⟨some 2, .pure .move, [.t 11], none⟩,
 ⟨some 3, .pure .move, [.t 13], none⟩])))))) }
/-- strings.TrimRight -/
def ac148 : AFn :=
 { nt := 37, res := [.tmp 4], body :=
 (.seq (.ops [⟨some 4, .pure .move, [.c (.str [])], none⟩])
 (.seq (.seq (.ops [⟨some 7, .pure .move, [.t 0], none⟩,
 ⟨some 8, .pure (.bin .eql), [.t 7, .c (.str [])], none⟩,
 ⟨some 9, .pure .move, [.t 8], none⟩,
 ⟨some 10, .pure .move, [.t 1], some (9, false)⟩,
 ⟨some 11, .pure (.bin .eql), [.t 10, .c (.str [])], some (9, false)⟩,
 ⟨some 12, .pure .pick, [.t 9, .c (.bool true), .t 11], none⟩])
 (.cond (.t 12)
 (.seq (.ops [⟨some 13, .pure .move, [.t 0], none⟩,
 ⟨some 4, .pure .move, [.t 13], none⟩])
 .ret)
 .skip))
 (.seq (.seq (.ops [⟨some 14, .pure .move, [.t 1], none⟩,
 ⟨some 15, .pure .lenS, [.t 14], none⟩,
 ⟨some 16, .pure (.bin .eql), [.t 15, .c (.int .i64 1)], none⟩,
 ⟨some 17, .pure .move, [.t 16], none⟩,
 ⟨some 18, .pure .move, [.t 1], some (17, true)⟩,
 ⟨some 19, .pure .idxStr, [.t 18, .c (.int .i64 0)], some (17, true)⟩,
 ⟨some 20, .pure (.bin .lss), [.t 19, .c (.int .u8 128)], some (17, true)⟩,
 ⟨some 21, .pure .pick, [.t 17, .t 20, .c (.bool false)], none⟩])
 (.cond (.t 21)
 (.seq (.ops [⟨some 22, .pure .move, [.t 0], none⟩,
 ⟨some 23, .pure .move, [.t 1], none⟩,
 ⟨some 24, .pure .idxStr, [.t 23, .c (.int .i64 0)], none⟩,
 ⟨some 25, .pcall 155, [.t 22, .t 24], none⟩,
 ⟨some 4, .pure .move, [.t 25], none⟩])
 .ret)
 .skip))
 (.seq (.seq (.ops [⟨some 27, .pure .move, [.t 1], none⟩,
 ⟨some 28, .pcall 145, [.t 27], none⟩,
 ⟨some 26, .pure .move, [.t 28], none⟩,
 ⟨some 29, .pure (.ext 0), [.t 26], none⟩,
 ⟨some 30, .pure (.ext 1), [.t 26], none⟩,
 ⟨some 5, .new (.new 1 [.bool false, .bool false, .bool false, .bool false, .bool false, .bool false, .bool false, .bool false, .bool false, .bool false, .bool false, .bool false, .bool false, .bool false, .bool false, .bool false, .bool false, .bool false, .bool false, .bool false, .bool false, .bool false, .bool false, .bool false, .bool false, .bool false, .bool false, .bool false, .bool false, .bool false, .bool false, .bool false, .bool false, .bool false, .bool false, .bool false, .bool false, .bool false, .bool false, .bool false, .bool false, .bool false, .bool false, .bool false, .bool false, .bool false, .bool false, .bool false, .bool false, .bool false, .bool false, .bool false, .bool false, .bool false, .bool false, .bool false, .bool false, .bool false, .bool false, .bool false, .bool false, .bool false, .bool false, .bool false, .bool false, .bool false, .bool false, .bool false, .bool false, .bool false, .bool false, .bool false, .bool false, .bool false, .bool false, .bool false, .bool false, .bool false, .bool false, .bool false, .bool false, .bool false, .bool false, .bool false, .bool false, .bool false, .bool false, .bool false, .bool false, .bool false, .bool false, .bool false, .bool false, .bool false, .bool false, .bool false, .bool false, .bool false, .bool false, .bool false, .bool false, .bool false, .bool false, .bool false, .bool false, .bool false, .bool false, .bool false, .bool false, .bool false, .bool false, .bool false, .bool false, .bool false, .bool false, .bool false, .bool false, .bool false, .bool false, .bool false, .bool false, .bool false, .bool false, .bool false, .bool false, .bool false, .bool false, .bool false, .bool false, .bool false, .bool false, .bool false, .bool false, .bool false, .bool false, .bool false, .bool false, .bool false, .bool false, .bool false, .bool false, .bool false, .bool false, .bool false, .bool false, .bool false, .bool false, .bool false, .bool false, .bool false, .bool false, .bool false, .bool false, .bool false, .bool false, .bool false, .bool false, .bool false, .bool false, .bool false, .bool false, .bool false, .bool false, .bool false, .bool false, .bool false, .bool false, .bool false, .bool false, .bool false, .bool false, .bool false, .bool false, .bool false, .bool false, .bool false, .bool false, .bool false, .bool false, .bool false, .bool false, .bool false, .bool false, .bool false, .bool false, .bool false, .bool false, .bool false, .bool false, .bool false, .bool false, .bool false, .bool false, .bool false, .bool false, .bool false, .bool false, .bool false, .bool false, .bool false, .bool false, .bool false, .bool false, .bool false, .bool false, .bool false, .bool false, .bool false, .bool false, .bool false, .bool false, .bool false, .bool false, .bool false, .bool false, .bool false, .bool false, .bool false, .bool false, .bool false, .bool false, .bool false, .bool false, .bool false, .bool false, .bool false, .bool false, .bool false, .bool false, .bool false, .bool false, .bool false, .bool false, .bool false, .bool false, .bool false, .bool false, .bool false, .bool false, .bool false, .bool false, .bool false, .bool false, .bool false, .bool false, .bool false, .bool false, .bool false, .bool false, .bool false, .bool false, .bool false, .bool false, .bool false, .bool false, .bool false]), [], none⟩,
 ⟨none, .eff (.store 256), [.t 5, .t 29], none⟩,
 ⟨some 6, .pure .move, [.t 30], none⟩])
 (.seq (.ops [⟨some 31, .pure .move, [.t 6], none⟩])
 (.cond (.t 31)
 (.seq (.ops [⟨some 32, .pure .move, [.t 0], none⟩,
 ⟨some 33, .bad, [], none⟩,
 ⟨some 4, .pure .move, [.t 33], none⟩])
 .ret)
 .skip)))
 (.seq (.ops [⟨some 34, .pure .move, [.t 0], none⟩,
 ⟨some 35, .pure .move, [.t 1], none⟩,
 ⟨some 36, .bad, [], none⟩,
 ⟨some 4, .pure .move, [.t 36], none⟩])
 .ret))))) }
/-- datakit/digits.Valid -/
def ac149 : AFn :=
 { nt := 19, res := [.tmp 2], body :=
 (.seq (.ops [⟨some 2, .pure .move, [.c (.bool false)], none⟩])
 (.seq (.ops [⟨some 3, .pure .move, [.t 0], none⟩,
 ⟨some 4, .pure .lenS, [.t 3], none⟩,
 ⟨some 5, .pure (.bin .leq), [.t 4, .c (.int .i64 600)], none⟩,
 ⟨some 6, .pure .move, [.t 5], none⟩,
 ⟨some 7, .pure .move, [.t 0], some (6, true)⟩,
 ⟨some 8, .pcall 158, [.t 7], some (6, true)⟩,
 ⟨some 9, .pure .pick, [.t 6, .t 8, .c (.bool false)], none⟩,
 ⟨some 10, .pure .move, [.t 9], none⟩,
 ⟨some 11, .pure .move, [.t 0], some (10, true)⟩,
 ⟨some 12, .pure (.bin .eql), [.t 11, .c (.str [])], some (10, true)⟩,
 ⟨some 13, .pure .move, [.t 12], some (10, true)⟩,
 ⟨some 14, .pure .move, [.t 0], some (13, false)⟩,
 ⟨some 15, .pure .idxStr, [.t 14, .c (.int .i64 0)], some (13, false)⟩,
 ⟨some 16, .pure (.bin .neq), [.t 15, .c (.int .u8 48)], some (13, false)⟩,
 ⟨some 17, .pure .pick, [.t 13, .c (.bool true), .t 16], some (10, true)⟩,
 ⟨some 18, .pure .pick, [.t 10, .t 17, .c (.bool false)], none⟩,
 ⟨some 2, .pure .move, [.t 18], none⟩])
 .ret)) }
/-- datakit/digits.Zeros -/
def ac150 : AFn :=
 { nt := 9, res := [.tmp 2], body :=
 (.seq (.ops [⟨some 2, .pure .move, [.c (.int .i64 0)], none⟩])
 (.seq (.ops [⟨some 3, .pure .move, [.t 0], none⟩,
 ⟨some 4, .pure .lenS, [.t 3], none⟩,
 ⟨some 5, .pure .move, [.t 0], none⟩,
 ⟨some 6, .pcall 148, [.t 5, .c (.str [48])], none⟩,
 ⟨some 7, .pure .lenS, [.t 6], none⟩,
 ⟨some 8, .pure (.bin .sub), [.t 4, .t 7], none⟩,
 ⟨some 2, .pure .move, [.t 8], none⟩])
 .ret)) }
/-- strings.trimRightByte -/
def ac155 : AFn :=
 { nt := 23, res := [.tmp 4], body :=
 (.seq (.ops [⟨some 4, .pure .move, [.c (.str [])], none⟩])
 (.seq (.block 0
 (.loop [0, 1]
 (.seq (.seq (.ops [⟨some 5, .pure .move, [.t 0], none⟩,
 ⟨some 6, .pure .lenS, [.t 5], none⟩,
 ⟨some 7, .pure (.bin .gtr), [.t 6, .c (.int .i64 0)], none⟩,
 ⟨some 8, .pure .move, [.t 7], none⟩,
 ⟨some 9, .pure .move, [.t 0], some (8, true)⟩,
 ⟨some 10, .pure .move, [.t 0], some (8, true)⟩,
 ⟨some 11, .pure .lenS, [.t 10], some (8, true)⟩,
 ⟨some 12, .pure (.bin .sub), [.t 11, .c (.int .i64 1)], some (8, true)⟩,
 ⟨some 13, .pure .idxStr, [.t 9, .t 12], some (8, true)⟩,
 ⟨some 14, .pure .move, [.t 1], some (8, true)⟩,
 ⟨some 15, .pure (.bin .eql), [.t 13, .t 14], some (8, true)⟩,
 ⟨some 16, .pure .pick, [.t 8, .t 15, .c (.bool false)], none⟩])
 (.cond (.t 16)
 .skip
 (.exit 0)))
 (.block 1
 (.ops [⟨some 17, .pure .move, [.t 0], none⟩,
 ⟨some 18, .pure .move, [.t 0], none⟩,
 ⟨some 19, .pure .lenS, [.t 18], none⟩,
 ⟨some 20, .pure (.bin .sub), [.t 19, .c (.int .i64 1)], none⟩,
 ⟨some 21, .pure (.sliceS false true), [.t 17, .t 20], none⟩,
 ⟨some 0, .pure .move, [.t 21], none⟩])))))
 (.seq (.ops [⟨some 22, .pure .move, [.t 0], none⟩,
 ⟨some 4, .pure .move, [.t 22], none⟩])
 .ret))) }
/-- datakit/digits.all -/
def ac158 : AFn :=
 { nt := 20, res := [.tmp 2], body :=
 (.seq (.ops [⟨some 2, .pure .move, [.c (.bool false)], none⟩])
 (.seq (.seq (.ops [⟨some 4, .pure .move, [.t 0], none⟩,
 ⟨some 5, .pure .lenS, [.t 4], none⟩,
 ⟨some 6, .pure .move, [.c (.int .i64 0)], none⟩])
 (.block 0
 (.loop [0, 5, 6]
 (.seq (.ops [⟨some 7, .pure (.bin .lss), [.t 6, .t 5], none⟩])
 (.seq (.cond (.t 7)
 .skip
 (.exit 0))
 (.seq (.block 1
 (.seq (.ops [⟨some 8, .pure .move, [.t 6], none⟩,
 ⟨some 3, .pure .move, [.t 8], none⟩])
 (.seq (.ops [⟨some 9, .pure .move, [.t 0], none⟩,
 ⟨some 10, .pure .move, [.t 3], none⟩,
 ⟨some 11, .pure .idxStr, [.t 9, .t 10], none⟩,
 ⟨some 12, .pure (.bin .lss), [.t 11, .c (.int .u8 48)], none⟩,
 ⟨some 13, .pure .move, [.t 12], none⟩,
 ⟨some 14, .pure .move, [.t 0], some (13, false)⟩,
 ⟨some 15, .pure .move, [.t 3], some (13, false)⟩,
 ⟨some 16, .pure .idxStr, [.t 14, .t 15], some (13, false)⟩,
 ⟨some 17, .pure (.bin .gtr), [.t 16, .c (.int .u8 57)], some (13, false)⟩,
 ⟨some 18, .pure .pick, [.t 13, .c (.bool true), .t 17], none⟩])
 (.cond (.t 18)
 (.seq (.ops [⟨some 2, .pure .move, [.c (.bool false)], none⟩])
 .ret)
 .skip))))
 (.ops [⟨some 19, .pure (.bin .add), [.t 6, .c (.int .i64 1)], none⟩,
 ⟨some 6, .pure .move, [.t 19], none⟩])))))))
 (.seq (.ops [⟨some 2, .pure .move, [.c (.bool true)], none⟩])
 .ret))) }
def code : Nat → Option AFn
 | 40 => some ac40
 | 49 => some ac49
 | 59 => some ac59
 | 72 => some ac72
 | 73 => some ac73
 | 79 => some ac79
 | 82 => some ac82
 | 90 => some ac90
 | 129 => some ac129
 | 136 => some ac136
 | 138 => some ac138
 | 140 => some ac140
 | 143 => some ac143
 | 148 => some ac148
 | 149 => some ac149
 | 150 => some ac150
 | 155 => some ac155
 | 158 => some ac158
 | _ => none
def clR : Nat → Option (Nat × Nat)
 | _ => none
def clP : Nat → Option (Nat × Nat)
 | _ => none
def C0 : Ctx := mkCtx code clR clP
end Ago
