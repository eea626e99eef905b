/- The abstract code of the functions, printed by program. -/
import Derived.Test.YtfnplmbkabdgoaaGreatDoorCodeZ
set_option linter.unusedSimpArgs false
set_option linter.unusedVariables false
set_option maxRecDepth 100000
namespace Ago
/-- slices.nextPowerOfTwo -/
def ac86 : AFn :=
 { nt := 7, res := [.tmp 2], body :=
 (.seq (.ops [⟨some 2, .pure .move, [.c (.int .u64 0)], none⟩])
 (.seq (.ops [⟨some 3, .pure .move, [.t 0], none⟩,
 ⟨some 4, .pure (.conv .u64), [.t 3], none⟩,
 ⟨some 5, .pcall 49, [.t 4], none⟩,
 ⟨some 6, .pure (.bin .shl), [.c (.int .u64 1), .t 5], none⟩,
 ⟨some 2, .pure .move, [.t 6], none⟩])
 .ret)) }
/-- (*slices.xorshift).Next -/
def ac87 : AFn :=
 { nt := 33, res := [.tmp 2], body :=
 (.seq (.ops [⟨some 2, .pure .move, [.c (.int .u64 0)], none⟩])
 (.seq (.ops [⟨some 3, .pure .move, [.t 0], none⟩,
 ⟨some 4, .pure .chk, [.t 3], none⟩,
 ⟨some 5, .read (.load none), [.t 4], none⟩,
 ⟨some 6, .pure .move, [.t 0], none⟩,
 ⟨some 7, .pure .chk, [.t 6], none⟩,
 ⟨some 8, .read (.load none), [.t 7], none⟩,
 ⟨some 9, .pure (.bin .shl), [.t 8, .c (.int .u64 13)], none⟩,
 ⟨some 10, .pure (.bin .xor), [.t 5, .t 9], none⟩,
 ⟨some 11, .pure .chk, [.t 3], none⟩,
 ⟨none, .eff (.store 1), [.t 11, .t 10], none⟩])
 (.seq (.ops [⟨some 12, .pure .move, [.t 0], none⟩,
 ⟨some 13, .pure .chk, [.t 12], none⟩,
 ⟨some 14, .read (.load none), [.t 13], none⟩,
 ⟨some 15, .pure .move, [.t 0], none⟩,
 ⟨some 16, .pure .chk, [.t 15], none⟩,
 ⟨some 17, .read (.load none), [.t 16], none⟩,
 ⟨some 18, .pure (.bin .shr), [.t 17, .c (.int .u64 7)], none⟩,
 ⟨some 19, .pure (.bin .xor), [.t 14, .t 18], none⟩,
 ⟨some 20, .pure .chk, [.t 12], none⟩,
 ⟨none, .eff (.store 1), [.t 20, .t 19], none⟩])
 (.seq (.ops [⟨some 21, .pure .move, [.t 0], none⟩,
 ⟨some 22, .pure .chk, [.t 21], none⟩,
 ⟨some 23, .read (.load none), [.t 22], none⟩,
 ⟨some 24, .pure .move, [.t 0], none⟩,
 ⟨some 25, .pure .chk, [.t 24], none⟩,
 ⟨some 26, .read (.load none), [.t 25], none⟩,
 ⟨some 27, .pure (.bin .shl), [.t 26, .c (.int .u64 17)], none⟩,
 ⟨some 28, .pure (.bin .xor), [.t 23, .t 27], none⟩,
 ⟨some 29, .pure .chk, [.t 21], none⟩,
 ⟨none, .eff (.store 1), [.t 29, .t 28], none⟩])
 (.seq (.ops [⟨some 30, .pure .move, [.t 0], none⟩,
 ⟨some 31, .pure .chk, [.t 30], none⟩,
 ⟨some 32, .read (.load none), [.t 31], none⟩,
 ⟨some 2, .pure .move, [.t 32], none⟩])
 .ret))))) }
/-- strings.TrimLeft -/
def ac137 : AFn :=
 { nt := 37, res := [.tmp 4], body :=
 (.seq (.ops [⟨some 4, .pure .move, [.c (.str [])], none⟩])
 (.seq (.seq (.ops [⟨some 7, .pure .move, [.t 0], none⟩,
 ⟨some 8, .pure (.bin .eql), [.t 7, .c (.str [])], none⟩,
 ⟨some 9, .pure .move, [.t 8], none⟩,
 ⟨some 10, .pure .move, [.t 1], some (9, false)⟩,
 ⟨some 11, .pure (.bin .eql), [.t 10, .c (.str [])], some (9, false)⟩,
 ⟨some 12, .pure .pick, [.t 9, .c (.bool true), .t 11], none⟩])
 (.cond (.t 12)
 (.seq (.ops [⟨some 13, .pure .move, [.t 0], none⟩,
 ⟨some 4, .pure .move, [.t 13], none⟩])
 .ret)
 .skip))
 (.seq (.seq (.ops [⟨some 14, .pure .move, [.t 1], none⟩,
 ⟨some 15, .pure .lenS, [.t 14], none⟩,
 ⟨some 16, .pure (.bin .eql), [.t 15, .c (.int .i64 1)], none⟩,
 ⟨some 17, .pure .move, [.t 16], none⟩,
 ⟨some 18, .pure .move, [.t 1], some (17, true)⟩,
 ⟨some 19, .pure .idxStr, [.t 18, .c (.int .i64 0)], some (17, true)⟩,
 ⟨some 20, .pure (.bin .lss), [.t 19, .c (.int .u8 128)], some (17, true)⟩,
 ⟨some 21, .pure .pick, [.t 17, .t 20, .c (.bool false)], none⟩])
 (.cond (.t 21)
 (.seq (.ops [⟨some 22, .pure .move, [.t 0], none⟩,
 ⟨some 23, .pure .move, [.t 1], none⟩,
 ⟨some 24, .pure .idxStr, [.t 23, .c (.int .i64 0)], none⟩,
 ⟨some 25, .pcall 144, [.t 22, .t 24], none⟩,
 ⟨some 4, .pure .move, [.t 25], none⟩])
 .ret)
 .skip))
 (.seq (.seq (.ops [⟨some 27, .pure .move, [.t 1], none⟩,
 ⟨some 28, .pcall 145, [.t 27], none⟩,
 ⟨some 26, .pure .move, [.t 28], none⟩,
 ⟨some 29, .pure (.ext 0), [.t 26], none⟩,
 ⟨some 30, .pure (.ext 1), [.t 26], none⟩,
 ⟨some 5, .new (.new 1 [.bool false, .bool false, .bool false, .bool false, .bool false, .bool false, .bool false, .bool false, .bool false, .bool false, .bool false, .bool false, .bool false, .bool false, .bool false, .bool false, .bool false, .bool false, .bool false, .bool false, .bool false, .bool false, .bool false, .bool false, .bool false, .bool false, .bool false, .bool false, .bool false, .bool false, .bool false, .bool false, .bool false, .bool false, .bool false, .bool false, .bool false, .bool false, .bool false, .bool false, .bool false, .bool false, .bool false, .bool false, .bool false, .bool false, .bool false, .bool false, .bool false, .bool false, .bool false, .bool false, .bool false, .bool false, .bool false, .bool false, .bool false, .bool false, .bool false, .bool false, .bool false, .bool false, .bool false, .bool false, .bool false, .bool false, .bool false, .bool false, .bool false, .bool false, .bool false, .bool false, .bool false, .bool false, .bool false, .bool false, .bool false, .bool false, .bool false, .bool false, .bool false, .bool false, .bool false, .bool false, .bool false, .bool false, .bool false, .bool false, .bool false, .bool false, .bool false, .bool false, .bool false, .bool false, .bool false, .bool false, .bool false, .bool false, .bool false, .bool false, .bool false, .bool false, .bool false, .bool false, .bool false, .bool false, .bool false, .bool false, .bool false, .bool false, .bool false, .bool false, .bool false, .bool false, .bool false, .bool false, .bool false, .bool false, .bool false, .bool false, .bool false, .bool false, .bool false, .bool false, .bool false, .bool false, .bool false, .bool false, .bool false, .bool false, .bool false, .bool false, .bool false, .bool false, .bool false, .bool false, .bool false, .bool false, .bool false, .bool false, .bool false, .bool false, .bool false, .bool false, .bool false, .bool false, .bool false, .bool false, .bool false, .bool false, .bool false, .bool false, .bool false, .bool false, .bool false, .bool false, .bool false, .bool false, .bool false, .bool false, .bool false, .bool false, .bool false, .bool false, .bool false, .bool false, .bool false, .bool false, .bool false, .bool false, .bool false, .bool false, .bool false, .bool false, .bool false, .bool false, .bool false, .bool false, .bool false, .bool false, .bool false, .bool false, .bool false, .bool false, .bool false, .bool false, .bool false, .bool false, .bool false, .bool false, .bool false, .bool false, .bool false, .bool false, .bool false, .bool false, .bool false, .bool false, .bool false, .bool false, .bool false, .bool false, .bool false, .bool false, .bool false, .bool false, .bool false, .bool false, .bool false, .bool false, .bool false, .bool false, .bool false, .bool false, .bool false, .bool false, .bool false, .bool false, .bool false, .bool false, .bool false, .bool false, .bool false, .bool false, .bool false, .bool false, .bool false, .bool false, .bool false, .bool false, .bool false, .bool false, .bool false, .bool false, .bool false, .bool false, .bool false, .bool false, .bool false, .bool false, .bool false, .bool false, .bool false, .bool false, .bool false, .bool false, .bool false, .bool false, .bool false, .bool false, .bool false, .bool false, .bool false, .bool false, .bool false, .bool false]), [], none⟩,
 ⟨none, .eff (.store 256), [.t 5, .t 29], none⟩,
 ⟨some 6, .pure .move, [.t 30], none⟩])
 (.seq (.ops [⟨some 31, .pure .move, [.t 6], none⟩])
 (.cond (.t 31)
 (.seq (.ops [⟨some 32, .pure .move, [.t 0], none⟩,
 ⟨some 33, .pcall 146, [.t 32, .t 5], none⟩,
 ⟨some 4, .pure .move, [.t 33], none⟩])
 .ret)
 .skip)))
 (.seq (.ops [⟨some 34, .pure .move, [.t 0], none⟩,
 ⟨some 35, .pure .move, [.t 1], none⟩,
 ⟨some 36, .pcall 147, [.t 34, .t 35], none⟩,
 ⟨some 4, .pure .move, [.t 36], none⟩])
 .ret))))) }
/-- strings.trimLeftByte -/
def ac144 : AFn :=
 { nt := 17, res := [.tmp 4], body :=
 (.seq (.ops [⟨some 4, .pure .move, [.c (.str [])], none⟩])
 (.seq (.block 0
 (.loop [0, 1]
 (.seq (.seq (.ops [⟨some 5, .pure .move, [.t 0], none⟩,
 ⟨some 6, .pure .lenS, [.t 5], none⟩,
 ⟨some 7, .pure (.bin .gtr), [.t 6, .c (.int .i64 0)], none⟩,
 ⟨some 8, .pure .move, [.t 7], none⟩,
 ⟨some 9, .pure .move, [.t 0], some (8, true)⟩,
 ⟨some 10, .pure .idxStr, [.t 9, .c (.int .i64 0)], some (8, true)⟩,
 ⟨some 11, .pure .move, [.t 1], some (8, true)⟩,
 ⟨some 12, .pure (.bin .eql), [.t 10, .t 11], some (8, true)⟩,
 ⟨some 13, .pure .pick, [.t 8, .t 12, .c (.bool false)], none⟩])
 (.cond (.t 13)
 .skip
 (.exit 0)))
 (.block 1
 (.ops [⟨some 14, .pure .move, [.t 0], none⟩,
 ⟨some 15, .pure (.sliceS true false), [.t 14, .c (.int .i64 1)], none⟩,
 ⟨some 0, .pure .move, [.t 15], none⟩])))))
 (.seq (.ops [⟨some 16, .pure .move, [.t 0], none⟩,
 ⟨some 4, .pure .move, [.t 16], none⟩])
 .ret))) }
/-- strings.makeASCIISet -/
def ac145 : AFn :=
 { nt := 21, res := [.cell 2 (some 256), .tmp 3], body :=
 (.seq (.ops [⟨some 2, .new (.new 1 [.bool false, .bool false, .bool false, .bool false, .bool false, .bool false, .bool false, .bool false, .bool false, .bool false, .bool false, .bool false, .bool false, .bool false, .bool false, .bool false, .bool false, .bool false, .bool false, .bool false, .bool false, .bool false, .bool false, .bool false, .bool false, .bool false, .bool false, .bool false, .bool false, .bool false, .bool false, .bool false, .bool false, .bool false, .bool false, .bool false, .bool false, .bool false, .bool false, .bool false, .bool false, .bool false, .bool false, .bool false, .bool false, .bool false, .bool false, .bool false, .bool false, .bool false, .bool false, .bool false, .bool false, .bool false, .bool false, .bool false, .bool false, .bool false, .bool false, .bool false, .bool false, .bool false, .bool false, .bool false, .bool false, .bool false, .bool false, .bool false, .bool false, .bool false, .bool false, .bool false, .bool false, .bool false, .bool false, .bool false, .bool false, .bool false, .bool false, .bool false, .bool false, .bool false, .bool false, .bool false, .bool false, .bool false, .bool false, .bool false, .bool false, .bool false, .bool false, .bool false, .bool false, .bool false, .bool false, .bool false, .bool false, .bool false, .bool false, .bool false, .bool false, .bool false, .bool false, .bool false, .bool false, .bool false, .bool false, .bool false, .bool false, .bool false, .bool false, .bool false, .bool false, .bool false, .bool false, .bool false, .bool false, .bool false, .bool false, .bool false, .bool false, .bool false, .bool false, .bool false, .bool false, .bool false, .bool false, .bool false, .bool false, .bool false, .bool false, .bool false, .bool false, .bool false, .bool false, .bool false, .bool false, .bool false, .bool false, .bool false, .bool false, .bool false, .bool false, .bool false, .bool false, .bool false, .bool false, .bool false, .bool false, .bool false, .bool false, .bool false, .bool false, .bool false, .bool false, .bool false, .bool false, .bool false, .bool false, .bool false, .bool false, .bool false, .bool false, .bool false, .bool false, .bool false, .bool false, .bool false, .bool false, .bool false, .bool false, .bool false, .bool false, .bool false, .bool false, .bool false, .bool false, .bool false, .bool false, .bool false, .bool false, .bool false, .bool false, .bool false, .bool false, .bool false, .bool false, .bool false, .bool false, .bool false, .bool false, .bool false, .bool false, .bool false, .bool false, .bool false, .bool false, .bool false, .bool false, .bool false, .bool false, .bool false, .bool false, .bool false, .bool false, .bool false, .bool false, .bool false, .bool false, .bool false, .bool false, .bool false, .bool false, .bool false, .bool false, .bool false, .bool false, .bool false, .bool false, .bool false, .bool false, .bool false, .bool false, .bool false, .bool false, .bool false, .bool false, .bool false, .bool false, .bool false, .bool false, .bool false, .bool false, .bool false, .bool false, .bool false, .bool false, .bool false, .bool false, .bool false, .bool false, .bool false, .bool false, .bool false, .bool false, .bool false, .bool false, .bool false, .bool false, .bool false, .bool false, .bool false, .bool false, .bool false, .bool false, .bool false]), [], none⟩,
 ⟨some 3, .pure .move, [.c (.bool false)], none⟩])
 (.seq (.seq (.ops [⟨some 4, .pure .move, [.c (.int .i64 0)], none⟩])
 (.block 0
 (.loop [0, 2, 4]
 (.seq (.seq (.ops [⟨some 6, .pure .move, [.t 4], none⟩,
 ⟨some 7, .pure .move, [.t 0], none⟩,
 ⟨some 8, .pure .lenS, [.t 7], none⟩,
 ⟨some 9, .pure (.bin .lss), [.t 6, .t 8], none⟩])
 (.cond (.t 9)
 .skip
 (.exit 0)))
 (.seq (.block 1
 (.seq (.ops [⟨some 12, .pure .move, [.t 0], none⟩,
 ⟨some 13, .pure .move, [.t 4], none⟩,
 ⟨some 14, .pure .idxStr, [.t 12, .t 13], none⟩,
 ⟨some 5, .pure .move, [.t 14], none⟩])
 (.seq (.seq (.ops [⟨some 15, .pure .move, [.t 5], none⟩,
 ⟨some 16, .pure (.bin .geq), [.t 15, .c (.int .u8 128)], none⟩])
 (.cond (.t 16)
 (.seq (.ops [⟨some 17, .read (.load (some 256)), [.t 2], none⟩,
 ⟨none, .eff (.store 256), [.t 2, .t 17], none⟩,
 ⟨some 3, .pure .move, [.c (.bool false)], none⟩])
 .ret)
 .skip))
 (.ops [⟨some 18, .pure .move, [.t 5], none⟩,
 ⟨some 19, .pure (.iaddrA 256 1), [.t 2, .t 18], none⟩,
 ⟨none, .eff (.store 1), [.t 19, .c (.bool true)], none⟩]))))
 (.ops [⟨some 10, .pure .move, [.t 4], none⟩,
 ⟨some 11, .pure (.bin .add), [.t 10, .c (.int .i64 1)], none⟩,
 ⟨some 4, .pure .move, [.t 11], none⟩]))))))
 (.seq (.ops [⟨some 20, .read (.load (some 256)), [.t 2], none⟩,
 ⟨none, .eff (.store 256), [.t 2, .t 20], none⟩,
 ⟨some 3, .pure .move, [.c (.bool true)], none⟩])
 .ret))) }
/-- strings.trimLeftASCII -/
def ac146 : AFn :=
 { nt := 16, res := [.tmp 4], body :=
 (.seq (.ops [⟨some 4, .pure .move, [.c (.str [])], none⟩])
 (.seq (.block 0
 (.loop [0, 1]
 (.seq (.seq (.ops [⟨some 5, .pure .move, [.t 0], none⟩,
 ⟨some 6, .pure .lenS, [.t 5], none⟩,
 ⟨some 7, .pure (.bin .gtr), [.t 6, .c (.int .i64 0)], none⟩])
 (.cond (.t 7)
 .skip
 (.exit 0)))
 (.block 1
 (.seq (.seq (.ops [⟨some 8, .pure .move, [.t 1], none⟩,
 ⟨some 9, .pure .move, [.t 0], none⟩,
 ⟨some 10, .pure .idxStr, [.t 9, .c (.int .i64 0)], none⟩,
 ⟨some 11, .call 152, [.t 8, .t 10], none⟩,
 ⟨some 12, .pure (.un .not), [.t 11], none⟩])
 (.cond (.t 12)
 (.exit 0)
 .skip))
 (.ops [⟨some 13, .pure .move, [.t 0], none⟩,
 ⟨some 14, .pure (.sliceS true false), [.t 13, .c (.int .i64 1)], none⟩,
 ⟨some 0, .pure .move, [.t 14], none⟩]))))))
 (.seq (.ops [⟨some 15, .pure .move, [.t 0], none⟩,
 ⟨some 4, .pure .move, [.t 15], none⟩])
 .ret))) }
/-- strings.trimLeftUnicode -/
def ac147 : AFn :=
 { nt := 23, res := [.tmp 4], body :=
 (.seq (.ops [⟨some 4, .pure .move, [.c (.str [])], none⟩])
 (.seq (.block 0
 (.loop [0, 1]
 (.seq (.seq (.ops [⟨some 7, .pure .move, [.t 0], none⟩,
 ⟨some 8, .pure .lenS, [.t 7], none⟩,
 ⟨some 9, .pure (.bin .gtr), [.t 8, .c (.int .i64 0)], none⟩])
 (.cond (.t 9)
 .skip
 (.exit 0)))
 (.block 1
 (.seq (.ops [⟨some 11, .pure .move, [.t 0], none⟩,
 ⟨some 12, .pcall 153, [.t 11], none⟩,
 ⟨some 10, .pure .move, [.t 12], none⟩,
 ⟨some 13, .pure (.ext 0), [.t 10], none⟩,
 ⟨some 14, .pure (.ext 1), [.t 10], none⟩,
 ⟨some 5, .pure .move, [.t 13], none⟩,
 ⟨some 6, .pure .move, [.t 14], none⟩])
 (.seq (.seq (.ops [⟨some 15, .pure .move, [.t 1], none⟩,
 ⟨some 16, .pure .move, [.t 5], none⟩,
 ⟨some 17, .pcall 154, [.t 15, .t 16], none⟩,
 ⟨some 18, .pure (.un .not), [.t 17], none⟩])
 (.cond (.t 18)
 (.exit 0)
 .skip))
 (.ops [⟨some 19, .pure .move, [.t 0], none⟩,
 ⟨some 20, .pure .move, [.t 6], none⟩,
 ⟨some 21, .pure (.sliceS true false), [.t 19, .t 20], none⟩,
 ⟨some 0, .pure .move, [.t 21], none⟩])))))))
 (.seq (.ops [⟨some 22, .pure .move, [.t 0], none⟩,
 ⟨some 4, .pure .move, [.t 22], none⟩])
 .ret))) }
/-- (*strings.asciiSet).contains -/
def ac152 : AFn :=
 { nt := 10, res := [.tmp 4], body :=
 (.seq (.ops [⟨some 4, .pure .move, [.c (.bool false)], none⟩])
 (.seq (.ops [⟨some 5, .pure .move, [.t 0], none⟩,
 ⟨some 6, .pure .move, [.t 1], none⟩,
 ⟨some 7, .pure .chk, [.t 5], none⟩,
 ⟨some 8, .pure (.iaddrA 256 1), [.t 7, .t 6], none⟩,
 ⟨some 9, .read (.load none), [.t 8], none⟩,
 ⟨some 4, .pure .move, [.t 9], none⟩])
 .ret)) }
/-- unicode/utf8.DecodeRuneInString -/
def ac153 : AFn :=
 { nt := 19, res := [.tmp 2, .tmp 3], body :=
 (.seq (.ops [⟨some 2, .pure .move, [.c (.int .i32 0)], none⟩,
 ⟨some 3, .pure .move, [.c (.int .i64 0)], none⟩])
 (.seq (.seq (.ops [⟨some 4, .pure .move, [.t 0], none⟩,
 ⟨some 5, .pure (.bin .neq), [.t 4, .c (.str [])], none⟩,
 ⟨some 6, .pure .move, [.t 5], none⟩,
 ⟨some 7, .pure .move, [.t 0], some (6, true)⟩,
 ⟨some 8, .pure .idxStr, [.t 7, .c (.int .i64 0)], some (6, true)⟩,
 ⟨some 9, .pure (.bin .lss), [.t 8, .c (.int .u8 128)], some (6, true)⟩,
 ⟨some 10, .pure .pick, [.t 6, .t 9, .c (.bool false)], none⟩])
 (.cond (.t 10)
 (.seq (.ops [⟨some 11, .pure .move, [.t 0], none⟩,
 ⟨some 12, .pure .idxStr, [.t 11, .c (.int .i64 0)], none⟩,
 ⟨some 13, .pure (.conv .i32), [.t 12], none⟩,
 ⟨some 2, .pure .move, [.t 13], none⟩,
 ⟨some 3, .pure .move, [.c (.int .i64 1)], none⟩])
 .ret)
 (.ops [⟨some 15, .pure .move, [.t 0], none⟩,
 ⟨some 16, .pcall 159, [.t 15], none⟩,
 ⟨some 14, .pure .move, [.t 16], none⟩,
 ⟨some 17, .pure (.ext 0), [.t 14], none⟩,
 ⟨some 18, .pure (.ext 1), [.t 14], none⟩,
 ⟨some 2, .pure .move, [.t 17], none⟩,
 ⟨some 3, .pure .move, [.t 18], none⟩])))
 .ret)) }
/-- strings.ContainsRune -/
def ac154 : AFn :=
 { nt := 9, res := [.tmp 4], body :=
 (.seq (.ops [⟨some 4, .pure .move, [.c (.bool false)], none⟩])
 (.seq (.ops [⟨some 5, .pure .move, [.t 0], none⟩,
 ⟨some 6, .pure .move, [.t 1], none⟩,
 ⟨some 7, .bad, [], none⟩,
 ⟨some 8, .pure (.bin .geq), [.t 7, .c (.int .i64 0)], none⟩,
 ⟨some 4, .pure .move, [.t 8], none⟩])
 .ret)) }
/-- unicode/utf8.decodeRuneInStringSlow -/
def ac159 : AFn :=
 { nt := 117, res := [.tmp 2, .tmp 3], body :=
 (.seq (.ops [⟨some 2, .pure .move, [.c (.int .i32 0)], none⟩,
 ⟨some 3, .pure .move, [.c (.int .i64 0)], none⟩])
 (.seq (.ops [⟨some 13, .pure .move, [.t 0], none⟩,
 ⟨some 14, .pure .lenS, [.t 13], none⟩,
 ⟨some 4, .pure .move, [.t 14], none⟩])
 (.seq (.seq (.ops [⟨some 15, .pure .move, [.t 4], none⟩,
 ⟨some 16, .pure (.bin .lss), [.t 15, .c (.int .i64 1)], none⟩])
 (.cond (.t 16)
 (.seq (.ops [⟨some 2, .pure .move, [.c (.int .i32 65533)], none⟩,
 ⟨some 3, .pure .move, [.c (.int .i64 0)], none⟩])
 .ret)
 .skip))
 (.seq (.ops [⟨some 17, .pure .move, [.t 0], none⟩,
 ⟨some 18, .pure .idxStr, [.t 17, .c (.int .i64 0)], none⟩,
 ⟨some 5, .pure .move, [.t 18], none⟩])
 (.seq (.ops [⟨some 19, .pure .move, [.t 5], none⟩,
 ⟨some 20, .bad, [], none⟩,
 ⟨some 21, .read (.load none), [.t 20], none⟩,
 ⟨some 6, .pure .move, [.t 21], none⟩])
 (.seq (.seq (.ops [⟨some 22, .pure .move, [.t 6], none⟩,
 ⟨some 23, .pure (.bin .geq), [.t 22, .c (.int .u8 240)], none⟩])
 (.cond (.t 23)
 (.seq (.ops [⟨some 24, .pure .move, [.t 6], none⟩,
 ⟨some 25, .pure (.conv .i32), [.t 24], none⟩,
 ⟨some 26, .pure (.bin .shl), [.t 25, .c (.int .u64 31)], none⟩,
 ⟨some 27, .pure (.bin .shr), [.t 26, .c (.int .u64 31)], none⟩,
 ⟨some 7, .pure .move, [.t 27], none⟩])
 (.seq (.ops [⟨some 28, .pure .move, [.t 0], none⟩,
 ⟨some 29, .pure .idxStr, [.t 28, .c (.int .i64 0)], none⟩,
 ⟨some 30, .pure (.conv .i32), [.t 29], none⟩,
 ⟨some 31, .pure .move, [.t 7], none⟩,
 ⟨some 32, .pure (.bin .andNot), [.t 30, .t 31], none⟩,
 ⟨some 33, .pure .move, [.t 7], none⟩,
 ⟨some 34, .pure (.bin .and), [.c (.int .i32 65533), .t 33], none⟩,
 ⟨some 35, .pure (.bin .or), [.t 32, .t 34], none⟩,
 ⟨some 2, .pure .move, [.t 35], none⟩,
 ⟨some 3, .pure .move, [.c (.int .i64 1)], none⟩])
 .ret))
 .skip))
 (.seq (.ops [⟨some 36, .pure .move, [.t 6], none⟩,
 ⟨some 37, .pure (.bin .and), [.t 36, .c (.int .u8 7)], none⟩,
 ⟨some 38, .pure (.conv .i64), [.t 37], none⟩,
 ⟨some 8, .pure .move, [.t 38], none⟩])
 (.seq (.ops [⟨some 39, .pure .move, [.t 6], none⟩,
 ⟨some 40, .pure (.bin .shr), [.t 39, .c (.int .u64 4)], none⟩,
 ⟨some 41, .bad, [], none⟩,
 ⟨some 42, .read (.load (some 2)), [.t 41], none⟩,
 ⟨some 9, .new (.new 2 [.agg [.int .u8 0, .int .u8 0]]), [], none⟩,
 ⟨none, .eff (.store 2), [.t 9, .t 42], none⟩])
 (.seq (.seq (.ops [⟨some 43, .pure .move, [.t 4], none⟩,
 ⟨some 44, .pure .move, [.t 8], none⟩,
 ⟨some 45, .pure (.bin .lss), [.t 43, .t 44], none⟩])
 (.cond (.t 45)
 (.seq (.ops [⟨some 2, .pure .move, [.c (.int .i32 65533)], none⟩,
 ⟨some 3, .pure .move, [.c (.int .i64 1)], none⟩])
 .ret)
 .skip))
 (.seq (.ops [⟨some 46, .pure .move, [.t 0], none⟩,
 ⟨some 47, .pure .idxStr, [.t 46, .c (.int .i64 1)], none⟩,
 ⟨some 10, .pure .move, [.t 47], none⟩])
 (.seq (.seq (.ops [⟨some 48, .pure .move, [.t 10], none⟩,
 ⟨some 49, .pure (.faddr 0), [.t 9], none⟩,
 ⟨some 50, .read (.load none), [.t 49], none⟩,
 ⟨some 51, .pure (.bin .lss), [.t 48, .t 50], none⟩,
 ⟨some 52, .pure .move, [.t 51], none⟩,
 ⟨some 53, .pure (.faddr 1), [.t 9], some (52, false)⟩,
 ⟨some 54, .read (.load none), [.t 53], some (52, false)⟩,
 ⟨some 55, .pure .move, [.t 10], some (52, false)⟩,
 ⟨some 56, .pure (.bin .lss), [.t 54, .t 55], some (52, false)⟩,
 ⟨some 57, .pure .pick, [.t 52, .c (.bool true), .t 56], none⟩])
 (.cond (.t 57)
 (.seq (.ops [⟨some 2, .pure .move, [.c (.int .i32 65533)], none⟩,
 ⟨some 3, .pure .move, [.c (.int .i64 1)], none⟩])
 .ret)
 .skip))
 (.seq (.seq (.ops [⟨some 58, .pure .move, [.t 8], none⟩,
 ⟨some 59, .pure (.bin .leq), [.t 58, .c (.int .i64 2)], none⟩])
 (.cond (.t 59)
 (.seq (.ops [⟨some 60, .pure .move, [.t 5], none⟩,
 ⟨some 61, .pure (.bin .and), [.t 60, .c (.int .u8 31)], none⟩,
 ⟨some 62, .pure (.conv .i32), [.t 61], none⟩,
 ⟨some 63, .pure (.bin .shl), [.t 62, .c (.int .u64 6)], none⟩,
 ⟨some 64, .pure .move, [.t 10], none⟩,
 ⟨some 65, .pure (.bin .and), [.t 64, .c (.int .u8 63)], none⟩,
 ⟨some 66, .pure (.conv .i32), [.t 65], none⟩,
 ⟨some 67, .pure (.bin .or), [.t 63, .t 66], none⟩,
 ⟨some 2, .pure .move, [.t 67], none⟩,
 ⟨some 3, .pure .move, [.c (.int .i64 2)], none⟩])
 .ret)
 .skip))
 (.seq (.ops [⟨some 68, .pure .move, [.t 0], none⟩,
 ⟨some 69, .pure .idxStr, [.t 68, .c (.int .i64 2)], none⟩,
 ⟨some 11, .pure .move, [.t 69], none⟩])
 (.seq (.seq (.ops [⟨some 70, .pure .move, [.t 11], none⟩,
 ⟨some 71, .pure (.bin .lss), [.t 70, .c (.int .u8 128)], none⟩,
 ⟨some 72, .pure .move, [.t 71], none⟩,
 ⟨some 73, .pure .move, [.t 11], some (72, false)⟩,
 ⟨some 74, .pure (.bin .lss), [.c (.int .u8 191), .t 73], some (72, false)⟩,
 ⟨some 75, .pure .pick, [.t 72, .c (.bool true), .t 74], none⟩])
 (.cond (.t 75)
 (.seq (.ops [⟨some 2, .pure .move, [.c (.int .i32 65533)], none⟩,
 ⟨some 3, .pure .move, [.c (.int .i64 1)], none⟩])
 .ret)
 .skip))
 (.seq (.seq (.ops [⟨some 76, .pure .move, [.t 8], none⟩,
 ⟨some 77, .pure (.bin .leq), [.t 76, .c (.int .i64 3)], none⟩])
 (.cond (.t 77)
 (.seq (.ops [⟨some 78, .pure .move, [.t 5], none⟩,
 ⟨some 79, .pure (.bin .and), [.t 78, .c (.int .u8 15)], none⟩,
 ⟨some 80, .pure (.conv .i32), [.t 79], none⟩,
 ⟨some 81, .pure (.bin .shl), [.t 80, .c (.int .u64 12)], none⟩,
 ⟨some 82, .pure .move, [.t 10], none⟩,
 ⟨some 83, .pure (.bin .and), [.t 82, .c (.int .u8 63)], none⟩,
 ⟨some 84, .pure (.conv .i32), [.t 83], none⟩,
 ⟨some 85, .pure (.bin .shl), [.t 84, .c (.int .u64 6)], none⟩,
 ⟨some 86, .pure (.bin .or), [.t 81, .t 85], none⟩,
 ⟨some 87, .pure .move, [.t 11], none⟩,
 ⟨some 88, .pure (.bin .and), [.t 87, .c (.int .u8 63)], none⟩,
 ⟨some 89, .pure (.conv .i32), [.t 88], none⟩,
 ⟨some 90, .pure (.bin .or), [.t 86, .t 89], none⟩,
 ⟨some 2, .pure .move, [.t 90], none⟩,
 ⟨some 3, .pure .move, [.c (.int .i64 3)], none⟩])
 .ret)
 .skip))
 (.seq (.ops [⟨some 91, .pure .move, [.t 0], none⟩,
 ⟨some 92, .pure .idxStr, [.t 91, .c (.int .i64 3)], none⟩,
 ⟨some 12, .pure .move, [.t 92], none⟩])
 (.seq (.seq (.ops [⟨some 93, .pure .move, [.t 12], none⟩,
 ⟨some 94, .pure (.bin .lss), [.t 93, .c (.int .u8 128)], none⟩,
 ⟨some 95, .pure .move, [.t 94], none⟩,
 ⟨some 96, .pure .move, [.t 12], some (95, false)⟩,
 ⟨some 97, .pure (.bin .lss), [.c (.int .u8 191), .t 96], some (95, false)⟩,
 ⟨some 98, .pure .pick, [.t 95, .c (.bool true), .t 97], none⟩])
 (.cond (.t 98)
 (.seq (.ops [⟨some 2, .pure .move, [.c (.int .i32 65533)], none⟩,
 ⟨some 3, .pure .move, [.c (.int .i64 1)], none⟩])
 .ret)
 .skip))
 (.seq (.ops [⟨some 99, .pure .move, [.t 5], none⟩,
 ⟨some 100, .pure (.bin .and), [.t 99, .c (.int .u8 7)], none⟩,
 ⟨some 101, .pure (.conv .i32), [.t 100], none⟩,
 ⟨some 102, .pure (.bin .shl), [.t 101, .c (.int .u64 18)], none⟩,
 ⟨some 103, .pure .move, [.t 10], none⟩,
 ⟨some 104, .pure (.bin .and), [.t 103, .c (.int .u8 63)], none⟩,
 ⟨some 105, .pure (.conv .i32), [.t 104], none⟩,
 ⟨some 106, .pure (.bin .shl), [.t 105, .c (.int .u64 12)], none⟩,
 ⟨some 107, .pure (.bin .or), [.t 102, .t 106], none⟩,
 ⟨some 108, .pure .move, [.t 11], none⟩,
 ⟨some 109, .pure (.bin .and), [.t 108, .c (.int .u8 63)], none⟩,
 ⟨some 110, .pure (.conv .i32), [.t 109], none⟩,
 ⟨some 111, .pure (.bin .shl), [.t 110, .c (.int .u64 6)], none⟩,
 ⟨some 112, .pure (.bin .or), [.t 107, .t 111], none⟩,
 ⟨some 113, .pure .move, [.t 12], none⟩,
 ⟨some 114, .pure (.bin .and), [.t 113, .c (.int .u8 63)], none⟩,
 ⟨some 115, .pure (.conv .i32), [.t 114], none⟩,
 ⟨some 116, .pure (.bin .or), [.t 112, .t 115], none⟩,
 ⟨some 2, .pure .move, [.t 116], none⟩,
 ⟨some 3, .pure .move, [.c (.int .i64 4)], none⟩])
 .ret)))))))))))))))))) }
/-- datakit/numset.Valid -/
def ac229 : AFn :=
 { nt := 20, res := [.tmp 2], body :=
 (.seq (.ops [⟨some 1, .new (.box 1), [.t 0], none⟩,
 ⟨some 2, .pure .move, [.c (.bool false)], none⟩])
 (.seq (.seq (.ops [⟨some 5, .pure (.faddr 0), [.t 1], none⟩,
 ⟨some 6, .read (.load none), [.t 5], none⟩,
 ⟨some 7, .pure .lenL, [.t 6], none⟩,
 ⟨some 8, .pure (.bin .gtr), [.t 7, .c (.int .i64 256)], none⟩])
 (.cond (.t 8)
 (.seq (.ops [⟨some 2, .pure .move, [.c (.bool false)], none⟩])
 .ret)
 .skip))
 (.seq (.seq (.ops [⟨some 9, .pure (.faddr 0), [.t 1], none⟩,
 ⟨some 10, .read (.load none), [.t 9], none⟩,
 ⟨some 11, .pure .lenL, [.t 10], none⟩,
 ⟨some 12, .pure .move, [.c (.int .i64 0)], none⟩])
 (.block 0
 (.loop [10, 11, 12]
 (.seq (.ops [⟨some 13, .pure (.bin .lss), [.t 12, .t 11], none⟩])
 (.seq (.cond (.t 13)
 .skip
 (.exit 0))
 (.seq (.block 1
 (.seq (.ops [⟨some 14, .pure (.iaddrS 11), [.t 10, .t 12], none⟩,
 ⟨some 15, .read (.load (some 11)), [.t 14], none⟩,
 ⟨some 4, .new (.new 11 [.agg [.bool false, .bool false, .str [], .int .i64 0, .bool false, .bool false, .bool false, .str [], .int .i64 0, .bool false, .int .i64 0]]), [], none⟩,
 ⟨none, .eff (.store 11), [.t 4, .t 15], none⟩])
 (.seq (.ops [⟨some 16, .read (.load (some 11)), [.t 4], none⟩,
 ⟨some 17, .pcall 250, [.t 16], none⟩,
 ⟨some 18, .pure (.un .not), [.t 17], none⟩])
 (.cond (.t 18)
 (.seq (.ops [⟨some 2, .pure .move, [.c (.bool false)], none⟩])
 .ret)
 .skip))))
 (.ops [⟨some 19, .pure (.bin .add), [.t 12, .c (.int .i64 1)], none⟩,
 ⟨some 12, .pure .move, [.t 19], none⟩])))))))
 (.seq (.ops [⟨some 2, .pure .move, [.c (.bool true)], none⟩])
 .ret)))) }
/-- datakit/numset.Has -/
def ac235 : AFn :=
 { nt := 26, res := [.tmp 4], body :=
 (.seq (.ops [⟨some 2, .new (.box 1), [.t 0], none⟩,
 ⟨some 3, .new (.box 3), [.t 1], none⟩,
 ⟨some 4, .pure .move, [.c (.bool false)], none⟩])
 (.seq (.seq (.ops [⟨some 7, .read (.load (some 1)), [.t 2], none⟩,
 ⟨some 8, .pcall 229, [.t 7], none⟩,
 ⟨some 9, .pure (.un .not), [.t 8], none⟩,
 ⟨some 10, .pure .move, [.t 9], none⟩,
 ⟨some 11, .read (.load (some 3)), [.t 3], some (10, false)⟩,
 ⟨some 12, .pcall 140, [.t 11], some (10, false)⟩,
 ⟨some 13, .pure (.un .not), [.t 12], some (10, false)⟩,
 ⟨some 14, .pure .pick, [.t 10, .c (.bool true), .t 13], none⟩])
 (.cond (.t 14)
 (.seq (.ops [⟨some 4, .pure .move, [.c (.bool false)], none⟩])
 .ret)
 .skip))
 (.seq (.seq (.ops [⟨some 15, .pure (.faddr 0), [.t 2], none⟩,
 ⟨some 16, .read (.load none), [.t 15], none⟩,
 ⟨some 17, .pure .lenL, [.t 16], none⟩,
 ⟨some 18, .pure .move, [.c (.int .i64 0)], none⟩])
 (.block 0
 (.loop [3, 16, 17, 18]
 (.seq (.ops [⟨some 19, .pure (.bin .lss), [.t 18, .t 17], none⟩])
 (.seq (.cond (.t 19)
 .skip
 (.exit 0))
 (.seq (.block 1
 (.seq (.ops [⟨some 20, .pure (.iaddrS 11), [.t 16, .t 18], none⟩,
 ⟨some 21, .read (.load (some 11)), [.t 20], none⟩,
 ⟨some 6, .new (.new 11 [.agg [.bool false, .bool false, .str [], .int .i64 0, .bool false, .bool false, .bool false, .str [], .int .i64 0, .bool false, .int .i64 0]]), [], none⟩,
 ⟨none, .eff (.store 11), [.t 6, .t 21], none⟩])
 (.seq (.ops [⟨some 22, .read (.load (some 11)), [.t 6], none⟩,
 ⟨some 23, .read (.load (some 3)), [.t 3], none⟩,
 ⟨some 24, .pcall 251, [.t 22, .t 23], none⟩])
 (.cond (.t 24)
 (.seq (.ops [⟨some 4, .pure .move, [.c (.bool true)], none⟩])
 .ret)
 .skip))))
 (.ops [⟨some 25, .pure (.bin .add), [.t 18, .c (.int .i64 1)], none⟩,
 ⟨some 18, .pure .move, [.t 25], none⟩])))))))
 (.seq (.ops [⟨some 4, .pure .move, [.c (.bool false)], none⟩])
 .ret)))) }
/-- datakit/numset.validPart -/
def ac250 : AFn :=
 { nt := 21, res := [.tmp 2], body :=
 (.seq (.ops [⟨some 1, .new (.box 11), [.t 0], none⟩,
 ⟨some 2, .pure .move, [.c (.bool false)], none⟩])
 (.seq (.ops [⟨some 3, .pure (.faddr 0), [.t 1], none⟩,
 ⟨some 4, .read (.load (some 5)), [.t 3], none⟩,
 ⟨some 5, .pcall 262, [.t 4], none⟩,
 ⟨some 6, .pure .move, [.t 5], none⟩,
 ⟨some 7, .pure (.faddr 5), [.t 1], some (6, true)⟩,
 ⟨some 8, .read (.load (some 5)), [.t 7], some (6, true)⟩,
 ⟨some 9, .pcall 262, [.t 8], some (6, true)⟩,
 ⟨some 10, .pure .pick, [.t 6, .t 9, .c (.bool false)], none⟩,
 ⟨some 11, .pure .move, [.t 10], none⟩,
 ⟨some 12, .pure (.faddr 10), [.t 1], some (11, true)⟩,
 ⟨some 13, .read (.load none), [.t 12], some (11, true)⟩,
 ⟨some 14, .pure (.bin .geq), [.t 13, .c (.int .i64 0)], some (11, true)⟩,
 ⟨some 15, .pure .pick, [.t 11, .t 14, .c (.bool false)], none⟩,
 ⟨some 16, .pure .move, [.t 15], none⟩,
 ⟨some 17, .pure (.faddr 10), [.t 1], some (16, true)⟩,
 ⟨some 18, .read (.load none), [.t 17], some (16, true)⟩,
 ⟨some 19, .pure (.bin .leq), [.t 18, .c (.int .i64 2)], some (16, true)⟩,
 ⟨some 20, .pure .pick, [.t 16, .t 19, .c (.bool false)], none⟩,
 ⟨some 2, .pure .move, [.t 20], none⟩])
 .ret)) }
/-- datakit/numset.inside -/
def ac251 : AFn :=
 { nt := 56, res := [.tmp 4], body :=
 (.seq (.ops [⟨some 2, .new (.box 11), [.t 0], none⟩,
 ⟨some 3, .new (.box 3), [.t 1], none⟩,
 ⟨some 4, .pure .move, [.c (.bool false)], none⟩])
 (.seq (.seq (.ops [⟨some 7, .pure (.faddr 0), [.t 2], none⟩,
 ⟨some 8, .pure (.faddr 0), [.t 7], none⟩,
 ⟨some 9, .read (.load none), [.t 8], none⟩])
 (.cond (.t 9)
 (.seq (.ops [⟨some 10, .read (.load (some 3)), [.t 3], none⟩,
 ⟨some 11, .pure (.faddr 0), [.t 2], none⟩,
 ⟨some 12, .pure (.faddr 1), [.t 11], none⟩,
 ⟨some 13, .read (.load (some 3)), [.t 12], none⟩,
 ⟨some 14, .pcall 263, [.t 10, .t 13], none⟩,
 ⟨some 5, .pure .move, [.t 14], none⟩])
 (.seq (.ops [⟨some 15, .pure .move, [.t 5], none⟩,
 ⟨some 16, .pure (.bin .lss), [.t 15, .c (.int .i64 0)], none⟩,
 ⟨some 17, .pure .move, [.t 16], none⟩,
 ⟨some 18, .pure .move, [.t 5], some (17, false)⟩,
 ⟨some 19, .pure (.bin .eql), [.t 18, .c (.int .i64 0)], some (17, false)⟩,
 ⟨some 20, .pure .move, [.t 19], some (17, false)⟩,
 ⟨some 21, .pure (.faddr 0), [.t 2], some (20, true)⟩,
 ⟨some 22, .pure (.faddr 4), [.t 21], some (20, true)⟩,
 ⟨some 23, .read (.load none), [.t 22], some (20, true)⟩,
 ⟨some 24, .pure .pick, [.t 20, .t 23, .c (.bool false)], some (17, false)⟩,
 ⟨some 25, .pure .pick, [.t 17, .c (.bool true), .t 24], none⟩])
 (.cond (.t 25)
 (.seq (.ops [⟨some 4, .pure .move, [.c (.bool false)], none⟩])
 .ret)
 .skip)))
 .skip))
 (.seq (.seq (.ops [⟨some 26, .pure (.faddr 5), [.t 2], none⟩,
 ⟨some 27, .pure (.faddr 0), [.t 26], none⟩,
 ⟨some 28, .read (.load none), [.t 27], none⟩])
 (.cond (.t 28)
 (.seq (.ops [⟨some 29, .read (.load (some 3)), [.t 3], none⟩,
 ⟨some 30, .pure (.faddr 5), [.t 2], none⟩,
 ⟨some 31, .pure (.faddr 1), [.t 30], none⟩,
 ⟨some 32, .read (.load (some 3)), [.t 31], none⟩,
 ⟨some 33, .pcall 263, [.t 29, .t 32], none⟩,
 ⟨some 6, .pure .move, [.t 33], none⟩])
 (.seq (.ops [⟨some 34, .pure .move, [.t 6], none⟩,
 ⟨some 35, .pure (.bin .gtr), [.t 34, .c (.int .i64 0)], none⟩,
 ⟨some 36, .pure .move, [.t 35], none⟩,
 ⟨some 37, .pure .move, [.t 6], some (36, false)⟩,
 ⟨some 38, .pure (.bin .eql), [.t 37, .c (.int .i64 0)], some (36, false)⟩,
 ⟨some 39, .pure .move, [.t 38], some (36, false)⟩,
 ⟨some 40, .pure (.faddr 5), [.t 2], some (39, true)⟩,
 ⟨some 41, .pure (.faddr 4), [.t 40], some (39, true)⟩,
 ⟨some 42, .read (.load none), [.t 41], some (39, true)⟩,
 ⟨some 43, .pure .pick, [.t 39, .t 42, .c (.bool false)], some (36, false)⟩,
 ⟨some 44, .pure .pick, [.t 36, .c (.bool true), .t 43], none⟩])
 (.cond (.t 44)
 (.seq (.ops [⟨some 4, .pure .move, [.c (.bool false)], none⟩])
 .ret)
 .skip)))
 .skip))
 (.seq (.ops [⟨some 45, .pure (.faddr 10), [.t 2], none⟩,
 ⟨some 46, .read (.load none), [.t 45], none⟩,
 ⟨some 47, .pure (.bin .eql), [.t 46, .c (.int .i64 0)], none⟩,
 ⟨some 48, .pure .move, [.t 47], none⟩,
 ⟨some 49, .pure (.faddr 10), [.t 2], some (48, false)⟩,
 ⟨some 50, .read (.load none), [.t 49], some (48, false)⟩,
 ⟨some 51, .pure (.bin .eql), [.t 50, .c (.int .i64 1)], some (48, false)⟩,
 ⟨some 52, .read (.load (some 3)), [.t 3], some (48, false)⟩,
 ⟨some 53, .pcall 264, [.t 52], some (48, false)⟩,
 ⟨some 54, .pure (.eqB false), [.t 51, .t 53], some (48, false)⟩,
 ⟨some 55, .pure .pick, [.t 48, .c (.bool true), .t 54], none⟩,
 ⟨some 4, .pure .move, [.t 55], none⟩])
 .ret)))) }
/-- strings.Compare -/
def ac257 : AFn :=
 { nt := 8, res := [.tmp 4], body :=
 (.seq (.ops [⟨some 4, .pure .move, [.c (.int .i64 0)], none⟩])
 (.seq (.ops [⟨some 5, .pure .move, [.t 0], none⟩,
 ⟨some 6, .pure .move, [.t 1], none⟩,
 ⟨some 7, .pcall 272, [.t 5, .t 6], none⟩,
 ⟨some 4, .pure .move, [.t 7], none⟩])
 .ret)) }
/-- datakit/numset.validBound -/
def ac262 : AFn :=
 { nt := 12, res := [.tmp 2], body :=
 (.seq (.ops [⟨some 1, .new (.box 5), [.t 0], none⟩,
 ⟨some 2, .pure .move, [.c (.bool false)], none⟩])
 (.seq (.seq (.ops [⟨some 3, .pure (.faddr 0), [.t 1], none⟩,
 ⟨some 4, .read (.load none), [.t 3], none⟩,
 ⟨some 5, .pure (.un .not), [.t 4], none⟩])
 (.cond (.t 5)
 (.seq (.ops [⟨some 6, .read (.load (some 5)), [.t 1], none⟩,
 ⟨some 7, .pure (.build [.bool false, .bool false, .str [], .int .i64 0, .bool false] []), [], none⟩,
 ⟨some 8, .pure (.eqF [.bool, .bool, .str, .int, .bool] false), [.t 6, .t 7], none⟩,
 ⟨some 2, .pure .move, [.t 8], none⟩])
 .ret)
 .skip))
 (.seq (.ops [⟨some 9, .pure (.faddr 1), [.t 1], none⟩,
 ⟨some 10, .read (.load (some 3)), [.t 9], none⟩,
 ⟨some 11, .pcall 140, [.t 10], none⟩,
 ⟨some 2, .pure .move, [.t 11], none⟩])
 .ret))) }
/-- datakit/decimal.Cmp -/
def ac263 : AFn :=
 { nt := 24, res := [.tmp 4], body :=
 (.seq (.ops [⟨some 2, .new (.box 3), [.t 0], none⟩,
 ⟨some 3, .new (.box 3), [.t 1], none⟩,
 ⟨some 4, .pure .move, [.c (.int .i64 0)], none⟩])
 (.seq (.block 0
 (.seq (.ops [⟨some 6, .pure (.faddr 0), [.t 2], none⟩,
 ⟨some 7, .read (.load none), [.t 6], none⟩,
 ⟨some 8, .pure .move, [.t 7], none⟩,
 ⟨some 9, .pure (.faddr 0), [.t 3], some (8, true)⟩,
 ⟨some 10, .read (.load none), [.t 9], some (8, true)⟩,
 ⟨some 11, .pure .pick, [.t 8, .t 10, .c (.bool false)], none⟩,
 ⟨some 5, .pure .move, [.t 11], none⟩])
 (.cond (.t 5)
 (.seq (.ops [⟨some 12, .read (.load (some 3)), [.t 3], none⟩,
 ⟨some 13, .read (.load (some 3)), [.t 2], none⟩,
 ⟨some 14, .pcall 273, [.t 12, .t 13], none⟩,
 ⟨some 4, .pure .move, [.t 14], none⟩])
 .ret)
 (.seq (.ops [⟨some 16, .pure (.faddr 0), [.t 2], none⟩,
 ⟨some 17, .read (.load none), [.t 16], none⟩,
 ⟨some 15, .pure .move, [.t 17], none⟩])
 (.cond (.t 15)
 (.seq (.ops [⟨some 4, .pure .move, [.c (.int .i64 (-1))], none⟩])
 .ret)
 (.seq (.ops [⟨some 19, .pure (.faddr 0), [.t 3], none⟩,
 ⟨some 20, .read (.load none), [.t 19], none⟩,
 ⟨some 18, .pure .move, [.t 20], none⟩])
 (.cond (.t 18)
 (.seq (.ops [⟨some 4, .pure .move, [.c (.int .i64 1)], none⟩])
 .ret)
 .skip)))))))
 (.seq (.ops [⟨some 21, .read (.load (some 3)), [.t 2], none⟩,
 ⟨some 22, .read (.load (some 3)), [.t 3], none⟩,
 ⟨some 23, .pcall 273, [.t 21, .t 22], none⟩,
 ⟨some 4, .pure .move, [.t 23], none⟩])
 .ret))) }
/-- datakit/decimal.Whole -/
def ac264 : AFn :=
 { nt := 6, res := [.tmp 2], body :=
 (.seq (.ops [⟨some 1, .new (.box 3), [.t 0], none⟩,
 ⟨some 2, .pure .move, [.c (.bool false)], none⟩])
 (.seq (.ops [⟨some 3, .pure (.faddr 2), [.t 1], none⟩,
 ⟨some 4, .read (.load none), [.t 3], none⟩,
 ⟨some 5, .pure (.bin .geq), [.t 4, .c (.int .i64 0)], none⟩,
 ⟨some 2, .pure .move, [.t 5], none⟩])
 .ret)) }
/-- datakit/decimal.size -/
def ac273 : AFn :=
 { nt := 18, res := [.tmp 4], body :=
 (.seq (.ops [⟨some 2, .new (.box 3), [.t 0], none⟩,
 ⟨some 3, .new (.box 3), [.t 1], none⟩,
 ⟨some 4, .pure .move, [.c (.int .i64 0)], none⟩])
 (.seq (.ops [⟨some 9, .read (.load (some 3)), [.t 2], none⟩,
 ⟨some 10, .read (.load (some 3)), [.t 3], none⟩,
 ⟨some 11, .pcall 285, [.t 9, .t 10], none⟩,
 ⟨some 8, .pure .move, [.t 11], none⟩,
 ⟨some 12, .pure (.ext 0), [.t 8], none⟩,
 ⟨some 13, .pure (.ext 1), [.t 8], none⟩,
 ⟨some 14, .pure (.ext 2), [.t 8], none⟩,
 ⟨some 5, .pure .move, [.t 12], none⟩,
 ⟨some 6, .pure .move, [.t 13], none⟩,
 ⟨some 7, .pure .move, [.t 14], none⟩])
 (.seq (.ops [⟨some 15, .pure .move, [.t 5], none⟩,
 ⟨some 16, .pure .move, [.t 6], none⟩,
 ⟨some 17, .pcall 286, [.t 15, .t 16], none⟩,
 ⟨some 4, .pure .move, [.t 17], none⟩])
 .ret))) }
/-- datakit/decimal.align -/
def ac285 : AFn :=
 { nt := 52, res := [.tmp 4, .tmp 5, .tmp 6], body :=
 (.seq (.ops [⟨some 2, .new (.box 3), [.t 0], none⟩,
 ⟨some 3, .new (.box 3), [.t 1], none⟩,
 ⟨some 4, .pure .move, [.c (.str [])], none⟩,
 ⟨some 5, .pure .move, [.c (.str [])], none⟩,
 ⟨some 6, .pure .move, [.c (.int .i64 0)], none⟩])
 (.seq (.seq (.ops [⟨some 8, .read (.load (some 3)), [.t 2], none⟩,
 ⟨some 9, .pcall 140, [.t 8], none⟩,
 ⟨some 10, .pure (.un .not), [.t 9], none⟩,
 ⟨some 11, .pure .move, [.t 10], none⟩,
 ⟨some 12, .read (.load (some 3)), [.t 3], some (11, false)⟩,
 ⟨some 13, .pcall 140, [.t 12], some (11, false)⟩,
 ⟨some 14, .pure (.un .not), [.t 13], some (11, false)⟩,
 ⟨some 15, .pure .pick, [.t 11, .c (.bool true), .t 14], none⟩])
 (.cond (.t 15)
 (.seq (.ops [⟨some 4, .pure .move, [.c (.str [])], none⟩,
 ⟨some 5, .pure .move, [.c (.str [])], none⟩,
 ⟨some 6, .pure .move, [.c (.int .i64 0)], none⟩])
 .ret)
 .skip))
 (.seq (.seq (.ops [⟨some 16, .pure (.faddr 1), [.t 2], none⟩,
 ⟨some 17, .read (.load none), [.t 16], none⟩,
 ⟨some 18, .pure (.bin .eql), [.t 17, .c (.str [])], none⟩])
 (.cond (.t 18)
 (.seq (.ops [⟨some 19, .pure (.faddr 1), [.t 3], none⟩,
 ⟨some 20, .read (.load none), [.t 19], none⟩,
 ⟨some 21, .pure (.faddr 2), [.t 3], none⟩,
 ⟨some 22, .read (.load none), [.t 21], none⟩,
 ⟨some 4, .pure .move, [.c (.str [])], none⟩,
 ⟨some 5, .pure .move, [.t 20], none⟩,
 ⟨some 6, .pure .move, [.t 22], none⟩])
 .ret)
 .skip))
 (.seq (.seq (.ops [⟨some 23, .pure (.faddr 1), [.t 3], none⟩,
 ⟨some 24, .read (.load none), [.t 23], none⟩,
 ⟨some 25, .pure (.bin .eql), [.t 24, .c (.str [])], none⟩])
 (.cond (.t 25)
 (.seq (.ops [⟨some 26, .pure (.faddr 1), [.t 2], none⟩,
 ⟨some 27, .read (.load none), [.t 26], none⟩,
 ⟨some 28, .pure (.faddr 2), [.t 2], none⟩,
 ⟨some 29, .read (.load none), [.t 28], none⟩,
 ⟨some 4, .pure .move, [.t 27], none⟩,
 ⟨some 5, .pure .move, [.c (.str [])], none⟩,
 ⟨some 6, .pure .move, [.t 29], none⟩])
 .ret)
 .skip))
 (.seq (.ops [⟨some 30, .pure (.faddr 2), [.t 2], none⟩,
 ⟨some 31, .read (.load none), [.t 30], none⟩,
 ⟨some 32, .pure (.faddr 2), [.t 3], none⟩,
 ⟨some 33, .read (.load none), [.t 32], none⟩,
 ⟨some 34, .pure (.minmax false), [.t 31, .t 33], none⟩,
 ⟨some 7, .pure .move, [.t 34], none⟩])
 (.seq (.ops [⟨some 35, .pure (.faddr 1), [.t 2], none⟩,
 ⟨some 36, .read (.load none), [.t 35], none⟩,
 ⟨some 37, .pure (.faddr 2), [.t 2], none⟩,
 ⟨some 38, .read (.load none), [.t 37], none⟩,
 ⟨some 39, .pure .move, [.t 7], none⟩,
 ⟨some 40, .pure (.bin .sub), [.t 38, .t 39], none⟩,
 ⟨some 41, .pcall 291, [.c (.str [48]), .t 40], none⟩,
 ⟨some 42, .pure (.bin .add), [.t 36, .t 41], none⟩,
 ⟨some 43, .pure (.faddr 1), [.t 3], none⟩,
 ⟨some 44, .read (.load none), [.t 43], none⟩,
 ⟨some 45, .pure (.faddr 2), [.t 3], none⟩,
 ⟨some 46, .read (.load none), [.t 45], none⟩,
 ⟨some 47, .pure .move, [.t 7], none⟩,
 ⟨some 48, .pure (.bin .sub), [.t 46, .t 47], none⟩,
 ⟨some 49, .pcall 291, [.c (.str [48]), .t 48], none⟩,
 ⟨some 50, .pure (.bin .add), [.t 44, .t 49], none⟩,
 ⟨some 51, .pure .move, [.t 7], none⟩,
 ⟨some 4, .pure .move, [.t 42], none⟩,
 ⟨some 5, .pure .move, [.t 50], none⟩,
 ⟨some 6, .pure .move, [.t 51], none⟩])
 .ret)))))) }
/-- datakit/decimal.cmp -/
def ac286 : AFn :=
 { nt := 18, res := [.tmp 4], body :=
 (.seq (.ops [⟨some 4, .pure .move, [.c (.int .i64 0)], none⟩])
 (.seq (.seq (.ops [⟨some 5, .pure .move, [.t 0], none⟩,
 ⟨some 6, .pure .lenS, [.t 5], none⟩,
 ⟨some 7, .pure .move, [.t 1], none⟩,
 ⟨some 8, .pure .lenS, [.t 7], none⟩,
 ⟨some 9, .pure (.bin .neq), [.t 6, .t 8], none⟩])
 (.cond (.t 9)
 (.seq (.seq (.ops [⟨some 10, .pure .move, [.t 0], none⟩,
 ⟨some 11, .pure .lenS, [.t 10], none⟩,
 ⟨some 12, .pure .move, [.t 1], none⟩,
 ⟨some 13, .pure .lenS, [.t 12], none⟩,
 ⟨some 14, .pure (.bin .lss), [.t 11, .t 13], none⟩])
 (.cond (.t 14)
 (.seq (.ops [⟨some 4, .pure .move, [.c (.int .i64 (-1))], none⟩])
 .ret)
 .skip))
 (.seq (.ops [⟨some 4, .pure .move, [.c (.int .i64 1)], none⟩])
 .ret))
 .skip))
 (.seq (.ops [⟨some 15, .pure .move, [.t 0], none⟩,
 ⟨some 16, .pure .move, [.t 1], none⟩,
 ⟨some 17, .pcall 257, [.t 15, .t 16], none⟩,
 ⟨some 4, .pure .move, [.t 17], none⟩])
 .ret))) }
/-- datakit/datakitref18.Same -/
def ac522 : AFn :=
 { nt := 31, res := [.tmp 4], body :=
 (.seq (.ops [⟨some 2, .new (.box 1), [.t 0], none⟩,
 ⟨some 3, .new (.box 1), [.t 1], none⟩,
 ⟨some 4, .pure .move, [.c (.bool false)], none⟩])
 (.seq (.seq (.ops [⟨some 6, .pure (.faddr 0), [.t 2], none⟩,
 ⟨some 7, .read (.load none), [.t 6], none⟩,
 ⟨some 8, .pure .lenL, [.t 7], none⟩,
 ⟨some 9, .pure (.faddr 0), [.t 3], none⟩,
 ⟨some 10, .read (.load none), [.t 9], none⟩,
 ⟨some 11, .pure .lenL, [.t 10], none⟩,
 ⟨some 12, .pure (.bin .neq), [.t 8, .t 11], none⟩])
 (.cond (.t 12)
 (.seq (.ops [⟨some 4, .pure .move, [.c (.bool false)], none⟩])
 .ret)
 .skip))
 (.seq (.seq (.ops [⟨some 5, .pure .move, [.c (.int .i64 0)], none⟩])
 (.block 0
 (.loop [2, 3, 5]
 (.seq (.seq (.ops [⟨some 13, .pure .move, [.t 5], none⟩,
 ⟨some 14, .pure (.faddr 0), [.t 2], none⟩,
 ⟨some 15, .read (.load none), [.t 14], none⟩,
 ⟨some 16, .pure .lenL, [.t 15], none⟩,
 ⟨some 17, .pure (.bin .lss), [.t 13, .t 16], none⟩])
 (.cond (.t 17)
 .skip
 (.exit 0)))
 (.seq (.block 1
 (.seq (.ops [⟨some 20, .pure (.faddr 0), [.t 2], none⟩,
 ⟨some 21, .read (.load none), [.t 20], none⟩,
 ⟨some 22, .pure .move, [.t 5], none⟩,
 ⟨some 23, .pure (.iaddrS 11), [.t 21, .t 22], none⟩,
 ⟨some 24, .read (.load (some 11)), [.t 23], none⟩,
 ⟨some 25, .pure (.faddr 0), [.t 3], none⟩,
 ⟨some 26, .read (.load none), [.t 25], none⟩,
 ⟨some 27, .pure .move, [.t 5], none⟩,
 ⟨some 28, .pure (.iaddrS 11), [.t 26, .t 27], none⟩,
 ⟨some 29, .read (.load (some 11)), [.t 28], none⟩,
 ⟨some 30, .pure (.eqF [.bool, .bool, .str, .int, .bool, .bool, .bool, .str, .int, .bool, .int] true), [.t 24, .t 29], none⟩])
 (.cond (.t 30)
 (.seq (.ops [⟨some 4, .pure .move, [.c (.bool false)], none⟩])
 .ret)
 .skip)))
 (.ops [⟨some 18, .pure .move, [.t 5], none⟩,
 ⟨some 19, .pure (.bin .add), [.t 18, .c (.int .i64 1)], none⟩,
 ⟨some 5, .pure .move, [.t 19], none⟩]))))))
 (.seq (.ops [⟨some 4, .pure .move, [.c (.bool true)], none⟩])
 .ret)))) }
/-- datakit/datakitref02.FromInt -/
def ac549 : AFn :=
 { nt := 23, res := [.cell 2 (some 3)], body :=
 (.seq (.ops [⟨some 2, .new (.new 3 [.agg [.bool false, .str [], .int .i64 0]]), [], none⟩])
 (.seq (.ops [⟨some 6, .pure .move, [.t 0], none⟩,
 ⟨some 7, .pcall 579, [.t 6], none⟩,
 ⟨some 3, .pure .move, [.t 7], none⟩])
 (.seq (.seq (.ops [⟨some 8, .pure .move, [.t 0], none⟩,
 ⟨some 9, .pure (.bin .lss), [.t 8, .c (.int .i64 0)], none⟩])
 (.cond (.t 9)
 (.ops [⟨some 10, .pure .move, [.t 0], none⟩,
 ⟨some 11, .pure (.bin .add), [.t 10, .c (.int .i64 1)], none⟩,
 ⟨some 12, .pure (.un .neg), [.t 11], none⟩,
 ⟨some 13, .pcall 579, [.t 12], none⟩,
 ⟨some 14, .pcall 580, [.t 13, .c (.str [49])], none⟩,
 ⟨some 3, .pure .move, [.t 14], none⟩])
 .skip))
 (.seq (.ops [⟨some 16, .pure .move, [.t 0], none⟩,
 ⟨some 17, .pure (.bin .lss), [.t 16, .c (.int .i64 0)], none⟩,
 ⟨some 18, .pure .move, [.t 3], none⟩,
 ⟨some 19, .pcall 581, [.t 17, .t 18, .c (.int .i64 0)], none⟩,
 ⟨some 15, .pure .move, [.t 19], none⟩,
 ⟨some 20, .pure (.ext 0), [.t 15], none⟩,
 ⟨some 21, .pure (.ext 1), [.t 15], none⟩,
 ⟨some 4, .new (.new 3 [.agg [.bool false, .str [], .int .i64 0]]), [], none⟩,
 ⟨none, .eff (.store 3), [.t 4, .t 20], none⟩,
 ⟨some 5, .pure .move, [.t 21], none⟩])
 (.seq (.ops [⟨some 22, .read (.load (some 3)), [.t 4], none⟩,
 ⟨none, .eff (.store 3), [.t 2, .t 22], none⟩])
 .ret))))) }
/-- datakit/datakitref01.FromInt -/
def ac579 : AFn :=
 { nt := 17, res := [.tmp 2], body :=
 (.seq (.ops [⟨some 2, .pure .move, [.c (.str [])], none⟩])
 (.seq (.ops [⟨some 3, .pure .move, [.c (.str [])], none⟩])
 (.seq (.block 0
 (.loop [0, 3]
 (.seq (.seq (.ops [⟨some 4, .pure .move, [.t 0], none⟩,
 ⟨some 5, .pure (.bin .gtr), [.t 4, .c (.int .i64 0)], none⟩])
 (.cond (.t 5)
 .skip
 (.exit 0)))
 (.block 1
 (.seq (.ops [⟨some 6, .pure .move, [.t 0], none⟩,
 ⟨some 7, .pure (.bin .rem), [.t 6, .c (.int .i64 10)], none⟩,
 ⟨some 8, .pure (.bin .add), [.c (.int .i64 48), .t 7], none⟩,
 ⟨some 9, .pure (.conv .u8), [.t 8], none⟩,
 ⟨some 10, .new (.buildSlice 1 [.int .u8 0] [0]), [.t 9], none⟩,
 ⟨some 11, .read .bytesStr, [.t 10], none⟩,
 ⟨some 12, .pure .move, [.t 3], none⟩,
 ⟨some 13, .pure (.bin .add), [.t 11, .t 12], none⟩,
 ⟨some 3, .pure .move, [.t 13], none⟩])
 (.ops [⟨some 14, .pure .move, [.t 0], none⟩,
 ⟨some 15, .pure (.bin .quo), [.t 14, .c (.int .i64 10)], none⟩,
 ⟨some 0, .pure .move, [.t 15], none⟩]))))))
 (.seq (.ops [⟨some 16, .pure .move, [.t 3], none⟩,
 ⟨some 2, .pure .move, [.t 16], none⟩])
 .ret)))) }
/-- datakit/datakitref01.Sum -/
def ac580 : AFn :=
 { nt := 44, res := [.tmp 4], body :=
 (.seq (.ops [⟨some 4, .pure .move, [.c (.str [])], none⟩])
 (.seq (.ops [⟨some 10, .pure .move, [.t 0], none⟩,
 ⟨some 11, .pure .lenS, [.t 10], none⟩,
 ⟨some 5, .pure .move, [.t 11], none⟩])
 (.seq (.seq (.ops [⟨some 12, .pure .move, [.t 1], none⟩,
 ⟨some 13, .pure .lenS, [.t 12], none⟩,
 ⟨some 14, .pure .move, [.t 5], none⟩,
 ⟨some 15, .pure (.bin .gtr), [.t 13, .t 14], none⟩])
 (.cond (.t 15)
 (.ops [⟨some 16, .pure .move, [.t 1], none⟩,
 ⟨some 17, .pure .lenS, [.t 16], none⟩,
 ⟨some 5, .pure .move, [.t 17], none⟩])
 .skip))
 (.seq (.ops [⟨some 18, .pure .move, [.t 5], none⟩,
 ⟨some 19, .pure (.bin .add), [.t 18, .c (.int .i64 1)], none⟩,
 ⟨some 20, .new (.mkSlice 1 8 (.int .i64 0)), [.t 19, .t 19], none⟩,
 ⟨some 6, .pure .move, [.t 20], none⟩])
 (.seq (.ops [⟨some 7, .pure .move, [.c (.int .i64 0)], none⟩])
 (.seq (.seq (.ops [⟨some 8, .pure .move, [.c (.int .i64 0)], none⟩])
 (.block 0
 (.loop [0, 1, 5, 6, 7, 8]
 (.seq (.seq (.ops [⟨some 21, .pure .move, [.t 8], none⟩,
 ⟨some 22, .pure .move, [.t 5], none⟩,
 ⟨some 23, .pure (.bin .leq), [.t 21, .t 22], none⟩])
 (.cond (.t 23)
 .skip
 (.exit 0)))
 (.seq (.block 1
 (.seq (.ops [⟨some 26, .pure .move, [.t 0], none⟩,
 ⟨some 27, .pure .move, [.t 8], none⟩,
 ⟨some 28, .pcall 610, [.t 26, .t 27], none⟩,
 ⟨some 29, .pure .move, [.t 1], none⟩,
 ⟨some 30, .pure .move, [.t 8], none⟩,
 ⟨some 31, .pcall 610, [.t 29, .t 30], none⟩,
 ⟨some 32, .pure (.bin .add), [.t 28, .t 31], none⟩,
 ⟨some 33, .pure .move, [.t 7], none⟩,
 ⟨some 34, .pure (.bin .add), [.t 32, .t 33], none⟩,
 ⟨some 9, .pure .move, [.t 34], none⟩])
 (.seq (.ops [⟨some 35, .pure .move, [.t 6], none⟩,
 ⟨some 36, .pure .move, [.t 8], none⟩,
 ⟨some 37, .pure .move, [.t 9], none⟩,
 ⟨some 38, .pure (.bin .rem), [.t 37, .c (.int .i64 10)], none⟩,
 ⟨some 39, .pure (.iaddrS 1), [.t 35, .t 36], none⟩,
 ⟨none, .eff (.store 1), [.t 39, .t 38], none⟩])
 (.ops [⟨some 40, .pure .move, [.t 9], none⟩,
 ⟨some 41, .pure (.bin .quo), [.t 40, .c (.int .i64 10)], none⟩,
 ⟨some 7, .pure .move, [.t 41], none⟩]))))
 (.ops [⟨some 24, .pure .move, [.t 8], none⟩,
 ⟨some 25, .pure (.bin .add), [.t 24, .c (.int .i64 1)], none⟩,
 ⟨some 8, .pure .move, [.t 25], none⟩]))))))
 (.seq (.ops [⟨some 42, .pure .move, [.t 6], none⟩,
 ⟨some 43, .pcall 611, [.t 42], none⟩,
 ⟨some 4, .pure .move, [.t 43], none⟩])
 .ret))))))) }
/-- datakit/datakitref02.normal -/
def ac581 : AFn :=
 { nt := 48, res := [.cell 6 (some 3), .tmp 7], body :=
 (.seq (.ops [⟨some 6, .new (.new 3 [.agg [.bool false, .str [], .int .i64 0]]), [], none⟩,
 ⟨some 7, .pure .move, [.c (.int .i64 0)], none⟩])
 (.seq (.ops [⟨some 9, .pure .move, [.t 1], none⟩,
 ⟨some 10, .pcall 612, [.t 9], none⟩,
 ⟨some 1, .pure .move, [.t 10], none⟩])
 (.seq (.seq (.ops [⟨some 11, .pure .move, [.t 1], none⟩,
 ⟨some 12, .pure (.bin .eql), [.t 11, .c (.str [])], none⟩])
 (.cond (.t 12)
 (.seq (.ops [⟨some 13, .pure (.build [.bool false, .str [], .int .i64 0] []), [], none⟩,
 ⟨none, .eff (.store 3), [.t 6, .t 13], none⟩,
 ⟨some 7, .pure .move, [.c (.int .i64 0)], none⟩])
 .ret)
 .skip))
 (.seq (.ops [⟨some 14, .pure .move, [.t 1], none⟩,
 ⟨some 15, .pcall 90, [.t 14], none⟩,
 ⟨some 8, .pure .move, [.t 15], none⟩])
 (.seq (.ops [⟨some 16, .pure .move, [.t 1], none⟩,
 ⟨some 17, .pure .move, [.t 1], none⟩,
 ⟨some 18, .pure .lenS, [.t 17], none⟩,
 ⟨some 19, .pure .move, [.t 8], none⟩,
 ⟨some 20, .pure (.bin .sub), [.t 18, .t 19], none⟩,
 ⟨some 21, .pure (.sliceS false true), [.t 16, .t 20], none⟩,
 ⟨some 1, .pure .move, [.t 21], none⟩])
 (.seq (.seq (.ops [⟨some 22, .pure .move, [.t 1], none⟩,
 ⟨some 23, .pure .lenS, [.t 22], none⟩,
 ⟨some 24, .pure (.bin .gtr), [.t 23, .c (.int .i64 120)], none⟩,
 ⟨some 25, .pure .move, [.t 24], none⟩,
 ⟨some 26, .pure .move, [.t 2], some (25, false)⟩,
 ⟨some 27, .pure (.bin .gtr), [.t 26, .c (.int .i64 400)], some (25, false)⟩,
 ⟨some 28, .pure .pick, [.t 25, .c (.bool true), .t 27], none⟩,
 ⟨some 29, .pure .move, [.t 28], none⟩,
 ⟨some 30, .pure .move, [.t 2], some (29, false)⟩,
 ⟨some 31, .pure .move, [.t 8], some (29, false)⟩,
 ⟨some 32, .pure (.bin .add), [.t 30, .t 31], some (29, false)⟩,
 ⟨some 33, .pure (.bin .gtr), [.t 32, .c (.int .i64 400)], some (29, false)⟩,
 ⟨some 34, .pure .pick, [.t 29, .c (.bool true), .t 33], none⟩,
 ⟨some 35, .pure .move, [.t 34], none⟩,
 ⟨some 36, .pure .move, [.t 2], some (35, false)⟩,
 ⟨some 37, .pure .move, [.t 8], some (35, false)⟩,
 ⟨some 38, .pure (.bin .add), [.t 36, .t 37], some (35, false)⟩,
 ⟨some 39, .pure (.bin .lss), [.t 38, .c (.int .i64 (-400))], some (35, false)⟩,
 ⟨some 40, .pure .pick, [.t 35, .c (.bool true), .t 39], none⟩])
 (.cond (.t 40)
 (.seq (.ops [⟨some 41, .pure (.build [.bool false, .str [], .int .i64 0] []), [], none⟩,
 ⟨none, .eff (.store 3), [.t 6, .t 41], none⟩,
 ⟨some 7, .pure .move, [.c (.int .i64 2)], none⟩])
 .ret)
 .skip))
 (.seq (.ops [⟨some 42, .pure .move, [.t 0], none⟩,
 ⟨some 43, .pure .move, [.t 1], none⟩,
 ⟨some 44, .pure .move, [.t 2], none⟩,
 ⟨some 45, .pure .move, [.t 8], none⟩,
 ⟨some 46, .pure (.bin .add), [.t 44, .t 45], none⟩,
 ⟨some 47, .pure (.build [.bool false, .str [], .int .i64 0] [(0, 1), (1, 1), (2, 1)]), [.t 42, .t 43, .t 46], none⟩,
 ⟨none, .eff (.store 3), [.t 6, .t 47], none⟩,
 ⟨some 7, .pure .move, [.c (.int .i64 0)], none⟩])
 .ret))))))) }
/-- datakit/datakitref18.Has -/
def ac585 : AFn :=
 { nt := 28, res := [.tmp 4], body :=
 (.seq (.ops [⟨some 2, .new (.box 1), [.t 0], none⟩,
 ⟨some 3, .new (.box 3), [.t 1], none⟩,
 ⟨some 4, .pure .move, [.c (.bool false)], none⟩])
 (.seq (.seq (.ops [⟨some 6, .read (.load (some 1)), [.t 2], none⟩,
 ⟨some 7, .pcall 600, [.t 6], none⟩,
 ⟨some 8, .pure (.un .not), [.t 7], none⟩,
 ⟨some 9, .pure .move, [.t 8], none⟩,
 ⟨some 10, .read (.load (some 3)), [.t 3], some (9, false)⟩,
 ⟨some 11, .pcall 79, [.t 10], some (9, false)⟩,
 ⟨some 12, .pure (.un .not), [.t 11], some (9, false)⟩,
 ⟨some 13, .pure .pick, [.t 9, .c (.bool true), .t 12], none⟩])
 (.cond (.t 13)
 (.seq (.ops [⟨some 4, .pure .move, [.c (.bool false)], none⟩])
 .ret)
 .skip))
 (.seq (.seq (.ops [⟨some 5, .pure .move, [.c (.int .i64 0)], none⟩])
 (.block 0
 (.loop [2, 3, 5]
 (.seq (.seq (.ops [⟨some 14, .pure .move, [.t 5], none⟩,
 ⟨some 15, .pure (.faddr 0), [.t 2], none⟩,
 ⟨some 16, .read (.load none), [.t 15], none⟩,
 ⟨some 17, .pure .lenL, [.t 16], none⟩,
 ⟨some 18, .pure (.bin .lss), [.t 14, .t 17], none⟩])
 (.cond (.t 18)
 .skip
 (.exit 0)))
 (.seq (.block 1
 (.seq (.ops [⟨some 21, .pure (.faddr 0), [.t 2], none⟩,
 ⟨some 22, .read (.load none), [.t 21], none⟩,
 ⟨some 23, .pure .move, [.t 5], none⟩,
 ⟨some 24, .pure (.iaddrS 11), [.t 22, .t 23], none⟩,
 ⟨some 25, .read (.load (some 11)), [.t 24], none⟩,
 ⟨some 26, .read (.load (some 3)), [.t 3], none⟩,
 ⟨some 27, .pcall 618, [.t 25, .t 26], none⟩])
 (.cond (.t 27)
 (.seq (.ops [⟨some 4, .pure .move, [.c (.bool true)], none⟩])
 .ret)
 .skip)))
 (.ops [⟨some 19, .pure .move, [.t 5], none⟩,
 ⟨some 20, .pure (.bin .add), [.t 19, .c (.int .i64 1)], none⟩,
 ⟨some 5, .pure .move, [.t 20], none⟩]))))))
 (.seq (.ops [⟨some 4, .pure .move, [.c (.bool false)], none⟩])
 .ret)))) }
/-- datakit/datakitref18.Valid -/
def ac600 : AFn :=
 { nt := 22, res := [.tmp 2], body :=
 (.seq (.ops [⟨some 1, .new (.box 1), [.t 0], none⟩,
 ⟨some 2, .pure .move, [.c (.bool false)], none⟩])
 (.seq (.seq (.ops [⟨some 3, .pure .move, [.c (.int .i64 0)], none⟩])
 (.block 0
 (.loop [1, 3]
 (.seq (.seq (.ops [⟨some 4, .pure .move, [.t 3], none⟩,
 ⟨some 5, .pure (.faddr 0), [.t 1], none⟩,
 ⟨some 6, .read (.load none), [.t 5], none⟩,
 ⟨some 7, .pure .lenL, [.t 6], none⟩,
 ⟨some 8, .pure (.bin .lss), [.t 4, .t 7], none⟩])
 (.cond (.t 8)
 .skip
 (.exit 0)))
 (.seq (.block 1
 (.seq (.ops [⟨some 11, .pure (.faddr 0), [.t 1], none⟩,
 ⟨some 12, .read (.load none), [.t 11], none⟩,
 ⟨some 13, .pure .move, [.t 3], none⟩,
 ⟨some 14, .pure (.iaddrS 11), [.t 12, .t 13], none⟩,
 ⟨some 15, .read (.load (some 11)), [.t 14], none⟩,
 ⟨some 16, .pcall 625, [.t 15], none⟩,
 ⟨some 17, .pure (.un .not), [.t 16], none⟩])
 (.cond (.t 17)
 (.seq (.ops [⟨some 2, .pure .move, [.c (.bool false)], none⟩])
 .ret)
 .skip)))
 (.ops [⟨some 9, .pure .move, [.t 3], none⟩,
 ⟨some 10, .pure (.bin .add), [.t 9, .c (.int .i64 1)], none⟩,
 ⟨some 3, .pure .move, [.t 10], none⟩]))))))
 (.seq (.ops [⟨some 18, .pure (.faddr 0), [.t 1], none⟩,
 ⟨some 19, .read (.load none), [.t 18], none⟩,
 ⟨some 20, .pure .lenL, [.t 19], none⟩,
 ⟨some 21, .pure (.bin .leq), [.t 20, .c (.int .i64 256)], none⟩,
 ⟨some 2, .pure .move, [.t 21], none⟩])
 .ret))) }
/-- datakit/datakitref01.at -/
def ac610 : AFn :=
 { nt := 18, res := [.tmp 4], body :=
 (.seq (.ops [⟨some 4, .pure .move, [.c (.int .i64 0)], none⟩])
 (.seq (.seq (.ops [⟨some 5, .pure .move, [.t 1], none⟩,
 ⟨some 6, .pure .move, [.t 0], none⟩,
 ⟨some 7, .pure .lenS, [.t 6], none⟩,
 ⟨some 8, .pure (.bin .geq), [.t 5, .t 7], none⟩])
 (.cond (.t 8)
 (.seq (.ops [⟨some 4, .pure .move, [.c (.int .i64 0)], none⟩])
 .ret)
 .skip))
 (.seq (.ops [⟨some 9, .pure .move, [.t 0], none⟩,
 ⟨some 10, .pure .move, [.t 0], none⟩,
 ⟨some 11, .pure .lenS, [.t 10], none⟩,
 ⟨some 12, .pure (.bin .sub), [.t 11, .c (.int .i64 1)], none⟩,
 ⟨some 13, .pure .move, [.t 1], none⟩,
 ⟨some 14, .pure (.bin .sub), [.t 12, .t 13], none⟩,
 ⟨some 15, .pure .idxStr, [.t 9, .t 14], none⟩,
 ⟨some 16, .pure (.conv .i64), [.t 15], none⟩,
 ⟨some 17, .pure (.bin .sub), [.t 16, .c (.int .i64 48)], none⟩,
 ⟨some 4, .pure .move, [.t 17], none⟩])
 .ret))) }
/-- datakit/datakitref01.text -/
def ac611 : AFn :=
 { nt := 30, res := [.tmp 2], body :=
 (.seq (.ops [⟨some 2, .pure .move, [.c (.str [])], none⟩])
 (.seq (.ops [⟨some 5, .pure .move, [.t 0], none⟩,
 ⟨some 6, .pure .lenL, [.t 5], none⟩,
 ⟨some 7, .new (.mkSlice 1 1 (.int .u8 0)), [.t 6, .t 6], none⟩,
 ⟨some 3, .pure .move, [.t 7], none⟩])
 (.seq (.seq (.ops [⟨some 4, .pure .move, [.c (.int .i64 0)], none⟩])
 (.block 0
 (.loop [0, 3, 4]
 (.seq (.seq (.ops [⟨some 8, .pure .move, [.t 4], none⟩,
 ⟨some 9, .pure .move, [.t 0], none⟩,
 ⟨some 10, .pure .lenL, [.t 9], none⟩,
 ⟨some 11, .pure (.bin .lss), [.t 8, .t 10], none⟩])
 (.cond (.t 11)
 .skip
 (.exit 0)))
 (.seq (.block 1
 (.ops [⟨some 14, .pure .move, [.t 3], none⟩,
 ⟨some 15, .pure .move, [.t 0], none⟩,
 ⟨some 16, .pure .lenL, [.t 15], none⟩,
 ⟨some 17, .pure (.bin .sub), [.t 16, .c (.int .i64 1)], none⟩,
 ⟨some 18, .pure .move, [.t 4], none⟩,
 ⟨some 19, .pure (.bin .sub), [.t 17, .t 18], none⟩,
 ⟨some 20, .pure .move, [.t 0], none⟩,
 ⟨some 21, .pure .move, [.t 4], none⟩,
 ⟨some 22, .pure (.iaddrS 1), [.t 20, .t 21], none⟩,
 ⟨some 23, .read (.load none), [.t 22], none⟩,
 ⟨some 24, .pure (.bin .add), [.c (.int .i64 48), .t 23], none⟩,
 ⟨some 25, .pure (.conv .u8), [.t 24], none⟩,
 ⟨some 26, .pure (.iaddrS 1), [.t 14, .t 19], none⟩,
 ⟨none, .eff (.store 1), [.t 26, .t 25], none⟩]))
 (.ops [⟨some 12, .pure .move, [.t 4], none⟩,
 ⟨some 13, .pure (.bin .add), [.t 12, .c (.int .i64 1)], none⟩,
 ⟨some 4, .pure .move, [.t 13], none⟩]))))))
 (.seq (.ops [⟨some 27, .pure .move, [.t 3], none⟩,
 ⟨some 28, .read .bytesStr, [.t 27], none⟩,
 ⟨some 29, .pcall 612, [.t 28], none⟩,
 ⟨some 2, .pure .move, [.t 29], none⟩])
 .ret)))) }
/-- datakit/datakitref01.Strip -/
def ac612 : AFn :=
 { nt := 19, res := [.tmp 2], body :=
 (.seq (.ops [⟨some 2, .pure .move, [.c (.str [])], none⟩])
 (.seq (.ops [⟨some 3, .pure .move, [.c (.int .i64 0)], none⟩])
 (.seq (.block 0
 (.loop [0, 3]
 (.seq (.seq (.ops [⟨some 4, .pure .move, [.t 3], none⟩,
 ⟨some 5, .pure .move, [.t 0], none⟩,
 ⟨some 6, .pure .lenS, [.t 5], none⟩,
 ⟨some 7, .pure (.bin .lss), [.t 4, .t 6], none⟩,
 ⟨some 8, .pure .move, [.t 7], none⟩,
 ⟨some 9, .pure .move, [.t 0], some (8, true)⟩,
 ⟨some 10, .pure .move, [.t 3], some (8, true)⟩,
 ⟨some 11, .pure .idxStr, [.t 9, .t 10], some (8, true)⟩,
 ⟨some 12, .pure (.bin .eql), [.t 11, .c (.int .u8 48)], some (8, true)⟩,
 ⟨some 13, .pure .pick, [.t 8, .t 12, .c (.bool false)], none⟩])
 (.cond (.t 13)
 .skip
 (.exit 0)))
 (.block 1
 (.ops [⟨some 14, .pure .move, [.t 3], none⟩,
 ⟨some 15, .pure (.bin .add), [.t 14, .c (.int .i64 1)], none⟩,
 ⟨some 3, .pure .move, [.t 15], none⟩])))))
 (.seq (.ops [⟨some 16, .pure .move, [.t 0], none⟩,
 ⟨some 17, .pure .move, [.t 3], none⟩,
 ⟨some 18, .pure (.sliceS true false), [.t 16, .t 17], none⟩,
 ⟨some 2, .pure .move, [.t 18], none⟩])
 .ret)))) }
/-- datakit/datakitref18.In -/
def ac618 : AFn :=
 { nt := 56, res := [.tmp 4], body :=
 (.seq (.ops [⟨some 2, .new (.box 11), [.t 0], none⟩,
 ⟨some 3, .new (.box 3), [.t 1], none⟩,
 ⟨some 4, .pure .move, [.c (.bool false)], none⟩])
 (.seq (.seq (.ops [⟨some 7, .pure (.faddr 0), [.t 2], none⟩,
 ⟨some 8, .pure (.faddr 0), [.t 7], none⟩,
 ⟨some 9, .read (.load none), [.t 8], none⟩])
 (.cond (.t 9)
 (.seq (.ops [⟨some 10, .read (.load (some 3)), [.t 3], none⟩,
 ⟨some 11, .pure (.faddr 0), [.t 2], none⟩,
 ⟨some 12, .pure (.faddr 1), [.t 11], none⟩,
 ⟨some 13, .read (.load (some 3)), [.t 12], none⟩,
 ⟨some 14, .pcall 634, [.t 10, .t 13], none⟩,
 ⟨some 5, .pure .move, [.t 14], none⟩])
 (.seq (.ops [⟨some 15, .pure .move, [.t 5], none⟩,
 ⟨some 16, .pure (.bin .lss), [.t 15, .c (.int .i64 0)], none⟩,
 ⟨some 17, .pure .move, [.t 16], none⟩,
 ⟨some 18, .pure .move, [.t 5], some (17, false)⟩,
 ⟨some 19, .pure (.bin .eql), [.t 18, .c (.int .i64 0)], some (17, false)⟩,
 ⟨some 20, .pure .move, [.t 19], some (17, false)⟩,
 ⟨some 21, .pure (.faddr 0), [.t 2], some (20, true)⟩,
 ⟨some 22, .pure (.faddr 4), [.t 21], some (20, true)⟩,
 ⟨some 23, .read (.load none), [.t 22], some (20, true)⟩,
 ⟨some 24, .pure .pick, [.t 20, .t 23, .c (.bool false)], some (17, false)⟩,
 ⟨some 25, .pure .pick, [.t 17, .c (.bool true), .t 24], none⟩])
 (.cond (.t 25)
 (.seq (.ops [⟨some 4, .pure .move, [.c (.bool false)], none⟩])
 .ret)
 .skip)))
 .skip))
 (.seq (.seq (.ops [⟨some 26, .pure (.faddr 5), [.t 2], none⟩,
 ⟨some 27, .pure (.faddr 0), [.t 26], none⟩,
 ⟨some 28, .read (.load none), [.t 27], none⟩])
 (.cond (.t 28)
 (.seq (.ops [⟨some 29, .read (.load (some 3)), [.t 3], none⟩,
 ⟨some 30, .pure (.faddr 5), [.t 2], none⟩,
 ⟨some 31, .pure (.faddr 1), [.t 30], none⟩,
 ⟨some 32, .read (.load (some 3)), [.t 31], none⟩,
 ⟨some 33, .pcall 634, [.t 29, .t 32], none⟩,
 ⟨some 6, .pure .move, [.t 33], none⟩])
 (.seq (.ops [⟨some 34, .pure .move, [.t 6], none⟩,
 ⟨some 35, .pure (.bin .gtr), [.t 34, .c (.int .i64 0)], none⟩,
 ⟨some 36, .pure .move, [.t 35], none⟩,
 ⟨some 37, .pure .move, [.t 6], some (36, false)⟩,
 ⟨some 38, .pure (.bin .eql), [.t 37, .c (.int .i64 0)], some (36, false)⟩,
 ⟨some 39, .pure .move, [.t 38], some (36, false)⟩,
 ⟨some 40, .pure (.faddr 5), [.t 2], some (39, true)⟩,
 ⟨some 41, .pure (.faddr 4), [.t 40], some (39, true)⟩,
 ⟨some 42, .read (.load none), [.t 41], some (39, true)⟩,
 ⟨some 43, .pure .pick, [.t 39, .t 42, .c (.bool false)], some (36, false)⟩,
 ⟨some 44, .pure .pick, [.t 36, .c (.bool true), .t 43], none⟩])
 (.cond (.t 44)
 (.seq (.ops [⟨some 4, .pure .move, [.c (.bool false)], none⟩])
 .ret)
 .skip)))
 .skip))
 (.seq (.ops [⟨some 45, .pure (.faddr 10), [.t 2], none⟩,
 ⟨some 46, .read (.load none), [.t 45], none⟩,
 ⟨some 47, .pure (.bin .eql), [.t 46, .c (.int .i64 0)], none⟩,
 ⟨some 48, .pure .move, [.t 47], none⟩,
 ⟨some 49, .read (.load (some 3)), [.t 3], some (48, false)⟩,
 ⟨some 50, .pcall 635, [.t 49], some (48, false)⟩,
 ⟨some 51, .pure (.faddr 10), [.t 2], some (48, false)⟩,
 ⟨some 52, .read (.load none), [.t 51], some (48, false)⟩,
 ⟨some 53, .pure (.bin .eql), [.t 52, .c (.int .i64 1)], some (48, false)⟩,
 ⟨some 54, .pure (.eqB false), [.t 50, .t 53], some (48, false)⟩,
 ⟨some 55, .pure .pick, [.t 48, .c (.bool true), .t 54], none⟩,
 ⟨some 4, .pure .move, [.t 55], none⟩])
 .ret)))) }
/-- datakit/datakitref18.Part -/
def ac625 : AFn :=
 { nt := 21, res := [.tmp 2], body :=
 (.seq (.ops [⟨some 1, .new (.box 11), [.t 0], none⟩,
 ⟨some 2, .pure .move, [.c (.bool false)], none⟩])
 (.seq (.ops [⟨some 3, .pure (.faddr 0), [.t 1], none⟩,
 ⟨some 4, .read (.load (some 5)), [.t 3], none⟩,
 ⟨some 5, .pcall 638, [.t 4], none⟩,
 ⟨some 6, .pure .move, [.t 5], none⟩,
 ⟨some 7, .pure (.faddr 5), [.t 1], some (6, true)⟩,
 ⟨some 8, .read (.load (some 5)), [.t 7], some (6, true)⟩,
 ⟨some 9, .pcall 638, [.t 8], some (6, true)⟩,
 ⟨some 10, .pure .pick, [.t 6, .t 9, .c (.bool false)], none⟩,
 ⟨some 11, .pure .move, [.t 10], none⟩,
 ⟨some 12, .pure (.faddr 10), [.t 1], some (11, true)⟩,
 ⟨some 13, .read (.load none), [.t 12], some (11, true)⟩,
 ⟨some 14, .pure (.bin .geq), [.t 13, .c (.int .i64 0)], some (11, true)⟩,
 ⟨some 15, .pure .pick, [.t 11, .t 14, .c (.bool false)], none⟩,
 ⟨some 16, .pure .move, [.t 15], none⟩,
 ⟨some 17, .pure (.faddr 10), [.t 1], some (16, true)⟩,
 ⟨some 18, .read (.load none), [.t 17], some (16, true)⟩,
 ⟨some 19, .pure (.bin .leq), [.t 18, .c (.int .i64 2)], some (16, true)⟩,
 ⟨some 20, .pure .pick, [.t 16, .t 19, .c (.bool false)], none⟩,
 ⟨some 2, .pure .move, [.t 20], none⟩])
 .ret)) }
/-- datakit/datakitref02.Cmp -/
def ac634 : AFn :=
 { nt := 27, res := [.tmp 4], body :=
 (.seq (.ops [⟨some 2, .new (.box 3), [.t 0], none⟩,
 ⟨some 3, .new (.box 3), [.t 1], none⟩,
 ⟨some 4, .pure .move, [.c (.int .i64 0)], none⟩])
 (.seq (.seq (.ops [⟨some 5, .pure (.faddr 0), [.t 2], none⟩,
 ⟨some 6, .read (.load none), [.t 5], none⟩,
 ⟨some 7, .pure .move, [.t 6], none⟩,
 ⟨some 8, .pure (.faddr 0), [.t 3], some (7, true)⟩,
 ⟨some 9, .read (.load none), [.t 8], some (7, true)⟩,
 ⟨some 10, .pure (.un .not), [.t 9], some (7, true)⟩,
 ⟨some 11, .pure .pick, [.t 7, .t 10, .c (.bool false)], none⟩])
 (.cond (.t 11)
 (.seq (.ops [⟨some 4, .pure .move, [.c (.int .i64 (-1))], none⟩])
 .ret)
 .skip))
 (.seq (.seq (.ops [⟨some 12, .pure (.faddr 0), [.t 3], none⟩,
 ⟨some 13, .read (.load none), [.t 12], none⟩,
 ⟨some 14, .pure .move, [.t 13], none⟩,
 ⟨some 15, .pure (.faddr 0), [.t 2], some (14, true)⟩,
 ⟨some 16, .read (.load none), [.t 15], some (14, true)⟩,
 ⟨some 17, .pure (.un .not), [.t 16], some (14, true)⟩,
 ⟨some 18, .pure .pick, [.t 14, .t 17, .c (.bool false)], none⟩])
 (.cond (.t 18)
 (.seq (.ops [⟨some 4, .pure .move, [.c (.int .i64 1)], none⟩])
 .ret)
 .skip))
 (.seq (.seq (.ops [⟨some 19, .pure (.faddr 0), [.t 2], none⟩,
 ⟨some 20, .read (.load none), [.t 19], none⟩])
 (.cond (.t 20)
 (.seq (.ops [⟨some 21, .read (.load (some 3)), [.t 3], none⟩,
 ⟨some 22, .read (.load (some 3)), [.t 2], none⟩,
 ⟨some 23, .pcall 643, [.t 21, .t 22], none⟩,
 ⟨some 4, .pure .move, [.t 23], none⟩])
 .ret)
 .skip))
 (.seq (.ops [⟨some 24, .read (.load (some 3)), [.t 2], none⟩,
 ⟨some 25, .read (.load (some 3)), [.t 3], none⟩,
 ⟨some 26, .pcall 643, [.t 24, .t 25], none⟩,
 ⟨some 4, .pure .move, [.t 26], none⟩])
 .ret))))) }
/-- datakit/datakitref02.Whole -/
def ac635 : AFn :=
 { nt := 6, res := [.tmp 2], body :=
 (.seq (.ops [⟨some 1, .new (.box 3), [.t 0], none⟩,
 ⟨some 2, .pure .move, [.c (.bool false)], none⟩])
 (.seq (.ops [⟨some 3, .pure (.faddr 2), [.t 1], none⟩,
 ⟨some 4, .read (.load none), [.t 3], none⟩,
 ⟨some 5, .pure (.bin .geq), [.t 4, .c (.int .i64 0)], none⟩,
 ⟨some 2, .pure .move, [.t 5], none⟩])
 .ret)) }
/-- datakit/datakitref18.bound -/
def ac638 : AFn :=
 { nt := 12, res := [.tmp 2], body :=
 (.seq (.ops [⟨some 1, .new (.box 5), [.t 0], none⟩,
 ⟨some 2, .pure .move, [.c (.bool false)], none⟩])
 (.seq (.seq (.ops [⟨some 3, .pure (.faddr 0), [.t 1], none⟩,
 ⟨some 4, .read (.load none), [.t 3], none⟩,
 ⟨some 5, .pure (.un .not), [.t 4], none⟩])
 (.cond (.t 5)
 (.seq (.ops [⟨some 6, .read (.load (some 5)), [.t 1], none⟩,
 ⟨some 7, .pure (.build [.bool false, .bool false, .str [], .int .i64 0, .bool false] []), [], none⟩,
 ⟨some 8, .pure (.eqF [.bool, .bool, .str, .int, .bool] false), [.t 6, .t 7], none⟩,
 ⟨some 2, .pure .move, [.t 8], none⟩])
 .ret)
 .skip))
 (.seq (.ops [⟨some 9, .pure (.faddr 1), [.t 1], none⟩,
 ⟨some 10, .read (.load (some 3)), [.t 9], none⟩,
 ⟨some 11, .pcall 79, [.t 10], none⟩,
 ⟨some 2, .pure .move, [.t 11], none⟩])
 .ret))) }
/-- datakit/datakitref02.size -/
def ac643 : AFn :=
 { nt := 69, res := [.tmp 4], body :=
 (.seq (.ops [⟨some 2, .new (.box 3), [.t 0], none⟩,
 ⟨some 3, .new (.box 3), [.t 1], none⟩,
 ⟨some 4, .pure .move, [.c (.int .i64 0)], none⟩])
 (.seq (.seq (.ops [⟨some 8, .pure (.faddr 1), [.t 2], none⟩,
 ⟨some 9, .read (.load none), [.t 8], none⟩,
 ⟨some 10, .pure (.bin .eql), [.t 9, .c (.str [])], none⟩,
 ⟨some 11, .pure .move, [.t 10], none⟩,
 ⟨some 12, .pure (.faddr 1), [.t 3], some (11, false)⟩,
 ⟨some 13, .read (.load none), [.t 12], some (11, false)⟩,
 ⟨some 14, .pure (.bin .eql), [.t 13, .c (.str [])], some (11, false)⟩,
 ⟨some 15, .pure .pick, [.t 11, .c (.bool true), .t 14], none⟩])
 (.cond (.t 15)
 (.seq (.ops [⟨some 16, .pure (.faddr 1), [.t 2], none⟩,
 ⟨some 17, .read (.load none), [.t 16], none⟩,
 ⟨some 18, .pure (.faddr 1), [.t 3], none⟩,
 ⟨some 19, .read (.load none), [.t 18], none⟩,
 ⟨some 20, .pcall 647, [.t 17, .t 19], none⟩,
 ⟨some 4, .pure .move, [.t 20], none⟩])
 .ret)
 .skip))
 (.seq (.ops [⟨some 21, .pure (.faddr 1), [.t 2], none⟩,
 ⟨some 22, .read (.load none), [.t 21], none⟩,
 ⟨some 23, .pure .lenS, [.t 22], none⟩,
 ⟨some 24, .pure (.faddr 2), [.t 2], none⟩,
 ⟨some 25, .read (.load none), [.t 24], none⟩,
 ⟨some 26, .pure (.bin .add), [.t 23, .t 25], none⟩,
 ⟨some 27, .pure (.faddr 1), [.t 3], none⟩,
 ⟨some 28, .read (.load none), [.t 27], none⟩,
 ⟨some 29, .pure .lenS, [.t 28], none⟩,
 ⟨some 30, .pure (.faddr 2), [.t 3], none⟩,
 ⟨some 31, .read (.load none), [.t 30], none⟩,
 ⟨some 32, .pure (.bin .add), [.t 29, .t 31], none⟩,
 ⟨some 5, .pure .move, [.t 26], none⟩,
 ⟨some 6, .pure .move, [.t 32], none⟩])
 (.seq (.seq (.ops [⟨some 33, .pure .move, [.t 5], none⟩,
 ⟨some 34, .pure .move, [.t 6], none⟩,
 ⟨some 35, .pure (.bin .lss), [.t 33, .t 34], none⟩])
 (.cond (.t 35)
 (.seq (.ops [⟨some 4, .pure .move, [.c (.int .i64 (-1))], none⟩])
 .ret)
 .skip))
 (.seq (.seq (.ops [⟨some 36, .pure .move, [.t 5], none⟩,
 ⟨some 37, .pure .move, [.t 6], none⟩,
 ⟨some 38, .pure (.bin .gtr), [.t 36, .t 37], none⟩])
 (.cond (.t 38)
 (.seq (.ops [⟨some 4, .pure .move, [.c (.int .i64 1)], none⟩])
 .ret)
 .skip))
 (.seq (.ops [⟨some 39, .pure (.faddr 1), [.t 2], none⟩,
 ⟨some 40, .read (.load none), [.t 39], none⟩,
 ⟨some 41, .pure .lenS, [.t 40], none⟩,
 ⟨some 7, .pure .move, [.t 41], none⟩])
 (.seq (.seq (.ops [⟨some 42, .pure (.faddr 1), [.t 3], none⟩,
 ⟨some 43, .read (.load none), [.t 42], none⟩,
 ⟨some 44, .pure .lenS, [.t 43], none⟩,
 ⟨some 45, .pure .move, [.t 7], none⟩,
 ⟨some 46, .pure (.bin .gtr), [.t 44, .t 45], none⟩])
 (.cond (.t 46)
 (.ops [⟨some 47, .pure (.faddr 1), [.t 3], none⟩,
 ⟨some 48, .read (.load none), [.t 47], none⟩,
 ⟨some 49, .pure .lenS, [.t 48], none⟩,
 ⟨some 7, .pure .move, [.t 49], none⟩])
 .skip))
 (.seq (.ops [⟨some 50, .pure (.faddr 1), [.t 2], none⟩,
 ⟨some 51, .read (.load none), [.t 50], none⟩,
 ⟨some 52, .pure .move, [.t 7], none⟩,
 ⟨some 53, .pure (.faddr 1), [.t 2], none⟩,
 ⟨some 54, .read (.load none), [.t 53], none⟩,
 ⟨some 55, .pure .lenS, [.t 54], none⟩,
 ⟨some 56, .pure (.bin .sub), [.t 52, .t 55], none⟩,
 ⟨some 57, .pcall 40, [.t 56], none⟩,
 ⟨some 58, .pure (.bin .add), [.t 51, .t 57], none⟩,
 ⟨some 59, .pure (.faddr 1), [.t 3], none⟩,
 ⟨some 60, .read (.load none), [.t 59], none⟩,
 ⟨some 61, .pure .move, [.t 7], none⟩,
 ⟨some 62, .pure (.faddr 1), [.t 3], none⟩,
 ⟨some 63, .read (.load none), [.t 62], none⟩,
 ⟨some 64, .pure .lenS, [.t 63], none⟩,
 ⟨some 65, .pure (.bin .sub), [.t 61, .t 64], none⟩,
 ⟨some 66, .pcall 40, [.t 65], none⟩,
 ⟨some 67, .pure (.bin .add), [.t 60, .t 66], none⟩,
 ⟨some 68, .pcall 647, [.t 58, .t 67], none⟩,
 ⟨some 4, .pure .move, [.t 68], none⟩])
 .ret)))))))) }
/-- datakit/datakitref01.Cmp -/
def ac647 : AFn :=
 { nt := 25, res := [.tmp 4], body :=
 (.seq (.ops [⟨some 4, .pure .move, [.c (.int .i64 0)], none⟩])
 (.seq (.seq (.ops [⟨some 5, .pure .move, [.t 0], none⟩,
 ⟨some 6, .pure .lenS, [.t 5], none⟩,
 ⟨some 7, .pure .move, [.t 1], none⟩,
 ⟨some 8, .pure .lenS, [.t 7], none⟩,
 ⟨some 9, .pure (.bin .lss), [.t 6, .t 8], none⟩,
 ⟨some 10, .pure .move, [.t 9], none⟩,
 ⟨some 11, .pure .move, [.t 0], some (10, false)⟩,
 ⟨some 12, .pure .lenS, [.t 11], some (10, false)⟩,
 ⟨some 13, .pure .move, [.t 1], some (10, false)⟩,
 ⟨some 14, .pure .lenS, [.t 13], some (10, false)⟩,
 ⟨some 15, .pure (.bin .eql), [.t 12, .t 14], some (10, false)⟩,
 ⟨some 16, .pure .move, [.t 15], some (10, false)⟩,
 ⟨some 17, .pure .move, [.t 0], some (16, true)⟩,
 ⟨some 18, .pure .move, [.t 1], some (16, true)⟩,
 ⟨some 19, .pure (.bin .lss), [.t 17, .t 18], some (16, true)⟩,
 ⟨some 20, .pure .pick, [.t 16, .t 19, .c (.bool false)], some (10, false)⟩,
 ⟨some 21, .pure .pick, [.t 10, .c (.bool true), .t 20], none⟩])
 (.cond (.t 21)
 (.seq (.ops [⟨some 4, .pure .move, [.c (.int .i64 (-1))], none⟩])
 .ret)
 .skip))
 (.seq (.seq (.ops [⟨some 22, .pure .move, [.t 0], none⟩,
 ⟨some 23, .pure .move, [.t 1], none⟩,
 ⟨some 24, .pure (.bin .eql), [.t 22, .t 23], none⟩])
 (.cond (.t 24)
 (.seq (.ops [⟨some 4, .pure .move, [.c (.int .i64 0)], none⟩])
 .ret)
 .skip))
 (.seq (.ops [⟨some 4, .pure .move, [.c (.int .i64 1)], none⟩])
 .ret)))) }
/-- datakit/datakitlaw18.NumsetHas -/
def ac664 : AFn :=
 { nt := 28, res := [.tmp 4], body :=
 (.seq (.ops [⟨some 2, .new (.box 1), [.t 0], none⟩,
 ⟨some 3, .new (.box 3), [.t 1], none⟩,
 ⟨some 4, .pure .move, [.c (.bool false)], none⟩])
 (.seq (.ops [⟨some 5, .pure (.faddr 0), [.t 2], none⟩,
 ⟨some 6, .read (.load none), [.t 5], none⟩,
 ⟨some 7, .pure .lenL, [.t 6], none⟩,
 ⟨some 8, .pure (.bin .gtr), [.t 7, .c (.int .i64 300)], none⟩,
 ⟨some 9, .pure .move, [.t 8], none⟩,
 ⟨some 10, .read (.load (some 1)), [.t 2], some (9, false)⟩,
 ⟨some 11, .pcall 229, [.t 10], some (9, false)⟩,
 ⟨some 12, .read (.load (some 1)), [.t 2], some (9, false)⟩,
 ⟨some 13, .pcall 600, [.t 12], some (9, false)⟩,
 ⟨some 14, .pure (.eqB false), [.t 11, .t 13], some (9, false)⟩,
 ⟨some 15, .pure .move, [.t 14], some (9, false)⟩,
 ⟨some 16, .read (.load (some 1)), [.t 2], some (15, true)⟩,
 ⟨some 17, .read (.load (some 3)), [.t 3], some (15, true)⟩,
 ⟨some 18, .pcall 235, [.t 16, .t 17], some (15, true)⟩,
 ⟨some 19, .read (.load (some 1)), [.t 2], some (15, true)⟩,
 ⟨some 20, .read (.load (some 3)), [.t 3], some (15, true)⟩,
 ⟨some 21, .pcall 585, [.t 19, .t 20], some (15, true)⟩,
 ⟨some 22, .pure (.eqB false), [.t 18, .t 21], some (15, true)⟩,
 ⟨some 23, .pure .pick, [.t 15, .t 22, .c (.bool false)], some (9, false)⟩,
 ⟨some 24, .pure .pick, [.t 9, .c (.bool true), .t 23], none⟩,
 ⟨some 25, .pure .move, [.t 24], none⟩,
 ⟨some 26, .pcall 671, [], some (25, true)⟩,
 ⟨some 27, .pure .pick, [.t 25, .t 26, .c (.bool false)], none⟩,
 ⟨some 4, .pure .move, [.t 27], none⟩])
 .ret)) }
/-- datakit/datakitlaw18.NumsetMakes -/
def ac669 : AFn :=
 { nt := 78, res := [.tmp 4], body :=
 (.seq (.ops [⟨some 2, .new (.box 11), [.t 0], none⟩,
 ⟨some 4, .pure .move, [.c (.bool false)], none⟩])
 (.seq (.seq (.ops [⟨some 13, .pure .move, [.t 1], none⟩,
 ⟨some 14, .pure .lenL, [.t 13], none⟩,
 ⟨some 15, .pure (.bin .gtr), [.t 14, .c (.int .i64 300)], none⟩])
 (.cond (.t 15)
 (.seq (.ops [⟨some 16, .pcall 671, [], none⟩,
 ⟨some 4, .pure .move, [.t 16], none⟩])
 .ret)
 .skip))
 (.seq (.ops [⟨some 18, .pure (.faddr 0), [.t 2], none⟩,
 ⟨some 19, .read (.load (some 5)), [.t 18], none⟩,
 ⟨some 20, .pure (.faddr 5), [.t 2], none⟩,
 ⟨some 21, .read (.load (some 5)), [.t 20], none⟩,
 ⟨some 22, .pure (.faddr 10), [.t 2], none⟩,
 ⟨some 23, .read (.load none), [.t 22], none⟩,
 ⟨some 24, .pcall 679, [.t 19, .t 21, .t 23], none⟩,
 ⟨some 17, .pure .move, [.t 24], none⟩,
 ⟨some 25, .pure (.ext 0), [.t 17], none⟩,
 ⟨some 26, .pure (.ext 1), [.t 17], none⟩,
 ⟨some 5, .new (.new 1 [.agg [.snil 11]]), [], none⟩,
 ⟨none, .eff (.store 1), [.t 5, .t 25], none⟩,
 ⟨some 6, .pure .move, [.t 26], none⟩])
 (.seq (.ops [⟨some 28, .pure (.faddr 0), [.t 2], none⟩,
 ⟨some 29, .read (.load (some 5)), [.t 28], none⟩,
 ⟨some 30, .pure (.faddr 5), [.t 2], none⟩,
 ⟨some 31, .read (.load (some 5)), [.t 30], none⟩,
 ⟨some 32, .pure (.faddr 10), [.t 2], none⟩,
 ⟨some 33, .read (.load none), [.t 32], none⟩,
 ⟨some 34, .pcall 680, [.t 29, .t 31, .t 33], none⟩,
 ⟨some 27, .pure .move, [.t 34], none⟩,
 ⟨some 35, .pure (.ext 0), [.t 27], none⟩,
 ⟨some 36, .pure (.ext 1), [.t 27], none⟩,
 ⟨some 7, .new (.new 1 [.agg [.snil 11]]), [], none⟩,
 ⟨none, .eff (.store 1), [.t 7, .t 35], none⟩,
 ⟨some 8, .pure .move, [.t 36], none⟩])
 (.seq (.ops [⟨some 38, .pure .move, [.t 1], none⟩,
 ⟨some 39, .pcall 681, [.t 38], none⟩,
 ⟨some 37, .pure .move, [.t 39], none⟩,
 ⟨some 40, .pure (.ext 0), [.t 37], none⟩,
 ⟨some 41, .pure (.ext 1), [.t 37], none⟩,
 ⟨some 9, .new (.new 1 [.agg [.snil 11]]), [], none⟩,
 ⟨none, .eff (.store 1), [.t 9, .t 40], none⟩,
 ⟨some 10, .pure .move, [.t 41], none⟩])
 (.seq (.ops [⟨some 43, .pure .move, [.t 1], none⟩,
 ⟨some 44, .pcall 682, [.t 43], none⟩,
 ⟨some 42, .pure .move, [.t 44], none⟩,
 ⟨some 45, .pure (.ext 0), [.t 42], none⟩,
 ⟨some 46, .pure (.ext 1), [.t 42], none⟩,
 ⟨some 11, .new (.new 1 [.agg [.snil 11]]), [], none⟩,
 ⟨none, .eff (.store 1), [.t 11, .t 45], none⟩,
 ⟨some 12, .pure .move, [.t 46], none⟩])
 (.seq (.ops [⟨some 47, .pcall 683, [], none⟩,
 ⟨some 48, .pcall 684, [], none⟩,
 ⟨some 49, .pcall 522, [.t 47, .t 48], none⟩,
 ⟨some 50, .pure .move, [.t 49], none⟩,
 ⟨some 51, .pcall 685, [], some (50, true)⟩,
 ⟨some 52, .pcall 686, [], some (50, true)⟩,
 ⟨some 53, .pcall 522, [.t 51, .t 52], some (50, true)⟩,
 ⟨some 54, .pure .pick, [.t 50, .t 53, .c (.bool false)], none⟩,
 ⟨some 55, .pure .move, [.t 54], none⟩,
 ⟨some 56, .read (.load (some 1)), [.t 5], some (55, true)⟩,
 ⟨some 57, .read (.load (some 1)), [.t 7], some (55, true)⟩,
 ⟨some 58, .pcall 522, [.t 56, .t 57], some (55, true)⟩,
 ⟨some 59, .pure .pick, [.t 55, .t 58, .c (.bool false)], none⟩,
 ⟨some 60, .pure .move, [.t 59], none⟩,
 ⟨some 61, .pure .move, [.t 6], some (60, true)⟩,
 ⟨some 62, .pure .move, [.t 8], some (60, true)⟩,
 ⟨some 63, .pure (.bin .eql), [.t 61, .t 62], some (60, true)⟩,
 ⟨some 64, .pure .pick, [.t 60, .t 63, .c (.bool false)], none⟩,
 ⟨some 65, .pure .move, [.t 64], none⟩,
 ⟨some 66, .read (.load (some 1)), [.t 9], some (65, true)⟩,
 ⟨some 67, .read (.load (some 1)), [.t 11], some (65, true)⟩,
 ⟨some 68, .pcall 522, [.t 66, .t 67], some (65, true)⟩,
 ⟨some 69, .pure .pick, [.t 65, .t 68, .c (.bool false)], none⟩,
 ⟨some 70, .pure .move, [.t 69], none⟩,
 ⟨some 71, .pure .move, [.t 10], some (70, true)⟩,
 ⟨some 72, .pure .move, [.t 12], some (70, true)⟩,
 ⟨some 73, .pure (.bin .eql), [.t 71, .t 72], some (70, true)⟩,
 ⟨some 74, .pure .pick, [.t 70, .t 73, .c (.bool false)], none⟩,
 ⟨some 75, .pure .move, [.t 74], none⟩,
 ⟨some 76, .pcall 671, [], some (75, true)⟩,
 ⟨some 77, .pure .pick, [.t 75, .t 76, .c (.bool false)], none⟩,
 ⟨some 4, .pure .move, [.t 77], none⟩])
 .ret))))))) }
/-- datakit/datakitlaw18.awake -/
def ac671 : AFn :=
 { nt := 92, res := [.tmp 0], body :=
 (.seq (.ops [⟨some 0, .pure .move, [.c (.bool false)], none⟩])
 (.seq (.ops [⟨some 13, .pcall 689, [.c (.int .i64 0), .c (.bool true)], none⟩,
 ⟨some 14, .pcall 689, [.c (.int .i64 2), .c (.bool false)], none⟩,
 ⟨some 15, .pcall 679, [.t 13, .t 14, .c (.int .i64 1)], none⟩,
 ⟨some 12, .pure .move, [.t 15], none⟩,
 ⟨some 16, .pure (.ext 0), [.t 12], none⟩,
 ⟨some 17, .pure (.ext 1), [.t 12], none⟩,
 ⟨some 1, .new (.new 1 [.agg [.snil 11]]), [], none⟩,
 ⟨none, .eff (.store 1), [.t 1, .t 16], none⟩,
 ⟨some 2, .pure .move, [.t 17], none⟩])
 (.seq (.ops [⟨some 19, .read (.load (some 1)), [.t 1], none⟩,
 ⟨some 20, .pcall 672, [.t 19], none⟩,
 ⟨some 18, .pure .move, [.t 20], none⟩,
 ⟨some 21, .pure (.ext 0), [.t 18], none⟩,
 ⟨some 22, .pure (.ext 1), [.t 18], none⟩,
 ⟨some 3, .new (.new 1 [.agg [.snil 11]]), [], none⟩,
 ⟨none, .eff (.store 1), [.t 3, .t 21], none⟩,
 ⟨some 4, .pure .move, [.t 22], none⟩])
 (.seq (.ops [⟨some 24, .pcall 689, [.c (.int .i64 0), .c (.bool true)], none⟩,
 ⟨some 25, .pcall 689, [.c (.int .i64 1), .c (.bool true)], none⟩,
 ⟨some 26, .pcall 679, [.t 24, .t 25, .c (.int .i64 1)], none⟩,
 ⟨some 23, .pure .move, [.t 26], none⟩,
 ⟨some 27, .pure (.ext 0), [.t 23], none⟩,
 ⟨some 28, .pure (.ext 1), [.t 23], none⟩,
 ⟨some 5, .new (.new 1 [.agg [.snil 11]]), [], none⟩,
 ⟨none, .eff (.store 1), [.t 5, .t 27], none⟩,
 ⟨some 6, .pure .move, [.t 28], none⟩])
 (.seq (.ops [⟨some 30, .pure (.build [.bool false, .str [], .int .i64 0] [(1, 1), (2, 1)]), [.c (.str [49]), .c (.int .i64 130)], none⟩,
 ⟨some 31, .pure (.build [.bool false, .bool false, .str [], .int .i64 0, .bool false] [(0, 1), (1, 3), (4, 1)]), [.c (.bool true), .t 30, .c (.bool true)], none⟩,
 ⟨some 32, .pure (.build [.bool false, .bool false, .str [], .int .i64 0, .bool false] []), [], none⟩,
 ⟨some 33, .pcall 679, [.t 31, .t 32, .c (.int .i64 1)], none⟩,
 ⟨some 29, .pure .move, [.t 33], none⟩,
 ⟨some 34, .pure (.ext 0), [.t 29], none⟩,
 ⟨some 35, .pure (.ext 1), [.t 29], none⟩,
 ⟨some 7, .new (.new 1 [.agg [.snil 11]]), [], none⟩,
 ⟨none, .eff (.store 1), [.t 7, .t 34], none⟩,
 ⟨some 8, .pure .move, [.t 35], none⟩])
 (.seq (.ops [⟨some 37, .read (.load (some 1)), [.t 7], none⟩,
 ⟨some 38, .pcall 673, [.t 37], none⟩,
 ⟨some 36, .pure .move, [.t 38], none⟩,
 ⟨some 39, .pure (.ext 0), [.t 36], none⟩,
 ⟨some 40, .pure (.ext 1), [.t 36], none⟩,
 ⟨some 9, .new (.new 3 [.agg [.bool false, .str [], .int .i64 0]]), [], none⟩,
 ⟨none, .eff (.store 3), [.t 9, .t 39], none⟩,
 ⟨some 10, .pure .move, [.t 40], none⟩])
 (.seq (.ops [⟨some 41, .pure (.build [.bool false, .str [], .int .i64 0] [(1, 1), (2, 1)]), [.c (.str [49, 53]), .c (.int .i64 (-1))], none⟩,
 ⟨some 11, .new (.new 3 [.agg [.bool false, .str [], .int .i64 0]]), [], none⟩,
 ⟨none, .eff (.store 3), [.t 11, .t 41], none⟩])
 (.seq (.seq (.ops [⟨some 42, .pure .move, [.t 2], none⟩,
 ⟨some 43, .pure (.bin .neq), [.t 42, .c (.int .i64 0)], none⟩,
 ⟨some 44, .pure .move, [.t 43], none⟩,
 ⟨some 45, .pure .move, [.t 4], some (44, false)⟩,
 ⟨some 46, .pure (.bin .neq), [.t 45, .c (.int .i64 0)], some (44, false)⟩,
 ⟨some 47, .pure .pick, [.t 44, .c (.bool true), .t 46], none⟩,
 ⟨some 48, .pure .move, [.t 47], none⟩,
 ⟨some 49, .pure .move, [.t 6], some (48, false)⟩,
 ⟨some 50, .pure (.bin .neq), [.t 49, .c (.int .i64 0)], some (48, false)⟩,
 ⟨some 51, .pure .pick, [.t 48, .c (.bool true), .t 50], none⟩,
 ⟨some 52, .pure .move, [.t 51], none⟩,
 ⟨some 53, .pure .move, [.t 8], some (52, false)⟩,
 ⟨some 54, .pure (.bin .neq), [.t 53, .c (.int .i64 0)], some (52, false)⟩,
 ⟨some 55, .pure .pick, [.t 52, .c (.bool true), .t 54], none⟩])
 (.cond (.t 55)
 (.seq (.ops [⟨some 0, .pure .move, [.c (.bool false)], none⟩])
 .ret)
 .skip))
 (.seq (.ops [⟨some 56, .read (.load (some 1)), [.t 1], none⟩,
 ⟨some 57, .pcall 549, [.c (.int .i64 1)], none⟩,
 ⟨some 58, .pcall 235, [.t 56, .t 57], none⟩,
 ⟨some 59, .pure .move, [.t 58], none⟩,
 ⟨some 60, .read (.load (some 1)), [.t 1], some (59, true)⟩,
 ⟨some 61, .pcall 549, [.c (.int .i64 2)], some (59, true)⟩,
 ⟨some 62, .pcall 235, [.t 60, .t 61], some (59, true)⟩,
 ⟨some 63, .pure .pick, [.t 59, .t 62, .c (.bool false)], none⟩,
 ⟨some 64, .pure .move, [.t 63], none⟩,
 ⟨some 65, .read (.load (some 1)), [.t 1], some (64, true)⟩,
 ⟨some 66, .pcall 549, [.c (.int .i64 0)], some (64, true)⟩,
 ⟨some 67, .pcall 235, [.t 65, .t 66], some (64, true)⟩,
 ⟨some 68, .pure (.un .not), [.t 67], some (64, true)⟩,
 ⟨some 69, .pure .pick, [.t 64, .t 68, .c (.bool false)], none⟩,
 ⟨some 70, .pure .move, [.t 69], none⟩,
 ⟨some 71, .read (.load (some 1)), [.t 3], some (70, true)⟩,
 ⟨some 72, .pcall 549, [.c (.int .i64 0)], some (70, true)⟩,
 ⟨some 73, .pcall 235, [.t 71, .t 72], some (70, true)⟩,
 ⟨some 74, .pure .pick, [.t 70, .t 73, .c (.bool false)], none⟩,
 ⟨some 75, .pure .move, [.t 74], none⟩,
 ⟨some 76, .read (.load (some 1)), [.t 3], some (75, true)⟩,
 ⟨some 77, .read (.load (some 3)), [.t 11], some (75, true)⟩,
 ⟨some 78, .pcall 235, [.t 76, .t 77], some (75, true)⟩,
 ⟨some 79, .pure .pick, [.t 75, .t 78, .c (.bool false)], none⟩,
 ⟨some 80, .pure .move, [.t 79], none⟩,
 ⟨some 81, .read (.load (some 1)), [.t 5], some (80, true)⟩,
 ⟨some 82, .pcall 674, [.t 81], some (80, true)⟩,
 ⟨some 83, .pure .pick, [.t 80, .t 82, .c (.bool false)], none⟩,
 ⟨some 84, .pure .move, [.t 83], none⟩,
 ⟨some 85, .read (.load (some 1)), [.t 7], some (84, true)⟩,
 ⟨some 86, .pcall 674, [.t 85], some (84, true)⟩,
 ⟨some 87, .pure (.un .not), [.t 86], some (84, true)⟩,
 ⟨some 88, .pure .pick, [.t 84, .t 87, .c (.bool false)], none⟩,
 ⟨some 89, .pure .move, [.t 88], none⟩,
 ⟨some 90, .pure .move, [.t 10], some (89, true)⟩,
 ⟨some 91, .pure .pick, [.t 89, .t 90, .c (.bool false)], none⟩,
 ⟨some 0, .pure .move, [.t 91], none⟩])
 .ret))))))))) }
/-- datakit/numset.Not -/
def ac672 : AFn :=
 { nt := 9, res := [.cell 2 (some 1), .tmp 3], body :=
 (.seq (.ops [⟨some 1, .new (.box 1), [.t 0], none⟩,
 ⟨some 2, .new (.new 1 [.agg [.snil 11]]), [], none⟩,
 ⟨some 3, .pure .move, [.c (.int .i64 0)], none⟩])
 (.seq (.ops [⟨some 4, .read (.load (some 1)), [.t 1], none⟩,
 ⟨some 5, .new (.buildSlice 1 [.agg [.snil 11]] [0]), [.t 4], none⟩,
 ⟨some 6, .pcall 690, [.c (.fn 691 []), .t 5], none⟩,
 ⟨some 7, .pure (.ext 0), [.t 6], none⟩,
 ⟨some 8, .pure (.ext 1), [.t 6], none⟩,
 ⟨none, .eff (.store 1), [.t 2, .t 7], none⟩,
 ⟨some 3, .pure .move, [.t 8], none⟩])
 .ret)) }
/-- datakit/numset.Pick -/
def ac673 : AFn :=
 { nt := 28, res := [.cell 2 (some 3), .tmp 3], body :=
 (.seq (.ops [⟨some 1, .new (.box 1), [.t 0], none⟩,
 ⟨some 2, .new (.new 3 [.agg [.bool false, .str [], .int .i64 0]]), [], none⟩,
 ⟨some 3, .pure .move, [.c (.bool false)], none⟩])
 (.seq (.seq (.ops [⟨some 8, .read (.load (some 1)), [.t 1], none⟩,
 ⟨some 9, .pcall 229, [.t 8], none⟩,
 ⟨some 10, .pure (.un .not), [.t 9], none⟩])
 (.cond (.t 10)
 (.seq (.ops [⟨some 11, .pure (.build [.bool false, .str [], .int .i64 0] []), [], none⟩,
 ⟨none, .eff (.store 3), [.t 2, .t 11], none⟩,
 ⟨some 3, .pure .move, [.c (.bool false)], none⟩])
 .ret)
 .skip))
 (.seq (.seq (.ops [⟨some 12, .pure (.faddr 0), [.t 1], none⟩,
 ⟨some 13, .read (.load none), [.t 12], none⟩,
 ⟨some 14, .pure .lenL, [.t 13], none⟩,
 ⟨some 15, .pure .move, [.c (.int .i64 0)], none⟩])
 (.block 0
 (.loop [2, 13, 14, 15]
 (.seq (.ops [⟨some 16, .pure (.bin .lss), [.t 15, .t 14], none⟩])
 (.seq (.cond (.t 16)
 .skip
 (.exit 0))
 (.seq (.block 1
 (.seq (.ops [⟨some 17, .pure (.iaddrS 11), [.t 13, .t 15], none⟩,
 ⟨some 18, .read (.load (some 11)), [.t 17], none⟩,
 ⟨some 5, .new (.new 11 [.agg [.bool false, .bool false, .str [], .int .i64 0, .bool false, .bool false, .bool false, .str [], .int .i64 0, .bool false, .int .i64 0]]), [], none⟩,
 ⟨none, .eff (.store 11), [.t 5, .t 18], none⟩])
 (.seq (.ops [⟨some 20, .read (.load (some 11)), [.t 5], none⟩,
 ⟨some 21, .pcall 692, [.t 20], none⟩,
 ⟨some 19, .pure .move, [.t 21], none⟩,
 ⟨some 22, .pure (.ext 0), [.t 19], none⟩,
 ⟨some 23, .pure (.ext 1), [.t 19], none⟩,
 ⟨some 6, .new (.new 3 [.agg [.bool false, .str [], .int .i64 0]]), [], none⟩,
 ⟨none, .eff (.store 3), [.t 6, .t 22], none⟩,
 ⟨some 7, .pure .move, [.t 23], none⟩])
 (.seq (.ops [⟨some 24, .pure .move, [.t 7], none⟩])
 (.cond (.t 24)
 (.seq (.ops [⟨some 25, .read (.load (some 3)), [.t 6], none⟩,
 ⟨none, .eff (.store 3), [.t 2, .t 25], none⟩,
 ⟨some 3, .pure .move, [.c (.bool true)], none⟩])
 .ret)
 .skip)))))
 (.ops [⟨some 26, .pure (.bin .add), [.t 15, .c (.int .i64 1)], none⟩,
 ⟨some 15, .pure .move, [.t 26], none⟩])))))))
 (.seq (.ops [⟨some 27, .pure (.build [.bool false, .str [], .int .i64 0] []), [], none⟩,
 ⟨none, .eff (.store 3), [.t 2, .t 27], none⟩,
 ⟨some 3, .pure .move, [.c (.bool false)], none⟩])
 .ret)))) }
/-- datakit/numset.Empty -/
def ac674 : AFn :=
 { nt := 12, res := [.tmp 2], body :=
 (.seq (.ops [⟨some 1, .new (.box 1), [.t 0], none⟩,
 ⟨some 2, .pure .move, [.c (.bool false)], none⟩])
 (.seq (.ops [⟨some 6, .read (.load (some 1)), [.t 1], none⟩,
 ⟨some 7, .pcall 673, [.t 6], none⟩,
 ⟨some 5, .pure .move, [.t 7], none⟩,
 ⟨some 8, .pure (.ext 0), [.t 5], none⟩,
 ⟨some 9, .pure (.ext 1), [.t 5], none⟩,
 ⟨some 3, .new (.new 3 [.agg [.bool false, .str [], .int .i64 0]]), [], none⟩,
 ⟨none, .eff (.store 3), [.t 3, .t 8], none⟩,
 ⟨some 4, .pure .move, [.t 9], none⟩])
 (.seq (.ops [⟨some 10, .pure .move, [.t 4], none⟩,
 ⟨some 11, .pure (.un .not), [.t 10], none⟩,
 ⟨some 2, .pure .move, [.t 11], none⟩])
 .ret))) }
/-- datakit/numset.Of -/
def ac679 : AFn :=
 { nt := 20, res := [.cell 6 (some 1), .tmp 7], body :=
 (.seq (.ops [⟨some 3, .new (.box 5), [.t 0], none⟩,
 ⟨some 4, .new (.box 5), [.t 1], none⟩,
 ⟨some 6, .new (.new 1 [.agg [.snil 11]]), [], none⟩,
 ⟨some 7, .pure .move, [.c (.int .i64 0)], none⟩])
 (.seq (.ops [⟨some 9, .read (.load (some 5)), [.t 3], none⟩,
 ⟨some 10, .read (.load (some 5)), [.t 4], none⟩,
 ⟨some 11, .pure .move, [.t 2], none⟩,
 ⟨some 12, .pure (.build [.bool false, .bool false, .str [], .int .i64 0, .bool false, .bool false, .bool false, .str [], .int .i64 0, .bool false, .int .i64 0] [(0, 5), (5, 5), (10, 1)]), [.t 9, .t 10, .t 11], none⟩,
 ⟨some 8, .new (.new 11 [.agg [.bool false, .bool false, .str [], .int .i64 0, .bool false, .bool false, .bool false, .str [], .int .i64 0, .bool false, .int .i64 0]]), [], none⟩,
 ⟨none, .eff (.store 11), [.t 8, .t 12], none⟩])
 (.seq (.seq (.ops [⟨some 13, .read (.load (some 11)), [.t 8], none⟩,
 ⟨some 14, .pcall 250, [.t 13], none⟩,
 ⟨some 15, .pure (.un .not), [.t 14], none⟩])
 (.cond (.t 15)
 (.seq (.ops [⟨some 16, .pure (.build [.snil 11] []), [], none⟩,
 ⟨none, .eff (.store 1), [.t 6, .t 16], none⟩,
 ⟨some 7, .pure .move, [.c (.int .i64 1)], none⟩])
 .ret)
 .skip))
 (.seq (.ops [⟨some 17, .read (.load (some 11)), [.t 8], none⟩,
 ⟨some 18, .new (.buildSlice 11 [.agg [.bool false, .bool false, .str [], .int .i64 0, .bool false, .bool false, .bool false, .str [], .int .i64 0, .bool false, .int .i64 0]] [0]), [.t 17], none⟩,
 ⟨some 19, .pure (.build [.snil 11] [(0, 1)]), [.t 18], none⟩,
 ⟨none, .eff (.store 1), [.t 6, .t 19], none⟩,
 ⟨some 7, .pure .move, [.c (.int .i64 0)], none⟩])
 .ret)))) }
/-- datakit/datakitref18.Of -/
def ac680 : AFn :=
 { nt := 20, res := [.cell 6 (some 1), .tmp 7], body :=
 (.seq (.ops [⟨some 3, .new (.box 5), [.t 0], none⟩,
 ⟨some 4, .new (.box 5), [.t 1], none⟩,
 ⟨some 6, .new (.new 1 [.agg [.snil 11]]), [], none⟩,
 ⟨some 7, .pure .move, [.c (.int .i64 0)], none⟩])
 (.seq (.ops [⟨some 9, .read (.load (some 5)), [.t 3], none⟩,
 ⟨some 10, .read (.load (some 5)), [.t 4], none⟩,
 ⟨some 11, .pure .move, [.t 2], none⟩,
 ⟨some 12, .pure (.build [.bool false, .bool false, .str [], .int .i64 0, .bool false, .bool false, .bool false, .str [], .int .i64 0, .bool false, .int .i64 0] [(0, 5), (5, 5), (10, 1)]), [.t 9, .t 10, .t 11], none⟩,
 ⟨some 8, .new (.new 11 [.agg [.bool false, .bool false, .str [], .int .i64 0, .bool false, .bool false, .bool false, .str [], .int .i64 0, .bool false, .int .i64 0]]), [], none⟩,
 ⟨none, .eff (.store 11), [.t 8, .t 12], none⟩])
 (.seq (.seq (.ops [⟨some 13, .read (.load (some 11)), [.t 8], none⟩,
 ⟨some 14, .pcall 625, [.t 13], none⟩,
 ⟨some 15, .pure (.un .not), [.t 14], none⟩])
 (.cond (.t 15)
 (.seq (.ops [⟨some 16, .pure (.build [.snil 11] []), [], none⟩,
 ⟨none, .eff (.store 1), [.t 6, .t 16], none⟩,
 ⟨some 7, .pure .move, [.c (.int .i64 1)], none⟩])
 .ret)
 .skip))
 (.seq (.ops [⟨some 17, .read (.load (some 11)), [.t 8], none⟩,
 ⟨some 18, .new (.buildSlice 11 [.agg [.bool false, .bool false, .str [], .int .i64 0, .bool false, .bool false, .bool false, .str [], .int .i64 0, .bool false, .int .i64 0]] [0]), [.t 17], none⟩,
 ⟨some 19, .pure (.build [.snil 11] [(0, 1)]), [.t 18], none⟩,
 ⟨none, .eff (.store 1), [.t 6, .t 19], none⟩,
 ⟨some 7, .pure .move, [.c (.int .i64 0)], none⟩])
 .ret)))) }
/-- datakit/numset.Points -/
def ac681 : AFn :=
 { nt := 34, res := [.cell 2 (some 1), .tmp 3], body :=
 (.seq (.ops [⟨some 2, .new (.new 1 [.agg [.snil 11]]), [], none⟩,
 ⟨some 3, .pure .move, [.c (.int .i64 0)], none⟩])
 (.seq (.ops [⟨some 4, .new (.new 1 [.agg [.snil 11]]), [], none⟩])
 (.seq (.seq (.ops [⟨some 8, .pure .move, [.t 0], none⟩,
 ⟨some 9, .pure .lenL, [.t 8], none⟩,
 ⟨some 10, .pure .move, [.c (.int .i64 0)], none⟩])
 (.block 0
 (.loop [0, 2, 4, 8, 9, 10]
 (.seq (.ops [⟨some 11, .pure (.bin .lss), [.t 10, .t 9], none⟩])
 (.seq (.cond (.t 11)
 .skip
 (.exit 0))
 (.seq (.block 1
 (.seq (.ops [⟨some 12, .pure (.iaddrS 3), [.t 8, .t 10], none⟩,
 ⟨some 13, .read (.load (some 3)), [.t 12], none⟩,
 ⟨some 6, .new (.new 3 [.agg [.bool false, .str [], .int .i64 0]]), [], none⟩,
 ⟨none, .eff (.store 3), [.t 6, .t 13], none⟩])
 (.seq (.seq (.ops [⟨some 14, .read (.load (some 3)), [.t 6], none⟩,
 ⟨some 15, .pcall 140, [.t 14], none⟩,
 ⟨some 16, .pure (.un .not), [.t 15], none⟩])
 (.cond (.t 16)
 (.seq (.ops [⟨some 17, .pure (.build [.snil 11] []), [], none⟩,
 ⟨none, .eff (.store 1), [.t 2, .t 17], none⟩,
 ⟨some 3, .pure .move, [.c (.int .i64 1)], none⟩])
 .ret)
 .skip))
 (.seq (.ops [⟨some 18, .read (.load (some 3)), [.t 6], none⟩,
 ⟨some 19, .pure (.build [.bool false, .bool false, .str [], .int .i64 0, .bool false] [(0, 1), (1, 3)]), [.c (.bool true), .t 18], none⟩,
 ⟨some 7, .new (.new 5 [.agg [.bool false, .bool false, .str [], .int .i64 0, .bool false]]), [], none⟩,
 ⟨none, .eff (.store 5), [.t 7, .t 19], none⟩])
 (.ops [⟨some 20, .pure (.faddr 0), [.t 4], none⟩,
 ⟨some 21, .read (.load none), [.t 20], none⟩,
 ⟨some 22, .read (.load (some 5)), [.t 7], none⟩,
 ⟨some 23, .read (.load (some 5)), [.t 7], none⟩,
 ⟨some 24, .pure (.build [.bool false, .bool false, .str [], .int .i64 0, .bool false, .bool false, .bool false, .str [], .int .i64 0, .bool false, .int .i64 0] [(0, 5), (5, 5)]), [.t 22, .t 23], none⟩,
 ⟨some 25, .new (.buildSlice 11 [.agg [.bool false, .bool false, .str [], .int .i64 0, .bool false, .bool false, .bool false, .str [], .int .i64 0, .bool false, .int .i64 0]] [0]), [.t 24], none⟩,
 ⟨some 26, .eff (.append 11 104), [.t 21, .t 25], none⟩,
 ⟨some 27, .pure (.faddr 0), [.t 4], none⟩,
 ⟨none, .eff (.store 1), [.t 27, .t 26], none⟩])))))
 (.ops [⟨some 28, .pure (.bin .add), [.t 10, .c (.int .i64 1)], none⟩,
 ⟨some 10, .pure .move, [.t 28], none⟩])))))))
 (.seq (.seq (.ops [⟨some 29, .pure .move, [.t 0], none⟩,
 ⟨some 30, .pure .lenL, [.t 29], none⟩,
 ⟨some 31, .pure (.bin .gtr), [.t 30, .c (.int .i64 256)], none⟩])
 (.cond (.t 31)
 (.seq (.ops [⟨some 32, .pure (.build [.snil 11] []), [], none⟩,
 ⟨none, .eff (.store 1), [.t 2, .t 32], none⟩,
 ⟨some 3, .pure .move, [.c (.int .i64 32)], none⟩])
 .ret)
 .skip))
 (.seq (.ops [⟨some 33, .read (.load (some 1)), [.t 4], none⟩,
 ⟨none, .eff (.store 1), [.t 2, .t 33], none⟩,
 ⟨some 3, .pure .move, [.c (.int .i64 0)], none⟩])
 .ret))))) }
/-- datakit/datakitref18.Points -/
def ac682 : AFn :=
 { nt := 38, res := [.cell 2 (some 1), .tmp 3], body :=
 (.seq (.ops [⟨some 2, .new (.new 1 [.agg [.snil 11]]), [], none⟩,
 ⟨some 3, .pure .move, [.c (.int .i64 0)], none⟩])
 (.seq (.ops [⟨some 4, .new (.new 1 [.agg [.snil 11]]), [], none⟩])
 (.seq (.seq (.ops [⟨some 5, .pure .move, [.c (.int .i64 0)], none⟩])
 (.block 0
 (.loop [0, 2, 4, 5]
 (.seq (.seq (.ops [⟨some 7, .pure .move, [.t 5], none⟩,
 ⟨some 8, .pure .move, [.t 0], none⟩,
 ⟨some 9, .pure .lenL, [.t 8], none⟩,
 ⟨some 10, .pure (.bin .lss), [.t 7, .t 9], none⟩])
 (.cond (.t 10)
 .skip
 (.exit 0)))
 (.seq (.block 1
 (.seq (.seq (.ops [⟨some 13, .pure .move, [.t 0], none⟩,
 ⟨some 14, .pure .move, [.t 5], none⟩,
 ⟨some 15, .pure (.iaddrS 3), [.t 13, .t 14], none⟩,
 ⟨some 16, .read (.load (some 3)), [.t 15], none⟩,
 ⟨some 17, .pcall 79, [.t 16], none⟩,
 ⟨some 18, .pure (.un .not), [.t 17], none⟩])
 (.cond (.t 18)
 (.seq (.ops [⟨some 19, .pure (.build [.snil 11] []), [], none⟩,
 ⟨none, .eff (.store 1), [.t 2, .t 19], none⟩,
 ⟨some 3, .pure .move, [.c (.int .i64 1)], none⟩])
 .ret)
 .skip))
 (.seq (.ops [⟨some 20, .pure .move, [.t 0], none⟩,
 ⟨some 21, .pure .move, [.t 5], none⟩,
 ⟨some 22, .pure (.iaddrS 3), [.t 20, .t 21], none⟩,
 ⟨some 23, .read (.load (some 3)), [.t 22], none⟩,
 ⟨some 24, .pure (.build [.bool false, .bool false, .str [], .int .i64 0, .bool false] [(0, 1), (1, 3)]), [.c (.bool true), .t 23], none⟩,
 ⟨some 6, .new (.new 5 [.agg [.bool false, .bool false, .str [], .int .i64 0, .bool false]]), [], none⟩,
 ⟨none, .eff (.store 5), [.t 6, .t 24], none⟩])
 (.ops [⟨some 25, .pure (.faddr 0), [.t 4], none⟩,
 ⟨some 26, .read (.load none), [.t 25], none⟩,
 ⟨some 27, .read (.load (some 5)), [.t 6], none⟩,
 ⟨some 28, .read (.load (some 5)), [.t 6], none⟩,
 ⟨some 29, .pure (.build [.bool false, .bool false, .str [], .int .i64 0, .bool false, .bool false, .bool false, .str [], .int .i64 0, .bool false, .int .i64 0] [(0, 5), (5, 5)]), [.t 27, .t 28], none⟩,
 ⟨some 30, .new (.buildSlice 11 [.agg [.bool false, .bool false, .str [], .int .i64 0, .bool false, .bool false, .bool false, .str [], .int .i64 0, .bool false, .int .i64 0]] [0]), [.t 29], none⟩,
 ⟨some 31, .eff (.append 11 104), [.t 26, .t 30], none⟩,
 ⟨some 32, .pure (.faddr 0), [.t 4], none⟩,
 ⟨none, .eff (.store 1), [.t 32, .t 31], none⟩]))))
 (.ops [⟨some 11, .pure .move, [.t 5], none⟩,
 ⟨some 12, .pure (.bin .add), [.t 11, .c (.int .i64 1)], none⟩,
 ⟨some 5, .pure .move, [.t 12], none⟩]))))))
 (.seq (.seq (.ops [⟨some 33, .pure .move, [.t 0], none⟩,
 ⟨some 34, .pure .lenL, [.t 33], none⟩,
 ⟨some 35, .pure (.bin .gtr), [.t 34, .c (.int .i64 256)], none⟩])
 (.cond (.t 35)
 (.seq (.ops [⟨some 36, .pure (.build [.snil 11] []), [], none⟩,
 ⟨none, .eff (.store 1), [.t 2, .t 36], none⟩,
 ⟨some 3, .pure .move, [.c (.int .i64 32)], none⟩])
 .ret)
 .skip))
 (.seq (.ops [⟨some 37, .read (.load (some 1)), [.t 4], none⟩,
 ⟨none, .eff (.store 1), [.t 2, .t 37], none⟩,
 ⟨some 3, .pure .move, [.c (.int .i64 0)], none⟩])
 .ret))))) }
/-- datakit/numset.All -/
def ac683 : AFn :=
 { nt := 4, res := [.cell 0 (some 1)], body :=
 (.seq (.ops [⟨some 0, .new (.new 1 [.agg [.snil 11]]), [], none⟩])
 (.seq (.ops [⟨some 1, .pure (.build [.bool false, .bool false, .str [], .int .i64 0, .bool false, .bool false, .bool false, .str [], .int .i64 0, .bool false, .int .i64 0] []), [], none⟩,
 ⟨some 2, .new (.buildSlice 11 [.agg [.bool false, .bool false, .str [], .int .i64 0, .bool false, .bool false, .bool false, .str [], .int .i64 0, .bool false, .int .i64 0]] [0]), [.t 1], none⟩,
 ⟨some 3, .pure (.build [.snil 11] [(0, 1)]), [.t 2], none⟩,
 ⟨none, .eff (.store 1), [.t 0, .t 3], none⟩])
 .ret)) }
/-- datakit/datakitref18.All -/
def ac684 : AFn :=
 { nt := 4, res := [.cell 0 (some 1)], body :=
 (.seq (.ops [⟨some 0, .new (.new 1 [.agg [.snil 11]]), [], none⟩])
 (.seq (.ops [⟨some 1, .pure (.build [.bool false, .bool false, .str [], .int .i64 0, .bool false, .bool false, .bool false, .str [], .int .i64 0, .bool false, .int .i64 0] []), [], none⟩,
 ⟨some 2, .new (.buildSlice 11 [.agg [.bool false, .bool false, .str [], .int .i64 0, .bool false, .bool false, .bool false, .str [], .int .i64 0, .bool false, .int .i64 0]] [0]), [.t 1], none⟩,
 ⟨some 3, .pure (.build [.snil 11] [(0, 1)]), [.t 2], none⟩,
 ⟨none, .eff (.store 1), [.t 0, .t 3], none⟩])
 .ret)) }
/-- datakit/numset.None -/
def ac685 : AFn :=
 { nt := 2, res := [.cell 0 (some 1)], body :=
 (.seq (.ops [⟨some 0, .new (.new 1 [.agg [.snil 11]]), [], none⟩])
 (.seq (.ops [⟨some 1, .pure (.build [.snil 11] []), [], none⟩,
 ⟨none, .eff (.store 1), [.t 0, .t 1], none⟩])
 .ret)) }
/-- datakit/datakitref18.None -/
def ac686 : AFn :=
 { nt := 2, res := [.cell 0 (some 1)], body :=
 (.seq (.ops [⟨some 0, .new (.new 1 [.agg [.snil 11]]), [], none⟩])
 (.seq (.ops [⟨some 1, .pure (.build [.snil 11] []), [], none⟩,
 ⟨none, .eff (.store 1), [.t 0, .t 1], none⟩])
 .ret)) }
/-- datakit/datakitlaw18.at -/
def ac689 : AFn :=
 { nt := 9, res := [.cell 4 (some 5)], body :=
 (.seq (.ops [⟨some 4, .new (.new 5 [.agg [.bool false, .bool false, .str [], .int .i64 0, .bool false]]), [], none⟩])
 (.seq (.ops [⟨some 5, .pure .move, [.t 0], none⟩,
 ⟨some 6, .pcall 549, [.t 5], none⟩,
 ⟨some 7, .pure .move, [.t 1], none⟩,
 ⟨some 8, .pure (.build [.bool false, .bool false, .str [], .int .i64 0, .bool false] [(0, 1), (1, 3), (4, 1)]), [.c (.bool true), .t 6, .t 7], none⟩,
 ⟨none, .eff (.store 5), [.t 4, .t 8], none⟩])
 .ret)) }
/-- datakit/numset.combined -/
def ac690 : AFn :=
 { nt := 29, res := [.cell 4 (some 1), .tmp 5], body :=
 (.seq (.ops [⟨some 4, .new (.new 1 [.agg [.snil 11]]), [], none⟩,
 ⟨some 5, .pure .move, [.c (.int .i64 0)], none⟩])
 (.seq (.seq (.ops [⟨some 9, .pure .move, [.t 1], none⟩,
 ⟨some 10, .pure .lenL, [.t 9], none⟩,
 ⟨some 11, .pure .move, [.c (.int .i64 0)], none⟩])
 (.block 0
 (.loop [0, 1, 4, 9, 10, 11]
 (.seq (.ops [⟨some 12, .pure (.bin .lss), [.t 11, .t 10], none⟩])
 (.seq (.cond (.t 12)
 .skip
 (.exit 0))
 (.seq (.block 1
 (.seq (.ops [⟨some 13, .pure (.iaddrS 1), [.t 9, .t 11], none⟩,
 ⟨some 14, .read (.load (some 1)), [.t 13], none⟩,
 ⟨some 7, .new (.new 1 [.agg [.snil 11]]), [], none⟩,
 ⟨none, .eff (.store 1), [.t 7, .t 14], none⟩])
 (.seq (.ops [⟨some 15, .read (.load (some 1)), [.t 7], none⟩,
 ⟨some 16, .pcall 229, [.t 15], none⟩,
 ⟨some 17, .pure (.un .not), [.t 16], none⟩])
 (.cond (.t 17)
 (.seq (.ops [⟨some 18, .pure (.build [.snil 11] []), [], none⟩,
 ⟨none, .eff (.store 1), [.t 4, .t 18], none⟩,
 ⟨some 5, .pure .move, [.c (.int .i64 1)], none⟩])
 .ret)
 .skip))))
 (.ops [⟨some 19, .pure (.bin .add), [.t 11, .c (.int .i64 1)], none⟩,
 ⟨some 11, .pure .move, [.t 19], none⟩])))))))
 (.seq (.ops [⟨some 20, .pure .move, [.t 0], none⟩,
 ⟨some 21, .pure .move, [.t 1], none⟩,
 ⟨some 22, .pcall 695, [.t 20, .t 21], none⟩,
 ⟨some 8, .pure .move, [.t 22], none⟩])
 (.seq (.seq (.ops [⟨some 23, .pure .move, [.t 8], none⟩,
 ⟨some 24, .pure .lenL, [.t 23], none⟩,
 ⟨some 25, .pure (.bin .gtr), [.t 24, .c (.int .i64 256)], none⟩])
 (.cond (.t 25)
 (.seq (.ops [⟨some 26, .pure (.build [.snil 11] []), [], none⟩,
 ⟨none, .eff (.store 1), [.t 4, .t 26], none⟩,
 ⟨some 5, .pure .move, [.c (.int .i64 32)], none⟩])
 .ret)
 .skip))
 (.seq (.ops [⟨some 27, .pure .move, [.t 8], none⟩,
 ⟨some 28, .pure (.build [.snil 11] [(0, 1)]), [.t 27], none⟩,
 ⟨none, .eff (.store 1), [.t 4, .t 28], none⟩,
 ⟨some 5, .pure .move, [.c (.int .i64 0)], none⟩])
 .ret))))) }
/-- datakit/numset.Not$1 -/
def ac691 : AFn :=
 { nt := 7, res := [.tmp 2], body :=
 (.seq (.ops [⟨some 2, .pure .move, [.c (.bool false)], none⟩])
 (.seq (.ops [⟨some 3, .pure .move, [.t 0], none⟩,
 ⟨some 4, .pure (.iaddrS 1), [.t 3, .c (.int .i64 0)], none⟩,
 ⟨some 5, .read (.load none), [.t 4], none⟩,
 ⟨some 6, .pure (.un .not), [.t 5], none⟩,
 ⟨some 2, .pure .move, [.t 6], none⟩])
 .ret)) }
/-- datakit/numset.member -/
def ac692 : AFn :=
 { nt := 55, res := [.cell 2 (some 3), .tmp 3], body :=
 (.seq (.ops [⟨some 1, .new (.box 11), [.t 0], none⟩,
 ⟨some 2, .new (.new 3 [.agg [.bool false, .str [], .int .i64 0]]), [], none⟩,
 ⟨some 3, .pure .move, [.c (.bool false)], none⟩])
 (.seq (.seq (.ops [⟨some 8, .pure (.faddr 0), [.t 1], none⟩,
 ⟨some 9, .pure (.faddr 0), [.t 8], none⟩,
 ⟨some 10, .read (.load none), [.t 9], none⟩,
 ⟨some 11, .pure (.un .not), [.t 10], none⟩,
 ⟨some 12, .pure .move, [.t 11], none⟩,
 ⟨some 13, .pure (.faddr 5), [.t 1], some (12, true)⟩,
 ⟨some 14, .pure (.faddr 0), [.t 13], some (12, true)⟩,
 ⟨some 15, .read (.load none), [.t 14], some (12, true)⟩,
 ⟨some 16, .pure (.un .not), [.t 15], some (12, true)⟩,
 ⟨some 17, .pure .pick, [.t 12, .t 16, .c (.bool false)], none⟩])
 (.cond (.t 17)
 (.seq (.seq (.ops [⟨some 18, .pure (.faddr 10), [.t 1], none⟩,
 ⟨some 19, .read (.load none), [.t 18], none⟩,
 ⟨some 20, .pure (.bin .eql), [.t 19, .c (.int .i64 2)], none⟩])
 (.cond (.t 20)
 (.seq (.ops [⟨some 21, .pcall 697, [.c (.str [53]), .c (.int .i64 (-1))], none⟩,
 ⟨none, .eff (.store 3), [.t 2, .t 21], none⟩,
 ⟨some 3, .pure .move, [.c (.bool true)], none⟩])
 .ret)
 .skip))
 (.seq (.ops [⟨some 22, .pure (.build [.bool false, .str [], .int .i64 0] []), [], none⟩,
 ⟨none, .eff (.store 3), [.t 2, .t 22], none⟩,
 ⟨some 3, .pure .move, [.c (.bool true)], none⟩])
 .ret))
 .skip))
 (.seq (.seq (.ops [⟨some 23, .pure (.faddr 0), [.t 1], none⟩,
 ⟨some 24, .pure (.faddr 0), [.t 23], none⟩,
 ⟨some 25, .read (.load none), [.t 24], none⟩,
 ⟨some 26, .pure (.un .not), [.t 25], none⟩])
 (.cond (.t 26)
 (.seq (.draw 1 [[⟨some 28, .pure (.faddr 5), [.t 1], none⟩,
 ⟨some 29, .read (.load (some 5)), [.t 28], none⟩,
 ⟨some 30, .pcall 698, [.t 29], none⟩,
 ⟨some 31, .pure (.faddr 10), [.t 1], none⟩,
 ⟨some 32, .read (.load none), [.t 31], none⟩,
 ⟨some 33, .pure (.build [.bool false, .bool false, .str [], .int .i64 0, .bool false, .bool false, .bool false, .str [], .int .i64 0, .bool false, .int .i64 0] [(0, 5), (10, 1)]), [.t 30, .t 32], none⟩,
 ⟨some 34, .pcall 692, [.t 33], none⟩,
 ⟨some 27, .pure .move, [.t 34], none⟩,
 ⟨some 35, .pure (.ext 0), [.t 27], none⟩,
 ⟨some 36, .pure (.ext 1), [.t 27], none⟩,
 ⟨some 4, .newAt 0 (.new 3 [.agg [.bool false, .str [], .int .i64 0]]), [], none⟩,
 ⟨none, .eff (.store 3), [.t 4, .t 35], none⟩,
 ⟨some 5, .pure .move, [.t 36], none⟩]])
 (.seq (.ops [⟨some 37, .read (.load (some 3)), [.t 4], none⟩,
 ⟨some 38, .pcall 699, [.t 37], none⟩,
 ⟨some 39, .pure .move, [.t 5], none⟩,
 ⟨none, .eff (.store 3), [.t 2, .t 38], none⟩,
 ⟨some 3, .pure .move, [.t 39], none⟩])
 .ret))
 .skip))
 (.seq (.ops [⟨some 41, .read (.load (some 11)), [.t 1], none⟩,
 ⟨some 42, .pcall 700, [.t 41], none⟩,
 ⟨some 40, .pure .move, [.t 42], none⟩,
 ⟨some 43, .pure (.ext 0), [.t 40], none⟩,
 ⟨some 44, .pure (.ext 1), [.t 40], none⟩,
 ⟨some 6, .new (.new 3 [.agg [.bool false, .str [], .int .i64 0]]), [], none⟩,
 ⟨none, .eff (.store 3), [.t 6, .t 43], none⟩,
 ⟨some 7, .pure .move, [.t 44], none⟩])
 (.seq (.seq (.ops [⟨some 45, .pure .move, [.t 7], none⟩,
 ⟨some 46, .pure (.un .not), [.t 45], none⟩,
 ⟨some 47, .pure .move, [.t 46], none⟩,
 ⟨some 48, .read (.load (some 11)), [.t 1], some (47, false)⟩,
 ⟨some 49, .read (.load (some 3)), [.t 6], some (47, false)⟩,
 ⟨some 50, .pcall 251, [.t 48, .t 49], some (47, false)⟩,
 ⟨some 51, .pure (.un .not), [.t 50], some (47, false)⟩,
 ⟨some 52, .pure .pick, [.t 47, .c (.bool true), .t 51], none⟩])
 (.cond (.t 52)
 (.seq (.ops [⟨some 53, .pure (.build [.bool false, .str [], .int .i64 0] []), [], none⟩,
 ⟨none, .eff (.store 3), [.t 2, .t 53], none⟩,
 ⟨some 3, .pure .move, [.c (.bool false)], none⟩])
 .ret)
 .skip))
 (.seq (.ops [⟨some 54, .read (.load (some 3)), [.t 6], none⟩,
 ⟨none, .eff (.store 3), [.t 2, .t 54], none⟩,
 ⟨some 3, .pure .move, [.c (.bool true)], none⟩])
 .ret)))))) }
end Ago
