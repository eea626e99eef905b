/- The abstract code of the functions, printed by program. -/
import Derived.Test.YtndeonfobpmddaaGreatDoorMachE
set_option linter.unusedSimpArgs false
set_option linter.unusedVariables false
set_option maxRecDepth 100000
namespace Ago
/-- math/bits.Len -/
def ac49:AFn:=
 { nt:=8, res:=[.tmp 2], body:=
 (.seq (.ops [⟨some 2, .pure .move, [.c (.int .i64 0)], none⟩])
 (.seq (.cond (.c (.bool false))
 (.seq (.ops [⟨some 3, .pure .move, [.t 0], none⟩,
 ⟨some 4, .pure (.conv .u32), [.t 3], none⟩,
 ⟨some 5, .pcall 72, [.t 4], none⟩,
 ⟨some 2, .pure .move, [.t 5], none⟩])
 .ret)
 .skip)
 (.seq (.ops [⟨some 6, .pure .move, [.t 0], none⟩,
 ⟨some 7, .pcall 73, [.t 6], none⟩,
 ⟨some 2, .pure .move, [.t 7], none⟩])
 .ret))) }
/-- math/bits.Len32 -/
def ac72:AFn:=
 { nt:=19, res:=[.tmp 2], body:=
 (.seq (.ops [⟨some 2, .pure .move, [.c (.int .i64 0)], none⟩])
 (.seq (.seq (.ops [⟨some 3, .pure .move, [.t 0], none⟩,
 ⟨some 4, .pure (.bin .geq), [.t 3, .c (.int .u32 65536)], none⟩])
 (.cond (.t 4)
 (.seq (.ops [⟨some 5, .pure .move, [.t 0], none⟩,
 ⟨some 6, .pure (.bin .shr), [.t 5, .c (.int .u64 16)], none⟩,
 ⟨some 0, .pure .move, [.t 6], none⟩])
 (.ops [⟨some 2, .pure .move, [.c (.int .i64 16)], none⟩]))
 .skip))
 (.seq (.seq (.ops [⟨some 7, .pure .move, [.t 0], none⟩,
 ⟨some 8, .pure (.bin .geq), [.t 7, .c (.int .u32 256)], none⟩])
 (.cond (.t 8)
 (.seq (.ops [⟨some 9, .pure .move, [.t 0], none⟩,
 ⟨some 10, .pure (.bin .shr), [.t 9, .c (.int .u64 8)], none⟩,
 ⟨some 0, .pure .move, [.t 10], none⟩])
 (.ops [⟨some 11, .pure .move, [.t 2], none⟩,
 ⟨some 12, .pure (.bin .add), [.t 11, .c (.int .i64 8)], none⟩,
 ⟨some 2, .pure .move, [.t 12], none⟩]))
 .skip))
 (.seq (.ops [⟨some 13, .pure .move, [.t 2], none⟩,
 ⟨some 14, .pure .move, [.t 0], none⟩,
 ⟨some 15, .pure (.conv .u8), [.t 14], none⟩,
 ⟨some 16, .pure .idxStr, [.c (.str [0, 1, 2, 2, 3, 3, 3, 3, 4, 4, 4, 4, 4, 4, 4, 4, 5, 5, 5, 5, 5, 5, 5, 5, 5, 5, 5, 5, 5, 5, 5, 5, 6, 6, 6, 6, 6, 6, 6, 6, 6, 6, 6, 6, 6, 6, 6, 6, 6, 6, 6, 6, 6, 6, 6, 6, 6, 6, 6, 6, 6, 6, 6, 6, 7, 7, 7, 7, 7, 7, 7, 7, 7, 7, 7, 7, 7, 7, 7, 7, 7, 7, 7, 7, 7, 7, 7, 7, 7, 7, 7, 7, 7, 7, 7, 7, 7, 7, 7, 7, 7, 7, 7, 7, 7, 7, 7, 7, 7, 7, 7, 7, 7, 7, 7, 7, 7, 7, 7, 7, 7, 7, 7, 7, 7, 7, 7, 7, 8, 8, 8, 8, 8, 8, 8, 8, 8, 8, 8, 8, 8, 8, 8, 8, 8, 8, 8, 8, 8, 8, 8, 8, 8, 8, 8, 8, 8, 8, 8, 8, 8, 8, 8, 8, 8, 8, 8, 8, 8, 8, 8, 8, 8, 8, 8, 8, 8, 8, 8, 8, 8, 8, 8, 8, 8, 8, 8, 8, 8, 8, 8, 8, 8, 8, 8, 8, 8, 8, 8, 8, 8, 8, 8, 8, 8, 8, 8, 8, 8, 8, 8, 8, 8, 8, 8, 8, 8, 8, 8, 8, 8, 8, 8, 8, 8, 8, 8, 8, 8, 8, 8, 8, 8, 8, 8, 8, 8, 8, 8, 8, 8, 8, 8, 8, 8, 8, 8, 8, 8, 8, 8, 8, 8, 8, 8, 8]), .t 15], none⟩,
 ⟨some 17, .pure (.conv .i64), [.t 16], none⟩,
 ⟨some 18, .pure (.bin .add), [.t 13, .t 17], none⟩,
 ⟨some 2, .pure .move, [.t 18], none⟩])
 .ret)))) }
/-- math/bits.Len64 -/
def ac73:AFn:=
 { nt:=25, res:=[.tmp 2], body:=
 (.seq (.ops [⟨some 2, .pure .move, [.c (.int .i64 0)], none⟩])
 (.seq (.seq (.ops [⟨some 3, .pure .move, [.t 0], none⟩,
 ⟨some 4, .pure (.bin .geq), [.t 3, .c (.int .u64 4294967296)], none⟩])
 (.cond (.t 4)
 (.seq (.ops [⟨some 5, .pure .move, [.t 0], none⟩,
 ⟨some 6, .pure (.bin .shr), [.t 5, .c (.int .u64 32)], none⟩,
 ⟨some 0, .pure .move, [.t 6], none⟩])
 (.ops [⟨some 2, .pure .move, [.c (.int .i64 32)], none⟩]))
 .skip))
 (.seq (.seq (.ops [⟨some 7, .pure .move, [.t 0], none⟩,
 ⟨some 8, .pure (.bin .geq), [.t 7, .c (.int .u64 65536)], none⟩])
 (.cond (.t 8)
 (.seq (.ops [⟨some 9, .pure .move, [.t 0], none⟩,
 ⟨some 10, .pure (.bin .shr), [.t 9, .c (.int .u64 16)], none⟩,
 ⟨some 0, .pure .move, [.t 10], none⟩])
 (.ops [⟨some 11, .pure .move, [.t 2], none⟩,
 ⟨some 12, .pure (.bin .add), [.t 11, .c (.int .i64 16)], none⟩,
 ⟨some 2, .pure .move, [.t 12], none⟩]))
 .skip))
 (.seq (.seq (.ops [⟨some 13, .pure .move, [.t 0], none⟩,
 ⟨some 14, .pure (.bin .geq), [.t 13, .c (.int .u64 256)], none⟩])
 (.cond (.t 14)
 (.seq (.ops [⟨some 15, .pure .move, [.t 0], none⟩,
 ⟨some 16, .pure (.bin .shr), [.t 15, .c (.int .u64 8)], none⟩,
 ⟨some 0, .pure .move, [.t 16], none⟩])
 (.ops [⟨some 17, .pure .move, [.t 2], none⟩,
 ⟨some 18, .pure (.bin .add), [.t 17, .c (.int .i64 8)], none⟩,
 ⟨some 2, .pure .move, [.t 18], none⟩]))
 .skip))
 (.seq (.ops [⟨some 19, .pure .move, [.t 2], none⟩,
 ⟨some 20, .pure .move, [.t 0], none⟩,
 ⟨some 21, .pure (.conv .u8), [.t 20], none⟩,
 ⟨some 22, .pure .idxStr, [.c (.str [0, 1, 2, 2, 3, 3, 3, 3, 4, 4, 4, 4, 4, 4, 4, 4, 5, 5, 5, 5, 5, 5, 5, 5, 5, 5, 5, 5, 5, 5, 5, 5, 6, 6, 6, 6, 6, 6, 6, 6, 6, 6, 6, 6, 6, 6, 6, 6, 6, 6, 6, 6, 6, 6, 6, 6, 6, 6, 6, 6, 6, 6, 6, 6, 7, 7, 7, 7, 7, 7, 7, 7, 7, 7, 7, 7, 7, 7, 7, 7, 7, 7, 7, 7, 7, 7, 7, 7, 7, 7, 7, 7, 7, 7, 7, 7, 7, 7, 7, 7, 7, 7, 7, 7, 7, 7, 7, 7, 7, 7, 7, 7, 7, 7, 7, 7, 7, 7, 7, 7, 7, 7, 7, 7, 7, 7, 7, 7, 8, 8, 8, 8, 8, 8, 8, 8, 8, 8, 8, 8, 8, 8, 8, 8, 8, 8, 8, 8, 8, 8, 8, 8, 8, 8, 8, 8, 8, 8, 8, 8, 8, 8, 8, 8, 8, 8, 8, 8, 8, 8, 8, 8, 8, 8, 8, 8, 8, 8, 8, 8, 8, 8, 8, 8, 8, 8, 8, 8, 8, 8, 8, 8, 8, 8, 8, 8, 8, 8, 8, 8, 8, 8, 8, 8, 8, 8, 8, 8, 8, 8, 8, 8, 8, 8, 8, 8, 8, 8, 8, 8, 8, 8, 8, 8, 8, 8, 8, 8, 8, 8, 8, 8, 8, 8, 8, 8, 8, 8, 8, 8, 8, 8, 8, 8, 8, 8, 8, 8, 8, 8, 8, 8, 8, 8, 8, 8]), .t 21], none⟩,
 ⟨some 23, .pure (.conv .i64), [.t 22], none⟩,
 ⟨some 24, .pure (.bin .add), [.t 19, .t 23], none⟩,
 ⟨some 2, .pure .move, [.t 24], none⟩])
 .ret))))) }
/-- cmp.isNaN[int] -/
def ac74:AFn:=
 { nt:=6, res:=[.tmp 2], body:=
 (.seq (.ops [⟨some 2, .pure .move, [.c (.bool false)], none⟩])
 (.seq (.ops [⟨some 3, .pure .move, [.t 0], none⟩,
 ⟨some 4, .pure .move, [.t 0], none⟩,
 ⟨some 5, .pure (.bin .neq), [.t 3, .t 4], none⟩,
 ⟨some 2, .pure .move, [.t 5], none⟩])
 .ret)) }
/-- slices.nextPowerOfTwo -/
def ac86:AFn:=
 { nt:=7, res:=[.tmp 2], body:=
 (.seq (.ops [⟨some 2, .pure .move, [.c (.int .u64 0)], none⟩])
 (.seq (.ops [⟨some 3, .pure .move, [.t 0], none⟩,
 ⟨some 4, .pure (.conv .u64), [.t 3], none⟩,
 ⟨some 5, .pcall 49, [.t 4], none⟩,
 ⟨some 6, .pure (.bin .shl), [.c (.int .u64 1), .t 5], none⟩,
 ⟨some 2, .pure .move, [.t 6], none⟩])
 .ret)) }
/-- (*slices.xorshift).Next -/
def ac87:AFn:=
 { nt:=33, res:=[.tmp 2], body:=
 (.seq (.ops [⟨some 2, .pure .move, [.c (.int .u64 0)], none⟩])
 (.seq (.ops [⟨some 3, .pure .move, [.t 0], none⟩,
 ⟨some 4, .pure .chk, [.t 3], none⟩,
 ⟨some 5, .read (.load none), [.t 4], none⟩,
 ⟨some 6, .pure .move, [.t 0], none⟩,
 ⟨some 7, .pure .chk, [.t 6], none⟩,
 ⟨some 8, .read (.load none), [.t 7], none⟩,
 ⟨some 9, .pure (.bin .shl), [.t 8, .c (.int .u64 13)], none⟩,
 ⟨some 10, .pure (.bin .xor), [.t 5, .t 9], none⟩,
 ⟨some 11, .pure .chk, [.t 3], none⟩,
 ⟨none, .eff (.store 1), [.t 11, .t 10], none⟩])
 (.seq (.ops [⟨some 12, .pure .move, [.t 0], none⟩,
 ⟨some 13, .pure .chk, [.t 12], none⟩,
 ⟨some 14, .read (.load none), [.t 13], none⟩,
 ⟨some 15, .pure .move, [.t 0], none⟩,
 ⟨some 16, .pure .chk, [.t 15], none⟩,
 ⟨some 17, .read (.load none), [.t 16], none⟩,
 ⟨some 18, .pure (.bin .shr), [.t 17, .c (.int .u64 7)], none⟩,
 ⟨some 19, .pure (.bin .xor), [.t 14, .t 18], none⟩,
 ⟨some 20, .pure .chk, [.t 12], none⟩,
 ⟨none, .eff (.store 1), [.t 20, .t 19], none⟩])
 (.seq (.ops [⟨some 21, .pure .move, [.t 0], none⟩,
 ⟨some 22, .pure .chk, [.t 21], none⟩,
 ⟨some 23, .read (.load none), [.t 22], none⟩,
 ⟨some 24, .pure .move, [.t 0], none⟩,
 ⟨some 25, .pure .chk, [.t 24], none⟩,
 ⟨some 26, .read (.load none), [.t 25], none⟩,
 ⟨some 27, .pure (.bin .shl), [.t 26, .c (.int .u64 17)], none⟩,
 ⟨some 28, .pure (.bin .xor), [.t 23, .t 27], none⟩,
 ⟨some 29, .pure .chk, [.t 21], none⟩,
 ⟨none, .eff (.store 1), [.t 29, .t 28], none⟩])
 (.seq (.ops [⟨some 30, .pure .move, [.t 0], none⟩,
 ⟨some 31, .pure .chk, [.t 30], none⟩,
 ⟨some 32, .read (.load none), [.t 31], none⟩,
 ⟨some 2, .pure .move, [.t 32], none⟩])
 .ret))))) }
/-- slices.Sort[[]int,int] -/
def ac199:AFn:=
 { nt:=11, res:=[], body:=
 (.seq (.ops [⟨some 3, .pure .move, [.t 0], none⟩,
 ⟨some 4, .pure .lenL, [.t 3], none⟩,
 ⟨some 2, .pure .move, [.t 4], none⟩])
 (.ops [⟨some 5, .pure .move, [.t 0], none⟩,
 ⟨some 6, .pure .move, [.t 2], none⟩,
 ⟨some 7, .pure .move, [.t 2], none⟩,
 ⟨some 8, .pure (.conv .u64), [.t 7], none⟩,
 ⟨some 9, .pcall 49, [.t 8], none⟩,
 ⟨some 10, .call 208, [.t 5, .c (.int .i64 0), .t 6, .t 9], none⟩])) }
/-- slices.Compact[[]int,int] -/
def ac200:AFn:=
 { nt:=61, res:=[.tmp 2], body:=
 (.seq (.ops [⟨some 2, .pure .move, [.c (.snil 1)], none⟩])
 (.seq (.seq (.ops [⟨some 6, .pure .move, [.t 0], none⟩,
 ⟨some 7, .pure .lenL, [.t 6], none⟩,
 ⟨some 8, .pure (.bin .lss), [.t 7, .c (.int .i64 2)], none⟩])
 (.cond (.t 8)
 (.seq (.ops [⟨some 9, .pure .move, [.t 0], none⟩,
 ⟨some 2, .pure .move, [.t 9], none⟩])
 .ret)
 .skip))
 (.seq (.seq (.ops [⟨some 3, .pure .move, [.c (.int .i64 1)], none⟩])
 (.block 0
 (.loop [0, 3]
 (.seq (.seq (.ops [⟨some 10, .pure .move, [.t 3], none⟩,
 ⟨some 11, .pure .move, [.t 0], none⟩,
 ⟨some 12, .pure .lenL, [.t 11], none⟩,
 ⟨some 13, .pure (.bin .lss), [.t 10, .t 12], none⟩])
 (.cond (.t 13)
 .skip
 (.exit 0)))
 (.seq (.block 1
 (.seq (.ops [⟨some 16, .pure .move, [.t 0], none⟩,
 ⟨some 17, .pure .move, [.t 3], none⟩,
 ⟨some 18, .pure (.iaddrS 1), [.t 16, .t 17], none⟩,
 ⟨some 19, .read (.load none), [.t 18], none⟩,
 ⟨some 20, .pure .move, [.t 0], none⟩,
 ⟨some 21, .pure .move, [.t 3], none⟩,
 ⟨some 22, .pure (.bin .sub), [.t 21, .c (.int .i64 1)], none⟩,
 ⟨some 23, .pure (.iaddrS 1), [.t 20, .t 22], none⟩,
 ⟨some 24, .read (.load none), [.t 23], none⟩,
 ⟨some 25, .pure (.bin .eql), [.t 19, .t 24], none⟩])
 (.cond (.t 25)
 (.seq (.ops [⟨some 26, .pure .move, [.t 0], none⟩,
 ⟨some 27, .pure .move, [.t 3], none⟩,
 ⟨some 28, .pure (.sliceL 1 true false false), [.t 26, .t 27], none⟩,
 ⟨some 4, .pure .move, [.t 28], none⟩])
 (.seq (.seq (.ops [⟨some 5, .pure .move, [.c (.int .i64 1)], none⟩])
 (.block 2
 (.loop [0, 3, 4, 5]
 (.seq (.seq (.ops [⟨some 29, .pure .move, [.t 5], none⟩,
 ⟨some 30, .pure .move, [.t 4], none⟩,
 ⟨some 31, .pure .lenL, [.t 30], none⟩,
 ⟨some 32, .pure (.bin .lss), [.t 29, .t 31], none⟩])
 (.cond (.t 32)
 .skip
 (.exit 2)))
 (.seq (.block 3
 (.seq (.ops [⟨some 35, .pure .move, [.t 4], none⟩,
 ⟨some 36, .pure .move, [.t 5], none⟩,
 ⟨some 37, .pure (.iaddrS 1), [.t 35, .t 36], none⟩,
 ⟨some 38, .read (.load none), [.t 37], none⟩,
 ⟨some 39, .pure .move, [.t 4], none⟩,
 ⟨some 40, .pure .move, [.t 5], none⟩,
 ⟨some 41, .pure (.bin .sub), [.t 40, .c (.int .i64 1)], none⟩,
 ⟨some 42, .pure (.iaddrS 1), [.t 39, .t 41], none⟩,
 ⟨some 43, .read (.load none), [.t 42], none⟩,
 ⟨some 44, .pure (.bin .neq), [.t 38, .t 43], none⟩])
 (.cond (.t 44)
 (.seq (.ops [⟨some 45, .pure .move, [.t 0], none⟩,
 ⟨some 46, .pure .move, [.t 3], none⟩,
 ⟨some 47, .pure .move, [.t 4], none⟩,
 ⟨some 48, .pure .move, [.t 5], none⟩,
 ⟨some 49, .pure (.iaddrS 1), [.t 47, .t 48], none⟩,
 ⟨some 50, .read (.load none), [.t 49], none⟩,
 ⟨some 51, .pure (.iaddrS 1), [.t 45, .t 46], none⟩,
 ⟨none, .eff (.store 1), [.t 51, .t 50], none⟩])
 (.ops [⟨some 52, .pure .move, [.t 3], none⟩,
 ⟨some 53, .pure (.bin .add), [.t 52, .c (.int .i64 1)], none⟩,
 ⟨some 3, .pure .move, [.t 53], none⟩]))
 .skip)))
 (.ops [⟨some 33, .pure .move, [.t 5], none⟩,
 ⟨some 34, .pure (.bin .add), [.t 33, .c (.int .i64 1)], none⟩,
 ⟨some 5, .pure .move, [.t 34], none⟩]))))))
 (.seq (.ops [⟨some 54, .pure .move, [.t 0], none⟩,
 ⟨some 55, .pure .move, [.t 3], none⟩,
 ⟨some 56, .pure (.sliceL 1 true false false), [.t 54, .t 55], none⟩,
 ⟨none, .eff (.clearS (.int .i64 0)), [.t 56], none⟩])
 (.seq (.ops [⟨some 57, .pure .move, [.t 0], none⟩,
 ⟨some 58, .pure .move, [.t 3], none⟩,
 ⟨some 59, .pure (.sliceL 1 false true false), [.t 57, .t 58], none⟩,
 ⟨some 2, .pure .move, [.t 59], none⟩])
 .ret))))
 .skip)))
 (.ops [⟨some 14, .pure .move, [.t 3], none⟩,
 ⟨some 15, .pure (.bin .add), [.t 14, .c (.int .i64 1)], none⟩,
 ⟨some 3, .pure .move, [.t 15], none⟩]))))))
 (.seq (.ops [⟨some 60, .pure .move, [.t 0], none⟩,
 ⟨some 2, .pure .move, [.t 60], none⟩])
 .ret)))) }
/-- slices.ContainsFunc[[]int,int] -/
def ac201:AFn:=
 { nt:=9, res:=[.tmp 4], body:=
 (.seq (.ops [⟨some 4, .pure .move, [.c (.bool false)], none⟩])
 (.seq (.ops [⟨some 5, .pure .move, [.t 0], none⟩,
 ⟨some 6, .pure .move, [.t 1], none⟩,
 ⟨some 7, .call 209, [.t 5, .t 6], none⟩,
 ⟨some 8, .pure (.bin .geq), [.t 7, .c (.int .i64 0)], none⟩,
 ⟨some 4, .pure .move, [.t 8], none⟩])
 .ret)) }
/-- slices.pdqsortOrdered[int] -/
def ac208:AFn:=
 { nt:=134, res:=[], body:=
 (.seq (.ops [⟨some 8, .pure .move, [.c (.bool true)], none⟩])
 (.seq (.ops [⟨some 9, .pure .move, [.c (.bool true)], none⟩])
 (.block 0
 (.loop [0, 1, 2, 3, 8, 9]
 (.block 1
 (.seq (.ops [⟨some 19, .pure .move, [.t 2], none⟩,
 ⟨some 20, .pure .move, [.t 1], none⟩,
 ⟨some 21, .pure (.bin .sub), [.t 19, .t 20], none⟩,
 ⟨some 10, .pure .move, [.t 21], none⟩])
 (.seq (.seq (.ops [⟨some 22, .pure .move, [.t 10], none⟩,
 ⟨some 23, .pure (.bin .leq), [.t 22, .c (.int .i64 12)], none⟩])
 (.cond (.t 23)
 (.seq (.ops [⟨some 24, .pure .move, [.t 0], none⟩,
 ⟨some 25, .pure .move, [.t 1], none⟩,
 ⟨some 26, .pure .move, [.t 2], none⟩,
 ⟨some 27, .call 219, [.t 24, .t 25, .t 26], none⟩])
 .ret)
 .skip))
 (.seq (.seq (.ops [⟨some 28, .pure .move, [.t 3], none⟩,
 ⟨some 29, .pure (.bin .eql), [.t 28, .c (.int .i64 0)], none⟩])
 (.cond (.t 29)
 (.seq (.ops [⟨some 30, .pure .move, [.t 0], none⟩,
 ⟨some 31, .pure .move, [.t 1], none⟩,
 ⟨some 32, .pure .move, [.t 2], none⟩,
 ⟨some 33, .call 220, [.t 30, .t 31, .t 32], none⟩])
 .ret)
 .skip))
 (.seq (.seq (.ops [⟨some 34, .pure .move, [.t 8], none⟩,
 ⟨some 35, .pure (.un .not), [.t 34], none⟩])
 (.cond (.t 35)
 (.seq (.ops [⟨some 36, .pure .move, [.t 0], none⟩,
 ⟨some 37, .pure .move, [.t 1], none⟩,
 ⟨some 38, .pure .move, [.t 2], none⟩,
 ⟨some 39, .call 221, [.t 36, .t 37, .t 38], none⟩])
 (.ops [⟨some 40, .pure .move, [.t 3], none⟩,
 ⟨some 41, .pure (.bin .sub), [.t 40, .c (.int .i64 1)], none⟩,
 ⟨some 3, .pure .move, [.t 41], none⟩]))
 .skip))
 (.seq (.ops [⟨some 43, .pure .move, [.t 0], none⟩,
 ⟨some 44, .pure .move, [.t 1], none⟩,
 ⟨some 45, .pure .move, [.t 2], none⟩,
 ⟨some 46, .call 222, [.t 43, .t 44, .t 45], none⟩,
 ⟨some 42, .pure .move, [.t 46], none⟩,
 ⟨some 47, .pure (.ext 0), [.t 42], none⟩,
 ⟨some 48, .pure (.ext 1), [.t 42], none⟩,
 ⟨some 11, .pure .move, [.t 47], none⟩,
 ⟨some 12, .pure .move, [.t 48], none⟩])
 (.seq (.seq (.ops [⟨some 49, .pure .move, [.t 12], none⟩,
 ⟨some 50, .pure (.bin .eql), [.t 49, .c (.int .i64 2)], none⟩])
 (.cond (.t 50)
 (.seq (.ops [⟨some 51, .pure .move, [.t 0], none⟩,
 ⟨some 52, .pure .move, [.t 1], none⟩,
 ⟨some 53, .pure .move, [.t 2], none⟩,
 ⟨some 54, .call 223, [.t 51, .t 52, .t 53], none⟩])
 (.seq (.ops [⟨some 55, .pure .move, [.t 2], none⟩,
 ⟨some 56, .pure (.bin .sub), [.t 55, .c (.int .i64 1)], none⟩,
 ⟨some 57, .pure .move, [.t 11], none⟩,
 ⟨some 58, .pure .move, [.t 1], none⟩,
 ⟨some 59, .pure (.bin .sub), [.t 57, .t 58], none⟩,
 ⟨some 60, .pure (.bin .sub), [.t 56, .t 59], none⟩,
 ⟨some 11, .pure .move, [.t 60], none⟩])
 (.ops [⟨some 12, .pure .move, [.c (.int .i64 1)], none⟩])))
 .skip))
 (.seq (.seq (.ops [⟨some 61, .pure .move, [.t 8], none⟩,
 ⟨some 62, .pure .move, [.t 61], none⟩,
 ⟨some 63, .pure .move, [.t 9], some (62, true)⟩,
 ⟨some 64, .pure .pick, [.t 62, .t 63, .c (.bool false)], none⟩,
 ⟨some 65, .pure .move, [.t 64], none⟩,
 ⟨some 66, .pure .move, [.t 12], some (65, true)⟩,
 ⟨some 67, .pure (.bin .eql), [.t 66, .c (.int .i64 1)], some (65, true)⟩,
 ⟨some 68, .pure .pick, [.t 65, .t 67, .c (.bool false)], none⟩])
 (.cond (.t 68)
 (.seq (.ops [⟨some 69, .pure .move, [.t 0], none⟩,
 ⟨some 70, .pure .move, [.t 1], none⟩,
 ⟨some 71, .pure .move, [.t 2], none⟩,
 ⟨some 72, .call 224, [.t 69, .t 70, .t 71], none⟩])
 (.cond (.t 72)
 .ret
 .skip))
 .skip))
 (.seq (.seq (.ops [⟨some 73, .pure .move, [.t 1], none⟩,
 ⟨some 74, .pure (.bin .gtr), [.t 73, .c (.int .i64 0)], none⟩,
 ⟨some 75, .pure .move, [.t 74], none⟩,
 ⟨some 76, .pure .move, [.t 0], some (75, true)⟩,
 ⟨some 77, .pure .move, [.t 1], some (75, true)⟩,
 ⟨some 78, .pure (.bin .sub), [.t 77, .c (.int .i64 1)], some (75, true)⟩,
 ⟨some 79, .pure (.iaddrS 1), [.t 76, .t 78], some (75, true)⟩,
 ⟨some 80, .read (.load none), [.t 79], some (75, true)⟩,
 ⟨some 81, .pure .move, [.t 0], some (75, true)⟩,
 ⟨some 82, .pure .move, [.t 11], some (75, true)⟩,
 ⟨some 83, .pure (.iaddrS 1), [.t 81, .t 82], some (75, true)⟩,
 ⟨some 84, .read (.load none), [.t 83], some (75, true)⟩,
 ⟨some 85, .pcall 225, [.t 80, .t 84], some (75, true)⟩,
 ⟨some 86, .pure (.un .not), [.t 85], some (75, true)⟩,
 ⟨some 87, .pure .pick, [.t 75, .t 86, .c (.bool false)], none⟩])
 (.cond (.t 87)
 (.seq (.ops [⟨some 88, .pure .move, [.t 0], none⟩,
 ⟨some 89, .pure .move, [.t 1], none⟩,
 ⟨some 90, .pure .move, [.t 2], none⟩,
 ⟨some 91, .pure .move, [.t 11], none⟩,
 ⟨some 92, .call 226, [.t 88, .t 89, .t 90, .t 91], none⟩,
 ⟨some 13, .pure .move, [.t 92], none⟩])
 (.seq (.ops [⟨some 93, .pure .move, [.t 13], none⟩,
 ⟨some 1, .pure .move, [.t 93], none⟩])
 (.exit 1)))
 .skip))
 (.seq (.ops [⟨some 95, .pure .move, [.t 0], none⟩,
 ⟨some 96, .pure .move, [.t 1], none⟩,
 ⟨some 97, .pure .move, [.t 2], none⟩,
 ⟨some 98, .pure .move, [.t 11], none⟩,
 ⟨some 99, .call 227, [.t 95, .t 96, .t 97, .t 98], none⟩,
 ⟨some 94, .pure .move, [.t 99], none⟩,
 ⟨some 100, .pure (.ext 0), [.t 94], none⟩,
 ⟨some 101, .pure (.ext 1), [.t 94], none⟩,
 ⟨some 14, .pure .move, [.t 100], none⟩,
 ⟨some 15, .pure .move, [.t 101], none⟩])
 (.seq (.ops [⟨some 102, .pure .move, [.t 15], none⟩,
 ⟨some 9, .pure .move, [.t 102], none⟩])
 (.seq (.ops [⟨some 103, .pure .move, [.t 14], none⟩,
 ⟨some 104, .pure .move, [.t 1], none⟩,
 ⟨some 105, .pure (.bin .sub), [.t 103, .t 104], none⟩,
 ⟨some 106, .pure .move, [.t 2], none⟩,
 ⟨some 107, .pure .move, [.t 14], none⟩,
 ⟨some 108, .pure (.bin .sub), [.t 106, .t 107], none⟩,
 ⟨some 16, .pure .move, [.t 105], none⟩,
 ⟨some 17, .pure .move, [.t 108], none⟩])
 (.seq (.ops [⟨some 109, .pure .move, [.t 10], none⟩,
 ⟨some 110, .pure (.bin .quo), [.t 109, .c (.int .i64 8)], none⟩,
 ⟨some 18, .pure .move, [.t 110], none⟩])
 (.seq (.ops [⟨some 111, .pure .move, [.t 16], none⟩,
 ⟨some 112, .pure .move, [.t 17], none⟩,
 ⟨some 113, .pure (.bin .lss), [.t 111, .t 112], none⟩])
 (.cond (.t 113)
 (.seq (.ops [⟨some 114, .pure .move, [.t 16], none⟩,
 ⟨some 115, .pure .move, [.t 18], none⟩,
 ⟨some 116, .pure (.bin .geq), [.t 114, .t 115], none⟩,
 ⟨some 8, .pure .move, [.t 116], none⟩])
 (.seq (.ops [⟨some 117, .pure .move, [.t 0], none⟩,
 ⟨some 118, .pure .move, [.t 1], none⟩,
 ⟨some 119, .pure .move, [.t 14], none⟩,
 ⟨some 120, .pure .move, [.t 3], none⟩,
 ⟨some 121, .call 208, [.t 117, .t 118, .t 119, .t 120], none⟩])
 (.ops [⟨some 122, .pure .move, [.t 14], none⟩,
 ⟨some 123, .pure (.bin .add), [.t 122, .c (.int .i64 1)], none⟩,
 ⟨some 1, .pure .move, [.t 123], none⟩])))
 (.seq (.ops [⟨some 124, .pure .move, [.t 17], none⟩,
 ⟨some 125, .pure .move, [.t 18], none⟩,
 ⟨some 126, .pure (.bin .geq), [.t 124, .t 125], none⟩,
 ⟨some 8, .pure .move, [.t 126], none⟩])
 (.seq (.ops [⟨some 127, .pure .move, [.t 0], none⟩,
 ⟨some 128, .pure .move, [.t 14], none⟩,
 ⟨some 129, .pure (.bin .add), [.t 128, .c (.int .i64 1)], none⟩,
 ⟨some 130, .pure .move, [.t 2], none⟩,
 ⟨some 131, .pure .move, [.t 3], none⟩,
 ⟨some 132, .call 208, [.t 127, .t 129, .t 130, .t 131], none⟩])
 (.ops [⟨some 133, .pure .move, [.t 14], none⟩,
 ⟨some 2, .pure .move, [.t 133], none⟩])))))))))))))))))))))) }
/-- slices.IndexFunc[[]int,int] -/
def ac209:AFn:=
 { nt:=19, res:=[.tmp 4], body:=
 (.seq (.ops [⟨some 4, .pure .move, [.c (.int .i64 0)], none⟩])
 (.seq (.seq (.ops [⟨some 6, .pure .move, [.t 0], none⟩,
 ⟨some 7, .pure .lenL, [.t 6], none⟩,
 ⟨some 8, .pure .move, [.c (.int .i64 0)], none⟩])
 (.block 0
 (.loop [0, 1, 7, 8]
 (.seq (.ops [⟨some 9, .pure (.bin .lss), [.t 8, .t 7], none⟩])
 (.seq (.cond (.t 9)
 .skip
 (.exit 0))
 (.seq (.block 1
 (.seq (.ops [⟨some 10, .pure .move, [.t 8], none⟩,
 ⟨some 5, .pure .move, [.t 10], none⟩])
 (.seq (.ops [⟨some 11, .pure .move, [.t 1], none⟩,
 ⟨some 12, .pure .move, [.t 0], none⟩,
 ⟨some 13, .pure .move, [.t 5], none⟩,
 ⟨some 14, .pure (.iaddrS 1), [.t 12, .t 13], none⟩,
 ⟨some 15, .read (.load none), [.t 14], none⟩,
 ⟨some 16, .callv, [.t 11, .t 15], none⟩])
 (.cond (.t 16)
 (.seq (.ops [⟨some 17, .pure .move, [.t 5], none⟩,
 ⟨some 4, .pure .move, [.t 17], none⟩])
 .ret)
 .skip))))
 (.ops [⟨some 18, .pure (.bin .add), [.t 8, .c (.int .i64 1)], none⟩,
 ⟨some 8, .pure .move, [.t 18], none⟩])))))))
 (.seq (.ops [⟨some 4, .pure .move, [.c (.int .i64 (-1))], none⟩])
 .ret))) }
/-- slices.insertionSortOrdered[int] -/
def ac219:AFn:=
 { nt:=49, res:=[], body:=
 (.seq (.ops [⟨some 8, .pure .move, [.t 1], none⟩,
 ⟨some 9, .pure (.bin .add), [.t 8, .c (.int .i64 1)], none⟩,
 ⟨some 6, .pure .move, [.t 9], none⟩])
 (.block 0
 (.loop [0, 1, 2, 6]
 (.seq (.seq (.ops [⟨some 10, .pure .move, [.t 6], none⟩,
 ⟨some 11, .pure .move, [.t 2], none⟩,
 ⟨some 12, .pure (.bin .lss), [.t 10, .t 11], none⟩])
 (.cond (.t 12)
 .skip
 (.exit 0)))
 (.seq (.block 1
 (.seq (.ops [⟨some 15, .pure .move, [.t 6], none⟩,
 ⟨some 7, .pure .move, [.t 15], none⟩])
 (.block 2
 (.loop [0, 1, 2, 6, 7]
 (.seq (.seq (.ops [⟨some 16, .pure .move, [.t 7], none⟩,
 ⟨some 17, .pure .move, [.t 1], none⟩,
 ⟨some 18, .pure (.bin .gtr), [.t 16, .t 17], none⟩,
 ⟨some 19, .pure .move, [.t 18], none⟩,
 ⟨some 20, .pure .move, [.t 0], some (19, true)⟩,
 ⟨some 21, .pure .move, [.t 7], some (19, true)⟩,
 ⟨some 22, .pure (.iaddrS 1), [.t 20, .t 21], some (19, true)⟩,
 ⟨some 23, .read (.load none), [.t 22], some (19, true)⟩,
 ⟨some 24, .pure .move, [.t 0], some (19, true)⟩,
 ⟨some 25, .pure .move, [.t 7], some (19, true)⟩,
 ⟨some 26, .pure (.bin .sub), [.t 25, .c (.int .i64 1)], some (19, true)⟩,
 ⟨some 27, .pure (.iaddrS 1), [.t 24, .t 26], some (19, true)⟩,
 ⟨some 28, .read (.load none), [.t 27], some (19, true)⟩,
 ⟨some 29, .pcall 225, [.t 23, .t 28], some (19, true)⟩,
 ⟨some 30, .pure .pick, [.t 19, .t 29, .c (.bool false)], none⟩])
 (.cond (.t 30)
 .skip
 (.exit 2)))
 (.seq (.block 3
 (.ops [⟨some 33, .pure .move, [.t 0], none⟩,
 ⟨some 34, .pure .move, [.t 7], none⟩,
 ⟨some 35, .pure .move, [.t 0], none⟩,
 ⟨some 36, .pure .move, [.t 7], none⟩,
 ⟨some 37, .pure (.bin .sub), [.t 36, .c (.int .i64 1)], none⟩,
 ⟨some 38, .pure .move, [.t 0], none⟩,
 ⟨some 39, .pure .move, [.t 7], none⟩,
 ⟨some 40, .pure (.bin .sub), [.t 39, .c (.int .i64 1)], none⟩,
 ⟨some 41, .pure (.iaddrS 1), [.t 38, .t 40], none⟩,
 ⟨some 42, .read (.load none), [.t 41], none⟩,
 ⟨some 43, .pure .move, [.t 0], none⟩,
 ⟨some 44, .pure .move, [.t 7], none⟩,
 ⟨some 45, .pure (.iaddrS 1), [.t 43, .t 44], none⟩,
 ⟨some 46, .read (.load none), [.t 45], none⟩,
 ⟨some 47, .pure (.iaddrS 1), [.t 33, .t 34], none⟩,
 ⟨none, .eff (.store 1), [.t 47, .t 42], none⟩,
 ⟨some 48, .pure (.iaddrS 1), [.t 35, .t 37], none⟩,
 ⟨none, .eff (.store 1), [.t 48, .t 46], none⟩]))
 (.ops [⟨some 31, .pure .move, [.t 7], none⟩,
 ⟨some 32, .pure (.bin .sub), [.t 31, .c (.int .i64 1)], none⟩,
 ⟨some 7, .pure .move, [.t 32], none⟩])))))))
 (.ops [⟨some 13, .pure .move, [.t 6], none⟩,
 ⟨some 14, .pure (.bin .add), [.t 13, .c (.int .i64 1)], none⟩,
 ⟨some 6, .pure .move, [.t 14], none⟩])))))) }
/-- slices.heapSortOrdered[int] -/
def ac220:AFn:=
 { nt:=56, res:=[], body:=
 (.seq (.ops [⟨some 11, .pure .move, [.t 1], none⟩,
 ⟨some 6, .pure .move, [.t 11], none⟩])
 (.seq (.ops [⟨some 7, .pure .move, [.c (.int .i64 0)], none⟩])
 (.seq (.ops [⟨some 12, .pure .move, [.t 2], none⟩,
 ⟨some 13, .pure .move, [.t 1], none⟩,
 ⟨some 14, .pure (.bin .sub), [.t 12, .t 13], none⟩,
 ⟨some 8, .pure .move, [.t 14], none⟩])
 (.seq (.seq (.ops [⟨some 15, .pure .move, [.t 8], none⟩,
 ⟨some 16, .pure (.bin .sub), [.t 15, .c (.int .i64 1)], none⟩,
 ⟨some 17, .pure (.bin .quo), [.t 16, .c (.int .i64 2)], none⟩,
 ⟨some 9, .pure .move, [.t 17], none⟩])
 (.block 0
 (.loop [0, 6, 7, 8, 9]
 (.seq (.seq (.ops [⟨some 18, .pure .move, [.t 9], none⟩,
 ⟨some 19, .pure (.bin .geq), [.t 18, .c (.int .i64 0)], none⟩])
 (.cond (.t 19)
 .skip
 (.exit 0)))
 (.seq (.block 1
 (.ops [⟨some 22, .pure .move, [.t 0], none⟩,
 ⟨some 23, .pure .move, [.t 9], none⟩,
 ⟨some 24, .pure .move, [.t 8], none⟩,
 ⟨some 25, .pure .move, [.t 6], none⟩,
 ⟨some 26, .call 247, [.t 22, .t 23, .t 24, .t 25], none⟩]))
 (.ops [⟨some 20, .pure .move, [.t 9], none⟩,
 ⟨some 21, .pure (.bin .sub), [.t 20, .c (.int .i64 1)], none⟩,
 ⟨some 9, .pure .move, [.t 21], none⟩]))))))
 (.seq (.ops [⟨some 27, .pure .move, [.t 8], none⟩,
 ⟨some 28, .pure (.bin .sub), [.t 27, .c (.int .i64 1)], none⟩,
 ⟨some 10, .pure .move, [.t 28], none⟩])
 (.block 2
 (.loop [0, 6, 7, 10]
 (.seq (.seq (.ops [⟨some 29, .pure .move, [.t 10], none⟩,
 ⟨some 30, .pure (.bin .geq), [.t 29, .c (.int .i64 0)], none⟩])
 (.cond (.t 30)
 .skip
 (.exit 2)))
 (.seq (.block 3
 (.seq (.ops [⟨some 33, .pure .move, [.t 0], none⟩,
 ⟨some 34, .pure .move, [.t 6], none⟩,
 ⟨some 35, .pure .move, [.t 0], none⟩,
 ⟨some 36, .pure .move, [.t 6], none⟩,
 ⟨some 37, .pure .move, [.t 10], none⟩,
 ⟨some 38, .pure (.bin .add), [.t 36, .t 37], none⟩,
 ⟨some 39, .pure .move, [.t 0], none⟩,
 ⟨some 40, .pure .move, [.t 6], none⟩,
 ⟨some 41, .pure .move, [.t 10], none⟩,
 ⟨some 42, .pure (.bin .add), [.t 40, .t 41], none⟩,
 ⟨some 43, .pure (.iaddrS 1), [.t 39, .t 42], none⟩,
 ⟨some 44, .read (.load none), [.t 43], none⟩,
 ⟨some 45, .pure .move, [.t 0], none⟩,
 ⟨some 46, .pure .move, [.t 6], none⟩,
 ⟨some 47, .pure (.iaddrS 1), [.t 45, .t 46], none⟩,
 ⟨some 48, .read (.load none), [.t 47], none⟩,
 ⟨some 49, .pure (.iaddrS 1), [.t 33, .t 34], none⟩,
 ⟨none, .eff (.store 1), [.t 49, .t 44], none⟩,
 ⟨some 50, .pure (.iaddrS 1), [.t 35, .t 38], none⟩,
 ⟨none, .eff (.store 1), [.t 50, .t 48], none⟩])
 (.ops [⟨some 51, .pure .move, [.t 0], none⟩,
 ⟨some 52, .pure .move, [.t 7], none⟩,
 ⟨some 53, .pure .move, [.t 10], none⟩,
 ⟨some 54, .pure .move, [.t 6], none⟩,
 ⟨some 55, .call 247, [.t 51, .t 52, .t 53, .t 54], none⟩])))
 (.ops [⟨some 31, .pure .move, [.t 10], none⟩,
 ⟨some 32, .pure (.bin .sub), [.t 31, .c (.int .i64 1)], none⟩,
 ⟨some 10, .pure .move, [.t 32], none⟩])))))))))) }
/-- slices.breakPatternsOrdered[int] -/
def ac221:AFn:=
 { nt:=65, res:=[], body:=
 (.seq (.ops [⟨some 11, .pure .move, [.t 2], none⟩,
 ⟨some 12, .pure .move, [.t 1], none⟩,
 ⟨some 13, .pure (.bin .sub), [.t 11, .t 12], none⟩,
 ⟨some 6, .pure .move, [.t 13], none⟩])
 (.seq (.ops [⟨some 14, .pure .move, [.t 6], none⟩,
 ⟨some 15, .pure (.bin .geq), [.t 14, .c (.int .i64 8)], none⟩])
 (.cond (.t 15)
 (.seq (.ops [⟨some 16, .pure .move, [.t 6], none⟩,
 ⟨some 17, .pure (.conv .u64), [.t 16], none⟩,
 ⟨some 7, .new (.new 1 [.int .u64 0]), [], none⟩,
 ⟨none, .eff (.store 1), [.t 7, .t 17], none⟩])
 (.seq (.ops [⟨some 18, .pure .move, [.t 6], none⟩,
 ⟨some 19, .call 86, [.t 18], none⟩,
 ⟨some 8, .pure .move, [.t 19], none⟩])
 (.seq (.ops [⟨some 20, .pure .move, [.t 1], none⟩,
 ⟨some 21, .pure .move, [.t 6], none⟩,
 ⟨some 22, .pure (.bin .quo), [.t 21, .c (.int .i64 4)], none⟩,
 ⟨some 23, .pure (.bin .mul), [.t 22, .c (.int .i64 2)], none⟩,
 ⟨some 24, .pure (.bin .add), [.t 20, .t 23], none⟩,
 ⟨some 25, .pure (.bin .sub), [.t 24, .c (.int .i64 1)], none⟩,
 ⟨some 9, .pure .move, [.t 25], none⟩])
 (.block 0
 (.loop [0, 1, 6, 7, 8, 9]
 (.seq (.seq (.ops [⟨some 26, .pure .move, [.t 9], none⟩,
 ⟨some 27, .pure .move, [.t 1], none⟩,
 ⟨some 28, .pure .move, [.t 6], none⟩,
 ⟨some 29, .pure (.bin .quo), [.t 28, .c (.int .i64 4)], none⟩,
 ⟨some 30, .pure (.bin .mul), [.t 29, .c (.int .i64 2)], none⟩,
 ⟨some 31, .pure (.bin .add), [.t 27, .t 30], none⟩,
 ⟨some 32, .pure (.bin .add), [.t 31, .c (.int .i64 1)], none⟩,
 ⟨some 33, .pure (.bin .leq), [.t 26, .t 32], none⟩])
 (.cond (.t 33)
 .skip
 (.exit 0)))
 (.seq (.block 1
 (.seq (.ops [⟨some 36, .call 87, [.t 7], none⟩,
 ⟨some 37, .pure .move, [.t 8], none⟩,
 ⟨some 38, .pure (.bin .sub), [.t 37, .c (.int .u64 1)], none⟩,
 ⟨some 39, .pure (.bin .and), [.t 36, .t 38], none⟩,
 ⟨some 40, .pure (.conv .i64), [.t 39], none⟩,
 ⟨some 10, .pure .move, [.t 40], none⟩])
 (.seq (.seq (.ops [⟨some 41, .pure .move, [.t 10], none⟩,
 ⟨some 42, .pure .move, [.t 6], none⟩,
 ⟨some 43, .pure (.bin .geq), [.t 41, .t 42], none⟩])
 (.cond (.t 43)
 (.ops [⟨some 44, .pure .move, [.t 10], none⟩,
 ⟨some 45, .pure .move, [.t 6], none⟩,
 ⟨some 46, .pure (.bin .sub), [.t 44, .t 45], none⟩,
 ⟨some 10, .pure .move, [.t 46], none⟩])
 .skip))
 (.ops [⟨some 47, .pure .move, [.t 0], none⟩,
 ⟨some 48, .pure .move, [.t 9], none⟩,
 ⟨some 49, .pure .move, [.t 0], none⟩,
 ⟨some 50, .pure .move, [.t 1], none⟩,
 ⟨some 51, .pure .move, [.t 10], none⟩,
 ⟨some 52, .pure (.bin .add), [.t 50, .t 51], none⟩,
 ⟨some 53, .pure .move, [.t 0], none⟩,
 ⟨some 54, .pure .move, [.t 1], none⟩,
 ⟨some 55, .pure .move, [.t 10], none⟩,
 ⟨some 56, .pure (.bin .add), [.t 54, .t 55], none⟩,
 ⟨some 57, .pure (.iaddrS 1), [.t 53, .t 56], none⟩,
 ⟨some 58, .read (.load none), [.t 57], none⟩,
 ⟨some 59, .pure .move, [.t 0], none⟩,
 ⟨some 60, .pure .move, [.t 9], none⟩,
 ⟨some 61, .pure (.iaddrS 1), [.t 59, .t 60], none⟩,
 ⟨some 62, .read (.load none), [.t 61], none⟩,
 ⟨some 63, .pure (.iaddrS 1), [.t 47, .t 48], none⟩,
 ⟨none, .eff (.store 1), [.t 63, .t 58], none⟩,
 ⟨some 64, .pure (.iaddrS 1), [.t 49, .t 52], none⟩,
 ⟨none, .eff (.store 1), [.t 64, .t 62], none⟩]))))
 (.ops [⟨some 34, .pure .move, [.t 9], none⟩,
 ⟨some 35, .pure (.bin .add), [.t 34, .c (.int .i64 1)], none⟩,
 ⟨some 9, .pure .move, [.t 35], none⟩]))))))))
 .skip))) }
/-- slices.choosePivotOrdered[int] -/
def ac222:AFn:=
 { nt:=57, res:=[.tmp 6, .tmp 7], body:=
 (.seq (.ops [⟨some 6, .pure .move, [.c (.int .i64 0)], none⟩,
 ⟨some 7, .pure .move, [.c (.int .i64 0)], none⟩])
 (.seq (.ops [⟨some 13, .pure .move, [.t 2], none⟩,
 ⟨some 14, .pure .move, [.t 1], none⟩,
 ⟨some 15, .pure (.bin .sub), [.t 13, .t 14], none⟩,
 ⟨some 8, .pure .move, [.t 15], none⟩])
 (.seq (.ops [⟨some 9, .new (.new 1 [.int .i64 0]), [], none⟩])
 (.seq (.ops [⟨some 16, .pure .move, [.t 1], none⟩,
 ⟨some 17, .pure .move, [.t 8], none⟩,
 ⟨some 18, .pure (.bin .quo), [.t 17, .c (.int .i64 4)], none⟩,
 ⟨some 19, .pure (.bin .mul), [.t 18, .c (.int .i64 1)], none⟩,
 ⟨some 20, .pure (.bin .add), [.t 16, .t 19], none⟩,
 ⟨some 10, .pure .move, [.t 20], none⟩])
 (.seq (.ops [⟨some 21, .pure .move, [.t 1], none⟩,
 ⟨some 22, .pure .move, [.t 8], none⟩,
 ⟨some 23, .pure (.bin .quo), [.t 22, .c (.int .i64 4)], none⟩,
 ⟨some 24, .pure (.bin .mul), [.t 23, .c (.int .i64 2)], none⟩,
 ⟨some 25, .pure (.bin .add), [.t 21, .t 24], none⟩,
 ⟨some 11, .pure .move, [.t 25], none⟩])
 (.seq (.ops [⟨some 26, .pure .move, [.t 1], none⟩,
 ⟨some 27, .pure .move, [.t 8], none⟩,
 ⟨some 28, .pure (.bin .quo), [.t 27, .c (.int .i64 4)], none⟩,
 ⟨some 29, .pure (.bin .mul), [.t 28, .c (.int .i64 3)], none⟩,
 ⟨some 30, .pure (.bin .add), [.t 26, .t 29], none⟩,
 ⟨some 12, .pure .move, [.t 30], none⟩])
 (.seq (.seq (.ops [⟨some 31, .pure .move, [.t 8], none⟩,
 ⟨some 32, .pure (.bin .geq), [.t 31, .c (.int .i64 8)], none⟩])
 (.cond (.t 32)
 (.seq (.seq (.ops [⟨some 33, .pure .move, [.t 8], none⟩,
 ⟨some 34, .pure (.bin .geq), [.t 33, .c (.int .i64 50)], none⟩])
 (.cond (.t 34)
 (.seq (.ops [⟨some 35, .pure .move, [.t 0], none⟩,
 ⟨some 36, .pure .move, [.t 10], none⟩,
 ⟨some 37, .call 248, [.t 35, .t 36, .t 9], none⟩,
 ⟨some 10, .pure .move, [.t 37], none⟩])
 (.seq (.ops [⟨some 38, .pure .move, [.t 0], none⟩,
 ⟨some 39, .pure .move, [.t 11], none⟩,
 ⟨some 40, .call 248, [.t 38, .t 39, .t 9], none⟩,
 ⟨some 11, .pure .move, [.t 40], none⟩])
 (.ops [⟨some 41, .pure .move, [.t 0], none⟩,
 ⟨some 42, .pure .move, [.t 12], none⟩,
 ⟨some 43, .call 248, [.t 41, .t 42, .t 9], none⟩,
 ⟨some 12, .pure .move, [.t 43], none⟩])))
 .skip))
 (.ops [⟨some 44, .pure .move, [.t 0], none⟩,
 ⟨some 45, .pure .move, [.t 10], none⟩,
 ⟨some 46, .pure .move, [.t 11], none⟩,
 ⟨some 47, .pure .move, [.t 12], none⟩,
 ⟨some 48, .call 249, [.t 44, .t 45, .t 46, .t 47, .t 9], none⟩,
 ⟨some 11, .pure .move, [.t 48], none⟩]))
 .skip))
 (.seq (.ops [⟨some 49, .read (.load none), [.t 9], none⟩])
 (.block 0
 (.seq (.ops [⟨some 52, .pure (.bin .eql), [.t 49, .c (.int .i64 0)], none⟩,
 ⟨some 51, .pure .move, [.t 52], none⟩])
 (.cond (.t 51)
 (.seq (.ops [⟨some 53, .pure .move, [.t 11], none⟩,
 ⟨some 6, .pure .move, [.t 53], none⟩,
 ⟨some 7, .pure .move, [.c (.int .i64 1)], none⟩])
 .ret)
 (.seq (.ops [⟨some 55, .pure (.bin .eql), [.t 49, .c (.int .i64 12)], none⟩,
 ⟨some 54, .pure .move, [.t 55], none⟩])
 (.cond (.t 54)
 (.seq (.ops [⟨some 56, .pure .move, [.t 11], none⟩,
 ⟨some 6, .pure .move, [.t 56], none⟩,
 ⟨some 7, .pure .move, [.c (.int .i64 2)], none⟩])
 .ret)
 (.seq (.ops [⟨some 50, .pure .move, [.t 11], none⟩,
 ⟨some 6, .pure .move, [.t 50], none⟩,
 ⟨some 7, .pure .move, [.c (.int .i64 0)], none⟩])
 .ret)))))))))))))) }
/-- slices.reverseRangeOrdered[int] -/
def ac223:AFn:=
 { nt:=32, res:=[], body:=
 (.seq (.ops [⟨some 8, .pure .move, [.t 1], none⟩,
 ⟨some 6, .pure .move, [.t 8], none⟩])
 (.seq (.ops [⟨some 9, .pure .move, [.t 2], none⟩,
 ⟨some 10, .pure (.bin .sub), [.t 9, .c (.int .i64 1)], none⟩,
 ⟨some 7, .pure .move, [.t 10], none⟩])
 (.block 0
 (.loop [0, 6, 7]
 (.seq (.seq (.ops [⟨some 11, .pure .move, [.t 6], none⟩,
 ⟨some 12, .pure .move, [.t 7], none⟩,
 ⟨some 13, .pure (.bin .lss), [.t 11, .t 12], none⟩])
 (.cond (.t 13)
 .skip
 (.exit 0)))
 (.block 1
 (.seq (.ops [⟨some 14, .pure .move, [.t 0], none⟩,
 ⟨some 15, .pure .move, [.t 6], none⟩,
 ⟨some 16, .pure .move, [.t 0], none⟩,
 ⟨some 17, .pure .move, [.t 7], none⟩,
 ⟨some 18, .pure .move, [.t 0], none⟩,
 ⟨some 19, .pure .move, [.t 7], none⟩,
 ⟨some 20, .pure (.iaddrS 1), [.t 18, .t 19], none⟩,
 ⟨some 21, .read (.load none), [.t 20], none⟩,
 ⟨some 22, .pure .move, [.t 0], none⟩,
 ⟨some 23, .pure .move, [.t 6], none⟩,
 ⟨some 24, .pure (.iaddrS 1), [.t 22, .t 23], none⟩,
 ⟨some 25, .read (.load none), [.t 24], none⟩,
 ⟨some 26, .pure (.iaddrS 1), [.t 14, .t 15], none⟩,
 ⟨none, .eff (.store 1), [.t 26, .t 21], none⟩,
 ⟨some 27, .pure (.iaddrS 1), [.t 16, .t 17], none⟩,
 ⟨none, .eff (.store 1), [.t 27, .t 25], none⟩])
 (.seq (.ops [⟨some 28, .pure .move, [.t 6], none⟩,
 ⟨some 29, .pure (.bin .add), [.t 28, .c (.int .i64 1)], none⟩,
 ⟨some 6, .pure .move, [.t 29], none⟩])
 (.ops [⟨some 30, .pure .move, [.t 7], none⟩,
 ⟨some 31, .pure (.bin .sub), [.t 30, .c (.int .i64 1)], none⟩,
 ⟨some 7, .pure .move, [.t 31], none⟩]))))))))) }
/-- slices.partialInsertionSortOrdered[int] -/
def ac224:AFn:=
 { nt:=133, res:=[.tmp 6], body:=
 (.seq (.ops [⟨some 6, .pure .move, [.c (.bool false)], none⟩])
 (.seq (.ops [⟨some 11, .pure .move, [.t 1], none⟩,
 ⟨some 12, .pure (.bin .add), [.t 11, .c (.int .i64 1)], none⟩,
 ⟨some 7, .pure .move, [.t 12], none⟩])
 (.seq (.seq (.ops [⟨some 8, .pure .move, [.c (.int .i64 0)], none⟩])
 (.block 0
 (.loop [0, 1, 2, 7, 8]
 (.seq (.seq (.ops [⟨some 13, .pure .move, [.t 8], none⟩,
 ⟨some 14, .pure (.bin .lss), [.t 13, .c (.int .i64 5)], none⟩])
 (.cond (.t 14)
 .skip
 (.exit 0)))
 (.seq (.block 1
 (.seq (.block 2
 (.loop [0, 1, 2, 7, 8]
 (.seq (.seq (.ops [⟨some 17, .pure .move, [.t 7], none⟩,
 ⟨some 18, .pure .move, [.t 2], none⟩,
 ⟨some 19, .pure (.bin .lss), [.t 17, .t 18], none⟩,
 ⟨some 20, .pure .move, [.t 19], none⟩,
 ⟨some 21, .pure .move, [.t 0], some (20, true)⟩,
 ⟨some 22, .pure .move, [.t 7], some (20, true)⟩,
 ⟨some 23, .pure (.iaddrS 1), [.t 21, .t 22], some (20, true)⟩,
 ⟨some 24, .read (.load none), [.t 23], some (20, true)⟩,
 ⟨some 25, .pure .move, [.t 0], some (20, true)⟩,
 ⟨some 26, .pure .move, [.t 7], some (20, true)⟩,
 ⟨some 27, .pure (.bin .sub), [.t 26, .c (.int .i64 1)], some (20, true)⟩,
 ⟨some 28, .pure (.iaddrS 1), [.t 25, .t 27], some (20, true)⟩,
 ⟨some 29, .read (.load none), [.t 28], some (20, true)⟩,
 ⟨some 30, .pcall 225, [.t 24, .t 29], some (20, true)⟩,
 ⟨some 31, .pure (.un .not), [.t 30], some (20, true)⟩,
 ⟨some 32, .pure .pick, [.t 20, .t 31, .c (.bool false)], none⟩])
 (.cond (.t 32)
 .skip
 (.exit 2)))
 (.block 3
 (.ops [⟨some 33, .pure .move, [.t 7], none⟩,
 ⟨some 34, .pure (.bin .add), [.t 33, .c (.int .i64 1)], none⟩,
 ⟨some 7, .pure .move, [.t 34], none⟩])))))
 (.seq (.seq (.ops [⟨some 35, .pure .move, [.t 7], none⟩,
 ⟨some 36, .pure .move, [.t 2], none⟩,
 ⟨some 37, .pure (.bin .eql), [.t 35, .t 36], none⟩])
 (.cond (.t 37)
 (.seq (.ops [⟨some 6, .pure .move, [.c (.bool true)], none⟩])
 .ret)
 .skip))
 (.seq (.seq (.ops [⟨some 38, .pure .move, [.t 2], none⟩,
 ⟨some 39, .pure .move, [.t 1], none⟩,
 ⟨some 40, .pure (.bin .sub), [.t 38, .t 39], none⟩,
 ⟨some 41, .pure (.bin .lss), [.t 40, .c (.int .i64 50)], none⟩])
 (.cond (.t 41)
 (.seq (.ops [⟨some 6, .pure .move, [.c (.bool false)], none⟩])
 .ret)
 .skip))
 (.seq (.ops [⟨some 42, .pure .move, [.t 0], none⟩,
 ⟨some 43, .pure .move, [.t 7], none⟩,
 ⟨some 44, .pure .move, [.t 0], none⟩,
 ⟨some 45, .pure .move, [.t 7], none⟩,
 ⟨some 46, .pure (.bin .sub), [.t 45, .c (.int .i64 1)], none⟩,
 ⟨some 47, .pure .move, [.t 0], none⟩,
 ⟨some 48, .pure .move, [.t 7], none⟩,
 ⟨some 49, .pure (.bin .sub), [.t 48, .c (.int .i64 1)], none⟩,
 ⟨some 50, .pure (.iaddrS 1), [.t 47, .t 49], none⟩,
 ⟨some 51, .read (.load none), [.t 50], none⟩,
 ⟨some 52, .pure .move, [.t 0], none⟩,
 ⟨some 53, .pure .move, [.t 7], none⟩,
 ⟨some 54, .pure (.iaddrS 1), [.t 52, .t 53], none⟩,
 ⟨some 55, .read (.load none), [.t 54], none⟩,
 ⟨some 56, .pure (.iaddrS 1), [.t 42, .t 43], none⟩,
 ⟨none, .eff (.store 1), [.t 56, .t 51], none⟩,
 ⟨some 57, .pure (.iaddrS 1), [.t 44, .t 46], none⟩,
 ⟨none, .eff (.store 1), [.t 57, .t 55], none⟩])
 (.seq (.seq (.ops [⟨some 58, .pure .move, [.t 7], none⟩,
 ⟨some 59, .pure .move, [.t 1], none⟩,
 ⟨some 60, .pure (.bin .sub), [.t 58, .t 59], none⟩,
 ⟨some 61, .pure (.bin .geq), [.t 60, .c (.int .i64 2)], none⟩])
 (.cond (.t 61)
 (.seq (.ops [⟨some 62, .pure .move, [.t 7], none⟩,
 ⟨some 63, .pure (.bin .sub), [.t 62, .c (.int .i64 1)], none⟩,
 ⟨some 9, .pure .move, [.t 63], none⟩])
 (.block 4
 (.loop [0, 1, 2, 7, 8, 9]
 (.seq (.seq (.ops [⟨some 64, .pure .move, [.t 9], none⟩,
 ⟨some 65, .pure (.bin .geq), [.t 64, .c (.int .i64 1)], none⟩])
 (.cond (.t 65)
 .skip
 (.exit 4)))
 (.seq (.block 5
 (.seq (.seq (.ops [⟨some 68, .pure .move, [.t 0], none⟩,
 ⟨some 69, .pure .move, [.t 9], none⟩,
 ⟨some 70, .pure (.iaddrS 1), [.t 68, .t 69], none⟩,
 ⟨some 71, .read (.load none), [.t 70], none⟩,
 ⟨some 72, .pure .move, [.t 0], none⟩,
 ⟨some 73, .pure .move, [.t 9], none⟩,
 ⟨some 74, .pure (.bin .sub), [.t 73, .c (.int .i64 1)], none⟩,
 ⟨some 75, .pure (.iaddrS 1), [.t 72, .t 74], none⟩,
 ⟨some 76, .read (.load none), [.t 75], none⟩,
 ⟨some 77, .pcall 225, [.t 71, .t 76], none⟩,
 ⟨some 78, .pure (.un .not), [.t 77], none⟩])
 (.cond (.t 78)
 (.exit 4)
 .skip))
 (.ops [⟨some 79, .pure .move, [.t 0], none⟩,
 ⟨some 80, .pure .move, [.t 9], none⟩,
 ⟨some 81, .pure .move, [.t 0], none⟩,
 ⟨some 82, .pure .move, [.t 9], none⟩,
 ⟨some 83, .pure (.bin .sub), [.t 82, .c (.int .i64 1)], none⟩,
 ⟨some 84, .pure .move, [.t 0], none⟩,
 ⟨some 85, .pure .move, [.t 9], none⟩,
 ⟨some 86, .pure (.bin .sub), [.t 85, .c (.int .i64 1)], none⟩,
 ⟨some 87, .pure (.iaddrS 1), [.t 84, .t 86], none⟩,
 ⟨some 88, .read (.load none), [.t 87], none⟩,
 ⟨some 89, .pure .move, [.t 0], none⟩,
 ⟨some 90, .pure .move, [.t 9], none⟩,
 ⟨some 91, .pure (.iaddrS 1), [.t 89, .t 90], none⟩,
 ⟨some 92, .read (.load none), [.t 91], none⟩,
 ⟨some 93, .pure (.iaddrS 1), [.t 79, .t 80], none⟩,
 ⟨none, .eff (.store 1), [.t 93, .t 88], none⟩,
 ⟨some 94, .pure (.iaddrS 1), [.t 81, .t 83], none⟩,
 ⟨none, .eff (.store 1), [.t 94, .t 92], none⟩])))
 (.ops [⟨some 66, .pure .move, [.t 9], none⟩,
 ⟨some 67, .pure (.bin .sub), [.t 66, .c (.int .i64 1)], none⟩,
 ⟨some 9, .pure .move, [.t 67], none⟩]))))))
 .skip))
 (.seq (.ops [⟨some 95, .pure .move, [.t 2], none⟩,
 ⟨some 96, .pure .move, [.t 7], none⟩,
 ⟨some 97, .pure (.bin .sub), [.t 95, .t 96], none⟩,
 ⟨some 98, .pure (.bin .geq), [.t 97, .c (.int .i64 2)], none⟩])
 (.cond (.t 98)
 (.seq (.ops [⟨some 99, .pure .move, [.t 7], none⟩,
 ⟨some 100, .pure (.bin .add), [.t 99, .c (.int .i64 1)], none⟩,
 ⟨some 10, .pure .move, [.t 100], none⟩])
 (.block 6
 (.loop [0, 1, 2, 7, 8, 10]
 (.seq (.seq (.ops [⟨some 101, .pure .move, [.t 10], none⟩,
 ⟨some 102, .pure .move, [.t 2], none⟩,
 ⟨some 103, .pure (.bin .lss), [.t 101, .t 102], none⟩])
 (.cond (.t 103)
 .skip
 (.exit 6)))
 (.seq (.block 7
 (.seq (.seq (.ops [⟨some 106, .pure .move, [.t 0], none⟩,
 ⟨some 107, .pure .move, [.t 10], none⟩,
 ⟨some 108, .pure (.iaddrS 1), [.t 106, .t 107], none⟩,
 ⟨some 109, .read (.load none), [.t 108], none⟩,
 ⟨some 110, .pure .move, [.t 0], none⟩,
 ⟨some 111, .pure .move, [.t 10], none⟩,
 ⟨some 112, .pure (.bin .sub), [.t 111, .c (.int .i64 1)], none⟩,
 ⟨some 113, .pure (.iaddrS 1), [.t 110, .t 112], none⟩,
 ⟨some 114, .read (.load none), [.t 113], none⟩,
 ⟨some 115, .pcall 225, [.t 109, .t 114], none⟩,
 ⟨some 116, .pure (.un .not), [.t 115], none⟩])
 (.cond (.t 116)
 (.exit 6)
 .skip))
 (.ops [⟨some 117, .pure .move, [.t 0], none⟩,
 ⟨some 118, .pure .move, [.t 10], none⟩,
 ⟨some 119, .pure .move, [.t 0], none⟩,
 ⟨some 120, .pure .move, [.t 10], none⟩,
 ⟨some 121, .pure (.bin .sub), [.t 120, .c (.int .i64 1)], none⟩,
 ⟨some 122, .pure .move, [.t 0], none⟩,
 ⟨some 123, .pure .move, [.t 10], none⟩,
 ⟨some 124, .pure (.bin .sub), [.t 123, .c (.int .i64 1)], none⟩,
 ⟨some 125, .pure (.iaddrS 1), [.t 122, .t 124], none⟩,
 ⟨some 126, .read (.load none), [.t 125], none⟩,
 ⟨some 127, .pure .move, [.t 0], none⟩,
 ⟨some 128, .pure .move, [.t 10], none⟩,
 ⟨some 129, .pure (.iaddrS 1), [.t 127, .t 128], none⟩,
 ⟨some 130, .read (.load none), [.t 129], none⟩,
 ⟨some 131, .pure (.iaddrS 1), [.t 117, .t 118], none⟩,
 ⟨none, .eff (.store 1), [.t 131, .t 126], none⟩,
 ⟨some 132, .pure (.iaddrS 1), [.t 119, .t 121], none⟩,
 ⟨none, .eff (.store 1), [.t 132, .t 130], none⟩])))
 (.ops [⟨some 104, .pure .move, [.t 10], none⟩,
 ⟨some 105, .pure (.bin .add), [.t 104, .c (.int .i64 1)], none⟩,
 ⟨some 10, .pure .move, [.t 105], none⟩]))))))
 .skip))))))))
 (.ops [⟨some 15, .pure .move, [.t 8], none⟩,
 ⟨some 16, .pure (.bin .add), [.t 15, .c (.int .i64 1)], none⟩,
 ⟨some 8, .pure .move, [.t 16], none⟩]))))))
 (.seq (.ops [⟨some 6, .pure .move, [.c (.bool false)], none⟩])
 .ret)))) }
/-- cmp.Less[int] -/
def ac225:AFn:=
 { nt:=17, res:=[.tmp 4], body:=
 (.seq (.ops [⟨some 4, .pure .move, [.c (.bool false)], none⟩])
 (.seq (.ops [⟨some 5, .pure .move, [.t 0], none⟩,
 ⟨some 6, .pcall 74, [.t 5], none⟩,
 ⟨some 7, .pure .move, [.t 6], none⟩,
 ⟨some 8, .pure .move, [.t 1], some (7, true)⟩,
 ⟨some 9, .pcall 74, [.t 8], some (7, true)⟩,
 ⟨some 10, .pure (.un .not), [.t 9], some (7, true)⟩,
 ⟨some 11, .pure .pick, [.t 7, .t 10, .c (.bool false)], none⟩,
 ⟨some 12, .pure .move, [.t 11], none⟩,
 ⟨some 13, .pure .move, [.t 0], some (12, false)⟩,
 ⟨some 14, .pure .move, [.t 1], some (12, false)⟩,
 ⟨some 15, .pure (.bin .lss), [.t 13, .t 14], some (12, false)⟩,
 ⟨some 16, .pure .pick, [.t 12, .c (.bool true), .t 15], none⟩,
 ⟨some 4, .pure .move, [.t 16], none⟩])
 .ret)) }
/-- slices.partitionEqualOrdered[int] -/
def ac226:AFn:=
 { nt:=84, res:=[.tmp 8], body:=
 (.seq (.ops [⟨some 8, .pure .move, [.c (.int .i64 0)], none⟩])
 (.seq (.ops [⟨some 11, .pure .move, [.t 0], none⟩,
 ⟨some 12, .pure .move, [.t 1], none⟩,
 ⟨some 13, .pure .move, [.t 0], none⟩,
 ⟨some 14, .pure .move, [.t 3], none⟩,
 ⟨some 15, .pure .move, [.t 0], none⟩,
 ⟨some 16, .pure .move, [.t 3], none⟩,
 ⟨some 17, .pure (.iaddrS 1), [.t 15, .t 16], none⟩,
 ⟨some 18, .read (.load none), [.t 17], none⟩,
 ⟨some 19, .pure .move, [.t 0], none⟩,
 ⟨some 20, .pure .move, [.t 1], none⟩,
 ⟨some 21, .pure (.iaddrS 1), [.t 19, .t 20], none⟩,
 ⟨some 22, .read (.load none), [.t 21], none⟩,
 ⟨some 23, .pure (.iaddrS 1), [.t 11, .t 12], none⟩,
 ⟨none, .eff (.store 1), [.t 23, .t 18], none⟩,
 ⟨some 24, .pure (.iaddrS 1), [.t 13, .t 14], none⟩,
 ⟨none, .eff (.store 1), [.t 24, .t 22], none⟩])
 (.seq (.ops [⟨some 25, .pure .move, [.t 1], none⟩,
 ⟨some 26, .pure (.bin .add), [.t 25, .c (.int .i64 1)], none⟩,
 ⟨some 27, .pure .move, [.t 2], none⟩,
 ⟨some 28, .pure (.bin .sub), [.t 27, .c (.int .i64 1)], none⟩,
 ⟨some 9, .pure .move, [.t 26], none⟩,
 ⟨some 10, .pure .move, [.t 28], none⟩])
 (.seq (.block 0
 (.loop [0, 1, 9, 10]
 (.block 1
 (.seq (.block 2
 (.loop [0, 1, 9, 10]
 (.seq (.seq (.ops [⟨some 29, .pure .move, [.t 9], none⟩,
 ⟨some 30, .pure .move, [.t 10], none⟩,
 ⟨some 31, .pure (.bin .leq), [.t 29, .t 30], none⟩,
 ⟨some 32, .pure .move, [.t 31], none⟩,
 ⟨some 33, .pure .move, [.t 0], some (32, true)⟩,
 ⟨some 34, .pure .move, [.t 1], some (32, true)⟩,
 ⟨some 35, .pure (.iaddrS 1), [.t 33, .t 34], some (32, true)⟩,
 ⟨some 36, .read (.load none), [.t 35], some (32, true)⟩,
 ⟨some 37, .pure .move, [.t 0], some (32, true)⟩,
 ⟨some 38, .pure .move, [.t 9], some (32, true)⟩,
 ⟨some 39, .pure (.iaddrS 1), [.t 37, .t 38], some (32, true)⟩,
 ⟨some 40, .read (.load none), [.t 39], some (32, true)⟩,
 ⟨some 41, .pcall 225, [.t 36, .t 40], some (32, true)⟩,
 ⟨some 42, .pure (.un .not), [.t 41], some (32, true)⟩,
 ⟨some 43, .pure .pick, [.t 32, .t 42, .c (.bool false)], none⟩])
 (.cond (.t 43)
 .skip
 (.exit 2)))
 (.block 3
 (.ops [⟨some 44, .pure .move, [.t 9], none⟩,
 ⟨some 45, .pure (.bin .add), [.t 44, .c (.int .i64 1)], none⟩,
 ⟨some 9, .pure .move, [.t 45], none⟩])))))
 (.seq (.block 4
 (.loop [0, 1, 9, 10]
 (.seq (.seq (.ops [⟨some 46, .pure .move, [.t 9], none⟩,
 ⟨some 47, .pure .move, [.t 10], none⟩,
 ⟨some 48, .pure (.bin .leq), [.t 46, .t 47], none⟩,
 ⟨some 49, .pure .move, [.t 48], none⟩,
 ⟨some 50, .pure .move, [.t 0], some (49, true)⟩,
 ⟨some 51, .pure .move, [.t 1], some (49, true)⟩,
 ⟨some 52, .pure (.iaddrS 1), [.t 50, .t 51], some (49, true)⟩,
 ⟨some 53, .read (.load none), [.t 52], some (49, true)⟩,
 ⟨some 54, .pure .move, [.t 0], some (49, true)⟩,
 ⟨some 55, .pure .move, [.t 10], some (49, true)⟩,
 ⟨some 56, .pure (.iaddrS 1), [.t 54, .t 55], some (49, true)⟩,
 ⟨some 57, .read (.load none), [.t 56], some (49, true)⟩,
 ⟨some 58, .pcall 225, [.t 53, .t 57], some (49, true)⟩,
 ⟨some 59, .pure .pick, [.t 49, .t 58, .c (.bool false)], none⟩])
 (.cond (.t 59)
 .skip
 (.exit 4)))
 (.block 5
 (.ops [⟨some 60, .pure .move, [.t 10], none⟩,
 ⟨some 61, .pure (.bin .sub), [.t 60, .c (.int .i64 1)], none⟩,
 ⟨some 10, .pure .move, [.t 61], none⟩])))))
 (.seq (.seq (.ops [⟨some 62, .pure .move, [.t 9], none⟩,
 ⟨some 63, .pure .move, [.t 10], none⟩,
 ⟨some 64, .pure (.bin .gtr), [.t 62, .t 63], none⟩])
 (.cond (.t 64)
 (.exit 0)
 .skip))
 (.seq (.ops [⟨some 65, .pure .move, [.t 0], none⟩,
 ⟨some 66, .pure .move, [.t 9], none⟩,
 ⟨some 67, .pure .move, [.t 0], none⟩,
 ⟨some 68, .pure .move, [.t 10], none⟩,
 ⟨some 69, .pure .move, [.t 0], none⟩,
 ⟨some 70, .pure .move, [.t 10], none⟩,
 ⟨some 71, .pure (.iaddrS 1), [.t 69, .t 70], none⟩,
 ⟨some 72, .read (.load none), [.t 71], none⟩,
 ⟨some 73, .pure .move, [.t 0], none⟩,
 ⟨some 74, .pure .move, [.t 9], none⟩,
 ⟨some 75, .pure (.iaddrS 1), [.t 73, .t 74], none⟩,
 ⟨some 76, .read (.load none), [.t 75], none⟩,
 ⟨some 77, .pure (.iaddrS 1), [.t 65, .t 66], none⟩,
 ⟨none, .eff (.store 1), [.t 77, .t 72], none⟩,
 ⟨some 78, .pure (.iaddrS 1), [.t 67, .t 68], none⟩,
 ⟨none, .eff (.store 1), [.t 78, .t 76], none⟩])
 (.seq (.ops [⟨some 79, .pure .move, [.t 9], none⟩,
 ⟨some 80, .pure (.bin .add), [.t 79, .c (.int .i64 1)], none⟩,
 ⟨some 9, .pure .move, [.t 80], none⟩])
 (.ops [⟨some 81, .pure .move, [.t 10], none⟩,
 ⟨some 82, .pure (.bin .sub), [.t 81, .c (.int .i64 1)], none⟩,
 ⟨some 10, .pure .move, [.t 82], none⟩])))))))))
 (.seq (.ops [⟨some 83, .pure .move, [.t 9], none⟩,
 ⟨some 8, .pure .move, [.t 83], none⟩])
 .ret))))) }
/-- slices.partitionOrdered[int] -/
def ac227:AFn:=
 { nt:=168, res:=[.tmp 8, .tmp 9], body:=
 (.seq (.ops [⟨some 8, .pure .move, [.c (.int .i64 0)], none⟩,
 ⟨some 9, .pure .move, [.c (.bool false)], none⟩])
 (.seq (.ops [⟨some 12, .pure .move, [.t 0], none⟩,
 ⟨some 13, .pure .move, [.t 1], none⟩,
 ⟨some 14, .pure .move, [.t 0], none⟩,
 ⟨some 15, .pure .move, [.t 3], none⟩,
 ⟨some 16, .pure .move, [.t 0], none⟩,
 ⟨some 17, .pure .move, [.t 3], none⟩,
 ⟨some 18, .pure (.iaddrS 1), [.t 16, .t 17], none⟩,
 ⟨some 19, .read (.load none), [.t 18], none⟩,
 ⟨some 20, .pure .move, [.t 0], none⟩,
 ⟨some 21, .pure .move, [.t 1], none⟩,
 ⟨some 22, .pure (.iaddrS 1), [.t 20, .t 21], none⟩,
 ⟨some 23, .read (.load none), [.t 22], none⟩,
 ⟨some 24, .pure (.iaddrS 1), [.t 12, .t 13], none⟩,
 ⟨none, .eff (.store 1), [.t 24, .t 19], none⟩,
 ⟨some 25, .pure (.iaddrS 1), [.t 14, .t 15], none⟩,
 ⟨none, .eff (.store 1), [.t 25, .t 23], none⟩])
 (.seq (.ops [⟨some 26, .pure .move, [.t 1], none⟩,
 ⟨some 27, .pure (.bin .add), [.t 26, .c (.int .i64 1)], none⟩,
 ⟨some 28, .pure .move, [.t 2], none⟩,
 ⟨some 29, .pure (.bin .sub), [.t 28, .c (.int .i64 1)], none⟩,
 ⟨some 10, .pure .move, [.t 27], none⟩,
 ⟨some 11, .pure .move, [.t 29], none⟩])
 (.seq (.block 0
 (.loop [0, 1, 10, 11]
 (.seq (.seq (.ops [⟨some 30, .pure .move, [.t 10], none⟩,
 ⟨some 31, .pure .move, [.t 11], none⟩,
 ⟨some 32, .pure (.bin .leq), [.t 30, .t 31], none⟩,
 ⟨some 33, .pure .move, [.t 32], none⟩,
 ⟨some 34, .pure .move, [.t 0], some (33, true)⟩,
 ⟨some 35, .pure .move, [.t 10], some (33, true)⟩,
 ⟨some 36, .pure (.iaddrS 1), [.t 34, .t 35], some (33, true)⟩,
 ⟨some 37, .read (.load none), [.t 36], some (33, true)⟩,
 ⟨some 38, .pure .move, [.t 0], some (33, true)⟩,
 ⟨some 39, .pure .move, [.t 1], some (33, true)⟩,
 ⟨some 40, .pure (.iaddrS 1), [.t 38, .t 39], some (33, true)⟩,
 ⟨some 41, .read (.load none), [.t 40], some (33, true)⟩,
 ⟨some 42, .pcall 225, [.t 37, .t 41], some (33, true)⟩,
 ⟨some 43, .pure .pick, [.t 33, .t 42, .c (.bool false)], none⟩])
 (.cond (.t 43)
 .skip
 (.exit 0)))
 (.block 1
 (.ops [⟨some 44, .pure .move, [.t 10], none⟩,
 ⟨some 45, .pure (.bin .add), [.t 44, .c (.int .i64 1)], none⟩,
 ⟨some 10, .pure .move, [.t 45], none⟩])))))
 (.seq (.block 2
 (.loop [0, 1, 10, 11]
 (.seq (.seq (.ops [⟨some 46, .pure .move, [.t 10], none⟩,
 ⟨some 47, .pure .move, [.t 11], none⟩,
 ⟨some 48, .pure (.bin .leq), [.t 46, .t 47], none⟩,
 ⟨some 49, .pure .move, [.t 48], none⟩,
 ⟨some 50, .pure .move, [.t 0], some (49, true)⟩,
 ⟨some 51, .pure .move, [.t 11], some (49, true)⟩,
 ⟨some 52, .pure (.iaddrS 1), [.t 50, .t 51], some (49, true)⟩,
 ⟨some 53, .read (.load none), [.t 52], some (49, true)⟩,
 ⟨some 54, .pure .move, [.t 0], some (49, true)⟩,
 ⟨some 55, .pure .move, [.t 1], some (49, true)⟩,
 ⟨some 56, .pure (.iaddrS 1), [.t 54, .t 55], some (49, true)⟩,
 ⟨some 57, .read (.load none), [.t 56], some (49, true)⟩,
 ⟨some 58, .pcall 225, [.t 53, .t 57], some (49, true)⟩,
 ⟨some 59, .pure (.un .not), [.t 58], some (49, true)⟩,
 ⟨some 60, .pure .pick, [.t 49, .t 59, .c (.bool false)], none⟩])
 (.cond (.t 60)
 .skip
 (.exit 2)))
 (.block 3
 (.ops [⟨some 61, .pure .move, [.t 11], none⟩,
 ⟨some 62, .pure (.bin .sub), [.t 61, .c (.int .i64 1)], none⟩,
 ⟨some 11, .pure .move, [.t 62], none⟩])))))
 (.seq (.seq (.ops [⟨some 63, .pure .move, [.t 10], none⟩,
 ⟨some 64, .pure .move, [.t 11], none⟩,
 ⟨some 65, .pure (.bin .gtr), [.t 63, .t 64], none⟩])
 (.cond (.t 65)
 (.seq (.ops [⟨some 66, .pure .move, [.t 0], none⟩,
 ⟨some 67, .pure .move, [.t 11], none⟩,
 ⟨some 68, .pure .move, [.t 0], none⟩,
 ⟨some 69, .pure .move, [.t 1], none⟩,
 ⟨some 70, .pure .move, [.t 0], none⟩,
 ⟨some 71, .pure .move, [.t 1], none⟩,
 ⟨some 72, .pure (.iaddrS 1), [.t 70, .t 71], none⟩,
 ⟨some 73, .read (.load none), [.t 72], none⟩,
 ⟨some 74, .pure .move, [.t 0], none⟩,
 ⟨some 75, .pure .move, [.t 11], none⟩,
 ⟨some 76, .pure (.iaddrS 1), [.t 74, .t 75], none⟩,
 ⟨some 77, .read (.load none), [.t 76], none⟩,
 ⟨some 78, .pure (.iaddrS 1), [.t 66, .t 67], none⟩,
 ⟨none, .eff (.store 1), [.t 78, .t 73], none⟩,
 ⟨some 79, .pure (.iaddrS 1), [.t 68, .t 69], none⟩,
 ⟨none, .eff (.store 1), [.t 79, .t 77], none⟩])
 (.seq (.ops [⟨some 80, .pure .move, [.t 11], none⟩,
 ⟨some 8, .pure .move, [.t 80], none⟩,
 ⟨some 9, .pure .move, [.c (.bool true)], none⟩])
 .ret))
 .skip))
 (.seq (.ops [⟨some 81, .pure .move, [.t 0], none⟩,
 ⟨some 82, .pure .move, [.t 10], none⟩,
 ⟨some 83, .pure .move, [.t 0], none⟩,
 ⟨some 84, .pure .move, [.t 11], none⟩,
 ⟨some 85, .pure .move, [.t 0], none⟩,
 ⟨some 86, .pure .move, [.t 11], none⟩,
 ⟨some 87, .pure (.iaddrS 1), [.t 85, .t 86], none⟩,
 ⟨some 88, .read (.load none), [.t 87], none⟩,
 ⟨some 89, .pure .move, [.t 0], none⟩,
 ⟨some 90, .pure .move, [.t 10], none⟩,
 ⟨some 91, .pure (.iaddrS 1), [.t 89, .t 90], none⟩,
 ⟨some 92, .read (.load none), [.t 91], none⟩,
 ⟨some 93, .pure (.iaddrS 1), [.t 81, .t 82], none⟩,
 ⟨none, .eff (.store 1), [.t 93, .t 88], none⟩,
 ⟨some 94, .pure (.iaddrS 1), [.t 83, .t 84], none⟩,
 ⟨none, .eff (.store 1), [.t 94, .t 92], none⟩])
 (.seq (.ops [⟨some 95, .pure .move, [.t 10], none⟩,
 ⟨some 96, .pure (.bin .add), [.t 95, .c (.int .i64 1)], none⟩,
 ⟨some 10, .pure .move, [.t 96], none⟩])
 (.seq (.ops [⟨some 97, .pure .move, [.t 11], none⟩,
 ⟨some 98, .pure (.bin .sub), [.t 97, .c (.int .i64 1)], none⟩,
 ⟨some 11, .pure .move, [.t 98], none⟩])
 (.seq (.block 4
 (.loop [0, 1, 10, 11]
 (.block 5
 (.seq (.block 6
 (.loop [0, 1, 10, 11]
 (.seq (.seq (.ops [⟨some 99, .pure .move, [.t 10], none⟩,
 ⟨some 100, .pure .move, [.t 11], none⟩,
 ⟨some 101, .pure (.bin .leq), [.t 99, .t 100], none⟩,
 ⟨some 102, .pure .move, [.t 101], none⟩,
 ⟨some 103, .pure .move, [.t 0], some (102, true)⟩,
 ⟨some 104, .pure .move, [.t 10], some (102, true)⟩,
 ⟨some 105, .pure (.iaddrS 1), [.t 103, .t 104], some (102, true)⟩,
 ⟨some 106, .read (.load none), [.t 105], some (102, true)⟩,
 ⟨some 107, .pure .move, [.t 0], some (102, true)⟩,
 ⟨some 108, .pure .move, [.t 1], some (102, true)⟩,
 ⟨some 109, .pure (.iaddrS 1), [.t 107, .t 108], some (102, true)⟩,
 ⟨some 110, .read (.load none), [.t 109], some (102, true)⟩,
 ⟨some 111, .pcall 225, [.t 106, .t 110], some (102, true)⟩,
 ⟨some 112, .pure .pick, [.t 102, .t 111, .c (.bool false)], none⟩])
 (.cond (.t 112)
 .skip
 (.exit 6)))
 (.block 7
 (.ops [⟨some 113, .pure .move, [.t 10], none⟩,
 ⟨some 114, .pure (.bin .add), [.t 113, .c (.int .i64 1)], none⟩,
 ⟨some 10, .pure .move, [.t 114], none⟩])))))
 (.seq (.block 8
 (.loop [0, 1, 10, 11]
 (.seq (.seq (.ops [⟨some 115, .pure .move, [.t 10], none⟩,
 ⟨some 116, .pure .move, [.t 11], none⟩,
 ⟨some 117, .pure (.bin .leq), [.t 115, .t 116], none⟩,
 ⟨some 118, .pure .move, [.t 117], none⟩,
 ⟨some 119, .pure .move, [.t 0], some (118, true)⟩,
 ⟨some 120, .pure .move, [.t 11], some (118, true)⟩,
 ⟨some 121, .pure (.iaddrS 1), [.t 119, .t 120], some (118, true)⟩,
 ⟨some 122, .read (.load none), [.t 121], some (118, true)⟩,
 ⟨some 123, .pure .move, [.t 0], some (118, true)⟩,
 ⟨some 124, .pure .move, [.t 1], some (118, true)⟩,
 ⟨some 125, .pure (.iaddrS 1), [.t 123, .t 124], some (118, true)⟩,
 ⟨some 126, .read (.load none), [.t 125], some (118, true)⟩,
 ⟨some 127, .pcall 225, [.t 122, .t 126], some (118, true)⟩,
 ⟨some 128, .pure (.un .not), [.t 127], some (118, true)⟩,
 ⟨some 129, .pure .pick, [.t 118, .t 128, .c (.bool false)], none⟩])
 (.cond (.t 129)
 .skip
 (.exit 8)))
 (.block 9
 (.ops [⟨some 130, .pure .move, [.t 11], none⟩,
 ⟨some 131, .pure (.bin .sub), [.t 130, .c (.int .i64 1)], none⟩,
 ⟨some 11, .pure .move, [.t 131], none⟩])))))
 (.seq (.seq (.ops [⟨some 132, .pure .move, [.t 10], none⟩,
 ⟨some 133, .pure .move, [.t 11], none⟩,
 ⟨some 134, .pure (.bin .gtr), [.t 132, .t 133], none⟩])
 (.cond (.t 134)
 (.exit 4)
 .skip))
 (.seq (.ops [⟨some 135, .pure .move, [.t 0], none⟩,
 ⟨some 136, .pure .move, [.t 10], none⟩,
 ⟨some 137, .pure .move, [.t 0], none⟩,
 ⟨some 138, .pure .move, [.t 11], none⟩,
 ⟨some 139, .pure .move, [.t 0], none⟩,
 ⟨some 140, .pure .move, [.t 11], none⟩,
 ⟨some 141, .pure (.iaddrS 1), [.t 139, .t 140], none⟩,
 ⟨some 142, .read (.load none), [.t 141], none⟩,
 ⟨some 143, .pure .move, [.t 0], none⟩,
 ⟨some 144, .pure .move, [.t 10], none⟩,
 ⟨some 145, .pure (.iaddrS 1), [.t 143, .t 144], none⟩,
 ⟨some 146, .read (.load none), [.t 145], none⟩,
 ⟨some 147, .pure (.iaddrS 1), [.t 135, .t 136], none⟩,
 ⟨none, .eff (.store 1), [.t 147, .t 142], none⟩,
 ⟨some 148, .pure (.iaddrS 1), [.t 137, .t 138], none⟩,
 ⟨none, .eff (.store 1), [.t 148, .t 146], none⟩])
 (.seq (.ops [⟨some 149, .pure .move, [.t 10], none⟩,
 ⟨some 150, .pure (.bin .add), [.t 149, .c (.int .i64 1)], none⟩,
 ⟨some 10, .pure .move, [.t 150], none⟩])
 (.ops [⟨some 151, .pure .move, [.t 11], none⟩,
 ⟨some 152, .pure (.bin .sub), [.t 151, .c (.int .i64 1)], none⟩,
 ⟨some 11, .pure .move, [.t 152], none⟩])))))))))
 (.seq (.ops [⟨some 153, .pure .move, [.t 0], none⟩,
 ⟨some 154, .pure .move, [.t 11], none⟩,
 ⟨some 155, .pure .move, [.t 0], none⟩,
 ⟨some 156, .pure .move, [.t 1], none⟩,
 ⟨some 157, .pure .move, [.t 0], none⟩,
 ⟨some 158, .pure .move, [.t 1], none⟩,
 ⟨some 159, .pure (.iaddrS 1), [.t 157, .t 158], none⟩,
 ⟨some 160, .read (.load none), [.t 159], none⟩,
 ⟨some 161, .pure .move, [.t 0], none⟩,
 ⟨some 162, .pure .move, [.t 11], none⟩,
 ⟨some 163, .pure (.iaddrS 1), [.t 161, .t 162], none⟩,
 ⟨some 164, .read (.load none), [.t 163], none⟩,
 ⟨some 165, .pure (.iaddrS 1), [.t 153, .t 154], none⟩,
 ⟨none, .eff (.store 1), [.t 165, .t 160], none⟩,
 ⟨some 166, .pure (.iaddrS 1), [.t 155, .t 156], none⟩,
 ⟨none, .eff (.store 1), [.t 166, .t 164], none⟩])
 (.seq (.ops [⟨some 167, .pure .move, [.t 11], none⟩,
 ⟨some 8, .pure .move, [.t 167], none⟩,
 ⟨some 9, .pure .move, [.c (.bool false)], none⟩])
 .ret)))))))))))) }
/-- datakit/automaton.Valid -/
def ac231:AFn:=
 { nt:=68, res:=[.tmp 2], body:=
 (.seq (.ops [⟨some 1, .new (.box 1), [.t 0], none⟩,
 ⟨some 2, .pure .move, [.c (.bool false)], none⟩])
 (.seq (.seq (.ops [⟨some 8, .pure (.faddr 0), [.t 1], none⟩,
 ⟨some 9, .read (.load none), [.t 8], none⟩,
 ⟨some 10, .pure .lenL, [.t 9], none⟩,
 ⟨some 11, .pure (.bin .lss), [.t 10, .c (.int .i64 1)], none⟩,
 ⟨some 12, .pure .move, [.t 11], none⟩,
 ⟨some 13, .pure (.faddr 0), [.t 1], some (12, false)⟩,
 ⟨some 14, .read (.load none), [.t 13], some (12, false)⟩,
 ⟨some 15, .pure .lenL, [.t 14], some (12, false)⟩,
 ⟨some 16, .pure (.bin .gtr), [.t 15, .c (.int .i64 1024)], some (12, false)⟩,
 ⟨some 17, .pure .pick, [.t 12, .c (.bool true), .t 16], none⟩])
 (.cond (.t 17)
 (.seq (.ops [⟨some 2, .pure .move, [.c (.bool false)], none⟩])
 .ret)
 .skip))
 (.seq (.seq (.ops [⟨some 18, .pure (.faddr 0), [.t 1], none⟩,
 ⟨some 19, .read (.load none), [.t 18], none⟩,
 ⟨some 20, .pure .lenL, [.t 19], none⟩,
 ⟨some 21, .pure .move, [.c (.int .i64 0)], none⟩])
 (.block 0
 (.loop [1, 19, 20, 21]
 (.seq (.ops [⟨some 22, .pure (.bin .lss), [.t 21, .t 20], none⟩])
 (.seq (.cond (.t 22)
 .skip
 (.exit 0))
 (.seq (.block 1
 (.seq (.ops [⟨some 23, .pure (.iaddrS 2), [.t 19, .t 21], none⟩,
 ⟨some 24, .read (.load (some 2)), [.t 23], none⟩,
 ⟨some 4, .new (.new 2 [.agg [.bool false, .snil 3]]), [], none⟩,
 ⟨none, .eff (.store 2), [.t 4, .t 24], none⟩])
 (.seq (.ops [⟨some 5, .pure .move, [.c (.int .i64 0)], none⟩])
 (.seq (.seq (.ops [⟨some 25, .pure (.faddr 1), [.t 4], none⟩,
 ⟨some 26, .read (.load none), [.t 25], none⟩,
 ⟨some 27, .pure .lenL, [.t 26], none⟩,
 ⟨some 28, .pure .move, [.c (.int .i64 0)], none⟩])
 (.block 2
 (.loop [1, 5, 19, 20, 21, 26, 27, 28]
 (.seq (.ops [⟨some 29, .pure (.bin .lss), [.t 28, .t 27], none⟩])
 (.seq (.cond (.t 29)
 .skip
 (.exit 2))
 (.seq (.block 3
 (.seq (.ops [⟨some 30, .pure (.iaddrS 3), [.t 26, .t 28], none⟩,
 ⟨some 31, .read (.load (some 3)), [.t 30], none⟩,
 ⟨some 7, .new (.new 3 [.agg [.int .i64 0, .int .i64 0, .int .i64 0]]), [], none⟩,
 ⟨none, .eff (.store 3), [.t 7, .t 31], none⟩])
 (.seq (.seq (.ops [⟨some 32, .pure (.faddr 0), [.t 7], none⟩,
 ⟨some 33, .read (.load none), [.t 32], none⟩,
 ⟨some 34, .pure .move, [.t 5], none⟩,
 ⟨some 35, .pure (.bin .neq), [.t 33, .t 34], none⟩,
 ⟨some 36, .pure .move, [.t 35], none⟩,
 ⟨some 37, .pure (.faddr 1), [.t 7], some (36, false)⟩,
 ⟨some 38, .read (.load none), [.t 37], some (36, false)⟩,
 ⟨some 39, .pure (.faddr 0), [.t 7], some (36, false)⟩,
 ⟨some 40, .read (.load none), [.t 39], some (36, false)⟩,
 ⟨some 41, .pure (.bin .lss), [.t 38, .t 40], some (36, false)⟩,
 ⟨some 42, .pure .pick, [.t 36, .c (.bool true), .t 41], none⟩,
 ⟨some 43, .pure .move, [.t 42], none⟩,
 ⟨some 44, .pure (.faddr 1), [.t 7], some (43, false)⟩,
 ⟨some 45, .read (.load none), [.t 44], some (43, false)⟩,
 ⟨some 46, .pure (.bin .gtr), [.t 45, .c (.int .i64 255)], some (43, false)⟩,
 ⟨some 47, .pure .pick, [.t 43, .c (.bool true), .t 46], none⟩,
 ⟨some 48, .pure .move, [.t 47], none⟩,
 ⟨some 49, .pure (.faddr 2), [.t 7], some (48, false)⟩,
 ⟨some 50, .read (.load none), [.t 49], some (48, false)⟩,
 ⟨some 51, .pure (.bin .lss), [.t 50, .c (.int .i64 0)], some (48, false)⟩,
 ⟨some 52, .pure .pick, [.t 48, .c (.bool true), .t 51], none⟩,
 ⟨some 53, .pure .move, [.t 52], none⟩,
 ⟨some 54, .pure (.faddr 2), [.t 7], some (53, false)⟩,
 ⟨some 55, .read (.load none), [.t 54], some (53, false)⟩,
 ⟨some 56, .pure (.faddr 0), [.t 1], some (53, false)⟩,
 ⟨some 57, .read (.load none), [.t 56], some (53, false)⟩,
 ⟨some 58, .pure .lenL, [.t 57], some (53, false)⟩,
 ⟨some 59, .pure (.bin .geq), [.t 55, .t 58], some (53, false)⟩,
 ⟨some 60, .pure .pick, [.t 53, .c (.bool true), .t 59], none⟩])
 (.cond (.t 60)
 (.seq (.ops [⟨some 2, .pure .move, [.c (.bool false)], none⟩])
 .ret)
 .skip))
 (.ops [⟨some 61, .pure (.faddr 1), [.t 7], none⟩,
 ⟨some 62, .read (.load none), [.t 61], none⟩,
 ⟨some 63, .pure (.bin .add), [.t 62, .c (.int .i64 1)], none⟩,
 ⟨some 5, .pure .move, [.t 63], none⟩]))))
 (.ops [⟨some 64, .pure (.bin .add), [.t 28, .c (.int .i64 1)], none⟩,
 ⟨some 28, .pure .move, [.t 64], none⟩])))))))
 (.seq (.ops [⟨some 65, .pure .move, [.t 5], none⟩,
 ⟨some 66, .pure (.bin .neq), [.t 65, .c (.int .i64 256)], none⟩])
 (.cond (.t 66)
 (.seq (.ops [⟨some 2, .pure .move, [.c (.bool false)], none⟩])
 .ret)
 .skip))))))
 (.ops [⟨some 67, .pure (.bin .add), [.t 21, .c (.int .i64 1)], none⟩,
 ⟨some 21, .pure .move, [.t 67], none⟩])))))))
 (.seq (.ops [⟨some 2, .pure .move, [.c (.bool true)], none⟩])
 .ret)))) }
/-- slices.siftDownOrdered[int] -/
def ac247:AFn:=
 { nt:=76, res:=[], body:=
 (.seq (.ops [⟨some 10, .pure .move, [.t 1], none⟩,
 ⟨some 8, .pure .move, [.t 10], none⟩])
 (.block 0
 (.loop [0, 2, 3, 8]
 (.block 1
 (.seq (.ops [⟨some 11, .pure .move, [.t 8], none⟩,
 ⟨some 12, .pure (.bin .mul), [.c (.int .i64 2), .t 11], none⟩,
 ⟨some 13, .pure (.bin .add), [.t 12, .c (.int .i64 1)], none⟩,
 ⟨some 9, .pure .move, [.t 13], none⟩])
 (.seq (.seq (.ops [⟨some 14, .pure .move, [.t 9], none⟩,
 ⟨some 15, .pure .move, [.t 2], none⟩,
 ⟨some 16, .pure (.bin .geq), [.t 14, .t 15], none⟩])
 (.cond (.t 16)
 (.exit 0)
 .skip))
 (.seq (.seq (.ops [⟨some 17, .pure .move, [.t 9], none⟩,
 ⟨some 18, .pure (.bin .add), [.t 17, .c (.int .i64 1)], none⟩,
 ⟨some 19, .pure .move, [.t 2], none⟩,
 ⟨some 20, .pure (.bin .lss), [.t 18, .t 19], none⟩,
 ⟨some 21, .pure .move, [.t 20], none⟩,
 ⟨some 22, .pure .move, [.t 0], some (21, true)⟩,
 ⟨some 23, .pure .move, [.t 3], some (21, true)⟩,
 ⟨some 24, .pure .move, [.t 9], some (21, true)⟩,
 ⟨some 25, .pure (.bin .add), [.t 23, .t 24], some (21, true)⟩,
 ⟨some 26, .pure (.iaddrS 1), [.t 22, .t 25], some (21, true)⟩,
 ⟨some 27, .read (.load none), [.t 26], some (21, true)⟩,
 ⟨some 28, .pure .move, [.t 0], some (21, true)⟩,
 ⟨some 29, .pure .move, [.t 3], some (21, true)⟩,
 ⟨some 30, .pure .move, [.t 9], some (21, true)⟩,
 ⟨some 31, .pure (.bin .add), [.t 29, .t 30], some (21, true)⟩,
 ⟨some 32, .pure (.bin .add), [.t 31, .c (.int .i64 1)], some (21, true)⟩,
 ⟨some 33, .pure (.iaddrS 1), [.t 28, .t 32], some (21, true)⟩,
 ⟨some 34, .read (.load none), [.t 33], some (21, true)⟩,
 ⟨some 35, .pcall 225, [.t 27, .t 34], some (21, true)⟩,
 ⟨some 36, .pure .pick, [.t 21, .t 35, .c (.bool false)], none⟩])
 (.cond (.t 36)
 (.ops [⟨some 37, .pure .move, [.t 9], none⟩,
 ⟨some 38, .pure (.bin .add), [.t 37, .c (.int .i64 1)], none⟩,
 ⟨some 9, .pure .move, [.t 38], none⟩])
 .skip))
 (.seq (.seq (.ops [⟨some 39, .pure .move, [.t 0], none⟩,
 ⟨some 40, .pure .move, [.t 3], none⟩,
 ⟨some 41, .pure .move, [.t 8], none⟩,
 ⟨some 42, .pure (.bin .add), [.t 40, .t 41], none⟩,
 ⟨some 43, .pure (.iaddrS 1), [.t 39, .t 42], none⟩,
 ⟨some 44, .read (.load none), [.t 43], none⟩,
 ⟨some 45, .pure .move, [.t 0], none⟩,
 ⟨some 46, .pure .move, [.t 3], none⟩,
 ⟨some 47, .pure .move, [.t 9], none⟩,
 ⟨some 48, .pure (.bin .add), [.t 46, .t 47], none⟩,
 ⟨some 49, .pure (.iaddrS 1), [.t 45, .t 48], none⟩,
 ⟨some 50, .read (.load none), [.t 49], none⟩,
 ⟨some 51, .pcall 225, [.t 44, .t 50], none⟩,
 ⟨some 52, .pure (.un .not), [.t 51], none⟩])
 (.cond (.t 52)
 .ret
 .skip))
 (.seq (.ops [⟨some 53, .pure .move, [.t 0], none⟩,
 ⟨some 54, .pure .move, [.t 3], none⟩,
 ⟨some 55, .pure .move, [.t 8], none⟩,
 ⟨some 56, .pure (.bin .add), [.t 54, .t 55], none⟩,
 ⟨some 57, .pure .move, [.t 0], none⟩,
 ⟨some 58, .pure .move, [.t 3], none⟩,
 ⟨some 59, .pure .move, [.t 9], none⟩,
 ⟨some 60, .pure (.bin .add), [.t 58, .t 59], none⟩,
 ⟨some 61, .pure .move, [.t 0], none⟩,
 ⟨some 62, .pure .move, [.t 3], none⟩,
 ⟨some 63, .pure .move, [.t 9], none⟩,
 ⟨some 64, .pure (.bin .add), [.t 62, .t 63], none⟩,
 ⟨some 65, .pure (.iaddrS 1), [.t 61, .t 64], none⟩,
 ⟨some 66, .read (.load none), [.t 65], none⟩,
 ⟨some 67, .pure .move, [.t 0], none⟩,
 ⟨some 68, .pure .move, [.t 3], none⟩,
 ⟨some 69, .pure .move, [.t 8], none⟩,
 ⟨some 70, .pure (.bin .add), [.t 68, .t 69], none⟩,
 ⟨some 71, .pure (.iaddrS 1), [.t 67, .t 70], none⟩,
 ⟨some 72, .read (.load none), [.t 71], none⟩,
 ⟨some 73, .pure (.iaddrS 1), [.t 53, .t 56], none⟩,
 ⟨none, .eff (.store 1), [.t 73, .t 66], none⟩,
 ⟨some 74, .pure (.iaddrS 1), [.t 57, .t 60], none⟩,
 ⟨none, .eff (.store 1), [.t 74, .t 72], none⟩])
 (.ops [⟨some 75, .pure .move, [.t 9], none⟩,
 ⟨some 8, .pure .move, [.t 75], none⟩])))))))))) }
/-- slices.medianAdjacentOrdered[int] -/
def ac248:AFn:=
 { nt:=15, res:=[.tmp 6], body:=
 (.seq (.ops [⟨some 6, .pure .move, [.c (.int .i64 0)], none⟩])
 (.seq (.ops [⟨some 7, .pure .move, [.t 0], none⟩,
 ⟨some 8, .pure .move, [.t 1], none⟩,
 ⟨some 9, .pure (.bin .sub), [.t 8, .c (.int .i64 1)], none⟩,
 ⟨some 10, .pure .move, [.t 1], none⟩,
 ⟨some 11, .pure .move, [.t 1], none⟩,
 ⟨some 12, .pure (.bin .add), [.t 11, .c (.int .i64 1)], none⟩,
 ⟨some 13, .pure .move, [.t 2], none⟩,
 ⟨some 14, .call 249, [.t 7, .t 9, .t 10, .t 12, .t 13], none⟩,
 ⟨some 6, .pure .move, [.t 14], none⟩])
 .ret)) }
/-- slices.medianOrdered[int] -/
def ac249:AFn:=
 { nt:=36, res:=[.tmp 10], body:=
 (.seq (.ops [⟨some 10, .pure .move, [.c (.int .i64 0)], none⟩])
 (.seq (.ops [⟨some 12, .pure .move, [.t 0], none⟩,
 ⟨some 13, .pure .move, [.t 1], none⟩,
 ⟨some 14, .pure .move, [.t 2], none⟩,
 ⟨some 15, .pure .move, [.t 4], none⟩,
 ⟨some 16, .call 261, [.t 12, .t 13, .t 14, .t 15], none⟩,
 ⟨some 11, .pure .move, [.t 16], none⟩,
 ⟨some 17, .pure (.ext 0), [.t 11], none⟩,
 ⟨some 18, .pure (.ext 1), [.t 11], none⟩,
 ⟨some 1, .pure .move, [.t 17], none⟩,
 ⟨some 2, .pure .move, [.t 18], none⟩])
 (.seq (.ops [⟨some 20, .pure .move, [.t 0], none⟩,
 ⟨some 21, .pure .move, [.t 2], none⟩,
 ⟨some 22, .pure .move, [.t 3], none⟩,
 ⟨some 23, .pure .move, [.t 4], none⟩,
 ⟨some 24, .call 261, [.t 20, .t 21, .t 22, .t 23], none⟩,
 ⟨some 19, .pure .move, [.t 24], none⟩,
 ⟨some 25, .pure (.ext 0), [.t 19], none⟩,
 ⟨some 26, .pure (.ext 1), [.t 19], none⟩,
 ⟨some 2, .pure .move, [.t 25], none⟩,
 ⟨some 3, .pure .move, [.t 26], none⟩])
 (.seq (.ops [⟨some 28, .pure .move, [.t 0], none⟩,
 ⟨some 29, .pure .move, [.t 1], none⟩,
 ⟨some 30, .pure .move, [.t 2], none⟩,
 ⟨some 31, .pure .move, [.t 4], none⟩,
 ⟨some 32, .call 261, [.t 28, .t 29, .t 30, .t 31], none⟩,
 ⟨some 27, .pure .move, [.t 32], none⟩,
 ⟨some 33, .pure (.ext 0), [.t 27], none⟩,
 ⟨some 34, .pure (.ext 1), [.t 27], none⟩,
 ⟨some 1, .pure .move, [.t 33], none⟩,
 ⟨some 2, .pure .move, [.t 34], none⟩])
 (.seq (.ops [⟨some 35, .pure .move, [.t 2], none⟩,
 ⟨some 10, .pure .move, [.t 35], none⟩])
 .ret))))) }
/-- datakit/automaton.step -/
def ac252:AFn:=
 { nt:=27, res:=[.tmp 6], body:=
 (.seq (.ops [⟨some 3, .new (.box 1), [.t 0], none⟩,
 ⟨some 6, .pure .move, [.c (.int .i64 0)], none⟩])
 (.seq (.seq (.ops [⟨some 9, .pure (.faddr 0), [.t 3], none⟩,
 ⟨some 10, .read (.load none), [.t 9], none⟩,
 ⟨some 11, .pure .move, [.t 1], none⟩,
 ⟨some 12, .pure (.iaddrS 2), [.t 10, .t 11], none⟩,
 ⟨some 13, .pure (.faddr 1), [.t 12], none⟩,
 ⟨some 14, .read (.load none), [.t 13], none⟩,
 ⟨some 15, .pure .lenL, [.t 14], none⟩,
 ⟨some 16, .pure .move, [.c (.int .i64 0)], none⟩])
 (.block 0
 (.loop [2, 14, 15, 16]
 (.seq (.ops [⟨some 17, .pure (.bin .lss), [.t 16, .t 15], none⟩])
 (.seq (.cond (.t 17)
 .skip
 (.exit 0))
 (.seq (.block 1
 (.seq (.ops [⟨some 18, .pure (.iaddrS 3), [.t 14, .t 16], none⟩,
 ⟨some 19, .read (.load (some 3)), [.t 18], none⟩,
 ⟨some 8, .new (.new 3 [.agg [.int .i64 0, .int .i64 0, .int .i64 0]]), [], none⟩,
 ⟨none, .eff (.store 3), [.t 8, .t 19], none⟩])
 (.seq (.ops [⟨some 20, .pure .move, [.t 2], none⟩,
 ⟨some 21, .pure (.faddr 1), [.t 8], none⟩,
 ⟨some 22, .read (.load none), [.t 21], none⟩,
 ⟨some 23, .pure (.bin .leq), [.t 20, .t 22], none⟩])
 (.cond (.t 23)
 (.seq (.ops [⟨some 24, .pure (.faddr 2), [.t 8], none⟩,
 ⟨some 25, .read (.load none), [.t 24], none⟩,
 ⟨some 6, .pure .move, [.t 25], none⟩])
 .ret)
 .skip))))
 (.ops [⟨some 26, .pure (.bin .add), [.t 16, .c (.int .i64 1)], none⟩,
 ⟨some 16, .pure .move, [.t 26], none⟩])))))))
 (.seq (.ops [⟨some 6, .pure .move, [.c (.int .i64 0)], none⟩])
 .ret))) }
/-- slices.order2Ordered[int] -/
def ac261:AFn:=
 { nt:=28, res:=[.tmp 8, .tmp 9], body:=
 (.seq (.ops [⟨some 8, .pure .move, [.c (.int .i64 0)], none⟩,
 ⟨some 9, .pure .move, [.c (.int .i64 0)], none⟩])
 (.seq (.seq (.ops [⟨some 10, .pure .move, [.t 0], none⟩,
 ⟨some 11, .pure .move, [.t 2], none⟩,
 ⟨some 12, .pure (.iaddrS 1), [.t 10, .t 11], none⟩,
 ⟨some 13, .read (.load none), [.t 12], none⟩,
 ⟨some 14, .pure .move, [.t 0], none⟩,
 ⟨some 15, .pure .move, [.t 1], none⟩,
 ⟨some 16, .pure (.iaddrS 1), [.t 14, .t 15], none⟩,
 ⟨some 17, .read (.load none), [.t 16], none⟩,
 ⟨some 18, .pcall 225, [.t 13, .t 17], none⟩])
 (.cond (.t 18)
 (.seq (.ops [⟨some 19, .pure .move, [.t 3], none⟩,
 ⟨some 20, .pure .chk, [.t 19], none⟩,
 ⟨some 21, .read (.load none), [.t 20], none⟩,
 ⟨some 22, .pure (.bin .add), [.t 21, .c (.int .i64 1)], none⟩,
 ⟨some 23, .pure .chk, [.t 19], none⟩,
 ⟨none, .eff (.store 1), [.t 23, .t 22], none⟩])
 (.seq (.ops [⟨some 24, .pure .move, [.t 2], none⟩,
 ⟨some 25, .pure .move, [.t 1], none⟩,
 ⟨some 8, .pure .move, [.t 24], none⟩,
 ⟨some 9, .pure .move, [.t 25], none⟩])
 .ret))
 .skip))
 (.seq (.ops [⟨some 26, .pure .move, [.t 1], none⟩,
 ⟨some 27, .pure .move, [.t 2], none⟩,
 ⟨some 8, .pure .move, [.t 26], none⟩,
 ⟨some 9, .pure .move, [.t 27], none⟩])
 .ret))) }
/-- datakit/datakitlaw16.awake -/
def ac318:AFn:=
 { nt:=69, res:=[.tmp 0], body:=
 (.seq (.ops [⟨some 0, .pure .move, [.c (.bool false)], none⟩])
 (.seq (.ops [⟨some 8, .pcall 344, [.c (.str [97, 42])], none⟩,
 ⟨some 9, .pcall 339, [.t 8], none⟩,
 ⟨some 7, .pure .move, [.t 9], none⟩,
 ⟨some 10, .pure (.ext 0), [.t 7], none⟩,
 ⟨some 11, .pure (.ext 1), [.t 7], none⟩,
 ⟨some 1, .new (.new 1 [.agg [.snil 2]]), [], none⟩,
 ⟨none, .eff (.store 1), [.t 1, .t 10], none⟩,
 ⟨some 2, .pure .move, [.t 11], none⟩])
 (.seq (.ops [⟨some 13, .pcall 344, [.c (.str [40, 97, 98, 124, 99, 41, 42])], none⟩,
 ⟨some 14, .pcall 339, [.t 13], none⟩,
 ⟨some 12, .pure .move, [.t 14], none⟩,
 ⟨some 15, .pure (.ext 0), [.t 12], none⟩,
 ⟨some 16, .pure (.ext 1), [.t 12], none⟩,
 ⟨some 3, .new (.new 1 [.agg [.snil 2]]), [], none⟩,
 ⟨none, .eff (.store 1), [.t 3, .t 15], none⟩,
 ⟨some 4, .pure .move, [.t 16], none⟩])
 (.seq (.ops [⟨some 17, .pure (.build [.int .i64 0, .int .i64 0, .int .i64 0] [(0, 1), (1, 1), (2, 1)]), [.c (.int .i64 0), .c (.int .i64 96), .c (.int .i64 1)], none⟩,
 ⟨some 18, .pure (.build [.int .i64 0, .int .i64 0, .int .i64 0] [(0, 1), (1, 1)]), [.c (.int .i64 97), .c (.int .i64 97)], none⟩,
 ⟨some 19, .pure (.build [.int .i64 0, .int .i64 0, .int .i64 0] [(0, 1), (1, 1), (2, 1)]), [.c (.int .i64 98), .c (.int .i64 255), .c (.int .i64 1)], none⟩,
 ⟨some 20, .new (.buildSlice 3 [.agg [.int .i64 0, .int .i64 0, .int .i64 0], .agg [.int .i64 0, .int .i64 0, .int .i64 0], .agg [.int .i64 0, .int .i64 0, .int .i64 0]] [0, 1, 2]), [.t 17, .t 18, .t 19], none⟩,
 ⟨some 21, .pure (.build [.bool false, .snil 3] [(0, 1), (1, 1)]), [.c (.bool true), .t 20], none⟩,
 ⟨some 22, .pure (.build [.int .i64 0, .int .i64 0, .int .i64 0] [(0, 1), (1, 1), (2, 1)]), [.c (.int .i64 0), .c (.int .i64 255), .c (.int .i64 1)], none⟩,
 ⟨some 23, .new (.buildSlice 3 [.agg [.int .i64 0, .int .i64 0, .int .i64 0]] [0]), [.t 22], none⟩,
 ⟨some 24, .pure (.build [.bool false, .snil 3] [(1, 1)]), [.t 23], none⟩,
 ⟨some 25, .new (.buildSlice 2 [.agg [.bool false, .snil 3], .agg [.bool false, .snil 3]] [0, 1]), [.t 21, .t 24], none⟩,
 ⟨some 26, .pure (.build [.snil 2] [(0, 1)]), [.t 25], none⟩,
 ⟨some 5, .new (.new 1 [.agg [.snil 2]]), [], none⟩,
 ⟨none, .eff (.store 1), [.t 5, .t 26], none⟩])
 (.seq (.ops [⟨some 27, .read (.load (some 1)), [.t 3], none⟩,
 ⟨some 28, .pcall 328, [.t 27, .c (.int .i64 4)], none⟩,
 ⟨some 6, .pure .move, [.t 28], none⟩])
 (.seq (.ops [⟨some 29, .pure .move, [.t 2], none⟩,
 ⟨some 30, .pure (.bin .eql), [.t 29, .c (.int .i64 0)], none⟩,
 ⟨some 31, .pure .move, [.t 30], none⟩,
 ⟨some 32, .pure .move, [.t 4], some (31, true)⟩,
 ⟨some 33, .pure (.bin .eql), [.t 32, .c (.int .i64 0)], some (31, true)⟩,
 ⟨some 34, .pure .pick, [.t 31, .t 33, .c (.bool false)], none⟩,
 ⟨some 35, .pure .move, [.t 34], none⟩,
 ⟨some 36, .read (.load (some 1)), [.t 1], some (35, true)⟩,
 ⟨some 37, .read (.load (some 1)), [.t 5], some (35, true)⟩,
 ⟨some 38, .pcall 321, [.t 36, .t 37], some (35, true)⟩,
 ⟨some 39, .pure .pick, [.t 35, .t 38, .c (.bool false)], none⟩,
 ⟨some 40, .pure .move, [.t 39], none⟩,
 ⟨some 41, .pure .move, [.t 6], some (40, true)⟩,
 ⟨some 42, .pure .lenL, [.t 41], some (40, true)⟩,
 ⟨some 43, .pure (.bin .eql), [.t 42, .c (.int .i64 4)], some (40, true)⟩,
 ⟨some 44, .pure .pick, [.t 40, .t 43, .c (.bool false)], none⟩,
 ⟨some 45, .pure .move, [.t 44], none⟩,
 ⟨some 46, .pure .move, [.t 6], some (45, true)⟩,
 ⟨some 47, .pure (.iaddrS 1), [.t 46, .c (.int .i64 0)], some (45, true)⟩,
 ⟨some 48, .read (.load none), [.t 47], some (45, true)⟩,
 ⟨some 49, .pure (.bin .eql), [.t 48, .c (.str [])], some (45, true)⟩,
 ⟨some 50, .pure .pick, [.t 45, .t 49, .c (.bool false)], none⟩,
 ⟨some 51, .pure .move, [.t 50], none⟩,
 ⟨some 52, .pure .move, [.t 6], some (51, true)⟩,
 ⟨some 53, .pure (.iaddrS 1), [.t 52, .c (.int .i64 1)], some (51, true)⟩,
 ⟨some 54, .read (.load none), [.t 53], some (51, true)⟩,
 ⟨some 55, .pure (.bin .eql), [.t 54, .c (.str [99])], some (51, true)⟩,
 ⟨some 56, .pure .pick, [.t 51, .t 55, .c (.bool false)], none⟩,
 ⟨some 57, .pure .move, [.t 56], none⟩,
 ⟨some 58, .pure .move, [.t 6], some (57, true)⟩,
 ⟨some 59, .pure (.iaddrS 1), [.t 58, .c (.int .i64 2)], some (57, true)⟩,
 ⟨some 60, .read (.load none), [.t 59], some (57, true)⟩,
 ⟨some 61, .pure (.bin .eql), [.t 60, .c (.str [97, 98])], some (57, true)⟩,
 ⟨some 62, .pure .pick, [.t 57, .t 61, .c (.bool false)], none⟩,
 ⟨some 63, .pure .move, [.t 62], none⟩,
 ⟨some 64, .pure .move, [.t 6], some (63, true)⟩,
 ⟨some 65, .pure (.iaddrS 1), [.t 64, .c (.int .i64 3)], some (63, true)⟩,
 ⟨some 66, .read (.load none), [.t 65], some (63, true)⟩,
 ⟨some 67, .pure (.bin .eql), [.t 66, .c (.str [99, 99])], some (63, true)⟩,
 ⟨some 68, .pure .pick, [.t 63, .t 67, .c (.bool false)], none⟩,
 ⟨some 0, .pure .move, [.t 68], none⟩])
 .ret)))))) }
/-- datakit/automaton.And -/
def ac319:AFn:=
 { nt:=11, res:=[.cell 4 (some 1), .tmp 5], body:=
 (.seq (.ops [⟨some 2, .new (.box 1), [.t 0], none⟩,
 ⟨some 3, .new (.box 1), [.t 1], none⟩,
 ⟨some 4, .new (.new 1 [.agg [.snil 2]]), [], none⟩,
 ⟨some 5, .pure .move, [.c (.int .i64 0)], none⟩])
 (.seq (.ops [⟨some 6, .read (.load (some 1)), [.t 2], none⟩,
 ⟨some 7, .read (.load (some 1)), [.t 3], none⟩,
 ⟨some 8, .pcall 345, [.t 6, .t 7, .c (.fn 346 [])], none⟩,
 ⟨some 9, .pure (.ext 0), [.t 8], none⟩,
 ⟨some 10, .pure (.ext 1), [.t 8], none⟩,
 ⟨none, .eff (.store 1), [.t 4, .t 9], none⟩,
 ⟨some 5, .pure .move, [.t 10], none⟩])
 .ret)) }
/-- datakit/datakitref16.Same -/
def ac321:AFn:=
 { nt:=65, res:=[.tmp 4], body:=
 (.seq (.ops [⟨some 2, .new (.box 1), [.t 0], none⟩,
 ⟨some 3, .new (.box 1), [.t 1], none⟩,
 ⟨some 4, .pure .move, [.c (.bool false)], none⟩])
 (.seq (.seq (.ops [⟨some 9, .pure (.faddr 0), [.t 2], none⟩,
 ⟨some 10, .read (.load none), [.t 9], none⟩,
 ⟨some 11, .pure .lenL, [.t 10], none⟩,
 ⟨some 12, .pure (.faddr 0), [.t 3], none⟩,
 ⟨some 13, .read (.load none), [.t 12], none⟩,
 ⟨some 14, .pure .lenL, [.t 13], none⟩,
 ⟨some 15, .pure (.bin .neq), [.t 11, .t 14], none⟩])
 (.cond (.t 15)
 (.seq (.ops [⟨some 4, .pure .move, [.c (.bool false)], none⟩])
 .ret)
 .skip))
 (.seq (.seq (.ops [⟨some 5, .pure .move, [.c (.int .i64 0)], none⟩])
 (.block 0
 (.loop [2, 3, 5]
 (.seq (.seq (.ops [⟨some 16, .pure .move, [.t 5], none⟩,
 ⟨some 17, .pure (.faddr 0), [.t 2], none⟩,
 ⟨some 18, .read (.load none), [.t 17], none⟩,
 ⟨some 19, .pure .lenL, [.t 18], none⟩,
 ⟨some 20, .pure (.bin .lss), [.t 16, .t 19], none⟩])
 (.cond (.t 20)
 .skip
 (.exit 0)))
 (.seq (.block 1
 (.seq (.draw 2 [[⟨some 23, .pure (.faddr 0), [.t 2], none⟩,
 ⟨some 24, .read (.load none), [.t 23], none⟩,
 ⟨some 25, .pure .move, [.t 5], none⟩,
 ⟨some 26, .pure (.iaddrS 2), [.t 24, .t 25], none⟩,
 ⟨some 27, .read (.load (some 2)), [.t 26], none⟩,
 ⟨some 28, .pure (.faddr 0), [.t 3], none⟩,
 ⟨some 30, .pure .move, [.t 5], none⟩,
 ⟨some 6, .newAt 0 (.new 2 [.agg [.bool false, .snil 3]]), [], none⟩,
 ⟨some 7, .newAt 1 (.new 2 [.agg [.bool false, .snil 3]]), [], none⟩,
 ⟨some 29, .read (.load none), [.t 28], none⟩,
 ⟨some 31, .pure (.iaddrS 2), [.t 29, .t 30], none⟩,
 ⟨some 32, .read (.load (some 2)), [.t 31], none⟩,
 ⟨none, .eff (.store 2), [.t 6, .t 27], none⟩,
 ⟨none, .eff (.store 2), [.t 7, .t 32], none⟩],
 [⟨some 23, .pure (.faddr 0), [.t 2], none⟩,
 ⟨some 24, .read (.load none), [.t 23], none⟩,
 ⟨some 25, .pure .move, [.t 5], none⟩,
 ⟨some 26, .pure (.iaddrS 2), [.t 24, .t 25], none⟩,
 ⟨some 27, .read (.load (some 2)), [.t 26], none⟩,
 ⟨some 28, .pure (.faddr 0), [.t 3], none⟩,
 ⟨some 30, .pure .move, [.t 5], none⟩,
 ⟨some 6, .newAt 0 (.new 2 [.agg [.bool false, .snil 3]]), [], none⟩,
 ⟨some 7, .newAt 1 (.new 2 [.agg [.bool false, .snil 3]]), [], none⟩,
 ⟨some 29, .read (.load none), [.t 28], none⟩,
 ⟨some 31, .pure (.iaddrS 2), [.t 29, .t 30], none⟩,
 ⟨none, .eff (.store 2), [.t 6, .t 27], none⟩,
 ⟨some 32, .read (.load (some 2)), [.t 31], none⟩,
 ⟨none, .eff (.store 2), [.t 7, .t 32], none⟩],
 [⟨some 23, .pure (.faddr 0), [.t 2], none⟩,
 ⟨some 24, .read (.load none), [.t 23], none⟩,
 ⟨some 25, .pure .move, [.t 5], none⟩,
 ⟨some 26, .pure (.iaddrS 2), [.t 24, .t 25], none⟩,
 ⟨some 27, .read (.load (some 2)), [.t 26], none⟩,
 ⟨some 28, .pure (.faddr 0), [.t 3], none⟩,
 ⟨some 30, .pure .move, [.t 5], none⟩,
 ⟨some 6, .newAt 0 (.new 2 [.agg [.bool false, .snil 3]]), [], none⟩,
 ⟨some 7, .newAt 1 (.new 2 [.agg [.bool false, .snil 3]]), [], none⟩,
 ⟨none, .eff (.store 2), [.t 6, .t 27], none⟩,
 ⟨some 29, .read (.load none), [.t 28], none⟩,
 ⟨some 31, .pure (.iaddrS 2), [.t 29, .t 30], none⟩,
 ⟨some 32, .read (.load (some 2)), [.t 31], none⟩,
 ⟨none, .eff (.store 2), [.t 7, .t 32], none⟩]])
 (.seq (.seq (.ops [⟨some 33, .pure (.faddr 0), [.t 6], none⟩,
 ⟨some 34, .read (.load none), [.t 33], none⟩,
 ⟨some 35, .pure (.faddr 0), [.t 7], none⟩,
 ⟨some 36, .read (.load none), [.t 35], none⟩,
 ⟨some 37, .pure (.eqB true), [.t 34, .t 36], none⟩,
 ⟨some 38, .pure .move, [.t 37], none⟩,
 ⟨some 39, .pure (.faddr 1), [.t 6], some (38, false)⟩,
 ⟨some 40, .read (.load none), [.t 39], some (38, false)⟩,
 ⟨some 41, .pure .lenL, [.t 40], some (38, false)⟩,
 ⟨some 42, .pure (.faddr 1), [.t 7], some (38, false)⟩,
 ⟨some 43, .read (.load none), [.t 42], some (38, false)⟩,
 ⟨some 44, .pure .lenL, [.t 43], some (38, false)⟩,
 ⟨some 45, .pure (.bin .neq), [.t 41, .t 44], some (38, false)⟩,
 ⟨some 46, .pure .pick, [.t 38, .c (.bool true), .t 45], none⟩])
 (.cond (.t 46)
 (.seq (.ops [⟨some 4, .pure .move, [.c (.bool false)], none⟩])
 .ret)
 .skip))
 (.seq (.ops [⟨some 8, .pure .move, [.c (.int .i64 0)], none⟩])
 (.block 2
 (.loop [2, 3, 5, 6, 7, 8]
 (.seq (.seq (.ops [⟨some 47, .pure .move, [.t 8], none⟩,
 ⟨some 48, .pure (.faddr 1), [.t 6], none⟩,
 ⟨some 49, .read (.load none), [.t 48], none⟩,
 ⟨some 50, .pure .lenL, [.t 49], none⟩,
 ⟨some 51, .pure (.bin .lss), [.t 47, .t 50], none⟩])
 (.cond (.t 51)
 .skip
 (.exit 2)))
 (.seq (.block 3
 (.seq (.ops [⟨some 54, .pure (.faddr 1), [.t 6], none⟩,
 ⟨some 55, .read (.load none), [.t 54], none⟩,
 ⟨some 56, .pure .move, [.t 8], none⟩,
 ⟨some 57, .pure (.iaddrS 3), [.t 55, .t 56], none⟩,
 ⟨some 58, .read (.load (some 3)), [.t 57], none⟩,
 ⟨some 59, .pure (.faddr 1), [.t 7], none⟩,
 ⟨some 60, .read (.load none), [.t 59], none⟩,
 ⟨some 61, .pure .move, [.t 8], none⟩,
 ⟨some 62, .pure (.iaddrS 3), [.t 60, .t 61], none⟩,
 ⟨some 63, .read (.load (some 3)), [.t 62], none⟩,
 ⟨some 64, .pure (.eqF [.int, .int, .int] true), [.t 58, .t 63], none⟩])
 (.cond (.t 64)
 (.seq (.ops [⟨some 4, .pure .move, [.c (.bool false)], none⟩])
 .ret)
 .skip)))
 (.ops [⟨some 52, .pure .move, [.t 8], none⟩,
 ⟨some 53, .pure (.bin .add), [.t 52, .c (.int .i64 1)], none⟩,
 ⟨some 8, .pure .move, [.t 53], none⟩])))))))))
 (.ops [⟨some 21, .pure .move, [.t 5], none⟩,
 ⟨some 22, .pure (.bin .add), [.t 21, .c (.int .i64 1)], none⟩,
 ⟨some 5, .pure .move, [.t 22], none⟩]))))))
 (.seq (.ops [⟨some 4, .pure .move, [.c (.bool true)], none⟩])
 .ret)))) }
/-- datakit/automaton.Or -/
def ac322:AFn:=
 { nt:=11, res:=[.cell 4 (some 1), .tmp 5], body:=
 (.seq (.ops [⟨some 2, .new (.box 1), [.t 0], none⟩,
 ⟨some 3, .new (.box 1), [.t 1], none⟩,
 ⟨some 4, .new (.new 1 [.agg [.snil 2]]), [], none⟩,
 ⟨some 5, .pure .move, [.c (.int .i64 0)], none⟩])
 (.seq (.ops [⟨some 6, .read (.load (some 1)), [.t 2], none⟩,
 ⟨some 7, .read (.load (some 1)), [.t 3], none⟩,
 ⟨some 8, .pcall 345, [.t 6, .t 7, .c (.fn 348 [])], none⟩,
 ⟨some 9, .pure (.ext 0), [.t 8], none⟩,
 ⟨some 10, .pure (.ext 1), [.t 8], none⟩,
 ⟨none, .eff (.store 1), [.t 4, .t 9], none⟩,
 ⟨some 5, .pure .move, [.t 10], none⟩])
 .ret)) }
/-- datakit/automaton.Some -/
def ac328:AFn:=
 { nt:=93, res:=[.tmp 4], body:=
 (.seq (.ops [⟨some 2, .new (.box 1), [.t 0], none⟩,
 ⟨some 4, .pure .move, [.c (.snil 1)], none⟩])
 (.seq (.seq (.ops [⟨some 13, .read (.load (some 1)), [.t 2], none⟩,
 ⟨some 14, .pcall 231, [.t 13], none⟩,
 ⟨some 15, .pure (.un .not), [.t 14], none⟩])
 (.cond (.t 15)
 (.seq (.ops [⟨some 4, .pure .move, [.c (.snil 1)], none⟩])
 .ret)
 .skip))
 (.seq (.ops [⟨some 16, .pure .move, [.t 1], none⟩,
 ⟨some 17, .pure (.minmax true), [.t 16, .c (.int .i64 0)], none⟩,
 ⟨some 18, .pure (.minmax false), [.t 17, .c (.int .i64 1024)], none⟩,
 ⟨some 1, .pure .move, [.t 18], none⟩])
 (.seq (.ops [⟨some 5, .pure .move, [.c (.snil 1)], none⟩])
 (.seq (.ops [⟨some 6, .pure .move, [.c (.snil 1)], none⟩])
 (.seq (.seq (.ops [⟨some 7, .pure .move, [.c (.int .i64 0)], none⟩])
 (.block 0
 (.loop [1, 2, 5, 6, 7]
 (.seq (.seq (.ops [⟨some 19, .pure .move, [.t 5], none⟩,
 ⟨some 20, .pure .lenL, [.t 19], none⟩,
 ⟨some 21, .pure .move, [.t 1], none⟩,
 ⟨some 22, .pure (.bin .lss), [.t 20, .t 21], none⟩,
 ⟨some 23, .pure .move, [.t 22], none⟩,
 ⟨some 24, .pure .move, [.t 7], some (23, true)⟩,
 ⟨some 25, .pure (.faddr 0), [.t 2], some (23, true)⟩,
 ⟨some 26, .read (.load none), [.t 25], some (23, true)⟩,
 ⟨some 27, .pure .lenL, [.t 26], some (23, true)⟩,
 ⟨some 28, .pure (.bin .leq), [.t 24, .t 27], some (23, true)⟩,
 ⟨some 29, .pure .pick, [.t 23, .t 28, .c (.bool false)], none⟩])
 (.cond (.t 29)
 .skip
 (.exit 0)))
 (.seq (.block 1
 (.seq (.ops [⟨some 32, .pure (.faddr 0), [.t 2], none⟩,
 ⟨some 33, .read (.load none), [.t 32], none⟩,
 ⟨some 34, .pure .lenL, [.t 33], none⟩,
 ⟨some 35, .new (.mkSlice 1 1 (.bool false)), [.t 34, .t 34], none⟩,
 ⟨some 8, .pure .move, [.t 35], none⟩])
 (.seq (.seq (.ops [⟨some 36, .pure (.faddr 0), [.t 2], none⟩,
 ⟨some 37, .read (.load none), [.t 36], none⟩,
 ⟨some 38, .pure .lenL, [.t 37], none⟩,
 ⟨some 39, .pure .move, [.c (.int .i64 0)], none⟩])
 (.block 2
 (.loop [1, 2, 5, 6, 7, 8, 37, 38, 39]
 (.seq (.ops [⟨some 40, .pure (.bin .lss), [.t 39, .t 38], none⟩])
 (.seq (.cond (.t 40)
 .skip
 (.exit 2))
 (.seq (.block 3
 (.seq (.ops [⟨some 41, .pure .move, [.t 39], none⟩,
 ⟨some 42, .pure (.iaddrS 2), [.t 37, .t 39], none⟩,
 ⟨some 43, .read (.load (some 2)), [.t 42], none⟩,
 ⟨some 10, .new (.new 2 [.agg [.bool false, .snil 3]]), [], none⟩,
 ⟨some 9, .pure .move, [.t 41], none⟩,
 ⟨none, .eff (.store 2), [.t 10, .t 43], none⟩])
 (.seq (.seq (.ops [⟨some 44, .pure .move, [.t 6], none⟩,
 ⟨some 45, .pure .lenL, [.t 44], none⟩,
 ⟨some 46, .pure (.bin .eql), [.t 45, .c (.int .i64 0)], none⟩])
 (.cond (.t 46)
 (.seq (.ops [⟨some 47, .pure .move, [.t 8], none⟩,
 ⟨some 48, .pure .move, [.t 9], none⟩,
 ⟨some 49, .pure (.faddr 0), [.t 10], none⟩,
 ⟨some 50, .read (.load none), [.t 49], none⟩,
 ⟨some 51, .pure (.iaddrS 1), [.t 47, .t 48], none⟩,
 ⟨none, .eff (.store 1), [.t 51, .t 50], none⟩])
 (.exit 3))
 .skip))
 (.seq (.ops [⟨some 52, .pure (.faddr 1), [.t 10], none⟩,
 ⟨some 53, .read (.load none), [.t 52], none⟩,
 ⟨some 54, .pure .lenL, [.t 53], none⟩,
 ⟨some 55, .pure .move, [.c (.int .i64 0)], none⟩])
 (.block 4
 (.loop [1, 2, 5, 6, 7, 8, 9, 37, 38, 39, 53, 54, 55]
 (.seq (.ops [⟨some 56, .pure (.bin .lss), [.t 55, .t 54], none⟩])
 (.seq (.cond (.t 56)
 .skip
 (.exit 4))
 (.seq (.block 5
 (.seq (.ops [⟨some 57, .pure (.iaddrS 3), [.t 53, .t 55], none⟩,
 ⟨some 58, .read (.load (some 3)), [.t 57], none⟩,
 ⟨some 12, .new (.new 3 [.agg [.int .i64 0, .int .i64 0, .int .i64 0]]), [], none⟩,
 ⟨none, .eff (.store 3), [.t 12, .t 58], none⟩])
 (.ops [⟨some 59, .pure .move, [.t 8], none⟩,
 ⟨some 60, .pure .move, [.t 9], none⟩,
 ⟨some 61, .pure .move, [.t 8], none⟩,
 ⟨some 62, .pure .move, [.t 9], none⟩,
 ⟨some 63, .pure (.iaddrS 1), [.t 61, .t 62], none⟩,
 ⟨some 64, .read (.load none), [.t 63], none⟩,
 ⟨some 65, .pure .move, [.t 64], none⟩,
 ⟨some 66, .pure .move, [.t 6], some (65, false)⟩,
 ⟨some 67, .pure .move, [.t 6], some (65, false)⟩,
 ⟨some 68, .pure .lenL, [.t 67], some (65, false)⟩,
 ⟨some 69, .pure (.bin .sub), [.t 68, .c (.int .i64 1)], some (65, false)⟩,
 ⟨some 70, .pure (.iaddrS 1), [.t 66, .t 69], some (65, false)⟩,
 ⟨some 71, .read (.load none), [.t 70], some (65, false)⟩,
 ⟨some 72, .pure (.faddr 2), [.t 12], some (65, false)⟩,
 ⟨some 73, .read (.load none), [.t 72], some (65, false)⟩,
 ⟨some 74, .pure (.iaddrS 1), [.t 71, .t 73], some (65, false)⟩,
 ⟨some 75, .read (.load none), [.t 74], some (65, false)⟩,
 ⟨some 76, .pure .pick, [.t 65, .c (.bool true), .t 75], none⟩,
 ⟨some 77, .pure (.iaddrS 1), [.t 59, .t 60], none⟩,
 ⟨none, .eff (.store 1), [.t 77, .t 76], none⟩])))
 (.ops [⟨some 78, .pure (.bin .add), [.t 55, .c (.int .i64 1)], none⟩,
 ⟨some 55, .pure .move, [.t 78], none⟩]))))))))))
 (.ops [⟨some 79, .pure (.bin .add), [.t 39, .c (.int .i64 1)], none⟩,
 ⟨some 39, .pure .move, [.t 79], none⟩])))))))
 (.seq (.ops [⟨some 80, .pure .move, [.t 6], none⟩,
 ⟨some 81, .pure .move, [.t 8], none⟩,
 ⟨some 82, .new (.buildSlice 1 [.snil 1] [0]), [.t 81], none⟩,
 ⟨some 83, .eff (.append 1 24), [.t 80, .t 82], none⟩,
 ⟨some 6, .pure .move, [.t 83], none⟩])
 (.seq (.ops [⟨some 84, .pure .move, [.t 8], none⟩,
 ⟨some 85, .pure (.iaddrS 1), [.t 84, .c (.int .i64 0)], none⟩,
 ⟨some 86, .read (.load none), [.t 85], none⟩])
 (.cond (.t 86)
 (.seq (.ops [⟨some 7, .pure .move, [.c (.int .i64 0)], none⟩])
 (.ops [⟨some 87, .read (.load (some 1)), [.t 2], none⟩,
 ⟨some 88, .pure .move, [.t 6], none⟩,
 ⟨some 89, .pure .move, [.t 5], none⟩,
 ⟨some 90, .pure .move, [.t 1], none⟩,
 ⟨some 91, .call 352, [.t 87, .t 88, .c (.int .i64 0), .c (.snil 1), .t 89, .t 90], none⟩,
 ⟨some 5, .pure .move, [.t 91], none⟩]))
 .skip))))))
 (.ops [⟨some 30, .pure .move, [.t 7], none⟩,
 ⟨some 31, .pure (.bin .add), [.t 30, .c (.int .i64 1)], none⟩,
 ⟨some 7, .pure .move, [.t 31], none⟩]))))))
 (.seq (.ops [⟨some 92, .pure .move, [.t 5], none⟩,
 ⟨some 4, .pure .move, [.t 92], none⟩])
 .ret))))))) }
/-- datakit/automaton.Build -/
def ac339:AFn:=
 { nt:=19, res:=[.cell 2 (some 1), .tmp 3], body:=
 (.seq (.ops [⟨some 1, .new (.box 6), [.t 0], none⟩,
 ⟨some 2, .new (.new 1 [.agg [.snil 2]]), [], none⟩,
 ⟨some 3, .pure .move, [.c (.int .i64 0)], none⟩])
 (.seq (.seq (.ops [⟨some 6, .read (.load (some 6)), [.t 1], none⟩,
 ⟨some 7, .pcall 358, [.t 6], none⟩,
 ⟨some 8, .pure (.un .not), [.t 7], none⟩])
 (.cond (.t 8)
 (.seq (.ops [⟨some 9, .pure (.build [.snil 2] []), [], none⟩,
 ⟨none, .eff (.store 1), [.t 2, .t 9], none⟩,
 ⟨some 3, .pure .move, [.c (.int .i64 1)], none⟩])
 .ret)
 .skip))
 (.seq (.ops [⟨some 11, .read (.load (some 6)), [.t 1], none⟩,
 ⟨some 12, .pcall 359, [.t 11], none⟩,
 ⟨some 10, .pure .move, [.t 12], none⟩,
 ⟨some 13, .pure (.ext 0), [.t 10], none⟩,
 ⟨some 14, .pure (.ext 1), [.t 10], none⟩,
 ⟨some 4, .new (.new 1 [.agg [.snil 2]]), [], none⟩,
 ⟨none, .eff (.store 1), [.t 4, .t 13], none⟩,
 ⟨some 5, .pure .move, [.t 14], none⟩])
 (.seq (.seq (.ops [⟨some 15, .pure .move, [.t 5], none⟩,
 ⟨some 16, .pure (.un .not), [.t 15], none⟩])
 (.cond (.t 16)
 (.seq (.ops [⟨some 17, .pure (.build [.snil 2] []), [], none⟩,
 ⟨none, .eff (.store 1), [.t 2, .t 17], none⟩,
 ⟨some 3, .pure .move, [.c (.int .i64 32)], none⟩])
 .ret)
 .skip))
 (.seq (.ops [⟨some 18, .read (.load (some 1)), [.t 4], none⟩,
 ⟨none, .eff (.store 1), [.t 2, .t 18], none⟩,
 ⟨some 3, .pure .move, [.c (.int .i64 0)], none⟩])
 .ret))))) }
/-- datakit/datakitref15.Valid -/
def ac340:AFn:=
 { nt:=10, res:=[.tmp 2], body:=
 (.seq (.ops [⟨some 1, .new (.box 6), [.t 0], none⟩,
 ⟨some 2, .pure .move, [.c (.bool false)], none⟩])
 (.seq (.ops [⟨some 3, .read (.load (some 6)), [.t 1], none⟩,
 ⟨some 4, .pcall 360, [.t 3, .c (.int .i64 48)], none⟩,
 ⟨some 5, .pure .move, [.t 4], none⟩,
 ⟨some 6, .read (.load (some 6)), [.t 1], some (5, true)⟩,
 ⟨some 7, .pcall 357, [.t 6], some (5, true)⟩,
 ⟨some 8, .pure (.bin .leq), [.t 7, .c (.int .i64 512)], some (5, true)⟩,
 ⟨some 9, .pure .pick, [.t 5, .t 8, .c (.bool false)], none⟩,
 ⟨some 2, .pure .move, [.t 9], none⟩])
 .ret)) }
/-- datakit/datakitlaw16.pattern -/
def ac344:AFn:=
 { nt:=11, res:=[.cell 2 (some 6)], body:=
 (.seq (.ops [⟨some 2, .new (.new 6 [.agg [.int .i64 0, .int .i64 0, .int .i64 0, .int .i64 0, .int .i64 0, .snil 6]]), [], none⟩])
 (.seq (.ops [⟨some 6, .pure .move, [.t 0], none⟩,
 ⟨some 7, .pcall 366, [.t 6], none⟩,
 ⟨some 5, .pure .move, [.t 7], none⟩,
 ⟨some 8, .pure (.ext 0), [.t 5], none⟩,
 ⟨some 9, .pure (.ext 1), [.t 5], none⟩,
 ⟨some 3, .new (.new 6 [.agg [.int .i64 0, .int .i64 0, .int .i64 0, .int .i64 0, .int .i64 0, .snil 6]]), [], none⟩,
 ⟨none, .eff (.store 6), [.t 3, .t 8], none⟩,
 ⟨some 4, .pure .move, [.t 9], none⟩])
 (.seq (.ops [⟨some 10, .read (.load (some 6)), [.t 3], none⟩,
 ⟨none, .eff (.store 6), [.t 2, .t 10], none⟩])
 .ret))) }
/-- datakit/automaton.both -/
def ac345:AFn:=
 { nt:=31, res:=[.cell 6 (some 1), .tmp 7], body:=
 (.seq (.ops [⟨some 3, .new (.box 1), [.t 0], none⟩,
 ⟨some 4, .new (.box 1), [.t 1], none⟩,
 ⟨some 6, .new (.new 1 [.agg [.snil 2]]), [], none⟩,
 ⟨some 7, .pure .move, [.c (.int .i64 0)], none⟩])
 (.seq (.seq (.ops [⟨some 10, .read (.load (some 1)), [.t 3], none⟩,
 ⟨some 11, .pcall 231, [.t 10], none⟩,
 ⟨some 12, .pure (.un .not), [.t 11], none⟩,
 ⟨some 13, .pure .move, [.t 12], none⟩,
 ⟨some 14, .read (.load (some 1)), [.t 4], some (13, false)⟩,
 ⟨some 15, .pcall 231, [.t 14], some (13, false)⟩,
 ⟨some 16, .pure (.un .not), [.t 15], some (13, false)⟩,
 ⟨some 17, .pure .pick, [.t 13, .c (.bool true), .t 16], none⟩])
 (.cond (.t 17)
 (.seq (.ops [⟨some 18, .pure (.build [.snil 2] []), [], none⟩,
 ⟨none, .eff (.store 1), [.t 6, .t 18], none⟩,
 ⟨some 7, .pure .move, [.c (.int .i64 1)], none⟩])
 .ret)
 .skip))
 (.seq (.ops [⟨some 20, .read (.load (some 1)), [.t 3], none⟩,
 ⟨some 21, .read (.load (some 1)), [.t 4], none⟩,
 ⟨some 22, .pure .move, [.t 2], none⟩,
 ⟨some 23, .pcall 367, [.t 20, .t 21, .t 22], none⟩,
 ⟨some 19, .pure .move, [.t 23], none⟩,
 ⟨some 24, .pure (.ext 0), [.t 19], none⟩,
 ⟨some 25, .pure (.ext 1), [.t 19], none⟩,
 ⟨some 8, .new (.new 1 [.agg [.snil 2]]), [], none⟩,
 ⟨none, .eff (.store 1), [.t 8, .t 24], none⟩,
 ⟨some 9, .pure .move, [.t 25], none⟩])
 (.seq (.seq (.ops [⟨some 26, .pure .move, [.t 9], none⟩,
 ⟨some 27, .pure (.un .not), [.t 26], none⟩])
 (.cond (.t 27)
 (.seq (.ops [⟨some 28, .pure (.build [.snil 2] []), [], none⟩,
 ⟨none, .eff (.store 1), [.t 6, .t 28], none⟩,
 ⟨some 7, .pure .move, [.c (.int .i64 32)], none⟩])
 .ret)
 .skip))
 (.seq (.ops [⟨some 29, .read (.load (some 1)), [.t 8], none⟩,
 ⟨some 30, .pcall 355, [.t 29], none⟩,
 ⟨none, .eff (.store 1), [.t 6, .t 30], none⟩,
 ⟨some 7, .pure .move, [.c (.int .i64 0)], none⟩])
 .ret))))) }
/-- datakit/automaton.And$1 -/
def ac346:AFn:=
 { nt:=9, res:=[.tmp 4], body:=
 (.seq (.ops [⟨some 4, .pure .move, [.c (.bool false)], none⟩])
 (.seq (.ops [⟨some 5, .pure .move, [.t 0], none⟩,
 ⟨some 6, .pure .move, [.t 5], none⟩,
 ⟨some 7, .pure .move, [.t 1], some (6, true)⟩,
 ⟨some 8, .pure .pick, [.t 6, .t 7, .c (.bool false)], none⟩,
 ⟨some 4, .pure .move, [.t 8], none⟩])
 .ret)) }
/-- datakit/automaton.Or$1 -/
def ac348:AFn:=
 { nt:=9, res:=[.tmp 4], body:=
 (.seq (.ops [⟨some 4, .pure .move, [.c (.bool false)], none⟩])
 (.seq (.ops [⟨some 5, .pure .move, [.t 0], none⟩,
 ⟨some 6, .pure .move, [.t 5], none⟩,
 ⟨some 7, .pure .move, [.t 1], some (6, false)⟩,
 ⟨some 8, .pure .pick, [.t 6, .c (.bool true), .t 7], none⟩,
 ⟨some 4, .pure .move, [.t 8], none⟩])
 .ret)) }
/-- datakit/automaton.collect -/
def ac352:AFn:=
 { nt:=79, res:=[.tmp 12], body:=
 (.seq (.ops [⟨some 6, .new (.box 1), [.t 0], none⟩,
 ⟨some 12, .pure .move, [.c (.snil 1)], none⟩])
 (.seq (.ops [⟨some 17, .pure .move, [.t 1], none⟩,
 ⟨some 18, .pure .lenL, [.t 17], none⟩,
 ⟨some 19, .pure (.bin .sub), [.t 18, .c (.int .i64 1)], none⟩,
 ⟨some 20, .pure .move, [.t 3], none⟩,
 ⟨some 21, .pure .lenL, [.t 20], none⟩,
 ⟨some 22, .pure (.bin .sub), [.t 19, .t 21], none⟩,
 ⟨some 13, .pure .move, [.t 22], none⟩])
 (.seq (.seq (.ops [⟨some 23, .pure .move, [.t 13], none⟩,
 ⟨some 24, .pure (.bin .eql), [.t 23, .c (.int .i64 0)], none⟩])
 (.cond (.t 24)
 (.seq (.ops [⟨some 25, .pure .move, [.t 4], none⟩,
 ⟨some 26, .pure .move, [.t 3], none⟩,
 ⟨some 27, .read .bytesStr, [.t 26], none⟩,
 ⟨some 28, .new (.buildSlice 1 [.str []] [0]), [.t 27], none⟩,
 ⟨some 29, .eff (.append 1 16), [.t 25, .t 28], none⟩,
 ⟨some 12, .pure .move, [.t 29], none⟩])
 .ret)
 .skip))
 (.seq (.seq (.ops [⟨some 30, .pure (.faddr 0), [.t 6], none⟩,
 ⟨some 31, .read (.load none), [.t 30], none⟩,
 ⟨some 32, .pure .move, [.t 2], none⟩,
 ⟨some 33, .pure (.iaddrS 2), [.t 31, .t 32], none⟩,
 ⟨some 34, .pure (.faddr 1), [.t 33], none⟩,
 ⟨some 35, .read (.load none), [.t 34], none⟩,
 ⟨some 36, .pure .lenL, [.t 35], none⟩,
 ⟨some 37, .pure .move, [.c (.int .i64 0)], none⟩])
 (.block 0
 (.loop [1, 3, 4, 5, 6, 13, 35, 36, 37]
 (.seq (.ops [⟨some 38, .pure (.bin .lss), [.t 37, .t 36], none⟩])
 (.seq (.cond (.t 38)
 .skip
 (.exit 0))
 (.seq (.block 1
 (.seq (.ops [⟨some 39, .pure (.iaddrS 3), [.t 35, .t 37], none⟩,
 ⟨some 40, .read (.load (some 3)), [.t 39], none⟩,
 ⟨some 15, .new (.new 3 [.agg [.int .i64 0, .int .i64 0, .int .i64 0]]), [], none⟩,
 ⟨none, .eff (.store 3), [.t 15, .t 40], none⟩])
 (.seq (.seq (.ops [⟨some 41, .pure .move, [.t 1], none⟩,
 ⟨some 42, .pure .move, [.t 13], none⟩,
 ⟨some 43, .pure (.bin .sub), [.t 42, .c (.int .i64 1)], none⟩,
 ⟨some 44, .pure (.iaddrS 1), [.t 41, .t 43], none⟩,
 ⟨some 45, .read (.load none), [.t 44], none⟩,
 ⟨some 46, .pure (.faddr 2), [.t 15], none⟩,
 ⟨some 47, .read (.load none), [.t 46], none⟩,
 ⟨some 48, .pure (.iaddrS 1), [.t 45, .t 47], none⟩,
 ⟨some 49, .read (.load none), [.t 48], none⟩,
 ⟨some 50, .pure (.un .not), [.t 49], none⟩])
 (.cond (.t 50)
 (.exit 1)
 .skip))
 (.seq (.ops [⟨some 51, .pure (.faddr 0), [.t 15], none⟩,
 ⟨some 52, .read (.load none), [.t 51], none⟩,
 ⟨some 16, .pure .move, [.t 52], none⟩])
 (.block 2
 (.loop [1, 3, 4, 5, 6, 13, 15, 16, 35, 36, 37]
 (.seq (.seq (.ops [⟨some 53, .pure .move, [.t 16], none⟩,
 ⟨some 54, .pure (.faddr 1), [.t 15], none⟩,
 ⟨some 55, .read (.load none), [.t 54], none⟩,
 ⟨some 56, .pure (.bin .leq), [.t 53, .t 55], none⟩,
 ⟨some 57, .pure .move, [.t 56], none⟩,
 ⟨some 58, .pure .move, [.t 4], some (57, true)⟩,
 ⟨some 59, .pure .lenL, [.t 58], some (57, true)⟩,
 ⟨some 60, .pure .move, [.t 5], some (57, true)⟩,
 ⟨some 61, .pure (.bin .lss), [.t 59, .t 60], some (57, true)⟩,
 ⟨some 62, .pure .pick, [.t 57, .t 61, .c (.bool false)], none⟩])
 (.cond (.t 62)
 .skip
 (.exit 2)))
 (.seq (.block 3
 (.draw 1 [[⟨some 66, .pure .move, [.t 1], none⟩,
 ⟨some 67, .pure (.faddr 2), [.t 15], none⟩,
 ⟨some 69, .pure .move, [.t 3], none⟩,
 ⟨some 70, .pure .move, [.t 16], none⟩,
 ⟨some 71, .pure (.conv .u8), [.t 70], none⟩,
 ⟨some 72, .newAt 0 (.buildSlice 1 [.int .u8 0] [0]), [.t 71], none⟩,
 ⟨some 74, .pure .move, [.t 4], none⟩,
 ⟨some 75, .pure .move, [.t 5], none⟩,
 ⟨some 65, .read (.load (some 1)), [.t 6], none⟩,
 ⟨some 68, .read (.load none), [.t 67], none⟩,
 ⟨some 73, .eff (.append 1 1), [.t 69, .t 72], none⟩,
 ⟨some 76, .call 352, [.t 65, .t 66, .t 68, .t 73, .t 74, .t 75], none⟩,
 ⟨some 4, .pure .move, [.t 76], none⟩],
 [⟨some 66, .pure .move, [.t 1], none⟩,
 ⟨some 67, .pure (.faddr 2), [.t 15], none⟩,
 ⟨some 69, .pure .move, [.t 3], none⟩,
 ⟨some 70, .pure .move, [.t 16], none⟩,
 ⟨some 71, .pure (.conv .u8), [.t 70], none⟩,
 ⟨some 72, .newAt 0 (.buildSlice 1 [.int .u8 0] [0]), [.t 71], none⟩,
 ⟨some 74, .pure .move, [.t 4], none⟩,
 ⟨some 75, .pure .move, [.t 5], none⟩,
 ⟨some 65, .read (.load (some 1)), [.t 6], none⟩,
 ⟨some 73, .eff (.append 1 1), [.t 69, .t 72], none⟩,
 ⟨some 68, .read (.load none), [.t 67], none⟩,
 ⟨some 76, .call 352, [.t 65, .t 66, .t 68, .t 73, .t 74, .t 75], none⟩,
 ⟨some 4, .pure .move, [.t 76], none⟩],
 [⟨some 66, .pure .move, [.t 1], none⟩,
 ⟨some 67, .pure (.faddr 2), [.t 15], none⟩,
 ⟨some 69, .pure .move, [.t 3], none⟩,
 ⟨some 70, .pure .move, [.t 16], none⟩,
 ⟨some 71, .pure (.conv .u8), [.t 70], none⟩,
 ⟨some 72, .newAt 0 (.buildSlice 1 [.int .u8 0] [0]), [.t 71], none⟩,
 ⟨some 74, .pure .move, [.t 4], none⟩,
 ⟨some 75, .pure .move, [.t 5], none⟩,
 ⟨some 68, .read (.load none), [.t 67], none⟩,
 ⟨some 65, .read (.load (some 1)), [.t 6], none⟩,
 ⟨some 73, .eff (.append 1 1), [.t 69, .t 72], none⟩,
 ⟨some 76, .call 352, [.t 65, .t 66, .t 68, .t 73, .t 74, .t 75], none⟩,
 ⟨some 4, .pure .move, [.t 76], none⟩],
 [⟨some 66, .pure .move, [.t 1], none⟩,
 ⟨some 67, .pure (.faddr 2), [.t 15], none⟩,
 ⟨some 69, .pure .move, [.t 3], none⟩,
 ⟨some 70, .pure .move, [.t 16], none⟩,
 ⟨some 71, .pure (.conv .u8), [.t 70], none⟩,
 ⟨some 72, .newAt 0 (.buildSlice 1 [.int .u8 0] [0]), [.t 71], none⟩,
 ⟨some 74, .pure .move, [.t 4], none⟩,
 ⟨some 75, .pure .move, [.t 5], none⟩,
 ⟨some 68, .read (.load none), [.t 67], none⟩,
 ⟨some 73, .eff (.append 1 1), [.t 69, .t 72], none⟩,
 ⟨some 65, .read (.load (some 1)), [.t 6], none⟩,
 ⟨some 76, .call 352, [.t 65, .t 66, .t 68, .t 73, .t 74, .t 75], none⟩,
 ⟨some 4, .pure .move, [.t 76], none⟩],
 [⟨some 66, .pure .move, [.t 1], none⟩,
 ⟨some 67, .pure (.faddr 2), [.t 15], none⟩,
 ⟨some 69, .pure .move, [.t 3], none⟩,
 ⟨some 70, .pure .move, [.t 16], none⟩,
 ⟨some 71, .pure (.conv .u8), [.t 70], none⟩,
 ⟨some 72, .newAt 0 (.buildSlice 1 [.int .u8 0] [0]), [.t 71], none⟩,
 ⟨some 74, .pure .move, [.t 4], none⟩,
 ⟨some 75, .pure .move, [.t 5], none⟩,
 ⟨some 73, .eff (.append 1 1), [.t 69, .t 72], none⟩,
 ⟨some 65, .read (.load (some 1)), [.t 6], none⟩,
 ⟨some 68, .read (.load none), [.t 67], none⟩,
 ⟨some 76, .call 352, [.t 65, .t 66, .t 68, .t 73, .t 74, .t 75], none⟩,
 ⟨some 4, .pure .move, [.t 76], none⟩]]))
 (.ops [⟨some 63, .pure .move, [.t 16], none⟩,
 ⟨some 64, .pure (.bin .add), [.t 63, .c (.int .i64 1)], none⟩,
 ⟨some 16, .pure .move, [.t 64], none⟩])))))))))
 (.ops [⟨some 77, .pure (.bin .add), [.t 37, .c (.int .i64 1)], none⟩,
 ⟨some 37, .pure .move, [.t 77], none⟩])))))))
 (.seq (.ops [⟨some 78, .pure .move, [.t 4], none⟩,
 ⟨some 12, .pure .move, [.t 78], none⟩])
 .ret))))) }
/-- datakit/automaton.not -/
def ac354:AFn:=
 { nt:=27, res:=[.cell 2 (some 1)], body:=
 (.seq (.ops [⟨some 1, .new (.box 1), [.t 0], none⟩,
 ⟨some 2, .new (.new 1 [.agg [.snil 2]]), [], none⟩])
 (.seq (.ops [⟨some 3, .new (.new 1 [.agg [.snil 2]]), [], none⟩])
 (.seq (.seq (.ops [⟨some 6, .pure (.faddr 0), [.t 1], none⟩,
 ⟨some 7, .read (.load none), [.t 6], none⟩,
 ⟨some 8, .pure .lenL, [.t 7], none⟩,
 ⟨some 9, .pure .move, [.c (.int .i64 0)], none⟩])
 (.block 0
 (.loop [2, 3, 7, 8, 9]
 (.seq (.ops [⟨some 10, .pure (.bin .lss), [.t 9, .t 8], none⟩])
 (.seq (.cond (.t 10)
 .skip
 (.exit 0))
 (.seq (.block 1
 (.seq (.ops [⟨some 11, .pure (.iaddrS 2), [.t 7, .t 9], none⟩,
 ⟨some 12, .read (.load (some 2)), [.t 11], none⟩,
 ⟨some 5, .new (.new 2 [.agg [.bool false, .snil 3]]), [], none⟩,
 ⟨none, .eff (.store 2), [.t 5, .t 12], none⟩])
 (.draw 1 [[⟨some 13, .pure (.faddr 0), [.t 3], none⟩,
 ⟨some 14, .read (.load none), [.t 13], none⟩,
 ⟨some 15, .pure (.faddr 0), [.t 5], none⟩,
 ⟨some 16, .read (.load none), [.t 15], none⟩,
 ⟨some 17, .pure (.un .not), [.t 16], none⟩,
 ⟨some 18, .pure (.faddr 1), [.t 5], none⟩,
 ⟨some 19, .read (.load none), [.t 18], none⟩,
 ⟨some 20, .pcall 217, [.t 19], none⟩,
 ⟨some 21, .pure (.build [.bool false, .snil 3] [(0, 1), (1, 1)]), [.t 17, .t 20], none⟩,
 ⟨some 22, .newAt 0 (.buildSlice 2 [.agg [.bool false, .snil 3]] [0]), [.t 21], none⟩,
 ⟨some 23, .eff (.append 2 32), [.t 14, .t 22], none⟩,
 ⟨some 24, .pure (.faddr 0), [.t 3], none⟩,
 ⟨none, .eff (.store 1), [.t 24, .t 23], none⟩]])))
 (.ops [⟨some 25, .pure (.bin .add), [.t 9, .c (.int .i64 1)], none⟩,
 ⟨some 9, .pure .move, [.t 25], none⟩])))))))
 (.seq (.ops [⟨some 26, .read (.load (some 1)), [.t 3], none⟩,
 ⟨none, .eff (.store 1), [.t 2, .t 26], none⟩])
 .ret)))) }
/-- datakit/automaton.least -/
def ac355:AFn:=
 { nt:=126, res:=[.cell 2 (some 1)], body:=
 (.seq (.ops [⟨some 1, .new (.box 1), [.t 0], none⟩,
 ⟨some 2, .new (.new 1 [.agg [.snil 2]]), [], none⟩])
 (.seq (.ops [⟨some 19, .read (.load (some 1)), [.t 1], none⟩,
 ⟨some 20, .new (.buildSlice 1 [.agg [.snil 2]] [0]), [.t 19], none⟩,
 ⟨some 21, .pcall 370, [.t 20], none⟩,
 ⟨some 3, .pure .move, [.t 21], none⟩])
 (.seq (.ops [⟨some 22, .pure (.faddr 0), [.t 1], none⟩,
 ⟨some 23, .read (.load none), [.t 22], none⟩,
 ⟨some 24, .pure .lenL, [.t 23], none⟩,
 ⟨some 25, .new (.mkSlice 1 24 (.snil 1)), [.t 24, .t 24], none⟩,
 ⟨some 4, .pure .move, [.t 25], none⟩])
 (.seq (.ops [⟨some 26, .pure (.faddr 0), [.t 1], none⟩,
 ⟨some 27, .read (.load none), [.t 26], none⟩,
 ⟨some 28, .pure .lenL, [.t 27], none⟩,
 ⟨some 29, .new (.mkSlice 1 8 (.int .i64 0)), [.t 28, .t 28], none⟩,
 ⟨some 5, .pure .move, [.t 29], none⟩])
 (.seq (.seq (.ops [⟨some 30, .pure (.faddr 0), [.t 1], none⟩,
 ⟨some 31, .read (.load none), [.t 30], none⟩,
 ⟨some 32, .pure .lenL, [.t 31], none⟩,
 ⟨some 33, .pure .move, [.c (.int .i64 0)], none⟩])
 (.block 0
 (.loop [1, 2, 3, 4, 5, 31, 32, 33, 2004]
 (.seq (.ops [⟨some 34, .pure (.bin .lss), [.t 33, .t 32], none⟩])
 (.seq (.cond (.t 34)
 .skip
 (.exit 0))
 (.seq (.block 1
 (.seq (.ops [⟨some 35, .pure .move, [.t 33], none⟩,
 ⟨some 36, .pure (.iaddrS 2), [.t 31, .t 33], none⟩,
 ⟨some 37, .read (.load (some 2)), [.t 36], none⟩,
 ⟨some 7, .new (.new 2 [.agg [.bool false, .snil 3]]), [], none⟩,
 ⟨some 6, .pure .move, [.t 35], none⟩,
 ⟨none, .eff (.store 2), [.t 7, .t 37], none⟩])
 (.seq (.seq (.ops [⟨some 38, .pure .move, [.t 3], none⟩,
 ⟨some 39, .pure .lenL, [.t 38], none⟩,
 ⟨some 40, .pure .move, [.c (.int .i64 0)], none⟩])
 (.block 2
 (.loop [1, 2, 3, 4, 5, 6, 7, 31, 32, 33, 38, 39, 40]
 (.seq (.ops [⟨some 41, .pure (.bin .lss), [.t 40, .t 39], none⟩])
 (.seq (.cond (.t 41)
 .skip
 (.exit 2))
 (.seq (.block 3
 (.seq (.ops [⟨some 42, .pure (.iaddrS 1), [.t 38, .t 40], none⟩,
 ⟨some 43, .read (.load none), [.t 42], none⟩,
 ⟨some 9, .pure .move, [.t 43], none⟩])
 (.draw 1 [[⟨some 44, .pure .move, [.t 4], none⟩,
 ⟨some 45, .pure .move, [.t 6], none⟩,
 ⟨some 46, .pure .move, [.t 4], none⟩,
 ⟨some 47, .pure .move, [.t 6], none⟩,
 ⟨some 48, .pure (.iaddrS 1), [.t 46, .t 47], none⟩,
 ⟨some 49, .read (.load none), [.t 48], none⟩,
 ⟨some 50, .read (.load (some 1)), [.t 1], none⟩,
 ⟨some 51, .pure .move, [.t 6], none⟩,
 ⟨some 52, .pure .move, [.t 9], none⟩,
 ⟨some 53, .pcall 252, [.t 50, .t 51, .t 52], none⟩,
 ⟨some 54, .newAt 0 (.buildSlice 1 [.int .i64 0] [0]), [.t 53], none⟩,
 ⟨some 55, .eff (.append 1 8), [.t 49, .t 54], none⟩,
 ⟨some 56, .pure (.iaddrS 1), [.t 44, .t 45], none⟩,
 ⟨none, .eff (.store 1), [.t 56, .t 55], none⟩]])))
 (.ops [⟨some 57, .pure (.bin .add), [.t 40, .c (.int .i64 1)], none⟩,
 ⟨some 40, .pure .move, [.t 57], none⟩])))))))
 (.seq (.ops [⟨some 58, .pure (.faddr 0), [.t 7], none⟩,
 ⟨some 59, .read (.load none), [.t 58], none⟩])
 (.cond (.t 59)
 (.ops [⟨some 60, .pure .move, [.t 5], none⟩,
 ⟨some 61, .pure .move, [.t 6], none⟩,
 ⟨some 62, .pure (.iaddrS 1), [.t 60, .t 61], none⟩,
 ⟨none, .eff (.store 1), [.t 62, .c (.int .i64 1)], none⟩])
 .skip)))))
 (.ops [⟨some 63, .pure (.bin .add), [.t 33, .c (.int .i64 1)], none⟩,
 ⟨some 33, .pure .move, [.t 63], none⟩])))))))
 (.seq (.seq (.ops [⟨some 10, .pure .move, [.c (.int .i64 0)], none⟩])
 (.block 4
 (.loop [1, 2, 3, 4, 5, 10]
 (.block 5
 (.seq (.ops [⟨some 64, .new .mkMap, [], none⟩,
 ⟨some 11, .pure .move, [.t 64], none⟩])
 (.seq (.ops [⟨some 65, .pure .move, [.t 5], none⟩,
 ⟨some 66, .pure .lenL, [.t 65], none⟩,
 ⟨some 67, .new (.mkSlice 1 8 (.int .i64 0)), [.t 66, .t 66], none⟩,
 ⟨some 12, .pure .move, [.t 67], none⟩])
 (.seq (.seq (.ops [⟨some 68, .pure .move, [.t 5], none⟩,
 ⟨some 69, .pure .lenL, [.t 68], none⟩,
 ⟨some 70, .pure .move, [.c (.int .i64 0)], none⟩])
 (.block 6
 (.loop [1, 2, 3, 4, 5, 10, 11, 12, 69, 70]
 (.seq (.ops [⟨some 71, .pure (.bin .lss), [.t 70, .t 69], none⟩])
 (.seq (.cond (.t 71)
 .skip
 (.exit 6))
 (.seq (.block 7
 (.seq (.ops [⟨some 72, .pure .move, [.t 70], none⟩,
 ⟨some 13, .pure .move, [.t 72], none⟩])
 (.seq (.ops [⟨some 73, .pure .move, [.t 5], none⟩,
 ⟨some 74, .pure .move, [.t 13], none⟩,
 ⟨some 75, .pure (.iaddrS 1), [.t 73, .t 74], none⟩,
 ⟨some 76, .read (.load none), [.t 75], none⟩,
 ⟨some 77, .pcall 371, [.t 76], none⟩,
 ⟨some 14, .pure .move, [.t 77], none⟩])
 (.seq (.seq (.ops [⟨some 78, .pure .move, [.t 4], none⟩,
 ⟨some 79, .pure .move, [.t 13], none⟩,
 ⟨some 80, .pure (.iaddrS 1), [.t 78, .t 79], none⟩,
 ⟨some 81, .read (.load none), [.t 80], none⟩,
 ⟨some 82, .pure .lenL, [.t 81], none⟩,
 ⟨some 83, .pure .move, [.c (.int .i64 0)], none⟩])
 (.block 8
 (.loop [1, 2, 3, 4, 5, 10, 11, 12, 13, 14, 69, 70, 81, 82, 83]
 (.seq (.ops [⟨some 84, .pure (.bin .lss), [.t 83, .t 82], none⟩])
 (.seq (.cond (.t 84)
 .skip
 (.exit 8))
 (.seq (.block 9
 (.seq (.ops [⟨some 85, .pure (.iaddrS 1), [.t 81, .t 83], none⟩,
 ⟨some 86, .read (.load none), [.t 85], none⟩,
 ⟨some 16, .pure .move, [.t 86], none⟩])
 (.ops [⟨some 87, .pure .move, [.t 14], none⟩,
 ⟨some 88, .pure .move, [.t 5], none⟩,
 ⟨some 89, .pure .move, [.t 16], none⟩,
 ⟨some 90, .pure (.iaddrS 1), [.t 88, .t 89], none⟩,
 ⟨some 91, .read (.load none), [.t 90], none⟩,
 ⟨some 92, .pcall 371, [.t 91], none⟩,
 ⟨some 93, .pure (.bin .add), [.c (.str [44]), .t 92], none⟩,
 ⟨some 94, .pure (.bin .add), [.t 87, .t 93], none⟩,
 ⟨some 14, .pure .move, [.t 94], none⟩])))
 (.ops [⟨some 95, .pure (.bin .add), [.t 83, .c (.int .i64 1)], none⟩,
 ⟨some 83, .pure .move, [.t 95], none⟩])))))))
 (.seq (.ops [⟨some 97, .pure .move, [.t 11], none⟩,
 ⟨some 98, .pure .move, [.t 14], none⟩,
 ⟨some 99, .read (.lookup (.one .str) (.int .i64 0) true), [.t 97, .t 98], none⟩,
 ⟨some 96, .pure .move, [.t 99], none⟩,
 ⟨some 100, .pure (.ext 0), [.t 96], none⟩,
 ⟨some 101, .pure (.ext 1), [.t 96], none⟩,
 ⟨some 17, .pure .move, [.t 100], none⟩,
 ⟨some 18, .pure .move, [.t 101], none⟩])
 (.seq (.seq (.ops [⟨some 102, .pure .move, [.t 18], none⟩,
 ⟨some 103, .pure (.un .not), [.t 102], none⟩])
 (.cond (.t 103)
 (.seq (.ops [⟨some 104, .pure .move, [.t 11], none⟩,
 ⟨some 105, .read .lenMap, [.t 104], none⟩,
 ⟨some 17, .pure .move, [.t 105], none⟩])
 (.ops [⟨some 106, .pure .move, [.t 11], none⟩,
 ⟨some 107, .pure .move, [.t 14], none⟩,
 ⟨some 108, .pure .move, [.t 17], none⟩,
 ⟨none, .eff (.mapSet (.one .str)), [.t 106, .t 107, .t 108], none⟩]))
 .skip))
 (.ops [⟨some 109, .pure .move, [.t 12], none⟩,
 ⟨some 110, .pure .move, [.t 13], none⟩,
 ⟨some 111, .pure .move, [.t 17], none⟩,
 ⟨some 112, .pure (.iaddrS 1), [.t 109, .t 110], none⟩,
 ⟨none, .eff (.store 1), [.t 112, .t 111], none⟩])))))))
 (.ops [⟨some 113, .pure (.bin .add), [.t 70, .c (.int .i64 1)], none⟩,
 ⟨some 70, .pure .move, [.t 113], none⟩])))))))
 (.seq (.ops [⟨some 114, .pure .move, [.t 12], none⟩,
 ⟨some 5, .pure .move, [.t 114], none⟩])
 (.seq (.seq (.ops [⟨some 115, .pure .move, [.t 11], none⟩,
 ⟨some 116, .read .lenMap, [.t 115], none⟩,
 ⟨some 117, .pure .move, [.t 10], none⟩,
 ⟨some 118, .pure (.bin .eql), [.t 116, .t 117], none⟩])
 (.cond (.t 118)
 (.exit 4)
 .skip))
 (.ops [⟨some 119, .pure .move, [.t 11], none⟩,
 ⟨some 120, .read .lenMap, [.t 119], none⟩,
 ⟨some 10, .pure .move, [.t 120], none⟩]))))))))))
 (.seq (.ops [⟨some 121, .read (.load (some 1)), [.t 1], none⟩,
 ⟨some 122, .pure .move, [.t 3], none⟩,
 ⟨some 123, .pure .move, [.t 4], none⟩,
 ⟨some 124, .pure .move, [.t 5], none⟩,
 ⟨some 125, .pcall 372, [.t 121, .t 122, .t 123, .t 124], none⟩,
 ⟨none, .eff (.store 1), [.t 2, .t 125], none⟩])
 .ret))))))) }
/-- datakit/datakitref15.Size -/
def ac357:AFn:=
 { nt:=5, res:=[.tmp 2], body:=
 (.seq (.ops [⟨some 1, .new (.box 6), [.t 0], none⟩,
 ⟨some 2, .pure .move, [.c (.int .i64 0)], none⟩])
 (.seq (.ops [⟨some 3, .read (.load (some 6)), [.t 1], none⟩,
 ⟨some 4, .pcall 376, [.t 3, .c (.int .i64 48)], none⟩,
 ⟨some 2, .pure .move, [.t 4], none⟩])
 .ret)) }
/-- datakit/regex.Valid -/
def ac358:AFn:=
 { nt:=10, res:=[.tmp 2], body:=
 (.seq (.ops [⟨some 1, .new (.box 6), [.t 0], none⟩,
 ⟨some 2, .pure .move, [.c (.bool false)], none⟩])
 (.seq (.ops [⟨some 3, .read (.load (some 6)), [.t 1], none⟩,
 ⟨some 4, .pcall 377, [.t 3, .c (.int .i64 48)], none⟩,
 ⟨some 5, .pure .move, [.t 4], none⟩,
 ⟨some 6, .read (.load (some 6)), [.t 1], some (5, true)⟩,
 ⟨some 7, .pcall 378, [.t 6, .c (.int .i64 48)], some (5, true)⟩,
 ⟨some 8, .pure (.bin .leq), [.t 7, .c (.int .i64 512)], some (5, true)⟩,
 ⟨some 9, .pure .pick, [.t 5, .t 8, .c (.bool false)], none⟩,
 ⟨some 2, .pure .move, [.t 9], none⟩])
 .ret)) }
/-- datakit/automaton.build -/
def ac359:AFn:=
 { nt:=93, res:=[.cell 2 (some 1), .tmp 3], body:=
 (.seq (.ops [⟨some 1, .new (.box 6), [.t 0], none⟩,
 ⟨some 2, .new (.new 1 [.agg [.snil 2]]), [], none⟩,
 ⟨some 3, .pure .move, [.c (.bool false)], none⟩])
 (.seq (.ops [⟨some 4, .pure .move, [.c (.snil 1)], none⟩])
 (.seq (.seq (.ops [⟨some 13, .pure (.faddr 5), [.t 1], none⟩,
 ⟨some 14, .read (.load none), [.t 13], none⟩,
 ⟨some 15, .pure .lenL, [.t 14], none⟩,
 ⟨some 16, .pure .move, [.c (.int .i64 0)], none⟩])
 (.block 0
 (.loop [1, 2, 4, 14, 15, 16]
 (.seq (.ops [⟨some 17, .pure (.bin .lss), [.t 16, .t 15], none⟩])
 (.seq (.cond (.t 17)
 .skip
 (.exit 0))
 (.seq (.block 1
 (.seq (.ops [⟨some 18, .pure (.iaddrS 6), [.t 14, .t 16], none⟩,
 ⟨some 19, .read (.load (some 6)), [.t 18], none⟩,
 ⟨some 6, .new (.new 6 [.agg [.int .i64 0, .int .i64 0, .int .i64 0, .int .i64 0, .int .i64 0, .snil 6]]), [], none⟩,
 ⟨none, .eff (.store 6), [.t 6, .t 19], none⟩])
 (.seq (.ops [⟨some 21, .read (.load (some 6)), [.t 6], none⟩,
 ⟨some 22, .pcall 359, [.t 21], none⟩,
 ⟨some 20, .pure .move, [.t 22], none⟩,
 ⟨some 23, .pure (.ext 0), [.t 20], none⟩,
 ⟨some 24, .pure (.ext 1), [.t 20], none⟩,
 ⟨some 7, .new (.new 1 [.agg [.snil 2]]), [], none⟩,
 ⟨none, .eff (.store 1), [.t 7, .t 23], none⟩,
 ⟨some 8, .pure .move, [.t 24], none⟩])
 (.seq (.seq (.ops [⟨some 25, .pure .move, [.t 8], none⟩,
 ⟨some 26, .pure (.un .not), [.t 25], none⟩])
 (.cond (.t 26)
 (.seq (.ops [⟨some 27, .pure (.build [.snil 2] []), [], none⟩,
 ⟨none, .eff (.store 1), [.t 2, .t 27], none⟩,
 ⟨some 3, .pure .move, [.c (.bool false)], none⟩])
 .ret)
 .skip))
 (.ops [⟨some 28, .pure .move, [.t 4], none⟩,
 ⟨some 29, .read (.load (some 1)), [.t 7], none⟩,
 ⟨some 30, .new (.buildSlice 1 [.agg [.snil 2]] [0]), [.t 29], none⟩,
 ⟨some 31, .eff (.append 1 24), [.t 28, .t 30], none⟩,
 ⟨some 4, .pure .move, [.t 31], none⟩])))))
 (.ops [⟨some 32, .pure (.bin .add), [.t 16, .c (.int .i64 1)], none⟩,
 ⟨some 16, .pure .move, [.t 32], none⟩])))))))
 (.seq (.seq (.ops [⟨some 33, .pure (.faddr 0), [.t 1], none⟩,
 ⟨some 34, .read (.load none), [.t 33], none⟩])
 (.block 2
 (.seq (.ops [⟨some 36, .pure (.bin .eql), [.t 34, .c (.int .i64 1)], none⟩,
 ⟨some 35, .pure .move, [.t 36], none⟩])
 (.cond (.t 35)
 (.seq (.ops [⟨some 37, .pcall 379, [], none⟩,
 ⟨none, .eff (.store 1), [.t 2, .t 37], none⟩,
 ⟨some 3, .pure .move, [.c (.bool true)], none⟩])
 .ret)
 (.seq (.ops [⟨some 39, .pure (.bin .eql), [.t 34, .c (.int .i64 2)], none⟩,
 ⟨some 38, .pure .move, [.t 39], none⟩])
 (.cond (.t 38)
 (.seq (.ops [⟨some 40, .pure (.faddr 1), [.t 1], none⟩,
 ⟨some 41, .read (.load none), [.t 40], none⟩,
 ⟨some 42, .pure (.faddr 2), [.t 1], none⟩,
 ⟨some 43, .read (.load none), [.t 42], none⟩,
 ⟨some 44, .pcall 380, [.t 41, .t 43], none⟩,
 ⟨none, .eff (.store 1), [.t 2, .t 44], none⟩,
 ⟨some 3, .pure .move, [.c (.bool true)], none⟩])
 .ret)
 (.seq (.ops [⟨some 46, .pure (.bin .eql), [.t 34, .c (.int .i64 7)], none⟩,
 ⟨some 45, .pure .move, [.t 46], none⟩])
 (.cond (.t 45)
 (.seq (.ops [⟨some 47, .pure .move, [.t 4], none⟩,
 ⟨some 48, .pure (.iaddrS 1), [.t 47, .c (.int .i64 0)], none⟩,
 ⟨some 49, .read (.load (some 1)), [.t 48], none⟩,
 ⟨some 50, .pcall 354, [.t 49], none⟩,
 ⟨none, .eff (.store 1), [.t 2, .t 50], none⟩,
 ⟨some 3, .pure .move, [.c (.bool true)], none⟩])
 .ret)
 (.seq (.ops [⟨some 52, .pure (.bin .eql), [.t 34, .c (.int .i64 5)], none⟩,
 ⟨some 51, .pure .move, [.t 52], none⟩])
 (.cond (.t 51)
 (.seq (.ops [⟨some 53, .pure .move, [.t 4], none⟩,
 ⟨some 54, .pure (.iaddrS 1), [.t 53, .c (.int .i64 0)], none⟩,
 ⟨some 55, .read (.load (some 1)), [.t 54], none⟩,
 ⟨some 56, .pure (.faddr 3), [.t 1], none⟩,
 ⟨some 57, .read (.load none), [.t 56], none⟩,
 ⟨some 58, .pure (.faddr 4), [.t 1], none⟩,
 ⟨some 59, .read (.load none), [.t 58], none⟩,
 ⟨some 60, .pcall 381, [.t 55, .t 57, .t 59], none⟩,
 ⟨some 61, .pure (.ext 0), [.t 60], none⟩,
 ⟨some 62, .pure (.ext 1), [.t 60], none⟩,
 ⟨none, .eff (.store 1), [.t 2, .t 61], none⟩,
 ⟨some 3, .pure .move, [.t 62], none⟩])
 .ret)
 (.seq (.seq (.ops [⟨some 64, .pure (.bin .eql), [.t 34, .c (.int .i64 3)], none⟩,
 ⟨some 63, .pure .move, [.t 64], none⟩])
 (.cond (.t 63)
 .skip
 (.seq (.ops [⟨some 65, .pure (.bin .eql), [.t 34, .c (.int .i64 4)], none⟩,
 ⟨some 63, .pure .move, [.t 65], none⟩])
 (.cond (.t 63)
 .skip
 (.ops [⟨some 66, .pure (.bin .eql), [.t 34, .c (.int .i64 6)], none⟩,
 ⟨some 63, .pure .move, [.t 66], none⟩])))))
 (.cond (.t 63)
 (.seq (.ops [⟨some 67, .pure .move, [.t 4], none⟩,
 ⟨some 68, .pure (.iaddrS 1), [.t 67, .c (.int .i64 0)], none⟩,
 ⟨some 69, .read (.load (some 1)), [.t 68], none⟩,
 ⟨some 9, .new (.new 1 [.agg [.snil 2]]), [], none⟩,
 ⟨none, .eff (.store 1), [.t 9, .t 69], none⟩,
 ⟨some 10, .pure .move, [.c (.bool true)], none⟩])
 (.seq (.seq (.ops [⟨some 70, .pure .move, [.t 4], none⟩,
 ⟨some 71, .pure (.sliceL 1 true false false), [.t 70, .c (.int .i64 1)], none⟩,
 ⟨some 72, .pure .lenL, [.t 71], none⟩,
 ⟨some 73, .pure .move, [.c (.int .i64 0)], none⟩])
 (.block 3
 (.loop [1, 2, 9, 71, 72, 73]
 (.seq (.ops [⟨some 74, .pure (.bin .lss), [.t 73, .t 72], none⟩])
 (.seq (.cond (.t 74)
 .skip
 (.exit 3))
 (.seq (.block 4
 (.seq (.ops [⟨some 75, .pure (.iaddrS 1), [.t 71, .t 73], none⟩,
 ⟨some 76, .read (.load (some 1)), [.t 75], none⟩,
 ⟨some 12, .new (.new 1 [.agg [.snil 2]]), [], none⟩,
 ⟨none, .eff (.store 1), [.t 12, .t 76], none⟩])
 (.seq (.ops [⟨some 78, .pure (.faddr 0), [.t 1], none⟩,
 ⟨some 79, .read (.load none), [.t 78], none⟩,
 ⟨some 80, .read (.load (some 1)), [.t 9], none⟩,
 ⟨some 81, .read (.load (some 1)), [.t 12], none⟩,
 ⟨some 82, .pcall 382, [.t 79, .t 80, .t 81], none⟩,
 ⟨some 77, .pure .move, [.t 82], none⟩,
 ⟨some 83, .pure (.ext 0), [.t 77], none⟩,
 ⟨some 84, .pure (.ext 1), [.t 77], none⟩,
 ⟨none, .eff (.store 1), [.t 9, .t 83], none⟩,
 ⟨some 10, .pure .move, [.t 84], none⟩])
 (.seq (.ops [⟨some 85, .pure .move, [.t 10], none⟩,
 ⟨some 86, .pure (.un .not), [.t 85], none⟩])
 (.cond (.t 86)
 (.seq (.ops [⟨some 87, .pure (.build [.snil 2] []), [], none⟩,
 ⟨none, .eff (.store 1), [.t 2, .t 87], none⟩,
 ⟨some 3, .pure .move, [.c (.bool false)], none⟩])
 .ret)
 .skip)))))
 (.ops [⟨some 88, .pure (.bin .add), [.t 73, .c (.int .i64 1)], none⟩,
 ⟨some 73, .pure .move, [.t 88], none⟩])))))))
 (.seq (.ops [⟨some 89, .read (.load (some 1)), [.t 9], none⟩,
 ⟨none, .eff (.store 1), [.t 2, .t 89], none⟩,
 ⟨some 3, .pure .move, [.c (.bool true)], none⟩])
 .ret)))
 .skip))))))))))))
 (.seq (.ops [⟨some 90, .pcall 383, [.c (.bool false), .c (.int .i64 0)], none⟩,
 ⟨some 91, .new (.buildSlice 2 [.agg [.bool false, .snil 3]] [0]), [.t 90], none⟩,
 ⟨some 92, .pure (.build [.snil 2] [(0, 1)]), [.t 91], none⟩,
 ⟨none, .eff (.store 1), [.t 2, .t 92], none⟩,
 ⟨some 3, .pure .move, [.c (.bool true)], none⟩])
 .ret))))) }
/-- datakit/datakitref15.nodes -/
def ac360:AFn:=
 { nt:=29, res:=[.tmp 4], body:=
 (.seq (.ops [⟨some 2, .new (.box 6), [.t 0], none⟩,
 ⟨some 4, .pure .move, [.c (.bool false)], none⟩])
 (.seq (.seq (.ops [⟨some 6, .pure .move, [.t 1], none⟩,
 ⟨some 7, .pure (.bin .lss), [.t 6, .c (.int .i64 1)], none⟩,
 ⟨some 8, .pure .move, [.t 7], none⟩,
 ⟨some 9, .read (.load (some 6)), [.t 2], some (8, false)⟩,
 ⟨some 10, .pcall 384, [.t 9], some (8, false)⟩,
 ⟨some 11, .pure (.un .not), [.t 10], some (8, false)⟩,
 ⟨some 12, .pure .pick, [.t 8, .c (.bool true), .t 11], none⟩])
 (.cond (.t 12)
 (.seq (.ops [⟨some 4, .pure .move, [.c (.bool false)], none⟩])
 .ret)
 .skip))
 (.seq (.seq (.ops [⟨some 5, .pure .move, [.c (.int .i64 0)], none⟩])
 (.block 0
 (.loop [1, 2, 5]
 (.seq (.seq (.ops [⟨some 13, .pure .move, [.t 5], none⟩,
 ⟨some 14, .pure (.faddr 5), [.t 2], none⟩,
 ⟨some 15, .read (.load none), [.t 14], none⟩,
 ⟨some 16, .pure .lenL, [.t 15], none⟩,
 ⟨some 17, .pure (.bin .lss), [.t 13, .t 16], none⟩])
 (.cond (.t 17)
 .skip
 (.exit 0)))
 (.seq (.block 1
 (.seq (.ops [⟨some 20, .pure (.faddr 5), [.t 2], none⟩,
 ⟨some 21, .read (.load none), [.t 20], none⟩,
 ⟨some 22, .pure .move, [.t 5], none⟩,
 ⟨some 23, .pure (.iaddrS 6), [.t 21, .t 22], none⟩,
 ⟨some 24, .read (.load (some 6)), [.t 23], none⟩,
 ⟨some 25, .pure .move, [.t 1], none⟩,
 ⟨some 26, .pure (.bin .sub), [.t 25, .c (.int .i64 1)], none⟩,
 ⟨some 27, .pcall 360, [.t 24, .t 26], none⟩,
 ⟨some 28, .pure (.un .not), [.t 27], none⟩])
 (.cond (.t 28)
 (.seq (.ops [⟨some 4, .pure .move, [.c (.bool false)], none⟩])
 .ret)
 .skip)))
 (.ops [⟨some 18, .pure .move, [.t 5], none⟩,
 ⟨some 19, .pure (.bin .add), [.t 18, .c (.int .i64 1)], none⟩,
 ⟨some 5, .pure .move, [.t 19], none⟩]))))))
 (.seq (.ops [⟨some 4, .pure .move, [.c (.bool true)], none⟩])
 .ret)))) }
/-- datakit/datakitref15.Parse -/
def ac366:AFn:=
 { nt:=29, res:=[.cell 2 (some 6), .tmp 3], body:=
 (.seq (.ops [⟨some 2, .new (.new 6 [.agg [.int .i64 0, .int .i64 0, .int .i64 0, .int .i64 0, .int .i64 0, .snil 6]]), [], none⟩,
 ⟨some 3, .pure .move, [.c (.int .i64 0)], none⟩])
 (.seq (.ops [⟨some 8, .pure .move, [.t 0], none⟩,
 ⟨some 9, .pcall 388, [.t 8, .c (.int .i64 0), .c (.int .i64 48)], none⟩,
 ⟨some 7, .pure .move, [.t 9], none⟩,
 ⟨some 10, .pure (.ext 0), [.t 7], none⟩,
 ⟨some 11, .pure (.ext 1), [.t 7], none⟩,
 ⟨some 12, .pure (.ext 2), [.t 7], none⟩,
 ⟨some 4, .new (.new 6 [.agg [.int .i64 0, .int .i64 0, .int .i64 0, .int .i64 0, .int .i64 0, .snil 6]]), [], none⟩,
 ⟨none, .eff (.store 6), [.t 4, .t 10], none⟩,
 ⟨some 5, .pure .move, [.t 11], none⟩,
 ⟨some 6, .pure .move, [.t 12], none⟩])
 (.seq (.seq (.ops [⟨some 13, .pure .move, [.t 6], none⟩,
 ⟨some 14, .pure (.un .not), [.t 13], none⟩,
 ⟨some 15, .pure .move, [.t 14], none⟩,
 ⟨some 16, .pure .move, [.t 5], some (15, false)⟩,
 ⟨some 17, .pure .move, [.t 0], some (15, false)⟩,
 ⟨some 18, .pure .lenS, [.t 17], some (15, false)⟩,
 ⟨some 19, .pure (.bin .neq), [.t 16, .t 18], some (15, false)⟩,
 ⟨some 20, .pure .pick, [.t 15, .c (.bool true), .t 19], none⟩,
 ⟨some 21, .pure .move, [.t 20], none⟩,
 ⟨some 22, .read (.load (some 6)), [.t 4], some (21, false)⟩,
 ⟨some 23, .pcall 389, [.t 22], some (21, false)⟩,
 ⟨some 24, .pure .move, [.t 0], some (21, false)⟩,
 ⟨some 25, .pure (.bin .neq), [.t 23, .t 24], some (21, false)⟩,
 ⟨some 26, .pure .pick, [.t 21, .c (.bool true), .t 25], none⟩])
 (.cond (.t 26)
 (.seq (.ops [⟨some 27, .pure (.build [.int .i64 0, .int .i64 0, .int .i64 0, .int .i64 0, .int .i64 0, .snil 6] []), [], none⟩,
 ⟨none, .eff (.store 6), [.t 2, .t 27], none⟩,
 ⟨some 3, .pure .move, [.c (.int .i64 3)], none⟩])
 .ret)
 .skip))
 (.seq (.ops [⟨some 28, .read (.load (some 6)), [.t 4], none⟩,
 ⟨none, .eff (.store 6), [.t 2, .t 28], none⟩,
 ⟨some 3, .pure .move, [.c (.int .i64 0)], none⟩])
 .ret)))) }
/-- datakit/automaton.pairs -/
def ac367:AFn:=
 { nt:=123, res:=[.cell 6 (some 1), .tmp 7], body:=
 (.seq (.ops [⟨some 3, .new (.box 1), [.t 0], none⟩,
 ⟨some 4, .new (.box 1), [.t 1], none⟩,
 ⟨some 6, .new (.new 1 [.agg [.snil 2]]), [], none⟩,
 ⟨some 7, .pure .move, [.c (.bool false)], none⟩])
 (.scope
 (.seq (.ops [⟨some 20, .read (.load (some 1)), [.t 3], none⟩,
 ⟨some 21, .read (.load (some 1)), [.t 4], none⟩,
 ⟨some 22, .new (.buildSlice 1 [.agg [.snil 2], .agg [.snil 2]] [0, 1]), [.t 20, .t 21], none⟩,
 ⟨some 23, .pcall 370, [.t 22], none⟩,
 ⟨some 8, .pure .move, [.t 23], none⟩])
 (.seq (.ops [⟨some 24, .new .mkMap, [], none⟩,
 ⟨some 25, .pure (.build [.int .i64 0, .int .i64 0] [(0, 1), (1, 1)]), [.c (.int .i64 0), .c (.int .i64 0)], none⟩,
 ⟨none, .eff (.mapSetK [.int, .int]), [.t 24, .t 25, .c (.int .i64 0)], none⟩,
 ⟨some 26, .pure .move, [.t 24], none⟩,
 ⟨some 9, .pure .move, [.t 26], none⟩])
 (.seq (.ops [⟨some 27, .pure (.build [.int .i64 0, .int .i64 0] [(0, 1), (1, 1)]), [.c (.int .i64 0), .c (.int .i64 0)], none⟩,
 ⟨some 28, .new (.buildSlice 2 [.agg [.int .i64 0, .int .i64 0]] [0]), [.t 27], none⟩,
 ⟨some 10, .pure .move, [.t 28], none⟩])
 (.seq (.ops [⟨some 11, .new (.new 1 [.agg [.snil 2]]), [], none⟩])
 (.seq .skip
 (.seq (.seq (.ops [⟨some 12, .pure .move, [.c (.int .i64 0)], none⟩])
 (.block 0
 (.loop [2, 3, 4, 6, 8, 9, 10, 11, 12]
 (.seq (.seq (.ops [⟨some 29, .pure .move, [.t 12], none⟩,
 ⟨some 30, .pure .move, [.t 10], none⟩,
 ⟨some 31, .pure .lenL, [.t 30], none⟩,
 ⟨some 32, .pure (.bin .lss), [.t 29, .t 31], none⟩])
 (.cond (.t 32)
 .skip
 (.exit 0)))
 (.seq (.block 1
 (.seq (.ops [⟨some 35, .pure .move, [.t 10], none⟩,
 ⟨some 36, .pure .move, [.t 12], none⟩,
 ⟨some 37, .pure (.iaddrS 2), [.t 35, .t 36], none⟩,
 ⟨some 38, .read (.load (some 2)), [.t 37], none⟩,
 ⟨some 13, .new (.new 1 [.int .i64 0, .int .i64 0]), [], none⟩,
 ⟨none, .eff (.store 2), [.t 13, .t 38], none⟩])
 (.seq (.seq (.ops [⟨some 39, .read (.load (some 2)), [.t 13], none⟩,
 ⟨some 40, .pure (.build [.int .i64 0, .int .i64 0] []), [], none⟩,
 ⟨some 41, .pure (.eqF [.int, .int] false), [.t 39, .t 40], none⟩,
 ⟨some 42, .pure .move, [.t 41], none⟩,
 ⟨some 43, .pure .move, [.t 12], some (42, true)⟩,
 ⟨some 44, .pure (.bin .gtr), [.t 43, .c (.int .i64 0)], some (42, true)⟩,
 ⟨some 45, .pure .pick, [.t 42, .t 44, .c (.bool false)], none⟩])
 (.cond (.t 45)
 (.exit 1)
 .skip))
 (.seq (.draw 1 [[⟨some 46, .pure .move, [.t 2], none⟩,
 ⟨some 47, .pure (.faddr 0), [.t 3], none⟩,
 ⟨some 48, .read (.load none), [.t 47], none⟩,
 ⟨some 49, .pure (.iaddrA 2 1), [.t 13, .c (.int .i64 0)], none⟩,
 ⟨some 50, .read (.load none), [.t 49], none⟩,
 ⟨some 51, .pure (.iaddrS 2), [.t 48, .t 50], none⟩,
 ⟨some 52, .pure (.faddr 0), [.t 51], none⟩,
 ⟨some 53, .read (.load none), [.t 52], none⟩,
 ⟨some 54, .pure (.faddr 0), [.t 4], none⟩,
 ⟨some 55, .read (.load none), [.t 54], none⟩,
 ⟨some 56, .pure (.iaddrA 2 1), [.t 13, .c (.int .i64 1)], none⟩,
 ⟨some 57, .read (.load none), [.t 56], none⟩,
 ⟨some 58, .pure (.iaddrS 2), [.t 55, .t 57], none⟩,
 ⟨some 59, .pure (.faddr 0), [.t 58], none⟩,
 ⟨some 60, .read (.load none), [.t 59], none⟩,
 ⟨some 61, .callv, [.t 46, .t 53, .t 60], none⟩,
 ⟨some 62, .pure (.build [.bool false, .snil 3] [(0, 1)]), [.t 61], none⟩,
 ⟨some 14, .newAt 0 (.new 2 [.agg [.bool false, .snil 3]]), [], none⟩,
 ⟨none, .eff (.store 2), [.t 14, .t 62], none⟩],
 [⟨some 46, .pure .move, [.t 2], none⟩,
 ⟨some 47, .pure (.faddr 0), [.t 3], none⟩,
 ⟨some 48, .read (.load none), [.t 47], none⟩,
 ⟨some 49, .pure (.iaddrA 2 1), [.t 13, .c (.int .i64 0)], none⟩,
 ⟨some 50, .read (.load none), [.t 49], none⟩,
 ⟨some 51, .pure (.iaddrS 2), [.t 48, .t 50], none⟩,
 ⟨some 52, .pure (.faddr 0), [.t 51], none⟩,
 ⟨some 53, .read (.load none), [.t 52], none⟩,
 ⟨some 54, .pure (.faddr 0), [.t 4], none⟩,
 ⟨some 55, .read (.load none), [.t 54], none⟩,
 ⟨some 56, .pure (.iaddrA 2 1), [.t 13, .c (.int .i64 1)], none⟩,
 ⟨some 57, .read (.load none), [.t 56], none⟩,
 ⟨some 58, .pure (.iaddrS 2), [.t 55, .t 57], none⟩,
 ⟨some 59, .pure (.faddr 0), [.t 58], none⟩,
 ⟨some 60, .read (.load none), [.t 59], none⟩,
 ⟨some 14, .newAt 0 (.new 2 [.agg [.bool false, .snil 3]]), [], none⟩,
 ⟨some 61, .callv, [.t 46, .t 53, .t 60], none⟩,
 ⟨some 62, .pure (.build [.bool false, .snil 3] [(0, 1)]), [.t 61], none⟩,
 ⟨none, .eff (.store 2), [.t 14, .t 62], none⟩]])
 (.seq (.seq (.ops [⟨some 63, .pure .move, [.t 8], none⟩,
 ⟨some 64, .pure .lenL, [.t 63], none⟩,
 ⟨some 65, .pure .move, [.c (.int .i64 0)], none⟩])
 (.block 2
 (.loop [2, 3, 4, 6, 8, 9, 10, 11, 12, 13, 14, 63, 64, 65]
 (.seq (.ops [⟨some 66, .pure (.bin .lss), [.t 65, .t 64], none⟩])
 (.seq (.cond (.t 66)
 .skip
 (.exit 2))
 (.seq (.block 3
 (.seq (.ops [⟨some 67, .pure .move, [.t 65], none⟩,
 ⟨some 68, .pure (.iaddrS 1), [.t 63, .t 65], none⟩,
 ⟨some 69, .read (.load none), [.t 68], none⟩,
 ⟨some 15, .pure .move, [.t 67], none⟩,
 ⟨some 16, .pure .move, [.t 69], none⟩])
 (.seq (.draw 1 [[⟨some 70, .read (.load (some 1)), [.t 3], none⟩,
 ⟨some 71, .pure (.iaddrA 2 1), [.t 13, .c (.int .i64 0)], none⟩,
 ⟨some 72, .read (.load none), [.t 71], none⟩,
 ⟨some 73, .pure .move, [.t 16], none⟩,
 ⟨some 74, .pcall 252, [.t 70, .t 72, .t 73], none⟩,
 ⟨some 75, .read (.load (some 1)), [.t 4], none⟩,
 ⟨some 76, .pure (.iaddrA 2 1), [.t 13, .c (.int .i64 1)], none⟩,
 ⟨some 77, .read (.load none), [.t 76], none⟩,
 ⟨some 78, .pure .move, [.t 16], none⟩,
 ⟨some 79, .pcall 252, [.t 75, .t 77, .t 78], none⟩,
 ⟨some 80, .pure (.build [.int .i64 0, .int .i64 0] [(0, 1), (1, 1)]), [.t 74, .t 79], none⟩,
 ⟨some 17, .newAt 0 (.new 1 [.int .i64 0, .int .i64 0]), [], none⟩,
 ⟨none, .eff (.store 2), [.t 17, .t 80], none⟩]])
 (.seq (.ops [⟨some 82, .pure .move, [.t 9], none⟩,
 ⟨some 83, .read (.load (some 2)), [.t 17], none⟩,
 ⟨some 84, .read (.lookupK [.int, .int] (.int .i64 0) true), [.t 82, .t 83], none⟩,
 ⟨some 81, .pure .move, [.t 84], none⟩,
 ⟨some 85, .pure (.ext 0), [.t 81], none⟩,
 ⟨some 86, .pure (.ext 1), [.t 81], none⟩,
 ⟨some 18, .pure .move, [.t 85], none⟩,
 ⟨some 19, .pure .move, [.t 86], none⟩])
 (.seq (.seq (.ops [⟨some 87, .pure .move, [.t 19], none⟩,
 ⟨some 88, .pure (.un .not), [.t 87], none⟩])
 (.cond (.t 88)
 (.seq (.seq (.ops [⟨some 89, .pure .move, [.t 10], none⟩,
 ⟨some 90, .pure .lenL, [.t 89], none⟩,
 ⟨some 91, .pure (.bin .geq), [.t 90, .c (.int .i64 1024)], none⟩])
 (.cond (.t 91)
 (.seq (.ops [⟨some 92, .pure (.build [.snil 2] []), [], none⟩,
 ⟨none, .eff (.store 1), [.t 11, .t 92], none⟩])
 (.exit 0))
 .skip))
 (.seq (.ops [⟨some 93, .pure .move, [.t 10], none⟩,
 ⟨some 94, .pure .lenL, [.t 93], none⟩,
 ⟨some 18, .pure .move, [.t 94], none⟩])
 (.seq (.ops [⟨some 95, .pure .move, [.t 9], none⟩,
 ⟨some 96, .read (.load (some 2)), [.t 17], none⟩,
 ⟨some 97, .pure .move, [.t 18], none⟩,
 ⟨none, .eff (.mapSetK [.int, .int]), [.t 95, .t 96, .t 97], none⟩])
 (.ops [⟨some 98, .pure .move, [.t 10], none⟩,
 ⟨some 99, .read (.load (some 2)), [.t 17], none⟩,
 ⟨some 100, .new (.buildSlice 2 [.agg [.int .i64 0, .int .i64 0]] [0]), [.t 99], none⟩,
 ⟨some 101, .eff (.append 2 16), [.t 98, .t 100], none⟩,
 ⟨some 10, .pure .move, [.t 101], none⟩]))))
 .skip))
 (.ops [⟨some 102, .pure (.faddr 1), [.t 14], none⟩,
 ⟨some 103, .read (.load none), [.t 102], none⟩,
 ⟨some 104, .pure .move, [.t 16], none⟩,
 ⟨some 105, .pure .move, [.t 8], none⟩,
 ⟨some 106, .pure .move, [.t 15], none⟩,
 ⟨some 107, .pcall 391, [.t 105, .t 106], none⟩,
 ⟨some 108, .pure .move, [.t 18], none⟩,
 ⟨some 109, .call 390, [.t 103, .t 104, .t 107, .t 108], none⟩,
 ⟨some 110, .pure (.faddr 1), [.t 14], none⟩,
 ⟨none, .eff (.store 1), [.t 110, .t 109], none⟩]))))))
 (.ops [⟨some 111, .pure (.bin .add), [.t 65, .c (.int .i64 1)], none⟩,
 ⟨some 65, .pure .move, [.t 111], none⟩])))))))
 (.ops [⟨some 112, .pure (.faddr 0), [.t 11], none⟩,
 ⟨some 113, .read (.load none), [.t 112], none⟩,
 ⟨some 114, .read (.load (some 2)), [.t 14], none⟩,
 ⟨some 115, .new (.buildSlice 2 [.agg [.bool false, .snil 3]] [0]), [.t 114], none⟩,
 ⟨some 116, .eff (.append 2 32), [.t 113, .t 115], none⟩,
 ⟨some 117, .pure (.faddr 0), [.t 11], none⟩,
 ⟨none, .eff (.store 1), [.t 117, .t 116], none⟩]))))))
 (.ops [⟨some 33, .pure .move, [.t 12], none⟩,
 ⟨some 34, .pure (.bin .add), [.t 33, .c (.int .i64 1)], none⟩,
 ⟨some 12, .pure .move, [.t 34], none⟩]))))))
 (.seq (.draw 0 [[⟨some 118, .read (.load (some 1)), [.t 11], none⟩,
 ⟨some 119, .pure (.faddr 0), [.t 11], none⟩,
 ⟨some 120, .read (.load none), [.t 119], none⟩,
 ⟨some 121, .pure .lenL, [.t 120], none⟩,
 ⟨some 122, .pure (.bin .gtr), [.t 121, .c (.int .i64 0)], none⟩,
 ⟨none, .eff (.store 1), [.t 6, .t 118], none⟩,
 ⟨some 7, .pure .move, [.t 122], none⟩],
 [⟨some 118, .read (.load (some 1)), [.t 11], none⟩,
 ⟨some 119, .pure (.faddr 0), [.t 11], none⟩,
 ⟨none, .eff (.store 1), [.t 6, .t 118], none⟩,
 ⟨some 120, .read (.load none), [.t 119], none⟩,
 ⟨some 121, .pure .lenL, [.t 120], none⟩,
 ⟨some 122, .pure (.bin .gtr), [.t 121, .c (.int .i64 0)], none⟩,
 ⟨some 7, .pure .move, [.t 122], none⟩]])
 .ret))))))))) }
/-- datakit/automaton.starts -/
def ac370:AFn:=
 { nt:=51, res:=[.tmp 2], body:=
 (.seq (.ops [⟨some 2, .pure .move, [.c (.snil 1)], none⟩])
 (.seq (.ops [⟨some 3, .new (.new 1 [.bool false, .bool false, .bool false, .bool false, .bool false, .bool false, .bool false, .bool false, .bool false, .bool false, .bool false, .bool false, .bool false, .bool false, .bool false, .bool false, .bool false, .bool false, .bool false, .bool false, .bool false, .bool false, .bool false, .bool false, .bool false, .bool false, .bool false, .bool false, .bool false, .bool false, .bool false, .bool false, .bool false, .bool false, .bool false, .bool false, .bool false, .bool false, .bool false, .bool false, .bool false, .bool false, .bool false, .bool false, .bool false, .bool false, .bool false, .bool false, .bool false, .bool false, .bool false, .bool false, .bool false, .bool false, .bool false, .bool false, .bool false, .bool false, .bool false, .bool false, .bool false, .bool false, .bool false, .bool false, .bool false, .bool false, .bool false, .bool false, .bool false, .bool false, .bool false, .bool false, .bool false, .bool false, .bool false, .bool false, .bool false, .bool false, .bool false, .bool false, .bool false, .bool false, .bool false, .bool false, .bool false, .bool false, .bool false, .bool false, .bool false, .bool false, .bool false, .bool false, .bool false, .bool false, .bool false, .bool false, .bool false, .bool false, .bool false, .bool false, .bool false, .bool false, .bool false, .bool false, .bool false, .bool false, .bool false, .bool false, .bool false, .bool false, .bool false, .bool false, .bool false, .bool false, .bool false, .bool false, .bool false, .bool false, .bool false, .bool false, .bool false, .bool false, .bool false, .bool false, .bool false, .bool false, .bool false, .bool false, .bool false, .bool false, .bool false, .bool false, .bool false, .bool false, .bool false, .bool false, .bool false, .bool false, .bool false, .bool false, .bool false, .bool false, .bool false, .bool false, .bool false, .bool false, .bool false, .bool false, .bool false, .bool false, .bool false, .bool false, .bool false, .bool false, .bool false, .bool false, .bool false, .bool false, .bool false, .bool false, .bool false, .bool false, .bool false, .bool false, .bool false, .bool false, .bool false, .bool false, .bool false, .bool false, .bool false, .bool false, .bool false, .bool false, .bool false, .bool false, .bool false, .bool false, .bool false, .bool false, .bool false, .bool false, .bool false, .bool false, .bool false, .bool false, .bool false, .bool false, .bool false, .bool false, .bool false, .bool false, .bool false, .bool false, .bool false, .bool false, .bool false, .bool false, .bool false, .bool false, .bool false, .bool false, .bool false, .bool false, .bool false, .bool false, .bool false, .bool false, .bool false, .bool false, .bool false, .bool false, .bool false, .bool false, .bool false, .bool false, .bool false, .bool false, .bool false, .bool false, .bool false, .bool false, .bool false, .bool false, .bool false, .bool false, .bool false, .bool false, .bool false, .bool false, .bool false, .bool false, .bool false, .bool false, .bool false, .bool false, .bool false, .bool false, .bool false, .bool false, .bool false, .bool false, .bool false, .bool false, .bool false, .bool false, .bool false, .bool false, .bool false, .bool false, .bool false, .bool false, .bool false, .bool false, .bool false, .bool false]), [], none⟩])
 (.seq (.seq (.ops [⟨some 13, .pure .move, [.t 0], none⟩,
 ⟨some 14, .pure .lenL, [.t 13], none⟩,
 ⟨some 15, .pure .move, [.c (.int .i64 0)], none⟩])
 (.block 0
 (.loop [3, 13, 14, 15]
 (.seq (.ops [⟨some 16, .pure (.bin .lss), [.t 15, .t 14], none⟩])
 (.seq (.cond (.t 16)
 .skip
 (.exit 0))
 (.seq (.block 1
 (.seq (.ops [⟨some 17, .pure (.iaddrS 1), [.t 13, .t 15], none⟩,
 ⟨some 18, .read (.load (some 1)), [.t 17], none⟩,
 ⟨some 5, .new (.new 1 [.agg [.snil 2]]), [], none⟩,
 ⟨none, .eff (.store 1), [.t 5, .t 18], none⟩])
 (.seq (.ops [⟨some 19, .pure (.faddr 0), [.t 5], none⟩,
 ⟨some 20, .read (.load none), [.t 19], none⟩,
 ⟨some 21, .pure .lenL, [.t 20], none⟩,
 ⟨some 22, .pure .move, [.c (.int .i64 0)], none⟩])
 (.block 2
 (.loop [3, 13, 14, 15, 20, 21, 22]
 (.seq (.ops [⟨some 23, .pure (.bin .lss), [.t 22, .t 21], none⟩])
 (.seq (.cond (.t 23)
 .skip
 (.exit 2))
 (.seq (.block 3
 (.seq (.ops [⟨some 24, .pure (.iaddrS 2), [.t 20, .t 22], none⟩,
 ⟨some 25, .read (.load (some 2)), [.t 24], none⟩,
 ⟨some 7, .new (.new 2 [.agg [.bool false, .snil 3]]), [], none⟩,
 ⟨none, .eff (.store 2), [.t 7, .t 25], none⟩])
 (.seq (.ops [⟨some 26, .pure (.faddr 1), [.t 7], none⟩,
 ⟨some 27, .read (.load none), [.t 26], none⟩,
 ⟨some 28, .pure .lenL, [.t 27], none⟩,
 ⟨some 29, .pure .move, [.c (.int .i64 0)], none⟩])
 (.block 4
 (.loop [3, 13, 14, 15, 20, 21, 22, 27, 28, 29]
 (.seq (.ops [⟨some 30, .pure (.bin .lss), [.t 29, .t 28], none⟩])
 (.seq (.cond (.t 30)
 .skip
 (.exit 4))
 (.seq (.block 5
 (.seq (.ops [⟨some 31, .pure (.iaddrS 3), [.t 27, .t 29], none⟩,
 ⟨some 32, .read (.load (some 3)), [.t 31], none⟩,
 ⟨some 9, .new (.new 3 [.agg [.int .i64 0, .int .i64 0, .int .i64 0]]), [], none⟩,
 ⟨none, .eff (.store 3), [.t 9, .t 32], none⟩])
 (.ops [⟨some 33, .pure (.faddr 0), [.t 9], none⟩,
 ⟨some 34, .read (.load none), [.t 33], none⟩,
 ⟨some 35, .pure (.iaddrA 256 1), [.t 3, .t 34], none⟩,
 ⟨none, .eff (.store 1), [.t 35, .c (.bool true)], none⟩])))
 (.ops [⟨some 36, .pure (.bin .add), [.t 29, .c (.int .i64 1)], none⟩,
 ⟨some 29, .pure .move, [.t 36], none⟩])))))))))
 (.ops [⟨some 37, .pure (.bin .add), [.t 22, .c (.int .i64 1)], none⟩,
 ⟨some 22, .pure .move, [.t 37], none⟩])))))))))
 (.ops [⟨some 38, .pure (.bin .add), [.t 15, .c (.int .i64 1)], none⟩,
 ⟨some 15, .pure .move, [.t 38], none⟩])))))))
 (.seq (.ops [⟨some 10, .pure .move, [.c (.snil 1)], none⟩])
 (.seq (.seq (.ops [⟨some 39, .read (.load (some 256)), [.t 3], none⟩,
 ⟨some 40, .pure .move, [.c (.int .i64 0)], none⟩])
 (.block 6
 (.loop [10, 39, 40]
 (.seq (.ops [⟨some 41, .pure (.bin .lss), [.t 40, .c (.int .i64 256)], none⟩])
 (.seq (.cond (.t 41)
 .skip
 (.exit 6))
 (.seq (.block 7
 (.seq (.ops [⟨some 42, .pure .move, [.t 40], none⟩,
 ⟨some 43, .pure (.idxArr 256 1 false), [.t 39, .t 40], none⟩,
 ⟨some 11, .pure .move, [.t 42], none⟩,
 ⟨some 12, .pure .move, [.t 43], none⟩])
 (.seq (.ops [⟨some 44, .pure .move, [.t 12], none⟩])
 (.cond (.t 44)
 (.ops [⟨some 45, .pure .move, [.t 10], none⟩,
 ⟨some 46, .pure .move, [.t 11], none⟩,
 ⟨some 47, .new (.buildSlice 1 [.int .i64 0] [0]), [.t 46], none⟩,
 ⟨some 48, .eff (.append 1 8), [.t 45, .t 47], none⟩,
 ⟨some 10, .pure .move, [.t 48], none⟩])
 .skip))))
 (.ops [⟨some 49, .pure (.bin .add), [.t 40, .c (.int .i64 1)], none⟩,
 ⟨some 40, .pure .move, [.t 49], none⟩])))))))
 (.seq (.ops [⟨some 50, .pure .move, [.t 10], none⟩,
 ⟨some 2, .pure .move, [.t 50], none⟩])
 .ret)))))) }
/-- strconv.Itoa -/
def ac371:AFn:=
 { nt:=5, res:=[.tmp 2], body:=
 (.seq (.ops [⟨some 2, .pure .move, [.c (.str [])], none⟩])
 (.seq (.ops [⟨some 3, .pure .move, [.t 0], none⟩,
 ⟨some 4, .pcall 395, [.t 3], none⟩,
 ⟨some 2, .pure .move, [.t 4], none⟩])
 .ret)) }
/-- datakit/automaton.numbered -/
def ac372:AFn:=
 { nt:=95, res:=[.cell 8 (some 1)], body:=
 (.seq (.ops [⟨some 4, .new (.box 1), [.t 0], none⟩,
 ⟨some 8, .new (.new 1 [.agg [.snil 2]]), [], none⟩])
 (.seq (.ops [⟨some 19, .new .mkMap, [], none⟩,
 ⟨some 20, .pure .move, [.t 3], none⟩,
 ⟨some 21, .pure (.iaddrS 1), [.t 20, .c (.int .i64 0)], none⟩,
 ⟨some 22, .read (.load none), [.t 21], none⟩,
 ⟨none, .eff (.mapSet (.one .int)), [.t 19, .t 22, .c (.int .i64 0)], none⟩,
 ⟨some 23, .pure .move, [.t 19], none⟩,
 ⟨some 9, .pure .move, [.t 23], none⟩])
 (.seq (.ops [⟨some 24, .new (.buildSlice 1 [.int .i64 0] [0]), [.c (.int .i64 0)], none⟩,
 ⟨some 10, .pure .move, [.t 24], none⟩])
 (.seq (.ops [⟨some 11, .new (.new 1 [.agg [.snil 2]]), [], none⟩])
 (.seq (.seq (.ops [⟨some 12, .pure .move, [.c (.int .i64 0)], none⟩])
 (.block 0
 (.loop [1, 2, 3, 4, 8, 9, 10, 11, 12, 3011]
 (.seq (.seq (.ops [⟨some 25, .pure .move, [.t 12], none⟩,
 ⟨some 26, .pure .move, [.t 10], none⟩,
 ⟨some 27, .pure .lenL, [.t 26], none⟩,
 ⟨some 28, .pure (.bin .lss), [.t 25, .t 27], none⟩])
 (.cond (.t 28)
 .skip
 (.exit 0)))
 (.seq (.block 1
 (.seq (.ops [⟨some 31, .pure .move, [.t 10], none⟩,
 ⟨some 32, .pure .move, [.t 12], none⟩,
 ⟨some 33, .pure (.iaddrS 1), [.t 31, .t 32], none⟩,
 ⟨some 34, .read (.load none), [.t 33], none⟩,
 ⟨some 13, .pure .move, [.t 34], none⟩])
 (.seq (.ops [⟨some 35, .pure (.faddr 0), [.t 4], none⟩,
 ⟨some 36, .read (.load none), [.t 35], none⟩,
 ⟨some 37, .pure .move, [.t 13], none⟩,
 ⟨some 38, .pure (.iaddrS 2), [.t 36, .t 37], none⟩,
 ⟨some 39, .pure (.faddr 0), [.t 38], none⟩,
 ⟨some 40, .read (.load none), [.t 39], none⟩,
 ⟨some 41, .pure (.build [.bool false, .snil 3] [(0, 1)]), [.t 40], none⟩,
 ⟨some 14, .new (.new 2 [.agg [.bool false, .snil 3]]), [], none⟩,
 ⟨none, .eff (.store 2), [.t 14, .t 41], none⟩])
 (.seq (.seq (.ops [⟨some 42, .pure .move, [.t 2], none⟩,
 ⟨some 43, .pure .move, [.t 13], none⟩,
 ⟨some 44, .pure (.iaddrS 1), [.t 42, .t 43], none⟩,
 ⟨some 45, .read (.load none), [.t 44], none⟩,
 ⟨some 46, .pure .lenL, [.t 45], none⟩,
 ⟨some 47, .pure .move, [.c (.int .i64 0)], none⟩])
 (.block 2
 (.loop [1, 2, 3, 4, 8, 9, 10, 11, 12, 14, 45, 46, 47]
 (.seq (.ops [⟨some 48, .pure (.bin .lss), [.t 47, .t 46], none⟩])
 (.seq (.cond (.t 48)
 .skip
 (.exit 2))
 (.seq (.block 3
 (.seq (.ops [⟨some 49, .pure .move, [.t 47], none⟩,
 ⟨some 50, .pure (.iaddrS 1), [.t 45, .t 47], none⟩,
 ⟨some 51, .read (.load none), [.t 50], none⟩,
 ⟨some 15, .pure .move, [.t 49], none⟩,
 ⟨some 16, .pure .move, [.t 51], none⟩])
 (.seq (.ops [⟨some 53, .pure .move, [.t 9], none⟩,
 ⟨some 54, .pure .move, [.t 3], none⟩,
 ⟨some 55, .pure .move, [.t 16], none⟩,
 ⟨some 56, .pure (.iaddrS 1), [.t 54, .t 55], none⟩,
 ⟨some 57, .read (.load none), [.t 56], none⟩,
 ⟨some 58, .read (.lookup (.one .int) (.int .i64 0) true), [.t 53, .t 57], none⟩,
 ⟨some 52, .pure .move, [.t 58], none⟩,
 ⟨some 59, .pure (.ext 0), [.t 52], none⟩,
 ⟨some 60, .pure (.ext 1), [.t 52], none⟩,
 ⟨some 17, .pure .move, [.t 59], none⟩,
 ⟨some 18, .pure .move, [.t 60], none⟩])
 (.seq (.seq (.ops [⟨some 61, .pure .move, [.t 18], none⟩,
 ⟨some 62, .pure (.un .not), [.t 61], none⟩])
 (.cond (.t 62)
 (.seq (.ops [⟨some 63, .pure .move, [.t 10], none⟩,
 ⟨some 64, .pure .lenL, [.t 63], none⟩,
 ⟨some 17, .pure .move, [.t 64], none⟩])
 (.seq (.ops [⟨some 65, .pure .move, [.t 9], none⟩,
 ⟨some 66, .pure .move, [.t 3], none⟩,
 ⟨some 67, .pure .move, [.t 16], none⟩,
 ⟨some 68, .pure (.iaddrS 1), [.t 66, .t 67], none⟩,
 ⟨some 69, .read (.load none), [.t 68], none⟩,
 ⟨some 70, .pure .move, [.t 17], none⟩,
 ⟨none, .eff (.mapSet (.one .int)), [.t 65, .t 69, .t 70], none⟩])
 (.ops [⟨some 71, .pure .move, [.t 10], none⟩,
 ⟨some 72, .pure .move, [.t 16], none⟩,
 ⟨some 73, .new (.buildSlice 1 [.int .i64 0] [0]), [.t 72], none⟩,
 ⟨some 74, .eff (.append 1 8), [.t 71, .t 73], none⟩,
 ⟨some 10, .pure .move, [.t 74], none⟩])))
 .skip))
 (.ops [⟨some 75, .pure (.faddr 1), [.t 14], none⟩,
 ⟨some 76, .read (.load none), [.t 75], none⟩,
 ⟨some 77, .pure .move, [.t 1], none⟩,
 ⟨some 78, .pure .move, [.t 15], none⟩,
 ⟨some 79, .pure (.iaddrS 1), [.t 77, .t 78], none⟩,
 ⟨some 80, .read (.load none), [.t 79], none⟩,
 ⟨some 81, .pure .move, [.t 1], none⟩,
 ⟨some 82, .pure .move, [.t 15], none⟩,
 ⟨some 83, .pcall 391, [.t 81, .t 82], none⟩,
 ⟨some 84, .pure .move, [.t 17], none⟩,
 ⟨some 85, .call 390, [.t 76, .t 80, .t 83, .t 84], none⟩,
 ⟨some 86, .pure (.faddr 1), [.t 14], none⟩,
 ⟨none, .eff (.store 1), [.t 86, .t 85], none⟩])))))
 (.ops [⟨some 87, .pure (.bin .add), [.t 47, .c (.int .i64 1)], none⟩,
 ⟨some 47, .pure .move, [.t 87], none⟩])))))))
 (.ops [⟨some 88, .pure (.faddr 0), [.t 11], none⟩,
 ⟨some 89, .read (.load none), [.t 88], none⟩,
 ⟨some 90, .read (.load (some 2)), [.t 14], none⟩,
 ⟨some 91, .new (.buildSlice 2 [.agg [.bool false, .snil 3]] [0]), [.t 90], none⟩,
 ⟨some 92, .eff (.append 2 32), [.t 89, .t 91], none⟩,
 ⟨some 93, .pure (.faddr 0), [.t 11], none⟩,
 ⟨none, .eff (.store 1), [.t 93, .t 92], none⟩])))))
 (.ops [⟨some 29, .pure .move, [.t 12], none⟩,
 ⟨some 30, .pure (.bin .add), [.t 29, .c (.int .i64 1)], none⟩,
 ⟨some 12, .pure .move, [.t 30], none⟩]))))))
 (.seq (.ops [⟨some 94, .read (.load (some 1)), [.t 11], none⟩,
 ⟨none, .eff (.store 1), [.t 8, .t 94], none⟩])
 .ret)))))) }
end Ago
