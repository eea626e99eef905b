/- The abstract code of the functions, printed by program. -/
import Derived.Test.YtgfkbpjgfdgfbaaGreatDoorMachE
set_option linter.unusedSimpArgs false
set_option linter.unusedVariables false
set_option maxRecDepth 100000
namespace Ago
/-- math/bits.Len -/
def ac49:AFn:=
 { nt:=8, res:=[.tmp 2], body:=
 (.seq (.ops [Zc 2 (.int .i64 0)])
 (.seq (.cond (.c (.bool false))
 (.seq (.ops [Za 3 0,
 ⟨some 4, .pure (.conv .u32), [.t 3], none⟩,Zy 5 72 4,Za 2 5])
 .ret)
 .skip)
 (.seq (.ops [Za 6 0,Zy 7 73 6,Za 2 7])
 .ret))) }
/-- math/bits.Len32 -/
def ac72:AFn:=
 { nt:=19, res:=[.tmp 2], body:=
 (.seq (.ops [Zc 2 (.int .i64 0)])
 (.seq (.seq (.ops [Za 3 0,
 ⟨some 4, .pure (.bin .geq), [.t 3, .c (.int .u32 65536)], none⟩])
 (.cond (.t 4)
 (.seq (.ops [Za 5 0,
 ⟨some 6, .pure (.bin .shr), [.t 5, .c (.int .u64 16)], none⟩,Za 0 6])
 (.ops [Zc 2 (.int .i64 16)]))
 .skip))
 (.seq (.seq (.ops [Za 7 0,
 ⟨some 8, .pure (.bin .geq), [.t 7, .c (.int .u32 256)], none⟩])
 (.cond (.t 8)
 (.seq (.ops [Za 9 0,
 ⟨some 10, .pure (.bin .shr), [.t 9, .c (.int .u64 8)], none⟩,Za 0 10])
 (.ops [Za 11 2,Zn 12 11 8 .add,Za 2 12]))
 .skip))
 (.seq (.ops [Za 13 2,Za 14 0,
 ⟨some 15, .pure (.conv .u8), [.t 14], none⟩,
 ⟨some 16, .pure .idxStr, [.c (.str [0, 1, 2, 2, 3, 3, 3, 3, 4, 4, 4, 4, 4, 4, 4, 4, 5, 5, 5, 5, 5, 5, 5, 5, 5, 5, 5, 5, 5, 5, 5, 5, 6, 6, 6, 6, 6, 6, 6, 6, 6, 6, 6, 6, 6, 6, 6, 6, 6, 6, 6, 6, 6, 6, 6, 6, 6, 6, 6, 6, 6, 6, 6, 6, 7, 7, 7, 7, 7, 7, 7, 7, 7, 7, 7, 7, 7, 7, 7, 7, 7, 7, 7, 7, 7, 7, 7, 7, 7, 7, 7, 7, 7, 7, 7, 7, 7, 7, 7, 7, 7, 7, 7, 7, 7, 7, 7, 7, 7, 7, 7, 7, 7, 7, 7, 7, 7, 7, 7, 7, 7, 7, 7, 7, 7, 7, 7, 7, 8, 8, 8, 8, 8, 8, 8, 8, 8, 8, 8, 8, 8, 8, 8, 8, 8, 8, 8, 8, 8, 8, 8, 8, 8, 8, 8, 8, 8, 8, 8, 8, 8, 8, 8, 8, 8, 8, 8, 8, 8, 8, 8, 8, 8, 8, 8, 8, 8, 8, 8, 8, 8, 8, 8, 8, 8, 8, 8, 8, 8, 8, 8, 8, 8, 8, 8, 8, 8, 8, 8, 8, 8, 8, 8, 8, 8, 8, 8, 8, 8, 8, 8, 8, 8, 8, 8, 8, 8, 8, 8, 8, 8, 8, 8, 8, 8, 8, 8, 8, 8, 8, 8, 8, 8, 8, 8, 8, 8, 8, 8, 8, 8, 8, 8, 8, 8, 8, 8, 8, 8, 8, 8, 8, 8, 8, 8, 8]), .t 15], none⟩,
 ⟨some 17, .pure (.conv .i64), [.t 16], none⟩,Zl 18 13 17 .add,Za 2 18])
 .ret)))) }
/-- math/bits.Len64 -/
def ac73:AFn:=
 { nt:=25, res:=[.tmp 2], body:=
 (.seq (.ops [Zc 2 (.int .i64 0)])
 (.seq (.seq (.ops [Za 3 0,
 ⟨some 4, .pure (.bin .geq), [.t 3, .c (.int .u64 4294967296)], none⟩])
 (.cond (.t 4)
 (.seq (.ops [Za 5 0,
 ⟨some 6, .pure (.bin .shr), [.t 5, .c (.int .u64 32)], none⟩,Za 0 6])
 (.ops [Zc 2 (.int .i64 32)]))
 .skip))
 (.seq (.seq (.ops [Za 7 0,
 ⟨some 8, .pure (.bin .geq), [.t 7, .c (.int .u64 65536)], none⟩])
 (.cond (.t 8)
 (.seq (.ops [Za 9 0,
 ⟨some 10, .pure (.bin .shr), [.t 9, .c (.int .u64 16)], none⟩,Za 0 10])
 (.ops [Za 11 2,Zn 12 11 16 .add,Za 2 12]))
 .skip))
 (.seq (.seq (.ops [Za 13 0,
 ⟨some 14, .pure (.bin .geq), [.t 13, .c (.int .u64 256)], none⟩])
 (.cond (.t 14)
 (.seq (.ops [Za 15 0,
 ⟨some 16, .pure (.bin .shr), [.t 15, .c (.int .u64 8)], none⟩,Za 0 16])
 (.ops [Za 17 2,Zn 18 17 8 .add,Za 2 18]))
 .skip))
 (.seq (.ops [Za 19 2,Za 20 0,
 ⟨some 21, .pure (.conv .u8), [.t 20], none⟩,
 ⟨some 22, .pure .idxStr, [.c (.str [0, 1, 2, 2, 3, 3, 3, 3, 4, 4, 4, 4, 4, 4, 4, 4, 5, 5, 5, 5, 5, 5, 5, 5, 5, 5, 5, 5, 5, 5, 5, 5, 6, 6, 6, 6, 6, 6, 6, 6, 6, 6, 6, 6, 6, 6, 6, 6, 6, 6, 6, 6, 6, 6, 6, 6, 6, 6, 6, 6, 6, 6, 6, 6, 7, 7, 7, 7, 7, 7, 7, 7, 7, 7, 7, 7, 7, 7, 7, 7, 7, 7, 7, 7, 7, 7, 7, 7, 7, 7, 7, 7, 7, 7, 7, 7, 7, 7, 7, 7, 7, 7, 7, 7, 7, 7, 7, 7, 7, 7, 7, 7, 7, 7, 7, 7, 7, 7, 7, 7, 7, 7, 7, 7, 7, 7, 7, 7, 8, 8, 8, 8, 8, 8, 8, 8, 8, 8, 8, 8, 8, 8, 8, 8, 8, 8, 8, 8, 8, 8, 8, 8, 8, 8, 8, 8, 8, 8, 8, 8, 8, 8, 8, 8, 8, 8, 8, 8, 8, 8, 8, 8, 8, 8, 8, 8, 8, 8, 8, 8, 8, 8, 8, 8, 8, 8, 8, 8, 8, 8, 8, 8, 8, 8, 8, 8, 8, 8, 8, 8, 8, 8, 8, 8, 8, 8, 8, 8, 8, 8, 8, 8, 8, 8, 8, 8, 8, 8, 8, 8, 8, 8, 8, 8, 8, 8, 8, 8, 8, 8, 8, 8, 8, 8, 8, 8, 8, 8, 8, 8, 8, 8, 8, 8, 8, 8, 8, 8, 8, 8, 8, 8, 8, 8, 8, 8]), .t 21], none⟩,
 ⟨some 23, .pure (.conv .i64), [.t 22], none⟩,Zl 24 19 23 .add,Za 2 24])
 .ret))))) }
/-- cmp.isNaN[int] -/
def ac74:AFn:=
 { nt:=6, res:=[.tmp 2], body:=
 (.seq (.ops [Zc 2 (.bool false)])
 (.seq (.ops [Za 3 0,Za 4 0,Zl 5 3 4 .neq,Za 2 5])
 .ret)) }
/-- slices.nextPowerOfTwo -/
def ac86:AFn:=
 { nt:=7, res:=[.tmp 2], body:=
 (.seq (.ops [Zc 2 (.int .u64 0)])
 (.seq (.ops [Za 3 0,
 ⟨some 4, .pure (.conv .u64), [.t 3], none⟩,Zy 5 49 4,
 ⟨some 6, .pure (.bin .shl), [.c (.int .u64 1), .t 5], none⟩,Za 2 6])
 .ret)) }
/-- (*slices.xorshift).Next -/
def ac87:AFn:=
 { nt:=33, res:=[.tmp 2], body:=
 (.seq (.ops [Zc 2 (.int .u64 0)])
 (.seq (.ops [Za 3 0,
 ⟨some 4, .pure .chk, [.t 3], none⟩,Zd 5 4,Za 6 0,
 ⟨some 7, .pure .chk, [.t 6], none⟩,Zd 8 7,
 ⟨some 9, .pure (.bin .shl), [.t 8, .c (.int .u64 13)], none⟩,Zl 10 5 9 .xor,
 ⟨some 11, .pure .chk, [.t 3], none⟩,Zu 11 10 1])
 (.seq (.ops [Za 12 0,
 ⟨some 13, .pure .chk, [.t 12], none⟩,Zd 14 13,Za 15 0,
 ⟨some 16, .pure .chk, [.t 15], none⟩,Zd 17 16,
 ⟨some 18, .pure (.bin .shr), [.t 17, .c (.int .u64 7)], none⟩,Zl 19 14 18 .xor,
 ⟨some 20, .pure .chk, [.t 12], none⟩,Zu 20 19 1])
 (.seq (.ops [Za 21 0,
 ⟨some 22, .pure .chk, [.t 21], none⟩,Zd 23 22,Za 24 0,
 ⟨some 25, .pure .chk, [.t 24], none⟩,Zd 26 25,
 ⟨some 27, .pure (.bin .shl), [.t 26, .c (.int .u64 17)], none⟩,Zl 28 23 27 .xor,
 ⟨some 29, .pure .chk, [.t 21], none⟩,Zu 29 28 1])
 (.seq (.ops [Za 30 0,
 ⟨some 31, .pure .chk, [.t 30], none⟩,Zd 32 31,Za 2 32])
 .ret))))) }
/-- slices.Sort[[]int,int] -/
def ac199:AFn:=
 { nt:=11, res:=[], body:=
 (.seq (.ops [Za 3 0,Zp 4 3,Za 2 4])
 (.ops [Za 5 0,Za 6 2,Za 7 2,
 ⟨some 8, .pure (.conv .u64), [.t 7], none⟩,Zy 9 49 8,
 ⟨some 10, .call 208, [.t 5, .c (.int .i64 0), .t 6, .t 9], none⟩])) }
/-- slices.Compact[[]int,int] -/
def ac200:AFn:=
 { nt:=61, res:=[.tmp 2], body:=
 (.seq (.ops [Zc 2 (.snil 1)])
 (.seq (.seq (.ops [Za 6 0,Zp 7 6,Zn 8 7 2 .lss])
 (.cond (.t 8)
 (.seq (.ops [Za 9 0,Za 2 9])
 .ret)
 .skip))
 (.seq (.seq (.ops [Zc 3 (.int .i64 1)])
 (.block 0
 (.loop [0, 3]
 (.seq (.seq (.ops [Za 10 3,Za 11 0,Zp 12 11,Zl 13 10 12 .lss])
 (.cond (.t 13)
 .skip
 (.exit 0)))
 (.seq (.block 1
 (.seq (.ops [Za 16 0,Za 17 3,Zj 18 16 17 1,Zd 19 18,Za 20 0,Za 21 3,Zn 22 21 1 .sub,Zj 23 20 22 1,Zd 24 23,Zl 25 19 24 .eql])
 (.cond (.t 25)
 (.seq (.ops [Za 26 0,Za 27 3,
 ⟨some 28, .pure (.sliceL 1 true false false), [.t 26, .t 27], none⟩,Za 4 28])
 (.seq (.seq (.ops [Zc 5 (.int .i64 1)])
 (.block 2
 (.loop [0, 3, 4, 5]
 (.seq (.seq (.ops [Za 29 5,Za 30 4,Zp 31 30,Zl 32 29 31 .lss])
 (.cond (.t 32)
 .skip
 (.exit 2)))
 (.seq (.block 3
 (.seq (.ops [Za 35 4,Za 36 5,Zj 37 35 36 1,Zd 38 37,Za 39 4,Za 40 5,Zn 41 40 1 .sub,Zj 42 39 41 1,Zd 43 42,Zl 44 38 43 .neq])
 (.cond (.t 44)
 (.seq (.ops [Za 45 0,Za 46 3,Za 47 4,Za 48 5,Zj 49 47 48 1,Zd 50 49,Zj 51 45 46 1,Zu 51 50 1])
 (.ops [Za 52 3,Zn 53 52 1 .add,Za 3 53]))
 .skip)))
 (.ops [Za 33 5,Zn 34 33 1 .add,Za 5 34]))))))
 (.seq (.ops [Za 54 0,Za 55 3,
 ⟨some 56, .pure (.sliceL 1 true false false), [.t 54, .t 55], none⟩,
 ⟨none, .eff (.clearS (.int .i64 0)), [.t 56], none⟩])
 (.seq (.ops [Za 57 0,Za 58 3,
 ⟨some 59, .pure (.sliceL 1 false true false), [.t 57, .t 58], none⟩,Za 2 59])
 .ret))))
 .skip)))
 (.ops [Za 14 3,Zn 15 14 1 .add,Za 3 15]))))))
 (.seq (.ops [Za 60 0,Za 2 60])
 .ret)))) }
/-- slices.ContainsFunc[[]int,int] -/
def ac201:AFn:=
 { nt:=9, res:=[.tmp 4], body:=
 (.seq (.ops [Zc 4 (.bool false)])
 (.seq (.ops [Za 5 0,Za 6 1,
 ⟨some 7, .call 209, [.t 5, .t 6], none⟩,Zn 8 7 0 .geq,Za 4 8])
 .ret)) }
/-- slices.pdqsortOrdered[int] -/
def ac208:AFn:=
 { nt:=134, res:=[], body:=
 (.seq (.ops [Zc 8 (.bool true)])
 (.seq (.ops [Zc 9 (.bool true)])
 (.block 0
 (.loop [0, 1, 2, 3, 8, 9]
 (.block 1
 (.seq (.ops [Za 19 2,Za 20 1,Zl 21 19 20 .sub,Za 10 21])
 (.seq (.seq (.ops [Za 22 10,Zn 23 22 12 .leq])
 (.cond (.t 23)
 (.seq (.ops [Za 24 0,Za 25 1,Za 26 2,
 ⟨some 27, .call 219, [.t 24, .t 25, .t 26], none⟩])
 .ret)
 .skip))
 (.seq (.seq (.ops [Za 28 3,Zn 29 28 0 .eql])
 (.cond (.t 29)
 (.seq (.ops [Za 30 0,Za 31 1,Za 32 2,
 ⟨some 33, .call 220, [.t 30, .t 31, .t 32], none⟩])
 .ret)
 .skip))
 (.seq (.seq (.ops [Za 34 8,Zr 35 34])
 (.cond (.t 35)
 (.seq (.ops [Za 36 0,Za 37 1,Za 38 2,
 ⟨some 39, .call 221, [.t 36, .t 37, .t 38], none⟩])
 (.ops [Za 40 3,Zn 41 40 1 .sub,Za 3 41]))
 .skip))
 (.seq (.ops [Za 43 0,Za 44 1,Za 45 2,
 ⟨some 46, .call 222, [.t 43, .t 44, .t 45], none⟩,Za 42 46,Zt 47 42 0,Zt 48 42 1,Za 11 47,Za 12 48])
 (.seq (.seq (.ops [Za 49 12,Zn 50 49 2 .eql])
 (.cond (.t 50)
 (.seq (.ops [Za 51 0,Za 52 1,Za 53 2,
 ⟨some 54, .call 223, [.t 51, .t 52, .t 53], none⟩])
 (.seq (.ops [Za 55 2,Zn 56 55 1 .sub,Za 57 11,Za 58 1,Zl 59 57 58 .sub,Zl 60 56 59 .sub,Za 11 60])
 (.ops [Zc 12 (.int .i64 1)])))
 .skip))
 (.seq (.seq (.ops [Za 61 8,Za 62 61,Zb 63 9 62 true,Zv 64 62 63 false,Za 65 64,Zb 66 12 65 true,Zo 67 66 1 .eql 65 true,Zv 68 65 67 false])
 (.cond (.t 68)
 (.seq (.ops [Za 69 0,Za 70 1,Za 71 2,
 ⟨some 72, .call 224, [.t 69, .t 70, .t 71], none⟩])
 (.cond (.t 72)
 .ret
 .skip))
 .skip))
 (.seq (.seq (.ops [Za 73 1,Zn 74 73 0 .gtr,Za 75 74,Zb 76 0 75 true,Zb 77 1 75 true,Zo 78 77 1 .sub 75 true,Zk 79 76 78 1 75 true,Ze 80 79 75 true,Zb 81 0 75 true,Zb 82 11 75 true,Zk 83 81 82 1 75 true,Ze 84 83 75 true,ZC 85 225 80 84 75 true,Zs 86 85 75 true,Zv 87 75 86 false])
 (.cond (.t 87)
 (.seq (.ops [Za 88 0,Za 89 1,Za 90 2,Za 91 11,
 ⟨some 92, .call 226, [.t 88, .t 89, .t 90, .t 91], none⟩,Za 13 92])
 (.seq (.ops [Za 93 13,Za 1 93])
 (.exit 1)))
 .skip))
 (.seq (.ops [Za 95 0,Za 96 1,Za 97 2,Za 98 11,
 ⟨some 99, .call 227, [.t 95, .t 96, .t 97, .t 98], none⟩,Za 94 99,Zt 100 94 0,Zt 101 94 1,Za 14 100,Za 15 101])
 (.seq (.ops [Za 102 15,Za 9 102])
 (.seq (.ops [Za 103 14,Za 104 1,Zl 105 103 104 .sub,Za 106 2,Za 107 14,Zl 108 106 107 .sub,Za 16 105,Za 17 108])
 (.seq (.ops [Za 109 10,Zn 110 109 8 .quo,Za 18 110])
 (.seq (.ops [Za 111 16,Za 112 17,Zl 113 111 112 .lss])
 (.cond (.t 113)
 (.seq (.ops [Za 114 16,Za 115 18,Zl 116 114 115 .geq,Za 8 116])
 (.seq (.ops [Za 117 0,Za 118 1,Za 119 14,Za 120 3,
 ⟨some 121, .call 208, [.t 117, .t 118, .t 119, .t 120], none⟩])
 (.ops [Za 122 14,Zn 123 122 1 .add,Za 1 123])))
 (.seq (.ops [Za 124 17,Za 125 18,Zl 126 124 125 .geq,Za 8 126])
 (.seq (.ops [Za 127 0,Za 128 14,Zn 129 128 1 .add,Za 130 2,Za 131 3,
 ⟨some 132, .call 208, [.t 127, .t 129, .t 130, .t 131], none⟩])
 (.ops [Za 133 14,Za 2 133])))))))))))))))))))))) }
/-- slices.IndexFunc[[]int,int] -/
def ac209:AFn:=
 { nt:=19, res:=[.tmp 4], body:=
 (.seq (.ops [Zc 4 (.int .i64 0)])
 (.seq (.seq (.ops [Za 6 0,Zp 7 6,Zc 8 (.int .i64 0)])
 (.block 0
 (.loop [0, 1, 7, 8]
 (.seq (.ops [Zl 9 8 7 .lss])
 (.seq (.cond (.t 9)
 .skip
 (.exit 0))
 (.seq (.block 1
 (.seq (.ops [Za 10 8,Za 5 10])
 (.seq (.ops [Za 11 1,Za 12 0,Za 13 5,Zj 14 12 13 1,Zd 15 14,
 ⟨some 16, .callv, [.t 11, .t 15], none⟩])
 (.cond (.t 16)
 (.seq (.ops [Za 17 5,Za 4 17])
 .ret)
 .skip))))
 (.ops [Zn 18 8 1 .add,Za 8 18])))))))
 (.seq (.ops [Zc 4 (.int .i64 (-1))])
 .ret))) }
/-- slices.insertionSortOrdered[int] -/
def ac219:AFn:=
 { nt:=49, res:=[], body:=
 (.seq (.ops [Za 8 1,Zn 9 8 1 .add,Za 6 9])
 (.block 0
 (.loop [0, 1, 2, 6]
 (.seq (.seq (.ops [Za 10 6,Za 11 2,Zl 12 10 11 .lss])
 (.cond (.t 12)
 .skip
 (.exit 0)))
 (.seq (.block 1
 (.seq (.ops [Za 15 6,Za 7 15])
 (.block 2
 (.loop [0, 1, 2, 6, 7]
 (.seq (.seq (.ops [Za 16 7,Za 17 1,Zl 18 16 17 .gtr,Za 19 18,Zb 20 0 19 true,Zb 21 7 19 true,Zk 22 20 21 1 19 true,Ze 23 22 19 true,Zb 24 0 19 true,Zb 25 7 19 true,Zo 26 25 1 .sub 19 true,Zk 27 24 26 1 19 true,Ze 28 27 19 true,ZC 29 225 23 28 19 true,Zv 30 19 29 false])
 (.cond (.t 30)
 .skip
 (.exit 2)))
 (.seq (.block 3
 (.ops [Za 33 0,Za 34 7,Za 35 0,Za 36 7,Zn 37 36 1 .sub,Za 38 0,Za 39 7,Zn 40 39 1 .sub,Zj 41 38 40 1,Zd 42 41,Za 43 0,Za 44 7,Zj 45 43 44 1,Zd 46 45,Zj 47 33 34 1,Zu 47 42 1,Zj 48 35 37 1,Zu 48 46 1]))
 (.ops [Za 31 7,Zn 32 31 1 .sub,Za 7 32])))))))
 (.ops [Za 13 6,Zn 14 13 1 .add,Za 6 14])))))) }
/-- slices.heapSortOrdered[int] -/
def ac220:AFn:=
 { nt:=56, res:=[], body:=
 (.seq (.ops [Za 11 1,Za 6 11])
 (.seq (.ops [Zc 7 (.int .i64 0)])
 (.seq (.ops [Za 12 2,Za 13 1,Zl 14 12 13 .sub,Za 8 14])
 (.seq (.seq (.ops [Za 15 8,Zn 16 15 1 .sub,Zn 17 16 2 .quo,Za 9 17])
 (.block 0
 (.loop [0, 6, 7, 8, 9]
 (.seq (.seq (.ops [Za 18 9,Zn 19 18 0 .geq])
 (.cond (.t 19)
 .skip
 (.exit 0)))
 (.seq (.block 1
 (.ops [Za 22 0,Za 23 9,Za 24 8,Za 25 6,
 ⟨some 26, .call 247, [.t 22, .t 23, .t 24, .t 25], none⟩]))
 (.ops [Za 20 9,Zn 21 20 1 .sub,Za 9 21]))))))
 (.seq (.ops [Za 27 8,Zn 28 27 1 .sub,Za 10 28])
 (.block 2
 (.loop [0, 6, 7, 10]
 (.seq (.seq (.ops [Za 29 10,Zn 30 29 0 .geq])
 (.cond (.t 30)
 .skip
 (.exit 2)))
 (.seq (.block 3
 (.seq (.ops [Za 33 0,Za 34 6,Za 35 0,Za 36 6,Za 37 10,Zl 38 36 37 .add,Za 39 0,Za 40 6,Za 41 10,Zl 42 40 41 .add,Zj 43 39 42 1,Zd 44 43,Za 45 0,Za 46 6,Zj 47 45 46 1,Zd 48 47,Zj 49 33 34 1,Zu 49 44 1,Zj 50 35 38 1,Zu 50 48 1])
 (.ops [Za 51 0,Za 52 7,Za 53 10,Za 54 6,
 ⟨some 55, .call 247, [.t 51, .t 52, .t 53, .t 54], none⟩])))
 (.ops [Za 31 10,Zn 32 31 1 .sub,Za 10 32])))))))))) }
/-- slices.breakPatternsOrdered[int] -/
def ac221:AFn:=
 { nt:=65, res:=[], body:=
 (.seq (.ops [Za 11 2,Za 12 1,Zl 13 11 12 .sub,Za 6 13])
 (.seq (.ops [Za 14 6,Zn 15 14 8 .geq])
 (.cond (.t 15)
 (.seq (.ops [Za 16 6,
 ⟨some 17, .pure (.conv .u64), [.t 16], none⟩,
 ⟨some 7, .new (.new 1 [.int .u64 0]), [], none⟩,Zu 7 17 1])
 (.seq (.ops [Za 18 6,
 ⟨some 19, .call 86, [.t 18], none⟩,Za 8 19])
 (.seq (.ops [Za 20 1,Za 21 6,Zn 22 21 4 .quo,Zn 23 22 2 .mul,Zl 24 20 23 .add,Zn 25 24 1 .sub,Za 9 25])
 (.block 0
 (.loop [0, 1, 6, 7, 8, 9]
 (.seq (.seq (.ops [Za 26 9,Za 27 1,Za 28 6,Zn 29 28 4 .quo,Zn 30 29 2 .mul,Zl 31 27 30 .add,Zn 32 31 1 .add,Zl 33 26 32 .leq])
 (.cond (.t 33)
 .skip
 (.exit 0)))
 (.seq (.block 1
 (.seq (.ops [⟨some 36, .call 87, [.t 7], none⟩,Za 37 8,
 ⟨some 38, .pure (.bin .sub), [.t 37, .c (.int .u64 1)], none⟩,Zl 39 36 38 .and,
 ⟨some 40, .pure (.conv .i64), [.t 39], none⟩,Za 10 40])
 (.seq (.seq (.ops [Za 41 10,Za 42 6,Zl 43 41 42 .geq])
 (.cond (.t 43)
 (.ops [Za 44 10,Za 45 6,Zl 46 44 45 .sub,Za 10 46])
 .skip))
 (.ops [Za 47 0,Za 48 9,Za 49 0,Za 50 1,Za 51 10,Zl 52 50 51 .add,Za 53 0,Za 54 1,Za 55 10,Zl 56 54 55 .add,Zj 57 53 56 1,Zd 58 57,Za 59 0,Za 60 9,Zj 61 59 60 1,Zd 62 61,Zj 63 47 48 1,Zu 63 58 1,Zj 64 49 52 1,Zu 64 62 1]))))
 (.ops [Za 34 9,Zn 35 34 1 .add,Za 9 35]))))))))
 .skip))) }
/-- slices.choosePivotOrdered[int] -/
def ac222:AFn:=
 { nt:=57, res:=[.tmp 6, .tmp 7], body:=
 (.seq (.ops [Zc 6 (.int .i64 0),Zc 7 (.int .i64 0)])
 (.seq (.ops [Za 13 2,Za 14 1,Zl 15 13 14 .sub,Za 8 15])
 (.seq (.ops [⟨some 9, .new (.new 1 [.int .i64 0]), [], none⟩])
 (.seq (.ops [Za 16 1,Za 17 8,Zn 18 17 4 .quo,Zn 19 18 1 .mul,Zl 20 16 19 .add,Za 10 20])
 (.seq (.ops [Za 21 1,Za 22 8,Zn 23 22 4 .quo,Zn 24 23 2 .mul,Zl 25 21 24 .add,Za 11 25])
 (.seq (.ops [Za 26 1,Za 27 8,Zn 28 27 4 .quo,Zn 29 28 3 .mul,Zl 30 26 29 .add,Za 12 30])
 (.seq (.seq (.ops [Za 31 8,Zn 32 31 8 .geq])
 (.cond (.t 32)
 (.seq (.seq (.ops [Za 33 8,Zn 34 33 50 .geq])
 (.cond (.t 34)
 (.seq (.ops [Za 35 0,Za 36 10,
 ⟨some 37, .call 248, [.t 35, .t 36, .t 9], none⟩,Za 10 37])
 (.seq (.ops [Za 38 0,Za 39 11,
 ⟨some 40, .call 248, [.t 38, .t 39, .t 9], none⟩,Za 11 40])
 (.ops [Za 41 0,Za 42 12,
 ⟨some 43, .call 248, [.t 41, .t 42, .t 9], none⟩,Za 12 43])))
 .skip))
 (.ops [Za 44 0,Za 45 10,Za 46 11,Za 47 12,
 ⟨some 48, .call 249, [.t 44, .t 45, .t 46, .t 47, .t 9], none⟩,Za 11 48]))
 .skip))
 (.seq (.ops [Zd 49 9])
 (.block 0
 (.seq (.ops [Zn 52 49 0 .eql,Za 51 52])
 (.cond (.t 51)
 (.seq (.ops [Za 53 11,Za 6 53,Zc 7 (.int .i64 1)])
 .ret)
 (.seq (.ops [Zn 55 49 12 .eql,Za 54 55])
 (.cond (.t 54)
 (.seq (.ops [Za 56 11,Za 6 56,Zc 7 (.int .i64 2)])
 .ret)
 (.seq (.ops [Za 50 11,Za 6 50,Zc 7 (.int .i64 0)])
 .ret)))))))))))))) }
/-- slices.reverseRangeOrdered[int] -/
def ac223:AFn:=
 { nt:=32, res:=[], body:=
 (.seq (.ops [Za 8 1,Za 6 8])
 (.seq (.ops [Za 9 2,Zn 10 9 1 .sub,Za 7 10])
 (.block 0
 (.loop [0, 6, 7]
 (.seq (.seq (.ops [Za 11 6,Za 12 7,Zl 13 11 12 .lss])
 (.cond (.t 13)
 .skip
 (.exit 0)))
 (.block 1
 (.seq (.ops [Za 14 0,Za 15 6,Za 16 0,Za 17 7,Za 18 0,Za 19 7,Zj 20 18 19 1,Zd 21 20,Za 22 0,Za 23 6,Zj 24 22 23 1,Zd 25 24,Zj 26 14 15 1,Zu 26 21 1,Zj 27 16 17 1,Zu 27 25 1])
 (.seq (.ops [Za 28 6,Zn 29 28 1 .add,Za 6 29])
 (.ops [Za 30 7,Zn 31 30 1 .sub,Za 7 31]))))))))) }
/-- slices.partialInsertionSortOrdered[int] -/
def ac224:AFn:=
 { nt:=133, res:=[.tmp 6], body:=
 (.seq (.ops [Zc 6 (.bool false)])
 (.seq (.ops [Za 11 1,Zn 12 11 1 .add,Za 7 12])
 (.seq (.seq (.ops [Zc 8 (.int .i64 0)])
 (.block 0
 (.loop [0, 1, 2, 7, 8]
 (.seq (.seq (.ops [Za 13 8,Zn 14 13 5 .lss])
 (.cond (.t 14)
 .skip
 (.exit 0)))
 (.seq (.block 1
 (.seq (.block 2
 (.loop [0, 1, 2, 7, 8]
 (.seq (.seq (.ops [Za 17 7,Za 18 2,Zl 19 17 18 .lss,Za 20 19,Zb 21 0 20 true,Zb 22 7 20 true,Zk 23 21 22 1 20 true,Ze 24 23 20 true,Zb 25 0 20 true,Zb 26 7 20 true,Zo 27 26 1 .sub 20 true,Zk 28 25 27 1 20 true,Ze 29 28 20 true,ZC 30 225 24 29 20 true,Zs 31 30 20 true,Zv 32 20 31 false])
 (.cond (.t 32)
 .skip
 (.exit 2)))
 (.block 3
 (.ops [Za 33 7,Zn 34 33 1 .add,Za 7 34])))))
 (.seq (.seq (.ops [Za 35 7,Za 36 2,Zl 37 35 36 .eql])
 (.cond (.t 37)
 (.seq (.ops [Zc 6 (.bool true)])
 .ret)
 .skip))
 (.seq (.seq (.ops [Za 38 2,Za 39 1,Zl 40 38 39 .sub,Zn 41 40 50 .lss])
 (.cond (.t 41)
 (.seq (.ops [Zc 6 (.bool false)])
 .ret)
 .skip))
 (.seq (.ops [Za 42 0,Za 43 7,Za 44 0,Za 45 7,Zn 46 45 1 .sub,Za 47 0,Za 48 7,Zn 49 48 1 .sub,Zj 50 47 49 1,Zd 51 50,Za 52 0,Za 53 7,Zj 54 52 53 1,Zd 55 54,Zj 56 42 43 1,Zu 56 51 1,Zj 57 44 46 1,Zu 57 55 1])
 (.seq (.seq (.ops [Za 58 7,Za 59 1,Zl 60 58 59 .sub,Zn 61 60 2 .geq])
 (.cond (.t 61)
 (.seq (.ops [Za 62 7,Zn 63 62 1 .sub,Za 9 63])
 (.block 4
 (.loop [0, 1, 2, 7, 8, 9]
 (.seq (.seq (.ops [Za 64 9,Zn 65 64 1 .geq])
 (.cond (.t 65)
 .skip
 (.exit 4)))
 (.seq (.block 5
 (.seq (.seq (.ops [Za 68 0,Za 69 9,Zj 70 68 69 1,Zd 71 70,Za 72 0,Za 73 9,Zn 74 73 1 .sub,Zj 75 72 74 1,Zd 76 75,Zz 77 225 71 76,Zr 78 77])
 (.cond (.t 78)
 (.exit 4)
 .skip))
 (.ops [Za 79 0,Za 80 9,Za 81 0,Za 82 9,Zn 83 82 1 .sub,Za 84 0,Za 85 9,Zn 86 85 1 .sub,Zj 87 84 86 1,Zd 88 87,Za 89 0,Za 90 9,Zj 91 89 90 1,Zd 92 91,Zj 93 79 80 1,Zu 93 88 1,Zj 94 81 83 1,Zu 94 92 1])))
 (.ops [Za 66 9,Zn 67 66 1 .sub,Za 9 67]))))))
 .skip))
 (.seq (.ops [Za 95 2,Za 96 7,Zl 97 95 96 .sub,Zn 98 97 2 .geq])
 (.cond (.t 98)
 (.seq (.ops [Za 99 7,Zn 100 99 1 .add,Za 10 100])
 (.block 6
 (.loop [0, 1, 2, 7, 8, 10]
 (.seq (.seq (.ops [Za 101 10,Za 102 2,Zl 103 101 102 .lss])
 (.cond (.t 103)
 .skip
 (.exit 6)))
 (.seq (.block 7
 (.seq (.seq (.ops [Za 106 0,Za 107 10,Zj 108 106 107 1,Zd 109 108,Za 110 0,Za 111 10,Zn 112 111 1 .sub,Zj 113 110 112 1,Zd 114 113,Zz 115 225 109 114,Zr 116 115])
 (.cond (.t 116)
 (.exit 6)
 .skip))
 (.ops [Za 117 0,Za 118 10,Za 119 0,Za 120 10,Zn 121 120 1 .sub,Za 122 0,Za 123 10,Zn 124 123 1 .sub,Zj 125 122 124 1,Zd 126 125,Za 127 0,Za 128 10,Zj 129 127 128 1,Zd 130 129,Zj 131 117 118 1,Zu 131 126 1,Zj 132 119 121 1,Zu 132 130 1])))
 (.ops [Za 104 10,Zn 105 104 1 .add,Za 10 105]))))))
 .skip))))))))
 (.ops [Za 15 8,Zn 16 15 1 .add,Za 8 16]))))))
 (.seq (.ops [Zc 6 (.bool false)])
 .ret)))) }
/-- cmp.Less[int] -/
def ac225:AFn:=
 { nt:=17, res:=[.tmp 4], body:=
 (.seq (.ops [Zc 4 (.bool false)])
 (.seq (.ops [Za 5 0,Zy 6 74 5,Za 7 6,Zb 8 1 7 true,ZB 9 74 8 7 true,Zs 10 9 7 true,Zv 11 7 10 false,Za 12 11,Zb 13 0 12 false,Zb 14 1 12 false,Zm 15 13 14 .lss 12 false,Zw 16 12 15 true,Za 4 16])
 .ret)) }
/-- slices.partitionEqualOrdered[int] -/
def ac226:AFn:=
 { nt:=84, res:=[.tmp 8], body:=
 (.seq (.ops [Zc 8 (.int .i64 0)])
 (.seq (.ops [Za 11 0,Za 12 1,Za 13 0,Za 14 3,Za 15 0,Za 16 3,Zj 17 15 16 1,Zd 18 17,Za 19 0,Za 20 1,Zj 21 19 20 1,Zd 22 21,Zj 23 11 12 1,Zu 23 18 1,Zj 24 13 14 1,Zu 24 22 1])
 (.seq (.ops [Za 25 1,Zn 26 25 1 .add,Za 27 2,Zn 28 27 1 .sub,Za 9 26,Za 10 28])
 (.seq (.block 0
 (.loop [0, 1, 9, 10]
 (.block 1
 (.seq (.block 2
 (.loop [0, 1, 9, 10]
 (.seq (.seq (.ops [Za 29 9,Za 30 10,Zl 31 29 30 .leq,Za 32 31,Zb 33 0 32 true,Zb 34 1 32 true,Zk 35 33 34 1 32 true,Ze 36 35 32 true,Zb 37 0 32 true,Zb 38 9 32 true,Zk 39 37 38 1 32 true,Ze 40 39 32 true,ZC 41 225 36 40 32 true,Zs 42 41 32 true,Zv 43 32 42 false])
 (.cond (.t 43)
 .skip
 (.exit 2)))
 (.block 3
 (.ops [Za 44 9,Zn 45 44 1 .add,Za 9 45])))))
 (.seq (.block 4
 (.loop [0, 1, 9, 10]
 (.seq (.seq (.ops [Za 46 9,Za 47 10,Zl 48 46 47 .leq,Za 49 48,Zb 50 0 49 true,Zb 51 1 49 true,Zk 52 50 51 1 49 true,Ze 53 52 49 true,Zb 54 0 49 true,Zb 55 10 49 true,Zk 56 54 55 1 49 true,Ze 57 56 49 true,ZC 58 225 53 57 49 true,Zv 59 49 58 false])
 (.cond (.t 59)
 .skip
 (.exit 4)))
 (.block 5
 (.ops [Za 60 10,Zn 61 60 1 .sub,Za 10 61])))))
 (.seq (.seq (.ops [Za 62 9,Za 63 10,Zl 64 62 63 .gtr])
 (.cond (.t 64)
 (.exit 0)
 .skip))
 (.seq (.ops [Za 65 0,Za 66 9,Za 67 0,Za 68 10,Za 69 0,Za 70 10,Zj 71 69 70 1,Zd 72 71,Za 73 0,Za 74 9,Zj 75 73 74 1,Zd 76 75,Zj 77 65 66 1,Zu 77 72 1,Zj 78 67 68 1,Zu 78 76 1])
 (.seq (.ops [Za 79 9,Zn 80 79 1 .add,Za 9 80])
 (.ops [Za 81 10,Zn 82 81 1 .sub,Za 10 82])))))))))
 (.seq (.ops [Za 83 9,Za 8 83])
 .ret))))) }
/-- slices.partitionOrdered[int] -/
def ac227:AFn:=
 { nt:=168, res:=[.tmp 8, .tmp 9], body:=
 (.seq (.ops [Zc 8 (.int .i64 0),Zc 9 (.bool false)])
 (.seq (.ops [Za 12 0,Za 13 1,Za 14 0,Za 15 3,Za 16 0,Za 17 3,Zj 18 16 17 1,Zd 19 18,Za 20 0,Za 21 1,Zj 22 20 21 1,Zd 23 22,Zj 24 12 13 1,Zu 24 19 1,Zj 25 14 15 1,Zu 25 23 1])
 (.seq (.ops [Za 26 1,Zn 27 26 1 .add,Za 28 2,Zn 29 28 1 .sub,Za 10 27,Za 11 29])
 (.seq (.block 0
 (.loop [0, 1, 10, 11]
 (.seq (.seq (.ops [Za 30 10,Za 31 11,Zl 32 30 31 .leq,Za 33 32,Zb 34 0 33 true,Zb 35 10 33 true,Zk 36 34 35 1 33 true,Ze 37 36 33 true,Zb 38 0 33 true,Zb 39 1 33 true,Zk 40 38 39 1 33 true,Ze 41 40 33 true,ZC 42 225 37 41 33 true,Zv 43 33 42 false])
 (.cond (.t 43)
 .skip
 (.exit 0)))
 (.block 1
 (.ops [Za 44 10,Zn 45 44 1 .add,Za 10 45])))))
 (.seq (.block 2
 (.loop [0, 1, 10, 11]
 (.seq (.seq (.ops [Za 46 10,Za 47 11,Zl 48 46 47 .leq,Za 49 48,Zb 50 0 49 true,Zb 51 11 49 true,Zk 52 50 51 1 49 true,Ze 53 52 49 true,Zb 54 0 49 true,Zb 55 1 49 true,Zk 56 54 55 1 49 true,Ze 57 56 49 true,ZC 58 225 53 57 49 true,Zs 59 58 49 true,Zv 60 49 59 false])
 (.cond (.t 60)
 .skip
 (.exit 2)))
 (.block 3
 (.ops [Za 61 11,Zn 62 61 1 .sub,Za 11 62])))))
 (.seq (.seq (.ops [Za 63 10,Za 64 11,Zl 65 63 64 .gtr])
 (.cond (.t 65)
 (.seq (.ops [Za 66 0,Za 67 11,Za 68 0,Za 69 1,Za 70 0,Za 71 1,Zj 72 70 71 1,Zd 73 72,Za 74 0,Za 75 11,Zj 76 74 75 1,Zd 77 76,Zj 78 66 67 1,Zu 78 73 1,Zj 79 68 69 1,Zu 79 77 1])
 (.seq (.ops [Za 80 11,Za 8 80,Zc 9 (.bool true)])
 .ret))
 .skip))
 (.seq (.ops [Za 81 0,Za 82 10,Za 83 0,Za 84 11,Za 85 0,Za 86 11,Zj 87 85 86 1,Zd 88 87,Za 89 0,Za 90 10,Zj 91 89 90 1,Zd 92 91,Zj 93 81 82 1,Zu 93 88 1,Zj 94 83 84 1,Zu 94 92 1])
 (.seq (.ops [Za 95 10,Zn 96 95 1 .add,Za 10 96])
 (.seq (.ops [Za 97 11,Zn 98 97 1 .sub,Za 11 98])
 (.seq (.block 4
 (.loop [0, 1, 10, 11]
 (.block 5
 (.seq (.block 6
 (.loop [0, 1, 10, 11]
 (.seq (.seq (.ops [Za 99 10,Za 100 11,Zl 101 99 100 .leq,Za 102 101,Zb 103 0 102 true,Zb 104 10 102 true,Zk 105 103 104 1 102 true,Ze 106 105 102 true,Zb 107 0 102 true,Zb 108 1 102 true,Zk 109 107 108 1 102 true,Ze 110 109 102 true,ZC 111 225 106 110 102 true,Zv 112 102 111 false])
 (.cond (.t 112)
 .skip
 (.exit 6)))
 (.block 7
 (.ops [Za 113 10,Zn 114 113 1 .add,Za 10 114])))))
 (.seq (.block 8
 (.loop [0, 1, 10, 11]
 (.seq (.seq (.ops [Za 115 10,Za 116 11,Zl 117 115 116 .leq,Za 118 117,Zb 119 0 118 true,Zb 120 11 118 true,Zk 121 119 120 1 118 true,Ze 122 121 118 true,Zb 123 0 118 true,Zb 124 1 118 true,Zk 125 123 124 1 118 true,Ze 126 125 118 true,ZC 127 225 122 126 118 true,Zs 128 127 118 true,Zv 129 118 128 false])
 (.cond (.t 129)
 .skip
 (.exit 8)))
 (.block 9
 (.ops [Za 130 11,Zn 131 130 1 .sub,Za 11 131])))))
 (.seq (.seq (.ops [Za 132 10,Za 133 11,Zl 134 132 133 .gtr])
 (.cond (.t 134)
 (.exit 4)
 .skip))
 (.seq (.ops [Za 135 0,Za 136 10,Za 137 0,Za 138 11,Za 139 0,Za 140 11,Zj 141 139 140 1,Zd 142 141,Za 143 0,Za 144 10,Zj 145 143 144 1,Zd 146 145,Zj 147 135 136 1,Zu 147 142 1,Zj 148 137 138 1,Zu 148 146 1])
 (.seq (.ops [Za 149 10,Zn 150 149 1 .add,Za 10 150])
 (.ops [Za 151 11,Zn 152 151 1 .sub,Za 11 152])))))))))
 (.seq (.ops [Za 153 0,Za 154 11,Za 155 0,Za 156 1,Za 157 0,Za 158 1,Zj 159 157 158 1,Zd 160 159,Za 161 0,Za 162 11,Zj 163 161 162 1,Zd 164 163,Zj 165 153 154 1,Zu 165 160 1,Zj 166 155 156 1,Zu 166 164 1])
 (.seq (.ops [Za 167 11,Za 8 167,Zc 9 (.bool false)])
 .ret)))))))))))) }
/-- datakit/automaton.Valid -/
def ac231:AFn:=
 { nt:=68, res:=[.tmp 2], body:=
 (.seq (.ops [Zx 1 0 1,Zc 2 (.bool false)])
 (.seq (.seq (.ops [Zh 8 1 0,Zd 9 8,Zp 10 9,Zn 11 10 1 .lss,Za 12 11,Zi 13 1 0 12 false,Ze 14 13 12 false,Zq 15 14 12 false,Zo 16 15 1024 .gtr 12 false,Zw 17 12 16 true])
 (.cond (.t 17)
 (.seq (.ops [Zc 2 (.bool false)])
 .ret)
 .skip))
 (.seq (.seq (.ops [Zh 18 1 0,Zd 19 18,Zp 20 19,Zc 21 (.int .i64 0)])
 (.block 0
 (.loop [1, 19, 20, 21]
 (.seq (.ops [Zl 22 21 20 .lss])
 (.seq (.cond (.t 22)
 .skip
 (.exit 0))
 (.seq (.block 1
 (.seq (.ops [Zj 23 19 21 2,Zf 24 23 2,
 ⟨some 4, .new (.new 2 [.agg [.bool false, .snil 3]]), [], none⟩,Zu 4 24 2])
 (.seq (.ops [Zc 5 (.int .i64 0)])
 (.seq (.seq (.ops [Zh 25 4 1,Zd 26 25,Zp 27 26,Zc 28 (.int .i64 0)])
 (.block 2
 (.loop [1, 5, 19, 20, 21, 26, 27, 28]
 (.seq (.ops [Zl 29 28 27 .lss])
 (.seq (.cond (.t 29)
 .skip
 (.exit 2))
 (.seq (.block 3
 (.seq (.ops [Zj 30 26 28 3,Zf 31 30 3,
 ⟨some 7, .new (.new 3 [.agg [.int .i64 0, .int .i64 0, .int .i64 0]]), [], none⟩,Zu 7 31 3])
 (.seq (.seq (.ops [Zh 32 7 0,Zd 33 32,Za 34 5,Zl 35 33 34 .neq,Za 36 35,Zi 37 7 1 36 false,Ze 38 37 36 false,Zi 39 7 0 36 false,Ze 40 39 36 false,Zm 41 38 40 .lss 36 false,Zw 42 36 41 true,Za 43 42,Zi 44 7 1 43 false,Ze 45 44 43 false,Zo 46 45 255 .gtr 43 false,Zw 47 43 46 true,Za 48 47,Zi 49 7 2 48 false,Ze 50 49 48 false,Zo 51 50 0 .lss 48 false,Zw 52 48 51 true,Za 53 52,Zi 54 7 2 53 false,Ze 55 54 53 false,Zi 56 1 0 53 false,Ze 57 56 53 false,Zq 58 57 53 false,Zm 59 55 58 .geq 53 false,Zw 60 53 59 true])
 (.cond (.t 60)
 (.seq (.ops [Zc 2 (.bool false)])
 .ret)
 .skip))
 (.ops [Zh 61 7 1,Zd 62 61,Zn 63 62 1 .add,Za 5 63]))))
 (.ops [Zn 64 28 1 .add,Za 28 64])))))))
 (.seq (.ops [Za 65 5,Zn 66 65 256 .neq])
 (.cond (.t 66)
 (.seq (.ops [Zc 2 (.bool false)])
 .ret)
 .skip))))))
 (.ops [Zn 67 21 1 .add,Za 21 67])))))))
 (.seq (.ops [Zc 2 (.bool true)])
 .ret)))) }
/-- slices.siftDownOrdered[int] -/
def ac247:AFn:=
 { nt:=76, res:=[], body:=
 (.seq (.ops [Za 10 1,Za 8 10])
 (.block 0
 (.loop [0, 2, 3, 8]
 (.block 1
 (.seq (.ops [Za 11 8,
 ⟨some 12, .pure (.bin .mul), [.c (.int .i64 2), .t 11], none⟩,Zn 13 12 1 .add,Za 9 13])
 (.seq (.seq (.ops [Za 14 9,Za 15 2,Zl 16 14 15 .geq])
 (.cond (.t 16)
 (.exit 0)
 .skip))
 (.seq (.seq (.ops [Za 17 9,Zn 18 17 1 .add,Za 19 2,Zl 20 18 19 .lss,Za 21 20,Zb 22 0 21 true,Zb 23 3 21 true,Zb 24 9 21 true,Zm 25 23 24 .add 21 true,Zk 26 22 25 1 21 true,Ze 27 26 21 true,Zb 28 0 21 true,Zb 29 3 21 true,Zb 30 9 21 true,Zm 31 29 30 .add 21 true,Zo 32 31 1 .add 21 true,Zk 33 28 32 1 21 true,Ze 34 33 21 true,ZC 35 225 27 34 21 true,Zv 36 21 35 false])
 (.cond (.t 36)
 (.ops [Za 37 9,Zn 38 37 1 .add,Za 9 38])
 .skip))
 (.seq (.seq (.ops [Za 39 0,Za 40 3,Za 41 8,Zl 42 40 41 .add,Zj 43 39 42 1,Zd 44 43,Za 45 0,Za 46 3,Za 47 9,Zl 48 46 47 .add,Zj 49 45 48 1,Zd 50 49,Zz 51 225 44 50,Zr 52 51])
 (.cond (.t 52)
 .ret
 .skip))
 (.seq (.ops [Za 53 0,Za 54 3,Za 55 8,Zl 56 54 55 .add,Za 57 0,Za 58 3,Za 59 9,Zl 60 58 59 .add,Za 61 0,Za 62 3,Za 63 9,Zl 64 62 63 .add,Zj 65 61 64 1,Zd 66 65,Za 67 0,Za 68 3,Za 69 8,Zl 70 68 69 .add,Zj 71 67 70 1,Zd 72 71,Zj 73 53 56 1,Zu 73 66 1,Zj 74 57 60 1,Zu 74 72 1])
 (.ops [Za 75 9,Za 8 75])))))))))) }
/-- slices.medianAdjacentOrdered[int] -/
def ac248:AFn:=
 { nt:=15, res:=[.tmp 6], body:=
 (.seq (.ops [Zc 6 (.int .i64 0)])
 (.seq (.ops [Za 7 0,Za 8 1,Zn 9 8 1 .sub,Za 10 1,Za 11 1,Zn 12 11 1 .add,Za 13 2,
 ⟨some 14, .call 249, [.t 7, .t 9, .t 10, .t 12, .t 13], none⟩,Za 6 14])
 .ret)) }
/-- slices.medianOrdered[int] -/
def ac249:AFn:=
 { nt:=36, res:=[.tmp 10], body:=
 (.seq (.ops [Zc 10 (.int .i64 0)])
 (.seq (.ops [Za 12 0,Za 13 1,Za 14 2,Za 15 4,
 ⟨some 16, .call 261, [.t 12, .t 13, .t 14, .t 15], none⟩,Za 11 16,Zt 17 11 0,Zt 18 11 1,Za 1 17,Za 2 18])
 (.seq (.ops [Za 20 0,Za 21 2,Za 22 3,Za 23 4,
 ⟨some 24, .call 261, [.t 20, .t 21, .t 22, .t 23], none⟩,Za 19 24,Zt 25 19 0,Zt 26 19 1,Za 2 25,Za 3 26])
 (.seq (.ops [Za 28 0,Za 29 1,Za 30 2,Za 31 4,
 ⟨some 32, .call 261, [.t 28, .t 29, .t 30, .t 31], none⟩,Za 27 32,Zt 33 27 0,Zt 34 27 1,Za 1 33,Za 2 34])
 (.seq (.ops [Za 35 2,Za 10 35])
 .ret))))) }
/-- datakit/automaton.step -/
def ac252:AFn:=
 { nt:=27, res:=[.tmp 6], body:=
 (.seq (.ops [Zx 3 0 1,Zc 6 (.int .i64 0)])
 (.seq (.seq (.ops [Zh 9 3 0,Zd 10 9,Za 11 1,Zj 12 10 11 2,Zh 13 12 1,Zd 14 13,Zp 15 14,Zc 16 (.int .i64 0)])
 (.block 0
 (.loop [2, 14, 15, 16]
 (.seq (.ops [Zl 17 16 15 .lss])
 (.seq (.cond (.t 17)
 .skip
 (.exit 0))
 (.seq (.block 1
 (.seq (.ops [Zj 18 14 16 3,Zf 19 18 3,
 ⟨some 8, .new (.new 3 [.agg [.int .i64 0, .int .i64 0, .int .i64 0]]), [], none⟩,Zu 8 19 3])
 (.seq (.ops [Za 20 2,Zh 21 8 1,Zd 22 21,Zl 23 20 22 .leq])
 (.cond (.t 23)
 (.seq (.ops [Zh 24 8 2,Zd 25 24,Za 6 25])
 .ret)
 .skip))))
 (.ops [Zn 26 16 1 .add,Za 16 26])))))))
 (.seq (.ops [Zc 6 (.int .i64 0)])
 .ret))) }
/-- slices.order2Ordered[int] -/
def ac261:AFn:=
 { nt:=28, res:=[.tmp 8, .tmp 9], body:=
 (.seq (.ops [Zc 8 (.int .i64 0),Zc 9 (.int .i64 0)])
 (.seq (.seq (.ops [Za 10 0,Za 11 2,Zj 12 10 11 1,Zd 13 12,Za 14 0,Za 15 1,Zj 16 14 15 1,Zd 17 16,Zz 18 225 13 17])
 (.cond (.t 18)
 (.seq (.ops [Za 19 3,
 ⟨some 20, .pure .chk, [.t 19], none⟩,Zd 21 20,Zn 22 21 1 .add,
 ⟨some 23, .pure .chk, [.t 19], none⟩,Zu 23 22 1])
 (.seq (.ops [Za 24 2,Za 25 1,Za 8 24,Za 9 25])
 .ret))
 .skip))
 (.seq (.ops [Za 26 1,Za 27 2,Za 8 26,Za 9 27])
 .ret))) }
/-- datakit/datakitlaw16.awake -/
def ac318:AFn:=
 { nt:=69, res:=[.tmp 0], body:=
 (.seq (.ops [Zc 0 (.bool false)])
 (.seq (.ops [⟨some 8, .pcall 344, [.c (.str [97, 42])], none⟩,Zy 9 339 8,Za 7 9,Zt 10 7 0,Zt 11 7 1,
 ⟨some 1, .new (.new 1 [.agg [.snil 2]]), [], none⟩,Zu 1 10 1,Za 2 11])
 (.seq (.ops [⟨some 13, .pcall 344, [.c (.str [40, 97, 98, 124, 99, 41, 42])], none⟩,Zy 14 339 13,Za 12 14,Zt 15 12 0,Zt 16 12 1,
 ⟨some 3, .new (.new 1 [.agg [.snil 2]]), [], none⟩,Zu 3 15 1,Za 4 16])
 (.seq (.ops [⟨some 17, .pure (.build [.int .i64 0, .int .i64 0, .int .i64 0] [(0, 1), (1, 1), (2, 1)]), [.c (.int .i64 0), .c (.int .i64 96), .c (.int .i64 1)], none⟩,
 ⟨some 18, .pure (.build [.int .i64 0, .int .i64 0, .int .i64 0] [(0, 1), (1, 1)]), [.c (.int .i64 97), .c (.int .i64 97)], none⟩,
 ⟨some 19, .pure (.build [.int .i64 0, .int .i64 0, .int .i64 0] [(0, 1), (1, 1), (2, 1)]), [.c (.int .i64 98), .c (.int .i64 255), .c (.int .i64 1)], none⟩,
 ⟨some 20, .new (.buildSlice 3 [.agg [.int .i64 0, .int .i64 0, .int .i64 0], .agg [.int .i64 0, .int .i64 0, .int .i64 0], .agg [.int .i64 0, .int .i64 0, .int .i64 0]] [0, 1, 2]), [.t 17, .t 18, .t 19], none⟩,
 ⟨some 21, .pure (.build [.bool false, .snil 3] [(0, 1), (1, 1)]), [.c (.bool true), .t 20], none⟩,
 ⟨some 22, .pure (.build [.int .i64 0, .int .i64 0, .int .i64 0] [(0, 1), (1, 1), (2, 1)]), [.c (.int .i64 0), .c (.int .i64 255), .c (.int .i64 1)], none⟩,
 ⟨some 23, .new (.buildSlice 3 [.agg [.int .i64 0, .int .i64 0, .int .i64 0]] [0]), [.t 22], none⟩,
 ⟨some 24, .pure (.build [.bool false, .snil 3] [(1, 1)]), [.t 23], none⟩,
 ⟨some 25, .new (.buildSlice 2 [.agg [.bool false, .snil 3], .agg [.bool false, .snil 3]] [0, 1]), [.t 21, .t 24], none⟩,
 ⟨some 26, .pure (.build [.snil 2] [(0, 1)]), [.t 25], none⟩,
 ⟨some 5, .new (.new 1 [.agg [.snil 2]]), [], none⟩,Zu 5 26 1])
 (.seq (.ops [Zf 27 3 1,
 ⟨some 28, .pcall 328, [.t 27, .c (.int .i64 4)], none⟩,Za 6 28])
 (.seq (.ops [Za 29 2,Zn 30 29 0 .eql,Za 31 30,Zb 32 4 31 true,Zo 33 32 0 .eql 31 true,Zv 34 31 33 false,Za 35 34,Zg 36 1 1 35 true,Zg 37 5 1 35 true,ZC 38 321 36 37 35 true,Zv 39 35 38 false,Za 40 39,Zb 41 6 40 true,Zq 42 41 40 true,Zo 43 42 4 .eql 40 true,Zv 44 40 43 false,Za 45 44,Zb 46 6 45 true,
 ⟨some 47, .pure (.iaddrS 1), [.t 46, .c (.int .i64 0)], some (45, true)⟩,Ze 48 47 45 true,
 ⟨some 49, .pure (.bin .eql), [.t 48, .c (.str [])], some (45, true)⟩,Zv 50 45 49 false,Za 51 50,Zb 52 6 51 true,
 ⟨some 53, .pure (.iaddrS 1), [.t 52, .c (.int .i64 1)], some (51, true)⟩,Ze 54 53 51 true,
 ⟨some 55, .pure (.bin .eql), [.t 54, .c (.str [99])], some (51, true)⟩,Zv 56 51 55 false,Za 57 56,Zb 58 6 57 true,
 ⟨some 59, .pure (.iaddrS 1), [.t 58, .c (.int .i64 2)], some (57, true)⟩,Ze 60 59 57 true,
 ⟨some 61, .pure (.bin .eql), [.t 60, .c (.str [97, 98])], some (57, true)⟩,Zv 62 57 61 false,Za 63 62,Zb 64 6 63 true,
 ⟨some 65, .pure (.iaddrS 1), [.t 64, .c (.int .i64 3)], some (63, true)⟩,Ze 66 65 63 true,
 ⟨some 67, .pure (.bin .eql), [.t 66, .c (.str [99, 99])], some (63, true)⟩,Zv 68 63 67 false,Za 0 68])
 .ret)))))) }
/-- datakit/automaton.And -/
def ac319:AFn:=
 { nt:=11, res:=[.cell 4 (some 1), .tmp 5], body:=
 (.seq (.ops [Zx 2 0 1,Zx 3 1 1,
 ⟨some 4, .new (.new 1 [.agg [.snil 2]]), [], none⟩,Zc 5 (.int .i64 0)])
 (.seq (.ops [Zf 6 2 1,Zf 7 3 1,
 ⟨some 8, .pcall 345, [.t 6, .t 7, .c (.fn 346 [])], none⟩,Zt 9 8 0,Zt 10 8 1,Zu 4 9 1,Za 5 10])
 .ret)) }
/-- datakit/datakitref16.Same -/
def ac321:AFn:=
 { nt:=65, res:=[.tmp 4], body:=
 (.seq (.ops [Zx 2 0 1,Zx 3 1 1,Zc 4 (.bool false)])
 (.seq (.seq (.ops [Zh 9 2 0,Zd 10 9,Zp 11 10,Zh 12 3 0,Zd 13 12,Zp 14 13,Zl 15 11 14 .neq])
 (.cond (.t 15)
 (.seq (.ops [Zc 4 (.bool false)])
 .ret)
 .skip))
 (.seq (.seq (.ops [Zc 5 (.int .i64 0)])
 (.block 0
 (.loop [2, 3, 5]
 (.seq (.seq (.ops [Za 16 5,Zh 17 2 0,Zd 18 17,Zp 19 18,Zl 20 16 19 .lss])
 (.cond (.t 20)
 .skip
 (.exit 0)))
 (.seq (.block 1
 (.seq (.draw 2 [[Zh 23 2 0,Zd 24 23,Za 25 5,Zj 26 24 25 2,Zf 27 26 2,Zh 28 3 0,Za 30 5,
 ⟨some 6, .newAt 0 (.new 2 [.agg [.bool false, .snil 3]]), [], none⟩,
 ⟨some 7, .newAt 1 (.new 2 [.agg [.bool false, .snil 3]]), [], none⟩,Zd 29 28,Zj 31 29 30 2,Zf 32 31 2,Zu 6 27 2,Zu 7 32 2],
 [Zh 23 2 0,Zd 24 23,Za 25 5,Zj 26 24 25 2,Zf 27 26 2,Zh 28 3 0,Za 30 5,
 ⟨some 6, .newAt 0 (.new 2 [.agg [.bool false, .snil 3]]), [], none⟩,
 ⟨some 7, .newAt 1 (.new 2 [.agg [.bool false, .snil 3]]), [], none⟩,Zd 29 28,Zj 31 29 30 2,Zu 6 27 2,Zf 32 31 2,Zu 7 32 2],
 [Zh 23 2 0,Zd 24 23,Za 25 5,Zj 26 24 25 2,Zf 27 26 2,Zh 28 3 0,Za 30 5,
 ⟨some 6, .newAt 0 (.new 2 [.agg [.bool false, .snil 3]]), [], none⟩,
 ⟨some 7, .newAt 1 (.new 2 [.agg [.bool false, .snil 3]]), [], none⟩,Zu 6 27 2,Zd 29 28,Zj 31 29 30 2,Zf 32 31 2,Zu 7 32 2]])
 (.seq (.seq (.ops [Zh 33 6 0,Zd 34 33,Zh 35 7 0,Zd 36 35,
 ⟨some 37, .pure (.eqB true), [.t 34, .t 36], none⟩,Za 38 37,Zi 39 6 1 38 false,Ze 40 39 38 false,Zq 41 40 38 false,Zi 42 7 1 38 false,Ze 43 42 38 false,Zq 44 43 38 false,Zm 45 41 44 .neq 38 false,Zw 46 38 45 true])
 (.cond (.t 46)
 (.seq (.ops [Zc 4 (.bool false)])
 .ret)
 .skip))
 (.seq (.ops [Zc 8 (.int .i64 0)])
 (.block 2
 (.loop [2, 3, 5, 6, 7, 8]
 (.seq (.seq (.ops [Za 47 8,Zh 48 6 1,Zd 49 48,Zp 50 49,Zl 51 47 50 .lss])
 (.cond (.t 51)
 .skip
 (.exit 2)))
 (.seq (.block 3
 (.seq (.ops [Zh 54 6 1,Zd 55 54,Za 56 8,Zj 57 55 56 3,Zf 58 57 3,Zh 59 7 1,Zd 60 59,Za 61 8,Zj 62 60 61 3,Zf 63 62 3,
 ⟨some 64, .pure (.eqF [.int, .int, .int] true), [.t 58, .t 63], none⟩])
 (.cond (.t 64)
 (.seq (.ops [Zc 4 (.bool false)])
 .ret)
 .skip)))
 (.ops [Za 52 8,Zn 53 52 1 .add,Za 8 53])))))))))
 (.ops [Za 21 5,Zn 22 21 1 .add,Za 5 22]))))))
 (.seq (.ops [Zc 4 (.bool true)])
 .ret)))) }
/-- datakit/automaton.Or -/
def ac322:AFn:=
 { nt:=11, res:=[.cell 4 (some 1), .tmp 5], body:=
 (.seq (.ops [Zx 2 0 1,Zx 3 1 1,
 ⟨some 4, .new (.new 1 [.agg [.snil 2]]), [], none⟩,Zc 5 (.int .i64 0)])
 (.seq (.ops [Zf 6 2 1,Zf 7 3 1,
 ⟨some 8, .pcall 345, [.t 6, .t 7, .c (.fn 348 [])], none⟩,Zt 9 8 0,Zt 10 8 1,Zu 4 9 1,Za 5 10])
 .ret)) }
/-- datakit/automaton.Some -/
def ac328:AFn:=
 { nt:=93, res:=[.tmp 4], body:=
 (.seq (.ops [Zx 2 0 1,Zc 4 (.snil 1)])
 (.seq (.seq (.ops [Zf 13 2 1,Zy 14 231 13,Zr 15 14])
 (.cond (.t 15)
 (.seq (.ops [Zc 4 (.snil 1)])
 .ret)
 .skip))
 (.seq (.ops [Za 16 1,
 ⟨some 17, .pure (.minmax true), [.t 16, .c (.int .i64 0)], none⟩,
 ⟨some 18, .pure (.minmax false), [.t 17, .c (.int .i64 1024)], none⟩,Za 1 18])
 (.seq (.ops [Zc 5 (.snil 1)])
 (.seq (.ops [Zc 6 (.snil 1)])
 (.seq (.seq (.ops [Zc 7 (.int .i64 0)])
 (.block 0
 (.loop [1, 2, 5, 6, 7]
 (.seq (.seq (.ops [Za 19 5,Zp 20 19,Za 21 1,Zl 22 20 21 .lss,Za 23 22,Zb 24 7 23 true,Zi 25 2 0 23 true,Ze 26 25 23 true,Zq 27 26 23 true,Zm 28 24 27 .leq 23 true,Zv 29 23 28 false])
 (.cond (.t 29)
 .skip
 (.exit 0)))
 (.seq (.block 1
 (.seq (.ops [Zh 32 2 0,Zd 33 32,Zp 34 33,
 ⟨some 35, .new (.mkSlice 1 1 (.bool false)), [.t 34, .t 34], none⟩,Za 8 35])
 (.seq (.seq (.ops [Zh 36 2 0,Zd 37 36,Zp 38 37,Zc 39 (.int .i64 0)])
 (.block 2
 (.loop [1, 2, 5, 6, 7, 8, 37, 38, 39]
 (.seq (.ops [Zl 40 39 38 .lss])
 (.seq (.cond (.t 40)
 .skip
 (.exit 2))
 (.seq (.block 3
 (.seq (.ops [Za 41 39,Zj 42 37 39 2,Zf 43 42 2,
 ⟨some 10, .new (.new 2 [.agg [.bool false, .snil 3]]), [], none⟩,Za 9 41,Zu 10 43 2])
 (.seq (.seq (.ops [Za 44 6,Zp 45 44,Zn 46 45 0 .eql])
 (.cond (.t 46)
 (.seq (.ops [Za 47 8,Za 48 9,Zh 49 10 0,Zd 50 49,Zj 51 47 48 1,Zu 51 50 1])
 (.exit 3))
 .skip))
 (.seq (.ops [Zh 52 10 1,Zd 53 52,Zp 54 53,Zc 55 (.int .i64 0)])
 (.block 4
 (.loop [1, 2, 5, 6, 7, 8, 9, 37, 38, 39, 53, 54, 55]
 (.seq (.ops [Zl 56 55 54 .lss])
 (.seq (.cond (.t 56)
 .skip
 (.exit 4))
 (.seq (.block 5
 (.seq (.ops [Zj 57 53 55 3,Zf 58 57 3,
 ⟨some 12, .new (.new 3 [.agg [.int .i64 0, .int .i64 0, .int .i64 0]]), [], none⟩,Zu 12 58 3])
 (.ops [Za 59 8,Za 60 9,Za 61 8,Za 62 9,Zj 63 61 62 1,Zd 64 63,Za 65 64,Zb 66 6 65 false,Zb 67 6 65 false,Zq 68 67 65 false,Zo 69 68 1 .sub 65 false,Zk 70 66 69 1 65 false,Ze 71 70 65 false,Zi 72 12 2 65 false,Ze 73 72 65 false,Zk 74 71 73 1 65 false,Ze 75 74 65 false,Zw 76 65 75 true,Zj 77 59 60 1,Zu 77 76 1])))
 (.ops [Zn 78 55 1 .add,Za 55 78]))))))))))
 (.ops [Zn 79 39 1 .add,Za 39 79])))))))
 (.seq (.ops [Za 80 6,Za 81 8,
 ⟨some 82, .new (.buildSlice 1 [.snil 1] [0]), [.t 81], none⟩,
 ⟨some 83, .eff (.append 1 24), [.t 80, .t 82], none⟩,Za 6 83])
 (.seq (.ops [Za 84 8,
 ⟨some 85, .pure (.iaddrS 1), [.t 84, .c (.int .i64 0)], none⟩,Zd 86 85])
 (.cond (.t 86)
 (.seq (.ops [Zc 7 (.int .i64 0)])
 (.ops [Zf 87 2 1,Za 88 6,Za 89 5,Za 90 1,
 ⟨some 91, .call 352, [.t 87, .t 88, .c (.int .i64 0), .c (.snil 1), .t 89, .t 90], none⟩,Za 5 91]))
 .skip))))))
 (.ops [Za 30 7,Zn 31 30 1 .add,Za 7 31]))))))
 (.seq (.ops [Za 92 5,Za 4 92])
 .ret))))))) }
/-- datakit/automaton.Build -/
def ac339:AFn:=
 { nt:=19, res:=[.cell 2 (some 1), .tmp 3], body:=
 (.seq (.ops [Zx 1 0 6,
 ⟨some 2, .new (.new 1 [.agg [.snil 2]]), [], none⟩,Zc 3 (.int .i64 0)])
 (.seq (.seq (.ops [Zf 6 1 6,Zy 7 358 6,Zr 8 7])
 (.cond (.t 8)
 (.seq (.ops [⟨some 9, .pure (.build [.snil 2] []), [], none⟩,Zu 2 9 1,Zc 3 (.int .i64 1)])
 .ret)
 .skip))
 (.seq (.ops [Zf 11 1 6,Zy 12 359 11,Za 10 12,Zt 13 10 0,Zt 14 10 1,
 ⟨some 4, .new (.new 1 [.agg [.snil 2]]), [], none⟩,Zu 4 13 1,Za 5 14])
 (.seq (.seq (.ops [Za 15 5,Zr 16 15])
 (.cond (.t 16)
 (.seq (.ops [⟨some 17, .pure (.build [.snil 2] []), [], none⟩,Zu 2 17 1,Zc 3 (.int .i64 32)])
 .ret)
 .skip))
 (.seq (.ops [Zf 18 4 1,Zu 2 18 1,Zc 3 (.int .i64 0)])
 .ret))))) }
/-- datakit/datakitref15.Valid -/
def ac340:AFn:=
 { nt:=10, res:=[.tmp 2], body:=
 (.seq (.ops [Zx 1 0 6,Zc 2 (.bool false)])
 (.seq (.ops [Zf 3 1 6,
 ⟨some 4, .pcall 360, [.t 3, .c (.int .i64 48)], none⟩,Za 5 4,Zg 6 1 6 5 true,ZB 7 357 6 5 true,Zo 8 7 512 .leq 5 true,Zv 9 5 8 false,Za 2 9])
 .ret)) }
/-- datakit/datakitlaw16.pattern -/
def ac344:AFn:=
 { nt:=11, res:=[.cell 2 (some 6)], body:=
 (.seq (.ops [⟨some 2, .new (.new 6 [.agg [.int .i64 0, .int .i64 0, .int .i64 0, .int .i64 0, .int .i64 0, .snil 6]]), [], none⟩])
 (.seq (.ops [Za 6 0,Zy 7 366 6,Za 5 7,Zt 8 5 0,Zt 9 5 1,
 ⟨some 3, .new (.new 6 [.agg [.int .i64 0, .int .i64 0, .int .i64 0, .int .i64 0, .int .i64 0, .snil 6]]), [], none⟩,Zu 3 8 6,Za 4 9])
 (.seq (.ops [Zf 10 3 6,Zu 2 10 6])
 .ret))) }
/-- datakit/automaton.both -/
def ac345:AFn:=
 { nt:=31, res:=[.cell 6 (some 1), .tmp 7], body:=
 (.seq (.ops [Zx 3 0 1,Zx 4 1 1,
 ⟨some 6, .new (.new 1 [.agg [.snil 2]]), [], none⟩,Zc 7 (.int .i64 0)])
 (.seq (.seq (.ops [Zf 10 3 1,Zy 11 231 10,Zr 12 11,Za 13 12,Zg 14 4 1 13 false,ZB 15 231 14 13 false,Zs 16 15 13 false,Zw 17 13 16 true])
 (.cond (.t 17)
 (.seq (.ops [⟨some 18, .pure (.build [.snil 2] []), [], none⟩,Zu 6 18 1,Zc 7 (.int .i64 1)])
 .ret)
 .skip))
 (.seq (.ops [Zf 20 3 1,Zf 21 4 1,Za 22 2,ZA 23 367 20 21 22,Za 19 23,Zt 24 19 0,Zt 25 19 1,
 ⟨some 8, .new (.new 1 [.agg [.snil 2]]), [], none⟩,Zu 8 24 1,Za 9 25])
 (.seq (.seq (.ops [Za 26 9,Zr 27 26])
 (.cond (.t 27)
 (.seq (.ops [⟨some 28, .pure (.build [.snil 2] []), [], none⟩,Zu 6 28 1,Zc 7 (.int .i64 32)])
 .ret)
 .skip))
 (.seq (.ops [Zf 29 8 1,Zy 30 355 29,Zu 6 30 1,Zc 7 (.int .i64 0)])
 .ret))))) }
/-- datakit/automaton.And$1 -/
def ac346:AFn:=
 { nt:=9, res:=[.tmp 4], body:=
 (.seq (.ops [Zc 4 (.bool false)])
 (.seq (.ops [Za 5 0,Za 6 5,Zb 7 1 6 true,Zv 8 6 7 false,Za 4 8])
 .ret)) }
/-- datakit/automaton.Or$1 -/
def ac348:AFn:=
 { nt:=9, res:=[.tmp 4], body:=
 (.seq (.ops [Zc 4 (.bool false)])
 (.seq (.ops [Za 5 0,Za 6 5,Zb 7 1 6 false,Zw 8 6 7 true,Za 4 8])
 .ret)) }
/-- datakit/automaton.collect -/
def ac352:AFn:=
 { nt:=79, res:=[.tmp 12], body:=
 (.seq (.ops [Zx 6 0 1,Zc 12 (.snil 1)])
 (.seq (.ops [Za 17 1,Zp 18 17,Zn 19 18 1 .sub,Za 20 3,Zp 21 20,Zl 22 19 21 .sub,Za 13 22])
 (.seq (.seq (.ops [Za 23 13,Zn 24 23 0 .eql])
 (.cond (.t 24)
 (.seq (.ops [Za 25 4,Za 26 3,
 ⟨some 27, .read .bytesStr, [.t 26], none⟩,
 ⟨some 28, .new (.buildSlice 1 [.str []] [0]), [.t 27], none⟩,
 ⟨some 29, .eff (.append 1 16), [.t 25, .t 28], none⟩,Za 12 29])
 .ret)
 .skip))
 (.seq (.seq (.ops [Zh 30 6 0,Zd 31 30,Za 32 2,Zj 33 31 32 2,Zh 34 33 1,Zd 35 34,Zp 36 35,Zc 37 (.int .i64 0)])
 (.block 0
 (.loop [1, 3, 4, 5, 6, 13, 35, 36, 37]
 (.seq (.ops [Zl 38 37 36 .lss])
 (.seq (.cond (.t 38)
 .skip
 (.exit 0))
 (.seq (.block 1
 (.seq (.ops [Zj 39 35 37 3,Zf 40 39 3,
 ⟨some 15, .new (.new 3 [.agg [.int .i64 0, .int .i64 0, .int .i64 0]]), [], none⟩,Zu 15 40 3])
 (.seq (.seq (.ops [Za 41 1,Za 42 13,Zn 43 42 1 .sub,Zj 44 41 43 1,Zd 45 44,Zh 46 15 2,Zd 47 46,Zj 48 45 47 1,Zd 49 48,Zr 50 49])
 (.cond (.t 50)
 (.exit 1)
 .skip))
 (.seq (.ops [Zh 51 15 0,Zd 52 51,Za 16 52])
 (.block 2
 (.loop [1, 3, 4, 5, 6, 13, 15, 16, 35, 36, 37]
 (.seq (.seq (.ops [Za 53 16,Zh 54 15 1,Zd 55 54,Zl 56 53 55 .leq,Za 57 56,Zb 58 4 57 true,Zq 59 58 57 true,Zb 60 5 57 true,Zm 61 59 60 .lss 57 true,Zv 62 57 61 false])
 (.cond (.t 62)
 .skip
 (.exit 2)))
 (.seq (.block 3
 (.draw 1 [[Za 66 1,Zh 67 15 2,Za 69 3,Za 70 16,
 ⟨some 71, .pure (.conv .u8), [.t 70], none⟩,
 ⟨some 72, .newAt 0 (.buildSlice 1 [.int .u8 0] [0]), [.t 71], none⟩,Za 74 4,Za 75 5,Zf 65 6 1,Zd 68 67,
 ⟨some 73, .eff (.append 1 1), [.t 69, .t 72], none⟩,
 ⟨some 76, .call 352, [.t 65, .t 66, .t 68, .t 73, .t 74, .t 75], none⟩,Za 4 76],
 [Za 66 1,Zh 67 15 2,Za 69 3,Za 70 16,
 ⟨some 71, .pure (.conv .u8), [.t 70], none⟩,
 ⟨some 72, .newAt 0 (.buildSlice 1 [.int .u8 0] [0]), [.t 71], none⟩,Za 74 4,Za 75 5,Zf 65 6 1,
 ⟨some 73, .eff (.append 1 1), [.t 69, .t 72], none⟩,Zd 68 67,
 ⟨some 76, .call 352, [.t 65, .t 66, .t 68, .t 73, .t 74, .t 75], none⟩,Za 4 76],
 [Za 66 1,Zh 67 15 2,Za 69 3,Za 70 16,
 ⟨some 71, .pure (.conv .u8), [.t 70], none⟩,
 ⟨some 72, .newAt 0 (.buildSlice 1 [.int .u8 0] [0]), [.t 71], none⟩,Za 74 4,Za 75 5,Zd 68 67,Zf 65 6 1,
 ⟨some 73, .eff (.append 1 1), [.t 69, .t 72], none⟩,
 ⟨some 76, .call 352, [.t 65, .t 66, .t 68, .t 73, .t 74, .t 75], none⟩,Za 4 76],
 [Za 66 1,Zh 67 15 2,Za 69 3,Za 70 16,
 ⟨some 71, .pure (.conv .u8), [.t 70], none⟩,
 ⟨some 72, .newAt 0 (.buildSlice 1 [.int .u8 0] [0]), [.t 71], none⟩,Za 74 4,Za 75 5,Zd 68 67,
 ⟨some 73, .eff (.append 1 1), [.t 69, .t 72], none⟩,Zf 65 6 1,
 ⟨some 76, .call 352, [.t 65, .t 66, .t 68, .t 73, .t 74, .t 75], none⟩,Za 4 76],
 [Za 66 1,Zh 67 15 2,Za 69 3,Za 70 16,
 ⟨some 71, .pure (.conv .u8), [.t 70], none⟩,
 ⟨some 72, .newAt 0 (.buildSlice 1 [.int .u8 0] [0]), [.t 71], none⟩,Za 74 4,Za 75 5,
 ⟨some 73, .eff (.append 1 1), [.t 69, .t 72], none⟩,Zf 65 6 1,Zd 68 67,
 ⟨some 76, .call 352, [.t 65, .t 66, .t 68, .t 73, .t 74, .t 75], none⟩,Za 4 76]]))
 (.ops [Za 63 16,Zn 64 63 1 .add,Za 16 64])))))))))
 (.ops [Zn 77 37 1 .add,Za 37 77])))))))
 (.seq (.ops [Za 78 4,Za 12 78])
 .ret))))) }
/-- datakit/automaton.not -/
def ac354:AFn:=
 { nt:=27, res:=[.cell 2 (some 1)], body:=
 (.seq (.ops [Zx 1 0 1,
 ⟨some 2, .new (.new 1 [.agg [.snil 2]]), [], none⟩])
 (.seq (.ops [⟨some 3, .new (.new 1 [.agg [.snil 2]]), [], none⟩])
 (.seq (.seq (.ops [Zh 6 1 0,Zd 7 6,Zp 8 7,Zc 9 (.int .i64 0)])
 (.block 0
 (.loop [2, 3, 7, 8, 9]
 (.seq (.ops [Zl 10 9 8 .lss])
 (.seq (.cond (.t 10)
 .skip
 (.exit 0))
 (.seq (.block 1
 (.seq (.ops [Zj 11 7 9 2,Zf 12 11 2,
 ⟨some 5, .new (.new 2 [.agg [.bool false, .snil 3]]), [], none⟩,Zu 5 12 2])
 (.draw 1 [[Zh 13 3 0,Zd 14 13,Zh 15 5 0,Zd 16 15,Zr 17 16,Zh 18 5 1,Zd 19 18,Zy 20 217 19,
 ⟨some 21, .pure (.build [.bool false, .snil 3] [(0, 1), (1, 1)]), [.t 17, .t 20], none⟩,
 ⟨some 22, .newAt 0 (.buildSlice 2 [.agg [.bool false, .snil 3]] [0]), [.t 21], none⟩,
 ⟨some 23, .eff (.append 2 32), [.t 14, .t 22], none⟩,Zh 24 3 0,Zu 24 23 1]])))
 (.ops [Zn 25 9 1 .add,Za 9 25])))))))
 (.seq (.ops [Zf 26 3 1,Zu 2 26 1])
 .ret)))) }
/-- datakit/automaton.least -/
def ac355:AFn:=
 { nt:=126, res:=[.cell 2 (some 1)], body:=
 (.seq (.ops [Zx 1 0 1,
 ⟨some 2, .new (.new 1 [.agg [.snil 2]]), [], none⟩])
 (.seq (.ops [Zf 19 1 1,
 ⟨some 20, .new (.buildSlice 1 [.agg [.snil 2]] [0]), [.t 19], none⟩,Zy 21 370 20,Za 3 21])
 (.seq (.ops [Zh 22 1 0,Zd 23 22,Zp 24 23,
 ⟨some 25, .new (.mkSlice 1 24 (.snil 1)), [.t 24, .t 24], none⟩,Za 4 25])
 (.seq (.ops [Zh 26 1 0,Zd 27 26,Zp 28 27,
 ⟨some 29, .new (.mkSlice 1 8 (.int .i64 0)), [.t 28, .t 28], none⟩,Za 5 29])
 (.seq (.seq (.ops [Zh 30 1 0,Zd 31 30,Zp 32 31,Zc 33 (.int .i64 0)])
 (.block 0
 (.loop [1, 2, 3, 4, 5, 31, 32, 33, 2004]
 (.seq (.ops [Zl 34 33 32 .lss])
 (.seq (.cond (.t 34)
 .skip
 (.exit 0))
 (.seq (.block 1
 (.seq (.ops [Za 35 33,Zj 36 31 33 2,Zf 37 36 2,
 ⟨some 7, .new (.new 2 [.agg [.bool false, .snil 3]]), [], none⟩,Za 6 35,Zu 7 37 2])
 (.seq (.seq (.ops [Za 38 3,Zp 39 38,Zc 40 (.int .i64 0)])
 (.block 2
 (.loop [1, 2, 3, 4, 5, 6, 7, 31, 32, 33, 38, 39, 40]
 (.seq (.ops [Zl 41 40 39 .lss])
 (.seq (.cond (.t 41)
 .skip
 (.exit 2))
 (.seq (.block 3
 (.seq (.ops [Zj 42 38 40 1,Zd 43 42,Za 9 43])
 (.draw 1 [[Za 44 4,Za 45 6,Za 46 4,Za 47 6,Zj 48 46 47 1,Zd 49 48,Zf 50 1 1,Za 51 6,Za 52 9,ZA 53 252 50 51 52,
 ⟨some 54, .newAt 0 (.buildSlice 1 [.int .i64 0] [0]), [.t 53], none⟩,
 ⟨some 55, .eff (.append 1 8), [.t 49, .t 54], none⟩,Zj 56 44 45 1,Zu 56 55 1]])))
 (.ops [Zn 57 40 1 .add,Za 40 57])))))))
 (.seq (.ops [Zh 58 7 0,Zd 59 58])
 (.cond (.t 59)
 (.ops [Za 60 5,Za 61 6,Zj 62 60 61 1,
 ⟨none, .eff (.store 1), [.t 62, .c (.int .i64 1)], none⟩])
 .skip)))))
 (.ops [Zn 63 33 1 .add,Za 33 63])))))))
 (.seq (.seq (.ops [Zc 10 (.int .i64 0)])
 (.block 4
 (.loop [1, 2, 3, 4, 5, 10]
 (.block 5
 (.seq (.ops [⟨some 64, .new .mkMap, [], none⟩,Za 11 64])
 (.seq (.ops [Za 65 5,Zp 66 65,
 ⟨some 67, .new (.mkSlice 1 8 (.int .i64 0)), [.t 66, .t 66], none⟩,Za 12 67])
 (.seq (.seq (.ops [Za 68 5,Zp 69 68,Zc 70 (.int .i64 0)])
 (.block 6
 (.loop [1, 2, 3, 4, 5, 10, 11, 12, 69, 70]
 (.seq (.ops [Zl 71 70 69 .lss])
 (.seq (.cond (.t 71)
 .skip
 (.exit 6))
 (.seq (.block 7
 (.seq (.ops [Za 72 70,Za 13 72])
 (.seq (.ops [Za 73 5,Za 74 13,Zj 75 73 74 1,Zd 76 75,Zy 77 371 76,Za 14 77])
 (.seq (.seq (.ops [Za 78 4,Za 79 13,Zj 80 78 79 1,Zd 81 80,Zp 82 81,Zc 83 (.int .i64 0)])
 (.block 8
 (.loop [1, 2, 3, 4, 5, 10, 11, 12, 13, 14, 69, 70, 81, 82, 83]
 (.seq (.ops [Zl 84 83 82 .lss])
 (.seq (.cond (.t 84)
 .skip
 (.exit 8))
 (.seq (.block 9
 (.seq (.ops [Zj 85 81 83 1,Zd 86 85,Za 16 86])
 (.ops [Za 87 14,Za 88 5,Za 89 16,Zj 90 88 89 1,Zd 91 90,Zy 92 371 91,
 ⟨some 93, .pure (.bin .add), [.c (.str [44]), .t 92], none⟩,Zl 94 87 93 .add,Za 14 94])))
 (.ops [Zn 95 83 1 .add,Za 83 95])))))))
 (.seq (.ops [Za 97 11,Za 98 14,
 ⟨some 99, .read (.lookup (.one .str) (.int .i64 0) true), [.t 97, .t 98], none⟩,Za 96 99,Zt 100 96 0,Zt 101 96 1,Za 17 100,Za 18 101])
 (.seq (.seq (.ops [Za 102 18,Zr 103 102])
 (.cond (.t 103)
 (.seq (.ops [Za 104 11,
 ⟨some 105, .read .lenMap, [.t 104], none⟩,Za 17 105])
 (.ops [Za 106 11,Za 107 14,Za 108 17,
 ⟨none, .eff (.mapSet (.one .str)), [.t 106, .t 107, .t 108], none⟩]))
 .skip))
 (.ops [Za 109 12,Za 110 13,Za 111 17,Zj 112 109 110 1,Zu 112 111 1])))))))
 (.ops [Zn 113 70 1 .add,Za 70 113])))))))
 (.seq (.ops [Za 114 12,Za 5 114])
 (.seq (.seq (.ops [Za 115 11,
 ⟨some 116, .read .lenMap, [.t 115], none⟩,Za 117 10,Zl 118 116 117 .eql])
 (.cond (.t 118)
 (.exit 4)
 .skip))
 (.ops [Za 119 11,
 ⟨some 120, .read .lenMap, [.t 119], none⟩,Za 10 120]))))))))))
 (.seq (.ops [Zf 121 1 1,Za 122 3,Za 123 4,Za 124 5,
 ⟨some 125, .pcall 372, [.t 121, .t 122, .t 123, .t 124], none⟩,Zu 2 125 1])
 .ret))))))) }
/-- datakit/datakitref15.Size -/
def ac357:AFn:=
 { nt:=5, res:=[.tmp 2], body:=
 (.seq (.ops [Zx 1 0 6,Zc 2 (.int .i64 0)])
 (.seq (.ops [Zf 3 1 6,
 ⟨some 4, .pcall 376, [.t 3, .c (.int .i64 48)], none⟩,Za 2 4])
 .ret)) }
/-- datakit/regex.Valid -/
def ac358:AFn:=
 { nt:=10, res:=[.tmp 2], body:=
 (.seq (.ops [Zx 1 0 6,Zc 2 (.bool false)])
 (.seq (.ops [Zf 3 1 6,
 ⟨some 4, .pcall 377, [.t 3, .c (.int .i64 48)], none⟩,Za 5 4,Zg 6 1 6 5 true,
 ⟨some 7, .pcall 378, [.t 6, .c (.int .i64 48)], some (5, true)⟩,Zo 8 7 512 .leq 5 true,Zv 9 5 8 false,Za 2 9])
 .ret)) }
/-- datakit/automaton.build -/
def ac359:AFn:=
 { nt:=93, res:=[.cell 2 (some 1), .tmp 3], body:=
 (.seq (.ops [Zx 1 0 6,
 ⟨some 2, .new (.new 1 [.agg [.snil 2]]), [], none⟩,Zc 3 (.bool false)])
 (.seq (.ops [Zc 4 (.snil 1)])
 (.seq (.seq (.ops [Zh 13 1 5,Zd 14 13,Zp 15 14,Zc 16 (.int .i64 0)])
 (.block 0
 (.loop [1, 2, 4, 14, 15, 16]
 (.seq (.ops [Zl 17 16 15 .lss])
 (.seq (.cond (.t 17)
 .skip
 (.exit 0))
 (.seq (.block 1
 (.seq (.ops [Zj 18 14 16 6,Zf 19 18 6,
 ⟨some 6, .new (.new 6 [.agg [.int .i64 0, .int .i64 0, .int .i64 0, .int .i64 0, .int .i64 0, .snil 6]]), [], none⟩,Zu 6 19 6])
 (.seq (.ops [Zf 21 6 6,Zy 22 359 21,Za 20 22,Zt 23 20 0,Zt 24 20 1,
 ⟨some 7, .new (.new 1 [.agg [.snil 2]]), [], none⟩,Zu 7 23 1,Za 8 24])
 (.seq (.seq (.ops [Za 25 8,Zr 26 25])
 (.cond (.t 26)
 (.seq (.ops [⟨some 27, .pure (.build [.snil 2] []), [], none⟩,Zu 2 27 1,Zc 3 (.bool false)])
 .ret)
 .skip))
 (.ops [Za 28 4,Zf 29 7 1,
 ⟨some 30, .new (.buildSlice 1 [.agg [.snil 2]] [0]), [.t 29], none⟩,
 ⟨some 31, .eff (.append 1 24), [.t 28, .t 30], none⟩,Za 4 31])))))
 (.ops [Zn 32 16 1 .add,Za 16 32])))))))
 (.seq (.seq (.ops [Zh 33 1 0,Zd 34 33])
 (.block 2
 (.seq (.ops [Zn 36 34 1 .eql,Za 35 36])
 (.cond (.t 35)
 (.seq (.ops [⟨some 37, .pcall 379, [], none⟩,Zu 2 37 1,Zc 3 (.bool true)])
 .ret)
 (.seq (.ops [Zn 39 34 2 .eql,Za 38 39])
 (.cond (.t 38)
 (.seq (.ops [Zh 40 1 1,Zd 41 40,Zh 42 1 2,Zd 43 42,Zz 44 380 41 43,Zu 2 44 1,Zc 3 (.bool true)])
 .ret)
 (.seq (.ops [Zn 46 34 7 .eql,Za 45 46])
 (.cond (.t 45)
 (.seq (.ops [Za 47 4,
 ⟨some 48, .pure (.iaddrS 1), [.t 47, .c (.int .i64 0)], none⟩,Zf 49 48 1,Zy 50 354 49,Zu 2 50 1,Zc 3 (.bool true)])
 .ret)
 (.seq (.ops [Zn 52 34 5 .eql,Za 51 52])
 (.cond (.t 51)
 (.seq (.ops [Za 53 4,
 ⟨some 54, .pure (.iaddrS 1), [.t 53, .c (.int .i64 0)], none⟩,Zf 55 54 1,Zh 56 1 3,Zd 57 56,Zh 58 1 4,Zd 59 58,ZA 60 381 55 57 59,Zt 61 60 0,Zt 62 60 1,Zu 2 61 1,Za 3 62])
 .ret)
 (.seq (.seq (.ops [Zn 64 34 3 .eql,Za 63 64])
 (.cond (.t 63)
 .skip
 (.seq (.ops [Zn 65 34 4 .eql,Za 63 65])
 (.cond (.t 63)
 .skip
 (.ops [Zn 66 34 6 .eql,Za 63 66])))))
 (.cond (.t 63)
 (.seq (.ops [Za 67 4,
 ⟨some 68, .pure (.iaddrS 1), [.t 67, .c (.int .i64 0)], none⟩,Zf 69 68 1,
 ⟨some 9, .new (.new 1 [.agg [.snil 2]]), [], none⟩,Zu 9 69 1,Zc 10 (.bool true)])
 (.seq (.seq (.ops [Za 70 4,
 ⟨some 71, .pure (.sliceL 1 true false false), [.t 70, .c (.int .i64 1)], none⟩,Zp 72 71,Zc 73 (.int .i64 0)])
 (.block 3
 (.loop [1, 2, 9, 71, 72, 73]
 (.seq (.ops [Zl 74 73 72 .lss])
 (.seq (.cond (.t 74)
 .skip
 (.exit 3))
 (.seq (.block 4
 (.seq (.ops [Zj 75 71 73 1,Zf 76 75 1,
 ⟨some 12, .new (.new 1 [.agg [.snil 2]]), [], none⟩,Zu 12 76 1])
 (.seq (.ops [Zh 78 1 0,Zd 79 78,Zf 80 9 1,Zf 81 12 1,ZA 82 382 79 80 81,Za 77 82,Zt 83 77 0,Zt 84 77 1,Zu 9 83 1,Za 10 84])
 (.seq (.ops [Za 85 10,Zr 86 85])
 (.cond (.t 86)
 (.seq (.ops [⟨some 87, .pure (.build [.snil 2] []), [], none⟩,Zu 2 87 1,Zc 3 (.bool false)])
 .ret)
 .skip)))))
 (.ops [Zn 88 73 1 .add,Za 73 88])))))))
 (.seq (.ops [Zf 89 9 1,Zu 2 89 1,Zc 3 (.bool true)])
 .ret)))
 .skip))))))))))))
 (.seq (.ops [⟨some 90, .pcall 383, [.c (.bool false), .c (.int .i64 0)], none⟩,
 ⟨some 91, .new (.buildSlice 2 [.agg [.bool false, .snil 3]] [0]), [.t 90], none⟩,
 ⟨some 92, .pure (.build [.snil 2] [(0, 1)]), [.t 91], none⟩,Zu 2 92 1,Zc 3 (.bool true)])
 .ret))))) }
/-- datakit/datakitref15.nodes -/
def ac360:AFn:=
 { nt:=29, res:=[.tmp 4], body:=
 (.seq (.ops [Zx 2 0 6,Zc 4 (.bool false)])
 (.seq (.seq (.ops [Za 6 1,Zn 7 6 1 .lss,Za 8 7,Zg 9 2 6 8 false,ZB 10 384 9 8 false,Zs 11 10 8 false,Zw 12 8 11 true])
 (.cond (.t 12)
 (.seq (.ops [Zc 4 (.bool false)])
 .ret)
 .skip))
 (.seq (.seq (.ops [Zc 5 (.int .i64 0)])
 (.block 0
 (.loop [1, 2, 5]
 (.seq (.seq (.ops [Za 13 5,Zh 14 2 5,Zd 15 14,Zp 16 15,Zl 17 13 16 .lss])
 (.cond (.t 17)
 .skip
 (.exit 0)))
 (.seq (.block 1
 (.seq (.ops [Zh 20 2 5,Zd 21 20,Za 22 5,Zj 23 21 22 6,Zf 24 23 6,Za 25 1,Zn 26 25 1 .sub,Zz 27 360 24 26,Zr 28 27])
 (.cond (.t 28)
 (.seq (.ops [Zc 4 (.bool false)])
 .ret)
 .skip)))
 (.ops [Za 18 5,Zn 19 18 1 .add,Za 5 19]))))))
 (.seq (.ops [Zc 4 (.bool true)])
 .ret)))) }
/-- datakit/datakitref15.Parse -/
def ac366:AFn:=
 { nt:=29, res:=[.cell 2 (some 6), .tmp 3], body:=
 (.seq (.ops [⟨some 2, .new (.new 6 [.agg [.int .i64 0, .int .i64 0, .int .i64 0, .int .i64 0, .int .i64 0, .snil 6]]), [], none⟩,Zc 3 (.int .i64 0)])
 (.seq (.ops [Za 8 0,
 ⟨some 9, .pcall 388, [.t 8, .c (.int .i64 0), .c (.int .i64 48)], none⟩,Za 7 9,Zt 10 7 0,Zt 11 7 1,Zt 12 7 2,
 ⟨some 4, .new (.new 6 [.agg [.int .i64 0, .int .i64 0, .int .i64 0, .int .i64 0, .int .i64 0, .snil 6]]), [], none⟩,Zu 4 10 6,Za 5 11,Za 6 12])
 (.seq (.seq (.ops [Za 13 6,Zr 14 13,Za 15 14,Zb 16 5 15 false,Zb 17 0 15 false,
 ⟨some 18, .pure .lenS, [.t 17], some (15, false)⟩,Zm 19 16 18 .neq 15 false,Zw 20 15 19 true,Za 21 20,Zg 22 4 6 21 false,ZB 23 389 22 21 false,Zb 24 0 21 false,Zm 25 23 24 .neq 21 false,Zw 26 21 25 true])
 (.cond (.t 26)
 (.seq (.ops [⟨some 27, .pure (.build [.int .i64 0, .int .i64 0, .int .i64 0, .int .i64 0, .int .i64 0, .snil 6] []), [], none⟩,Zu 2 27 6,Zc 3 (.int .i64 3)])
 .ret)
 .skip))
 (.seq (.ops [Zf 28 4 6,Zu 2 28 6,Zc 3 (.int .i64 0)])
 .ret)))) }
/-- datakit/automaton.pairs -/
def ac367:AFn:=
 { nt:=123, res:=[.cell 6 (some 1), .tmp 7], body:=
 (.seq (.ops [Zx 3 0 1,Zx 4 1 1,
 ⟨some 6, .new (.new 1 [.agg [.snil 2]]), [], none⟩,Zc 7 (.bool false)])
 (.scope
 (.seq (.ops [Zf 20 3 1,Zf 21 4 1,
 ⟨some 22, .new (.buildSlice 1 [.agg [.snil 2], .agg [.snil 2]] [0, 1]), [.t 20, .t 21], none⟩,Zy 23 370 22,Za 8 23])
 (.seq (.ops [⟨some 24, .new .mkMap, [], none⟩,
 ⟨some 25, .pure (.build [.int .i64 0, .int .i64 0] [(0, 1), (1, 1)]), [.c (.int .i64 0), .c (.int .i64 0)], none⟩,
 ⟨none, .eff (.mapSetK [.int, .int]), [.t 24, .t 25, .c (.int .i64 0)], none⟩,Za 26 24,Za 9 26])
 (.seq (.ops [⟨some 27, .pure (.build [.int .i64 0, .int .i64 0] [(0, 1), (1, 1)]), [.c (.int .i64 0), .c (.int .i64 0)], none⟩,
 ⟨some 28, .new (.buildSlice 2 [.agg [.int .i64 0, .int .i64 0]] [0]), [.t 27], none⟩,Za 10 28])
 (.seq (.ops [⟨some 11, .new (.new 1 [.agg [.snil 2]]), [], none⟩])
 (.seq .skip
 (.seq (.seq (.ops [Zc 12 (.int .i64 0)])
 (.block 0
 (.loop [2, 3, 4, 6, 8, 9, 10, 11, 12, 3011]
 (.seq (.seq (.ops [Za 29 12,Za 30 10,Zp 31 30,Zl 32 29 31 .lss])
 (.cond (.t 32)
 .skip
 (.exit 0)))
 (.seq (.block 1
 (.seq (.ops [Za 35 10,Za 36 12,Zj 37 35 36 2,Zf 38 37 2,
 ⟨some 13, .new (.new 1 [.int .i64 0, .int .i64 0]), [], none⟩,Zu 13 38 2])
 (.seq (.seq (.ops [Zf 39 13 2,
 ⟨some 40, .pure (.build [.int .i64 0, .int .i64 0] []), [], none⟩,
 ⟨some 41, .pure (.eqF [.int, .int] false), [.t 39, .t 40], none⟩,Za 42 41,Zb 43 12 42 true,Zo 44 43 0 .gtr 42 true,Zv 45 42 44 false])
 (.cond (.t 45)
 (.exit 1)
 .skip))
 (.seq (.draw 1 [[Za 46 2,Zh 47 3 0,Zd 48 47,
 ⟨some 49, .pure (.iaddrA 2 1), [.t 13, .c (.int .i64 0)], none⟩,Zd 50 49,Zj 51 48 50 2,Zh 52 51 0,Zd 53 52,Zh 54 4 0,Zd 55 54,
 ⟨some 56, .pure (.iaddrA 2 1), [.t 13, .c (.int .i64 1)], none⟩,Zd 57 56,Zj 58 55 57 2,Zh 59 58 0,Zd 60 59,
 ⟨some 61, .callv, [.t 46, .t 53, .t 60], none⟩,
 ⟨some 62, .pure (.build [.bool false, .snil 3] [(0, 1)]), [.t 61], none⟩,
 ⟨some 14, .newAt 0 (.new 2 [.agg [.bool false, .snil 3]]), [], none⟩,Zu 14 62 2],
 [Za 46 2,Zh 47 3 0,Zd 48 47,
 ⟨some 49, .pure (.iaddrA 2 1), [.t 13, .c (.int .i64 0)], none⟩,Zd 50 49,Zj 51 48 50 2,Zh 52 51 0,Zd 53 52,Zh 54 4 0,Zd 55 54,
 ⟨some 56, .pure (.iaddrA 2 1), [.t 13, .c (.int .i64 1)], none⟩,Zd 57 56,Zj 58 55 57 2,Zh 59 58 0,Zd 60 59,
 ⟨some 14, .newAt 0 (.new 2 [.agg [.bool false, .snil 3]]), [], none⟩,
 ⟨some 61, .callv, [.t 46, .t 53, .t 60], none⟩,
 ⟨some 62, .pure (.build [.bool false, .snil 3] [(0, 1)]), [.t 61], none⟩,Zu 14 62 2]])
 (.seq (.seq (.ops [Za 63 8,Zp 64 63,Zc 65 (.int .i64 0)])
 (.block 2
 (.loop [2, 3, 4, 6, 8, 9, 10, 11, 12, 13, 14, 63, 64, 65]
 (.seq (.ops [Zl 66 65 64 .lss])
 (.seq (.cond (.t 66)
 .skip
 (.exit 2))
 (.seq (.block 3
 (.seq (.ops [Za 67 65,Zj 68 63 65 1,Zd 69 68,Za 15 67,Za 16 69])
 (.seq (.draw 1 [[Zf 70 3 1,
 ⟨some 71, .pure (.iaddrA 2 1), [.t 13, .c (.int .i64 0)], none⟩,Zd 72 71,Za 73 16,ZA 74 252 70 72 73,Zf 75 4 1,
 ⟨some 76, .pure (.iaddrA 2 1), [.t 13, .c (.int .i64 1)], none⟩,Zd 77 76,Za 78 16,ZA 79 252 75 77 78,
 ⟨some 80, .pure (.build [.int .i64 0, .int .i64 0] [(0, 1), (1, 1)]), [.t 74, .t 79], none⟩,
 ⟨some 17, .newAt 0 (.new 1 [.int .i64 0, .int .i64 0]), [], none⟩,Zu 17 80 2]])
 (.seq (.ops [Za 82 9,Zf 83 17 2,
 ⟨some 84, .read (.lookupK [.int, .int] (.int .i64 0) true), [.t 82, .t 83], none⟩,Za 81 84,Zt 85 81 0,Zt 86 81 1,Za 18 85,Za 19 86])
 (.seq (.seq (.ops [Za 87 19,Zr 88 87])
 (.cond (.t 88)
 (.seq (.seq (.ops [Za 89 10,Zp 90 89,Zn 91 90 1024 .geq])
 (.cond (.t 91)
 (.seq (.ops [⟨some 92, .pure (.build [.snil 2] []), [], none⟩,Zu 11 92 1])
 (.exit 0))
 .skip))
 (.seq (.ops [Za 93 10,Zp 94 93,Za 18 94])
 (.seq (.ops [Za 95 9,Zf 96 17 2,Za 97 18,
 ⟨none, .eff (.mapSetK [.int, .int]), [.t 95, .t 96, .t 97], none⟩])
 (.ops [Za 98 10,Zf 99 17 2,
 ⟨some 100, .new (.buildSlice 2 [.agg [.int .i64 0, .int .i64 0]] [0]), [.t 99], none⟩,
 ⟨some 101, .eff (.append 2 16), [.t 98, .t 100], none⟩,Za 10 101]))))
 .skip))
 (.ops [Zh 102 14 1,Zd 103 102,Za 104 16,Za 105 8,Za 106 15,Zz 107 391 105 106,Za 108 18,
 ⟨some 109, .call 390, [.t 103, .t 104, .t 107, .t 108], none⟩,Zh 110 14 1,Zu 110 109 1]))))))
 (.ops [Zn 111 65 1 .add,Za 65 111])))))))
 (.ops [Zh 112 11 0,Zd 113 112,Zf 114 14 2,
 ⟨some 115, .new (.buildSlice 2 [.agg [.bool false, .snil 3]] [0]), [.t 114], none⟩,
 ⟨some 116, .eff (.append 2 32), [.t 113, .t 115], none⟩,Zh 117 11 0,Zu 117 116 1]))))))
 (.ops [Za 33 12,Zn 34 33 1 .add,Za 12 34]))))))
 (.seq (.draw 0 [[Zf 118 11 1,Zh 119 11 0,Zd 120 119,Zp 121 120,Zn 122 121 0 .gtr,Zu 6 118 1,Za 7 122],
 [Zf 118 11 1,Zh 119 11 0,Zu 6 118 1,Zd 120 119,Zp 121 120,Zn 122 121 0 .gtr,Za 7 122]])
 .ret))))))))) }
end Ago
