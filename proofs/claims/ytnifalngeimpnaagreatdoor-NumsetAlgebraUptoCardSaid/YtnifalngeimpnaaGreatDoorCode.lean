/- The abstract code of the functions,printed by program. -/
import Derived.Test.YtnifalngeimpnaaGreatDoorCodeZ
import Derived.Test.YtnifalngeimpnaaGreatDoorMachH
set_option linter.unusedSimpArgs false
set_option linter.unusedVariables false
set_option maxRecDepth 100000
namespace Ago
/-- strings.TrimLeft -/
def ac137:AFn:=
 { nt:=37,res:=[.tmp 4],body:=
 (.seq (.ops [xC 4 (.str [])])
 (.seq (.seq (.ops [xM 7 0,
 ⟨some 8,.pure (.bin .eql),[.t 7,.c (.str [])],none⟩,
 xM 9 8,
 yM 10 1 9 false,
 ⟨some 11,.pure (.bin .eql),[.t 10,.c (.str [])],some (9,false)⟩,
 xP 12 .pick [.t 9,.c (.bool true),.t 11]])
 (.cond (.t 12)
 (.seq (.ops [xM 13 0,
 xM 4 13])
 .ret)
 .skip))
 (.seq (.seq (.ops [xM 14 1,
 xP 15 .lenS [.t 14],
 xP 16 (.bin .eql) [.t 15,.c (.int .i64 1)],
 xM 17 16,
 yM 18 1 17 true,
 yP 19 .idxStr [.t 18,.c (.int .i64 0)] 17 true,
 yP 20 (.bin .lss) [.t 19,.c (.int .u8 128)] 17 true,
 xP 21 .pick [.t 17,.t 20,.c (.bool false)]])
 (.cond (.t 21)
 (.seq (.ops [xM 22 0,
 xM 23 1,
 xP 24 .idxStr [.t 23,.c (.int .i64 0)],
 xK 25 144 [.t 22,.t 24],
 xM 4 25])
 .ret)
 .skip))
 (.seq (.seq (.ops [xM 27 1,
 xK 28 145 [.t 27],
 xM 26 28,
 xP 29 (.ext 0) [.t 26],
 xP 30 (.ext 1) [.t 26],
 ⟨some 5,.new (.new 1 [.bool false,.bool false,.bool false,.bool false,.bool false,.bool false,.bool false,.bool false,.bool false,.bool false,.bool false,.bool false,.bool false,.bool false,.bool false,.bool false,.bool false,.bool false,.bool false,.bool false,.bool false,.bool false,.bool false,.bool false,.bool false,.bool false,.bool false,.bool false,.bool false,.bool false,.bool false,.bool false,.bool false,.bool false,.bool false,.bool false,.bool false,.bool false,.bool false,.bool false,.bool false,.bool false,.bool false,.bool false,.bool false,.bool false,.bool false,.bool false,.bool false,.bool false,.bool false,.bool false,.bool false,.bool false,.bool false,.bool false,.bool false,.bool false,.bool false,.bool false,.bool false,.bool false,.bool false,.bool false,.bool false,.bool false,.bool false,.bool false,.bool false,.bool false,.bool false,.bool false,.bool false,.bool false,.bool false,.bool false,.bool false,.bool false,.bool false,.bool false,.bool false,.bool false,.bool false,.bool false,.bool false,.bool false,.bool false,.bool false,.bool false,.bool false,.bool false,.bool false,.bool false,.bool false,.bool false,.bool false,.bool false,.bool false,.bool false,.bool false,.bool false,.bool false,.bool false,.bool false,.bool false,.bool false,.bool false,.bool false,.bool false,.bool false,.bool false,.bool false,.bool false,.bool false,.bool false,.bool false,.bool false,.bool false,.bool false,.bool false,.bool false,.bool false,.bool false,.bool false,.bool false,.bool false,.bool false,.bool false,.bool false,.bool false,.bool false,.bool false,.bool false,.bool false,.bool false,.bool false,.bool false,.bool false,.bool false,.bool false,.bool false,.bool false,.bool false,.bool false,.bool false,.bool false,.bool false,.bool false,.bool false,.bool false,.bool false,.bool false,.bool false,.bool false,.bool false,.bool false,.bool false,.bool false,.bool false,.bool false,.bool false,.bool false,.bool false,.bool false,.bool false,.bool false,.bool false,.bool false,.bool false,.bool false,.bool false,.bool false,.bool false,.bool false,.bool false,.bool false,.bool false,.bool false,.bool false,.bool false,.bool false,.bool false,.bool false,.bool false,.bool false,.bool false,.bool false,.bool false,.bool false,.bool false,.bool false,.bool false,.bool false,.bool false,.bool false,.bool false,.bool false,.bool false,.bool false,.bool false,.bool false,.bool false,.bool false,.bool false,.bool false,.bool false,.bool false,.bool false,.bool false,.bool false,.bool false,.bool false,.bool false,.bool false,.bool false,.bool false,.bool false,.bool false,.bool false,.bool false,.bool false,.bool false,.bool false,.bool false,.bool false,.bool false,.bool false,.bool false,.bool false,.bool false,.bool false,.bool false,.bool false,.bool false,.bool false,.bool false,.bool false,.bool false,.bool false,.bool false,.bool false,.bool false,.bool false,.bool false,.bool false,.bool false,.bool false,.bool false,.bool false,.bool false,.bool false,.bool false,.bool false,.bool false,.bool false,.bool false]),[],none⟩,
 xS 256 5 29,
 xM 6 30])
 (.seq (.ops [xM 31 6])
 (.cond (.t 31)
 (.seq (.ops [xM 32 0,
 xK 33 146 [.t 32,.t 5],
 xM 4 33])
 .ret)
 .skip)))
 (.seq (.ops [xM 34 0,
 xM 35 1,
 xK 36 147 [.t 34,.t 35],
 xM 4 36])
 .ret))))) }
/-- strings.trimLeftByte -/
def ac144:AFn:=
 { nt:=17,res:=[.tmp 4],body:=
 (.seq (.ops [xC 4 (.str [])])
 (.seq (.block 0
 (.loop [0,1]
 (.seq (.seq (.ops [xM 5 0,
 xP 6 .lenS [.t 5],
 xP 7 (.bin .gtr) [.t 6,.c (.int .i64 0)],
 xM 8 7,
 yM 9 0 8 true,
 yP 10 .idxStr [.t 9,.c (.int .i64 0)] 8 true,
 yM 11 1 8 true,
 yP 12 (.bin .eql) [.t 10,.t 11] 8 true,
 xP 13 .pick [.t 8,.t 12,.c (.bool false)]])
 (.cond (.t 13)
 .skip
 (.exit 0)))
 (.block 1
 (.ops [xM 14 0,
 xP 15 (.sliceS true false) [.t 14,.c (.int .i64 1)],
 xM 0 15])))))
 (.seq (.ops [xM 16 0,
 xM 4 16])
 .ret))) }
/-- strings.makeASCIISet -/
def ac145:AFn:=
 { nt:=21,res:=[.cell 2 (some 256),.tmp 3],body:=
 (.seq (.ops [⟨some 2,.new (.new 1 [.bool false,.bool false,.bool false,.bool false,.bool false,.bool false,.bool false,.bool false,.bool false,.bool false,.bool false,.bool false,.bool false,.bool false,.bool false,.bool false,.bool false,.bool false,.bool false,.bool false,.bool false,.bool false,.bool false,.bool false,.bool false,.bool false,.bool false,.bool false,.bool false,.bool false,.bool false,.bool false,.bool false,.bool false,.bool false,.bool false,.bool false,.bool false,.bool false,.bool false,.bool false,.bool false,.bool false,.bool false,.bool false,.bool false,.bool false,.bool false,.bool false,.bool false,.bool false,.bool false,.bool false,.bool false,.bool false,.bool false,.bool false,.bool false,.bool false,.bool false,.bool false,.bool false,.bool false,.bool false,.bool false,.bool false,.bool false,.bool false,.bool false,.bool false,.bool false,.bool false,.bool false,.bool false,.bool false,.bool false,.bool false,.bool false,.bool false,.bool false,.bool false,.bool false,.bool false,.bool false,.bool false,.bool false,.bool false,.bool false,.bool false,.bool false,.bool false,.bool false,.bool false,.bool false,.bool false,.bool false,.bool false,.bool false,.bool false,.bool false,.bool false,.bool false,.bool false,.bool false,.bool false,.bool false,.bool false,.bool false,.bool false,.bool false,.bool false,.bool false,.bool false,.bool false,.bool false,.bool false,.bool false,.bool false,.bool false,.bool false,.bool false,.bool false,.bool false,.bool false,.bool false,.bool false,.bool false,.bool false,.bool false,.bool false,.bool false,.bool false,.bool false,.bool false,.bool false,.bool false,.bool false,.bool false,.bool false,.bool false,.bool false,.bool false,.bool false,.bool false,.bool false,.bool false,.bool false,.bool false,.bool false,.bool false,.bool false,.bool false,.bool false,.bool false,.bool false,.bool false,.bool false,.bool false,.bool false,.bool false,.bool false,.bool false,.bool false,.bool false,.bool false,.bool false,.bool false,.bool false,.bool false,.bool false,.bool false,.bool false,.bool false,.bool false,.bool false,.bool false,.bool false,.bool false,.bool false,.bool false,.bool false,.bool false,.bool false,.bool false,.bool false,.bool false,.bool false,.bool false,.bool false,.bool false,.bool false,.bool false,.bool false,.bool false,.bool false,.bool false,.bool false,.bool false,.bool false,.bool false,.bool false,.bool false,.bool false,.bool false,.bool false,.bool false,.bool false,.bool false,.bool false,.bool false,.bool false,.bool false,.bool false,.bool false,.bool false,.bool false,.bool false,.bool false,.bool false,.bool false,.bool false,.bool false,.bool false,.bool false,.bool false,.bool false,.bool false,.bool false,.bool false,.bool false,.bool false,.bool false,.bool false,.bool false,.bool false,.bool false,.bool false,.bool false,.bool false,.bool false,.bool false,.bool false,.bool false,.bool false,.bool false,.bool false,.bool false,.bool false,.bool false,.bool false,.bool false,.bool false,.bool false,.bool false,.bool false,.bool false]),[],none⟩,
 xC 3 (.bool false)])
 (.seq (.seq (.ops [xC 4 (.int .i64 0)])
 (.block 0
 (.loop [0,2,4]
 (.seq (.seq (.ops [xM 6 4,
 xM 7 0,
 xP 8 .lenS [.t 7],
 xP 9 (.bin .lss) [.t 6,.t 8]])
 (.cond (.t 9)
 .skip
 (.exit 0)))
 (.seq (.block 1
 (.seq (.ops [xM 12 0,
 xM 13 4,
 xP 14 .idxStr [.t 12,.t 13],
 xM 5 14])
 (.seq (.seq (.ops [xM 15 5,
 xP 16 (.bin .geq) [.t 15,.c (.int .u8 128)]])
 (.cond (.t 16)
 (.seq (.ops [xL 256 17 2,
 xS 256 2 17,
 xC 3 (.bool false)])
 .ret)
 .skip))
 (.ops [xM 18 5,
 xP 19 (.iaddrA 256 1) [.t 2,.t 18],
 ⟨none,.eff (.store 1),[.t 19,.c (.bool true)],none⟩]))))
 (.ops [xM 10 4,
 xP 11 (.bin .add) [.t 10,.c (.int .i64 1)],
 xM 4 11]))))))
 (.seq (.ops [xL 256 20 2,
 xS 256 2 20,
 xC 3 (.bool true)])
 .ret))) }
/-- strings.trimLeftASCII -/
def ac146:AFn:=
 { nt:=16,res:=[.tmp 4],body:=
 (.seq (.ops [xC 4 (.str [])])
 (.seq (.block 0
 (.loop [0,1]
 (.seq (.seq (.ops [xM 5 0,
 xP 6 .lenS [.t 5],
 xP 7 (.bin .gtr) [.t 6,.c (.int .i64 0)]])
 (.cond (.t 7)
 .skip
 (.exit 0)))
 (.block 1
 (.seq (.seq (.ops [xM 8 1,
 xM 9 0,
 xP 10 .idxStr [.t 9,.c (.int .i64 0)],
 ⟨some 11,.call 152,[.t 8,.t 10],none⟩,
 xP 12 (.un .not) [.t 11]])
 (.cond (.t 12)
 (.exit 0)
 .skip))
 (.ops [xM 13 0,
 xP 14 (.sliceS true false) [.t 13,.c (.int .i64 1)],
 xM 0 14]))))))
 (.seq (.ops [xM 15 0,
 xM 4 15])
 .ret))) }
/-- strings.trimLeftUnicode -/
def ac147:AFn:=
 { nt:=23,res:=[.tmp 4],body:=
 (.seq (.ops [xC 4 (.str [])])
 (.seq (.block 0
 (.loop [0,1]
 (.seq (.seq (.ops [xM 7 0,
 xP 8 .lenS [.t 7],
 xP 9 (.bin .gtr) [.t 8,.c (.int .i64 0)]])
 (.cond (.t 9)
 .skip
 (.exit 0)))
 (.block 1
 (.seq (.ops [xM 11 0,
 xK 12 153 [.t 11],
 xM 10 12,
 xP 13 (.ext 0) [.t 10],
 xP 14 (.ext 1) [.t 10],
 xM 5 13,
 xM 6 14])
 (.seq (.seq (.ops [xM 15 1,
 xM 16 5,
 xK 17 154 [.t 15,.t 16],
 xP 18 (.un .not) [.t 17]])
 (.cond (.t 18)
 (.exit 0)
 .skip))
 (.ops [xM 19 0,
 xM 20 6,
 xP 21 (.sliceS true false) [.t 19,.t 20],
 xM 0 21])))))))
 (.seq (.ops [xM 22 0,
 xM 4 22])
 .ret))) }
/-- (*strings.asciiSet).contains -/
def ac152:AFn:=
 { nt:=10,res:=[.tmp 4],body:=
 (.seq (.ops [xC 4 (.bool false)])
 (.seq (.ops [xM 5 0,
 xM 6 1,
 xP 7 .chk [.t 5],
 xP 8 (.iaddrA 256 1) [.t 7,.t 6],
 xR 9 8,
 xM 4 9])
 .ret)) }
/-- unicode/utf8.DecodeRuneInString -/
def ac153:AFn:=
 { nt:=19,res:=[.tmp 2,.tmp 3],body:=
 (.seq (.ops [xC 2 (.int .i32 0),
 xC 3 (.int .i64 0)])
 (.seq (.seq (.ops [xM 4 0,
 ⟨some 5,.pure (.bin .neq),[.t 4,.c (.str [])],none⟩,
 xM 6 5,
 yM 7 0 6 true,
 yP 8 .idxStr [.t 7,.c (.int .i64 0)] 6 true,
 yP 9 (.bin .lss) [.t 8,.c (.int .u8 128)] 6 true,
 xP 10 .pick [.t 6,.t 9,.c (.bool false)]])
 (.cond (.t 10)
 (.seq (.ops [xM 11 0,
 xP 12 .idxStr [.t 11,.c (.int .i64 0)],
 xP 13 (.conv .i32) [.t 12],
 xM 2 13,
 xC 3 (.int .i64 1)])
 .ret)
 (.ops [xM 15 0,
 xK 16 159 [.t 15],
 xM 14 16,
 xP 17 (.ext 0) [.t 14],
 xP 18 (.ext 1) [.t 14],
 xM 2 17,
 xM 3 18])))
 .ret)) }
/-- strings.ContainsRune -/
def ac154:AFn:=
 { nt:=9,res:=[.tmp 4],body:=
 (.seq (.ops [xC 4 (.bool false)])
 (.seq (.ops [xM 5 0,
 xM 6 1,
 ⟨some 7,.bad,[],none⟩,
 xP 8 (.bin .geq) [.t 7,.c (.int .i64 0)],
 xM 4 8])
 .ret)) }
/-- unicode/utf8.decodeRuneInStringSlow -/
def ac159:AFn:=
 { nt:=117,res:=[.tmp 2,.tmp 3],body:=
 (.seq (.ops [xC 2 (.int .i32 0),
 xC 3 (.int .i64 0)])
 (.seq (.ops [xM 13 0,
 xP 14 .lenS [.t 13],
 xM 4 14])
 (.seq (.seq (.ops [xM 15 4,
 xP 16 (.bin .lss) [.t 15,.c (.int .i64 1)]])
 (.cond (.t 16)
 (.seq (.ops [xC 2 (.int .i32 65533),
 xC 3 (.int .i64 0)])
 .ret)
 .skip))
 (.seq (.ops [xM 17 0,
 xP 18 .idxStr [.t 17,.c (.int .i64 0)],
 xM 5 18])
 (.seq (.ops [xM 19 5,
 ⟨some 20,.bad,[],none⟩,
 xR 21 20,
 xM 6 21])
 (.seq (.seq (.ops [xM 22 6,
 xP 23 (.bin .geq) [.t 22,.c (.int .u8 240)]])
 (.cond (.t 23)
 (.seq (.ops [xM 24 6,
 xP 25 (.conv .i32) [.t 24],
 ⟨some 26,.pure (.bin .shl),[.t 25,.c (.int .u64 31)],none⟩,
 ⟨some 27,.pure (.bin .shr),[.t 26,.c (.int .u64 31)],none⟩,
 xM 7 27])
 (.seq (.ops [xM 28 0,
 xP 29 .idxStr [.t 28,.c (.int .i64 0)],
 xP 30 (.conv .i32) [.t 29],
 xM 31 7,
 ⟨some 32,.pure (.bin .andNot),[.t 30,.t 31],none⟩,
 xM 33 7,
 ⟨some 34,.pure (.bin .and),[.c (.int .i32 65533),.t 33],none⟩,
 ⟨some 35,.pure (.bin .or),[.t 32,.t 34],none⟩,
 xM 2 35,
 xC 3 (.int .i64 1)])
 .ret))
 .skip))
 (.seq (.ops [xM 36 6,
 ⟨some 37,.pure (.bin .and),[.t 36,.c (.int .u8 7)],none⟩,
 xP 38 (.conv .i64) [.t 37],
 xM 8 38])
 (.seq (.ops [xM 39 6,
 ⟨some 40,.pure (.bin .shr),[.t 39,.c (.int .u64 4)],none⟩,
 ⟨some 41,.bad,[],none⟩,
 xL 2 42 41,
 ⟨some 9,.new (.new 2 [.agg [.int .u8 0,.int .u8 0]]),[],none⟩,
 xS 2 9 42])
 (.seq (.seq (.ops [xM 43 4,
 xM 44 8,
 xP 45 (.bin .lss) [.t 43,.t 44]])
 (.cond (.t 45)
 (.seq (.ops [xC 2 (.int .i32 65533),
 xC 3 (.int .i64 1)])
 .ret)
 .skip))
 (.seq (.ops [xM 46 0,
 xP 47 .idxStr [.t 46,.c (.int .i64 1)],
 xM 10 47])
 (.seq (.seq (.ops [xM 48 10,
 xF 0 49 9,
 xR 50 49,
 xP 51 (.bin .lss) [.t 48,.t 50],
 xM 52 51,
 yF 1 53 9 52 false,
 yR 54 53 52 false,
 yM 55 10 52 false,
 yP 56 (.bin .lss) [.t 54,.t 55] 52 false,
 xP 57 .pick [.t 52,.c (.bool true),.t 56]])
 (.cond (.t 57)
 (.seq (.ops [xC 2 (.int .i32 65533),
 xC 3 (.int .i64 1)])
 .ret)
 .skip))
 (.seq (.seq (.ops [xM 58 8,
 xP 59 (.bin .leq) [.t 58,.c (.int .i64 2)]])
 (.cond (.t 59)
 (.seq (.ops [xM 60 5,
 ⟨some 61,.pure (.bin .and),[.t 60,.c (.int .u8 31)],none⟩,
 xP 62 (.conv .i32) [.t 61],
 ⟨some 63,.pure (.bin .shl),[.t 62,.c (.int .u64 6)],none⟩,
 xM 64 10,
 ⟨some 65,.pure (.bin .and),[.t 64,.c (.int .u8 63)],none⟩,
 xP 66 (.conv .i32) [.t 65],
 ⟨some 67,.pure (.bin .or),[.t 63,.t 66],none⟩,
 xM 2 67,
 xC 3 (.int .i64 2)])
 .ret)
 .skip))
 (.seq (.ops [xM 68 0,
 xP 69 .idxStr [.t 68,.c (.int .i64 2)],
 xM 11 69])
 (.seq (.seq (.ops [xM 70 11,
 xP 71 (.bin .lss) [.t 70,.c (.int .u8 128)],
 xM 72 71,
 yM 73 11 72 false,
 yP 74 (.bin .lss) [.c (.int .u8 191),.t 73] 72 false,
 xP 75 .pick [.t 72,.c (.bool true),.t 74]])
 (.cond (.t 75)
 (.seq (.ops [xC 2 (.int .i32 65533),
 xC 3 (.int .i64 1)])
 .ret)
 .skip))
 (.seq (.seq (.ops [xM 76 8,
 xP 77 (.bin .leq) [.t 76,.c (.int .i64 3)]])
 (.cond (.t 77)
 (.seq (.ops [xM 78 5,
 ⟨some 79,.pure (.bin .and),[.t 78,.c (.int .u8 15)],none⟩,
 xP 80 (.conv .i32) [.t 79],
 ⟨some 81,.pure (.bin .shl),[.t 80,.c (.int .u64 12)],none⟩,
 xM 82 10,
 ⟨some 83,.pure (.bin .and),[.t 82,.c (.int .u8 63)],none⟩,
 xP 84 (.conv .i32) [.t 83],
 ⟨some 85,.pure (.bin .shl),[.t 84,.c (.int .u64 6)],none⟩,
 ⟨some 86,.pure (.bin .or),[.t 81,.t 85],none⟩,
 xM 87 11,
 ⟨some 88,.pure (.bin .and),[.t 87,.c (.int .u8 63)],none⟩,
 xP 89 (.conv .i32) [.t 88],
 ⟨some 90,.pure (.bin .or),[.t 86,.t 89],none⟩,
 xM 2 90,
 xC 3 (.int .i64 3)])
 .ret)
 .skip))
 (.seq (.ops [xM 91 0,
 xP 92 .idxStr [.t 91,.c (.int .i64 3)],
 xM 12 92])
 (.seq (.seq (.ops [xM 93 12,
 xP 94 (.bin .lss) [.t 93,.c (.int .u8 128)],
 xM 95 94,
 yM 96 12 95 false,
 yP 97 (.bin .lss) [.c (.int .u8 191),.t 96] 95 false,
 xP 98 .pick [.t 95,.c (.bool true),.t 97]])
 (.cond (.t 98)
 (.seq (.ops [xC 2 (.int .i32 65533),
 xC 3 (.int .i64 1)])
 .ret)
 .skip))
 (.seq (.ops [xM 99 5,
 ⟨some 100,.pure (.bin .and),[.t 99,.c (.int .u8 7)],none⟩,
 xP 101 (.conv .i32) [.t 100],
 ⟨some 102,.pure (.bin .shl),[.t 101,.c (.int .u64 18)],none⟩,
 xM 103 10,
 ⟨some 104,.pure (.bin .and),[.t 103,.c (.int .u8 63)],none⟩,
 xP 105 (.conv .i32) [.t 104],
 ⟨some 106,.pure (.bin .shl),[.t 105,.c (.int .u64 12)],none⟩,
 ⟨some 107,.pure (.bin .or),[.t 102,.t 106],none⟩,
 xM 108 11,
 ⟨some 109,.pure (.bin .and),[.t 108,.c (.int .u8 63)],none⟩,
 xP 110 (.conv .i32) [.t 109],
 ⟨some 111,.pure (.bin .shl),[.t 110,.c (.int .u64 6)],none⟩,
 ⟨some 112,.pure (.bin .or),[.t 107,.t 111],none⟩,
 xM 113 12,
 ⟨some 114,.pure (.bin .and),[.t 113,.c (.int .u8 63)],none⟩,
 xP 115 (.conv .i32) [.t 114],
 ⟨some 116,.pure (.bin .or),[.t 112,.t 115],none⟩,
 xM 2 116,
 xC 3 (.int .i64 4)])
 .ret)))))))))))))))))) }
/-- datakit/numset.Valid -/
def ac229:AFn:=
 { nt:=20,res:=[.tmp 2],body:=
 (.seq (.ops [xB 1 1 0,
 xC 2 (.bool false)])
 (.seq (.seq (.ops [xF 0 5 1,
 xR 6 5,
 xP 7 .lenL [.t 6],
 xP 8 (.bin .gtr) [.t 7,.c (.int .i64 256)]])
 (.cond (.t 8)
 (.seq (.ops [xC 2 (.bool false)])
 .ret)
 .skip))
 (.seq (.seq (.ops [xF 0 9 1,
 xR 10 9,
 xP 11 .lenL [.t 10],
 xC 12 (.int .i64 0)])
 (.block 0
 (.loop [10,11,12]
 (.seq (.ops [xP 13 (.bin .lss) [.t 12,.t 11]])
 (.seq (.cond (.t 13)
 .skip
 (.exit 0))
 (.seq (.block 1
 (.seq (.ops [xI 11 14 10 12,
 xL 11 15 14,
 xN 4 11 z0,
 xS 11 4 15])
 (.seq (.ops [xL 11 16 4,
 xK 17 250 [.t 16],
 xP 18 (.un .not) [.t 17]])
 (.cond (.t 18)
 (.seq (.ops [xC 2 (.bool false)])
 .ret)
 .skip))))
 (.ops [xP 19 (.bin .add) [.t 12,.c (.int .i64 1)],
 xM 12 19])))))))
 (.seq (.ops [xC 2 (.bool true)])
 .ret)))) }
/-- datakit/numset.Has -/
def ac235:AFn:=
 { nt:=26,res:=[.tmp 4],body:=
 (.seq (.ops [xB 1 2 0,
 xB 3 3 1,
 xC 4 (.bool false)])
 (.seq (.seq (.ops [xL 1 7 2,
 xK 8 229 [.t 7],
 xP 9 (.un .not) [.t 8],
 xM 10 9,
 yL 3 11 3 10 false,
 yK 12 140 [.t 11] 10 false,
 yP 13 (.un .not) [.t 12] 10 false,
 xP 14 .pick [.t 10,.c (.bool true),.t 13]])
 (.cond (.t 14)
 (.seq (.ops [xC 4 (.bool false)])
 .ret)
 .skip))
 (.seq (.seq (.ops [xF 0 15 2,
 xR 16 15,
 xP 17 .lenL [.t 16],
 xC 18 (.int .i64 0)])
 (.block 0
 (.loop [3,16,17,18]
 (.seq (.ops [xP 19 (.bin .lss) [.t 18,.t 17]])
 (.seq (.cond (.t 19)
 .skip
 (.exit 0))
 (.seq (.block 1
 (.seq (.ops [xI 11 20 16 18,
 xL 11 21 20,
 xN 6 11 z0,
 xS 11 6 21])
 (.seq (.ops [xL 11 22 6,
 xL 3 23 3,
 xK 24 251 [.t 22,.t 23]])
 (.cond (.t 24)
 (.seq (.ops [xC 4 (.bool true)])
 .ret)
 .skip))))
 (.ops [xP 25 (.bin .add) [.t 18,.c (.int .i64 1)],
 xM 18 25])))))))
 (.seq (.ops [xC 4 (.bool false)])
 .ret)))) }
/-- datakit/numset.validPart -/
def ac250:AFn:=
 { nt:=21,res:=[.tmp 2],body:=
 (.seq (.ops [xB 11 1 0,
 xC 2 (.bool false)])
 (.seq (.ops [xF 0 3 1,
 xL 5 4 3,
 xK 5 262 [.t 4],
 xM 6 5,
 yF 5 7 1 6 true,
 yL 5 8 7 6 true,
 yK 9 262 [.t 8] 6 true,
 xP 10 .pick [.t 6,.t 9,.c (.bool false)],
 xM 11 10,
 yF 10 12 1 11 true,
 yR 13 12 11 true,
 yP 14 (.bin .geq) [.t 13,.c (.int .i64 0)] 11 true,
 xP 15 .pick [.t 11,.t 14,.c (.bool false)],
 xM 16 15,
 yF 10 17 1 16 true,
 yR 18 17 16 true,
 yP 19 (.bin .leq) [.t 18,.c (.int .i64 2)] 16 true,
 xP 20 .pick [.t 16,.t 19,.c (.bool false)],
 xM 2 20])
 .ret)) }
/-- datakit/numset.inside -/
def ac251:AFn:=
 { nt:=56,res:=[.tmp 4],body:=
 (.seq (.ops [xB 11 2 0,
 xB 3 3 1,
 xC 4 (.bool false)])
 (.seq (.seq (.ops [xF 0 7 2,
 xF 0 8 7,
 xR 9 8])
 (.cond (.t 9)
 (.seq (.ops [xL 3 10 3,
 xF 0 11 2,
 xF 1 12 11,
 xL 3 13 12,
 xK 14 263 [.t 10,.t 13],
 xM 5 14])
 (.seq (.ops [xM 15 5,
 xP 16 (.bin .lss) [.t 15,.c (.int .i64 0)],
 xM 17 16,
 yM 18 5 17 false,
 yP 19 (.bin .eql) [.t 18,.c (.int .i64 0)] 17 false,
 yM 20 19 17 false,
 yF 0 21 2 20 true,
 yF 4 22 21 20 true,
 yR 23 22 20 true,
 yP 24 .pick [.t 20,.t 23,.c (.bool false)] 17 false,
 xP 25 .pick [.t 17,.c (.bool true),.t 24]])
 (.cond (.t 25)
 (.seq (.ops [xC 4 (.bool false)])
 .ret)
 .skip)))
 .skip))
 (.seq (.seq (.ops [xF 5 26 2,
 xF 0 27 26,
 xR 28 27])
 (.cond (.t 28)
 (.seq (.ops [xL 3 29 3,
 xF 5 30 2,
 xF 1 31 30,
 xL 3 32 31,
 xK 33 263 [.t 29,.t 32],
 xM 6 33])
 (.seq (.ops [xM 34 6,
 xP 35 (.bin .gtr) [.t 34,.c (.int .i64 0)],
 xM 36 35,
 yM 37 6 36 false,
 yP 38 (.bin .eql) [.t 37,.c (.int .i64 0)] 36 false,
 yM 39 38 36 false,
 yF 5 40 2 39 true,
 yF 4 41 40 39 true,
 yR 42 41 39 true,
 yP 43 .pick [.t 39,.t 42,.c (.bool false)] 36 false,
 xP 44 .pick [.t 36,.c (.bool true),.t 43]])
 (.cond (.t 44)
 (.seq (.ops [xC 4 (.bool false)])
 .ret)
 .skip)))
 .skip))
 (.seq (.ops [xF 10 45 2,
 xR 46 45,
 xP 47 (.bin .eql) [.t 46,.c (.int .i64 0)],
 xM 48 47,
 yF 10 49 2 48 false,
 yR 50 49 48 false,
 yP 51 (.bin .eql) [.t 50,.c (.int .i64 1)] 48 false,
 yL 3 52 3 48 false,
 yK 53 264 [.t 52] 48 false,
 yP 54 (.eqB false) [.t 51,.t 53] 48 false,
 xP 55 .pick [.t 48,.c (.bool true),.t 54],
 xM 4 55])
 .ret)))) }
/-- strings.Compare -/
def ac257:AFn:=
 { nt:=8,res:=[.tmp 4],body:=
 (.seq (.ops [xC 4 (.int .i64 0)])
 (.seq (.ops [xM 5 0,
 xM 6 1,
 xK 7 272 [.t 5,.t 6],
 xM 4 7])
 .ret)) }
/-- datakit/numset.validBound -/
def ac262:AFn:=
 { nt:=12,res:=[.tmp 2],body:=
 (.seq (.ops [xB 5 1 0,
 xC 2 (.bool false)])
 (.seq (.seq (.ops [xF 0 3 1,
 xR 4 3,
 xP 5 (.un .not) [.t 4]])
 (.cond (.t 5)
 (.seq (.ops [xL 5 6 1,
 ⟨some 7,.pure (.build [.bool false,.bool false,.str [],.int .i64 0,.bool false] []),[],none⟩,
 ⟨some 8,.pure (.eqF [.bool,.bool,.str,.int,.bool] false),[.t 6,.t 7],none⟩,
 xM 2 8])
 .ret)
 .skip))
 (.seq (.ops [xF 1 9 1,
 xL 3 10 9,
 xK 11 140 [.t 10],
 xM 2 11])
 .ret))) }
/-- datakit/decimal.Cmp -/
def ac263:AFn:=
 { nt:=24,res:=[.tmp 4],body:=
 (.seq (.ops [xB 3 2 0,
 xB 3 3 1,
 xC 4 (.int .i64 0)])
 (.seq (.block 0
 (.seq (.ops [xF 0 6 2,
 xR 7 6,
 xM 8 7,
 yF 0 9 3 8 true,
 yR 10 9 8 true,
 xP 11 .pick [.t 8,.t 10,.c (.bool false)],
 xM 5 11])
 (.cond (.t 5)
 (.seq (.ops [xL 3 12 3,
 xL 3 13 2,
 xK 14 273 [.t 12,.t 13],
 xM 4 14])
 .ret)
 (.seq (.ops [xF 0 16 2,
 xR 17 16,
 xM 15 17])
 (.cond (.t 15)
 (.seq (.ops [xC 4 (.int .i64 (-1))])
 .ret)
 (.seq (.ops [xF 0 19 3,
 xR 20 19,
 xM 18 20])
 (.cond (.t 18)
 (.seq (.ops [xC 4 (.int .i64 1)])
 .ret)
 .skip)))))))
 (.seq (.ops [xL 3 21 2,
 xL 3 22 3,
 xK 23 273 [.t 21,.t 22],
 xM 4 23])
 .ret))) }
/-- datakit/decimal.Whole -/
def ac264:AFn:=
 { nt:=6,res:=[.tmp 2],body:=
 (.seq (.ops [xB 3 1 0,
 xC 2 (.bool false)])
 (.seq (.ops [xF 2 3 1,
 xR 4 3,
 xP 5 (.bin .geq) [.t 4,.c (.int .i64 0)],
 xM 2 5])
 .ret)) }
/-- datakit/decimal.size -/
def ac273:AFn:=
 { nt:=18,res:=[.tmp 4],body:=
 (.seq (.ops [xB 3 2 0,
 xB 3 3 1,
 xC 4 (.int .i64 0)])
 (.seq (.ops [xL 3 9 2,
 xL 3 10 3,
 xK 11 285 [.t 9,.t 10],
 xM 8 11,
 xP 12 (.ext 0) [.t 8],
 xP 13 (.ext 1) [.t 8],
 xP 14 (.ext 2) [.t 8],
 xM 5 12,
 xM 6 13,
 xM 7 14])
 (.seq (.ops [xM 15 5,
 xM 16 6,
 xK 17 286 [.t 15,.t 16],
 xM 4 17])
 .ret))) }
/-- datakit/decimal.align -/
def ac285:AFn:=
 { nt:=52,res:=[.tmp 4,.tmp 5,.tmp 6],body:=
 (.seq (.ops [xB 3 2 0,
 xB 3 3 1,
 xC 4 (.str []),
 xC 5 (.str []),
 xC 6 (.int .i64 0)])
 (.seq (.seq (.ops [xL 3 8 2,
 xK 9 140 [.t 8],
 xP 10 (.un .not) [.t 9],
 xM 11 10,
 yL 3 12 3 11 false,
 yK 13 140 [.t 12] 11 false,
 yP 14 (.un .not) [.t 13] 11 false,
 xP 15 .pick [.t 11,.c (.bool true),.t 14]])
 (.cond (.t 15)
 (.seq (.ops [xC 4 (.str []),
 xC 5 (.str []),
 xC 6 (.int .i64 0)])
 .ret)
 .skip))
 (.seq (.seq (.ops [xF 1 16 2,
 xR 17 16,
 ⟨some 18,.pure (.bin .eql),[.t 17,.c (.str [])],none⟩])
 (.cond (.t 18)
 (.seq (.ops [xF 1 19 3,
 xR 20 19,
 xF 2 21 3,
 xR 22 21,
 xC 4 (.str []),
 xM 5 20,
 xM 6 22])
 .ret)
 .skip))
 (.seq (.seq (.ops [xF 1 23 3,
 xR 24 23,
 ⟨some 25,.pure (.bin .eql),[.t 24,.c (.str [])],none⟩])
 (.cond (.t 25)
 (.seq (.ops [xF 1 26 2,
 xR 27 26,
 xF 2 28 2,
 xR 29 28,
 xM 4 27,
 xC 5 (.str []),
 xM 6 29])
 .ret)
 .skip))
 (.seq (.ops [xF 2 30 2,
 xR 31 30,
 xF 2 32 3,
 xR 33 32,
 xP 34 (.minmax false) [.t 31,.t 33],
 xM 7 34])
 (.seq (.ops [xF 1 35 2,
 xR 36 35,
 xF 2 37 2,
 xR 38 37,
 xM 39 7,
 xP 40 (.bin .sub) [.t 38,.t 39],
 ⟨some 41,.pcall 291,[.c (.str [48]),.t 40],none⟩,
 xP 42 (.bin .add) [.t 36,.t 41],
 xF 1 43 3,
 xR 44 43,
 xF 2 45 3,
 xR 46 45,
 xM 47 7,
 xP 48 (.bin .sub) [.t 46,.t 47],
 ⟨some 49,.pcall 291,[.c (.str [48]),.t 48],none⟩,
 xP 50 (.bin .add) [.t 44,.t 49],
 xM 51 7,
 xM 4 42,
 xM 5 50,
 xM 6 51])
 .ret)))))) }
/-- datakit/decimal.cmp -/
def ac286:AFn:=
 { nt:=18,res:=[.tmp 4],body:=
 (.seq (.ops [xC 4 (.int .i64 0)])
 (.seq (.seq (.ops [xM 5 0,
 xP 6 .lenS [.t 5],
 xM 7 1,
 xP 8 .lenS [.t 7],
 xP 9 (.bin .neq) [.t 6,.t 8]])
 (.cond (.t 9)
 (.seq (.seq (.ops [xM 10 0,
 xP 11 .lenS [.t 10],
 xM 12 1,
 xP 13 .lenS [.t 12],
 xP 14 (.bin .lss) [.t 11,.t 13]])
 (.cond (.t 14)
 (.seq (.ops [xC 4 (.int .i64 (-1))])
 .ret)
 .skip))
 (.seq (.ops [xC 4 (.int .i64 1)])
 .ret))
 .skip))
 (.seq (.ops [xM 15 0,
 xM 16 1,
 xK 17 257 [.t 15,.t 16],
 xM 4 17])
 .ret))) }
/-- datakit/datakitlaw18.NumsetAlgebra -/
def ac670:AFn:=
 { nt:=257,res:=[.tmp 4],body:=
 (.seq (.ops [xB 1 2 0,
 xB 3 3 1,
 xC 4 (.bool false)])
 (.seq (.draw 3 [[xP 29 (.iaddrA 3 1) [.t 2,.c (.int .i64 0)],
 xL 1 30 29,
 xP 31 (.iaddrA 3 1) [.t 2,.c (.int .i64 1)],
 xP 33 (.iaddrA 3 1) [.t 2,.c (.int .i64 2)],
 ⟨some 5,.newAt 0 (.new 1 [z2]),[],none⟩,
 ⟨some 6,.newAt 1 (.new 1 [z2]),[],none⟩,
 ⟨some 7,.newAt 2 (.new 1 [z2]),[],none⟩,
 xL 1 32 31,
 xL 1 34 33,
 xS 1 5 30,
 xS 1 6 32,
 xS 1 7 34],
 [xP 29 (.iaddrA 3 1) [.t 2,.c (.int .i64 0)],
 xL 1 30 29,
 xP 31 (.iaddrA 3 1) [.t 2,.c (.int .i64 1)],
 xP 33 (.iaddrA 3 1) [.t 2,.c (.int .i64 2)],
 ⟨some 5,.newAt 0 (.new 1 [z2]),[],none⟩,
 ⟨some 6,.newAt 1 (.new 1 [z2]),[],none⟩,
 ⟨some 7,.newAt 2 (.new 1 [z2]),[],none⟩,
 xL 1 32 31,
 xS 1 5 30,
 xL 1 34 33,
 xS 1 6 32,
 xS 1 7 34],
 [xP 29 (.iaddrA 3 1) [.t 2,.c (.int .i64 0)],
 xL 1 30 29,
 xP 31 (.iaddrA 3 1) [.t 2,.c (.int .i64 1)],
 xP 33 (.iaddrA 3 1) [.t 2,.c (.int .i64 2)],
 ⟨some 5,.newAt 0 (.new 1 [z2]),[],none⟩,
 ⟨some 6,.newAt 1 (.new 1 [z2]),[],none⟩,
 ⟨some 7,.newAt 2 (.new 1 [z2]),[],none⟩,
 xL 1 32 31,
 xS 1 5 30,
 xS 1 6 32,
 xL 1 34 33,
 xS 1 7 34],
 [xP 29 (.iaddrA 3 1) [.t 2,.c (.int .i64 0)],
 xL 1 30 29,
 xP 31 (.iaddrA 3 1) [.t 2,.c (.int .i64 1)],
 xP 33 (.iaddrA 3 1) [.t 2,.c (.int .i64 2)],
 ⟨some 5,.newAt 0 (.new 1 [z2]),[],none⟩,
 ⟨some 6,.newAt 1 (.new 1 [z2]),[],none⟩,
 ⟨some 7,.newAt 2 (.new 1 [z2]),[],none⟩,
 xL 1 34 33,
 xL 1 32 31,
 xS 1 5 30,
 xS 1 6 32,
 xS 1 7 34],
 [xP 29 (.iaddrA 3 1) [.t 2,.c (.int .i64 0)],
 xL 1 30 29,
 xP 31 (.iaddrA 3 1) [.t 2,.c (.int .i64 1)],
 xP 33 (.iaddrA 3 1) [.t 2,.c (.int .i64 2)],
 ⟨some 5,.newAt 0 (.new 1 [z2]),[],none⟩,
 ⟨some 6,.newAt 1 (.new 1 [z2]),[],none⟩,
 ⟨some 7,.newAt 2 (.new 1 [z2]),[],none⟩,
 xL 1 34 33,
 xS 1 5 30,
 xL 1 32 31,
 xS 1 6 32,
 xS 1 7 34],
 [xP 29 (.iaddrA 3 1) [.t 2,.c (.int .i64 0)],
 xL 1 30 29,
 xP 31 (.iaddrA 3 1) [.t 2,.c (.int .i64 1)],
 xP 33 (.iaddrA 3 1) [.t 2,.c (.int .i64 2)],
 ⟨some 5,.newAt 0 (.new 1 [z2]),[],none⟩,
 ⟨some 6,.newAt 1 (.new 1 [z2]),[],none⟩,
 ⟨some 7,.newAt 2 (.new 1 [z2]),[],none⟩,
 xS 1 5 30,
 xL 1 32 31,
 xL 1 34 33,
 xS 1 6 32,
 xS 1 7 34],
 [xP 29 (.iaddrA 3 1) [.t 2,.c (.int .i64 0)],
 xL 1 30 29,
 xP 31 (.iaddrA 3 1) [.t 2,.c (.int .i64 1)],
 xP 33 (.iaddrA 3 1) [.t 2,.c (.int .i64 2)],
 ⟨some 5,.newAt 0 (.new 1 [z2]),[],none⟩,
 ⟨some 6,.newAt 1 (.new 1 [z2]),[],none⟩,
 ⟨some 7,.newAt 2 (.new 1 [z2]),[],none⟩,
 xS 1 5 30,
 xL 1 32 31,
 xS 1 6 32,
 xL 1 34 33,
 xS 1 7 34]])
 (.seq (.seq (.ops [xL 1 35 5,
 xK 36 229 [.t 35],
 xP 37 (.un .not) [.t 36],
 xM 38 37,
 yL 1 39 6 38 false,
 yK 40 229 [.t 39] 38 false,
 yP 41 (.un .not) [.t 40] 38 false,
 xP 42 .pick [.t 38,.c (.bool true),.t 41],
 xM 43 42,
 yL 1 44 7 43 false,
 yK 45 229 [.t 44] 43 false,
 yP 46 (.un .not) [.t 45] 43 false,
 xP 47 .pick [.t 43,.c (.bool true),.t 46],
 xM 48 47,
 yF 0 49 5 48 false,
 yR 50 49 48 false,
 yP 51 .lenL [.t 50] 48 false,
 yP 52 (.bin .gtr) [.t 51,.c (.int .i64 3)] 48 false,
 xP 53 .pick [.t 48,.c (.bool true),.t 52],
 xM 54 53,
 yF 0 55 6 54 false,
 yR 56 55 54 false,
 yP 57 .lenL [.t 56] 54 false,
 yP 58 (.bin .gtr) [.t 57,.c (.int .i64 3)] 54 false,
 xP 59 .pick [.t 54,.c (.bool true),.t 58],
 xM 60 59,
 yF 0 61 7 60 false,
 yR 62 61 60 false,
 yP 63 .lenL [.t 62] 60 false,
 yP 64 (.bin .gtr) [.t 63,.c (.int .i64 3)] 60 false,
 xP 65 .pick [.t 60,.c (.bool true),.t 64]])
 (.cond (.t 65)
 (.seq (.ops [xK 66 671 [],
 xM 4 66])
 .ret)
 .skip))
 (.seq (.ops [xL 1 68 5,
 xK 69 672 [.t 68],
 xM 67 69,
 xP 70 (.ext 0) [.t 67],
 xP 71 (.ext 1) [.t 67],
 xN 8 1 z2,
 xS 1 8 70,
 xM 9 71])
 (.seq (.ops [xL 1 73 6,
 xK 74 672 [.t 73],
 xM 72 74,
 xP 75 (.ext 0) [.t 72],
 xP 76 (.ext 1) [.t 72],
 xN 10 1 z2,
 xS 1 10 75,
 xM 11 76])
 (.seq (.ops [xL 1 78 8,
 xK 79 672 [.t 78],
 xM 77 79,
 xP 80 (.ext 0) [.t 77],
 xP 81 (.ext 1) [.t 77],
 xN 12 1 z2,
 xS 1 12 80,
 xM 13 81])
 (.seq (.ops [xL 1 83 5,
 xL 1 84 6,
 xK 85 675 [.t 83,.t 84],
 xM 82 85,
 xP 86 (.ext 0) [.t 82],
 xP 87 (.ext 1) [.t 82],
 xN 14 1 z2,
 xS 1 14 86,
 xM 15 87])
 (.seq (.ops [xL 1 89 5,
 xL 1 90 6,
 xK 91 676 [.t 89,.t 90],
 xM 88 91,
 xP 92 (.ext 0) [.t 88],
 xP 93 (.ext 1) [.t 88],
 xN 16 1 z2,
 xS 1 16 92,
 xM 17 93])
 (.seq (.seq (.ops [xM 94 9,
 xP 95 (.bin .neq) [.t 94,.c (.int .i64 0)],
 xM 96 95,
 yM 97 11 96 false,
 yP 98 (.bin .neq) [.t 97,.c (.int .i64 0)] 96 false,
 xP 99 .pick [.t 96,.c (.bool true),.t 98],
 xM 100 99,
 yM 101 13 100 false,
 yP 102 (.bin .neq) [.t 101,.c (.int .i64 0)] 100 false,
 xP 103 .pick [.t 100,.c (.bool true),.t 102],
 xM 104 103,
 yM 105 15 104 false,
 yP 106 (.bin .neq) [.t 105,.c (.int .i64 0)] 104 false,
 xP 107 .pick [.t 104,.c (.bool true),.t 106],
 xM 108 107,
 yM 109 17 108 false,
 yP 110 (.bin .neq) [.t 109,.c (.int .i64 0)] 108 false,
 xP 111 .pick [.t 108,.c (.bool true),.t 110]])
 (.cond (.t 111)
 (.seq (.ops [xC 4 (.bool false)])
 .ret)
 .skip))
 (.seq (.ops [xL 1 113 14,
 xK 114 672 [.t 113],
 xM 112 114,
 xP 115 (.ext 0) [.t 112],
 xP 116 (.ext 1) [.t 112],
 xN 18 1 z2,
 xS 1 18 115,
 xM 9 116])
 (.seq (.ops [xL 1 118 8,
 xL 1 119 10,
 xK 120 676 [.t 118,.t 119],
 xM 117 120,
 xP 121 (.ext 0) [.t 117],
 xP 122 (.ext 1) [.t 117],
 xN 19 1 z2,
 xS 1 19 121,
 xM 11 122])
 (.seq (.ops [xL 1 124 6,
 xL 1 125 7,
 xK 126 676 [.t 124,.t 125],
 xM 123 126,
 xP 127 (.ext 0) [.t 123],
 xP 128 (.ext 1) [.t 123],
 xN 20 1 z2,
 xS 1 20 127,
 xM 13 128])
 (.seq (.ops [xL 1 130 5,
 xL 1 131 20,
 xK 132 675 [.t 130,.t 131],
 xM 129 132,
 xP 133 (.ext 0) [.t 129],
 xP 134 (.ext 1) [.t 129],
 xN 21 1 z2,
 xS 1 21 133,
 xM 15 134])
 (.seq (.ops [xL 1 136 5,
 xL 1 137 7,
 xK 138 675 [.t 136,.t 137],
 xM 135 138,
 xP 139 (.ext 0) [.t 135],
 xP 140 (.ext 1) [.t 135],
 xN 22 1 z2,
 xS 1 22 139,
 xM 17 140])
 (.seq (.seq (.ops [xM 141 9,
 xP 142 (.bin .neq) [.t 141,.c (.int .i64 0)],
 xM 143 142,
 yM 144 11 143 false,
 yP 145 (.bin .neq) [.t 144,.c (.int .i64 0)] 143 false,
 xP 146 .pick [.t 143,.c (.bool true),.t 145],
 xM 147 146,
 yM 148 13 147 false,
 yP 149 (.bin .neq) [.t 148,.c (.int .i64 0)] 147 false,
 xP 150 .pick [.t 147,.c (.bool true),.t 149],
 xM 151 150,
 yM 152 15 151 false,
 yP 153 (.bin .neq) [.t 152,.c (.int .i64 0)] 151 false,
 xP 154 .pick [.t 151,.c (.bool true),.t 153],
 xM 155 154,
 yM 156 17 155 false,
 yP 157 (.bin .neq) [.t 156,.c (.int .i64 0)] 155 false,
 xP 158 .pick [.t 155,.c (.bool true),.t 157]])
 (.cond (.t 158)
 (.seq (.ops [xC 4 (.bool false)])
 .ret)
 .skip))
 (.seq (.ops [xL 1 160 14,
 xL 1 161 22,
 xK 162 676 [.t 160,.t 161],
 xM 159 162,
 xP 163 (.ext 0) [.t 159],
 xP 164 (.ext 1) [.t 159],
 xN 23 1 z2,
 xS 1 23 163,
 xM 9 164])
 (.seq (.ops [xL 1 166 5,
 xL 1 167 14,
 xK 168 676 [.t 166,.t 167],
 xM 165 168,
 xP 169 (.ext 0) [.t 165],
 xP 170 (.ext 1) [.t 165],
 xN 24 1 z2,
 xS 1 24 169,
 xM 11 170])
 (.seq (.ops [xL 1 172 5,
 xL 1 173 8,
 xK 174 675 [.t 172,.t 173],
 xM 171 174,
 xP 175 (.ext 0) [.t 171],
 xP 176 (.ext 1) [.t 171],
 xN 25 1 z2,
 xS 1 25 175,
 xM 13 176])
 (.seq (.ops [xL 1 178 5,
 xL 1 179 8,
 xK 180 676 [.t 178,.t 179],
 xM 177 180,
 xP 181 (.ext 0) [.t 177],
 xP 182 (.ext 1) [.t 177],
 xN 26 1 z2,
 xS 1 26 181,
 xM 15 182])
 (.seq (.seq (.ops [xM 183 9,
 xP 184 (.bin .neq) [.t 183,.c (.int .i64 0)],
 xM 185 184,
 yM 186 11 185 false,
 yP 187 (.bin .neq) [.t 186,.c (.int .i64 0)] 185 false,
 xP 188 .pick [.t 185,.c (.bool true),.t 187],
 xM 189 188,
 yM 190 13 189 false,
 yP 191 (.bin .neq) [.t 190,.c (.int .i64 0)] 189 false,
 xP 192 .pick [.t 189,.c (.bool true),.t 191],
 xM 193 192,
 yM 194 15 193 false,
 yP 195 (.bin .neq) [.t 194,.c (.int .i64 0)] 193 false,
 xP 196 .pick [.t 193,.c (.bool true),.t 195]])
 (.cond (.t 196)
 (.seq (.ops [xC 4 (.bool false)])
 .ret)
 .skip))
 (.seq (.ops [xL 1 197 12,
 xL 1 198 5,
 xK 199 687 [.t 197,.t 198],
 xM 200 199,
 yL 1 201 18 200 true,
 yL 1 202 19 200 true,
 yK 203 687 [.t 201,.t 202] 200 true,
 xP 204 .pick [.t 200,.t 203,.c (.bool false)],
 xM 205 204,
 yL 1 206 21 205 true,
 yL 1 207 23 205 true,
 yK 208 687 [.t 206,.t 207] 205 true,
 xP 209 .pick [.t 205,.t 208,.c (.bool false)],
 xM 210 209,
 yL 1 211 24 210 true,
 yL 1 212 5 210 true,
 yK 213 687 [.t 211,.t 212] 210 true,
 xP 214 .pick [.t 210,.t 213,.c (.bool false)],
 xM 215 214,
 yL 1 216 25 215 true,
 yK 217 674 [.t 216] 215 true,
 xP 218 .pick [.t 215,.t 217,.c (.bool false)],
 xM 219 218,
 yL 1 220 26 219 true,
 yK 221 683 [] 219 true,
 yK 222 687 [.t 220,.t 221] 219 true,
 xP 223 .pick [.t 219,.t 222,.c (.bool false)],
 xM 27 223])
 (.seq (.ops [xL 1 224 5,
 xL 1 225 6,
 xK 226 688 [.t 224,.t 225],
 xM 28 226])
 (.seq (.seq (.ops [xM 227 28,
 xM 228 227,
 yL 1 229 5 228 true,
 yL 3 230 3 228 true,
 yK 231 235 [.t 229,.t 230] 228 true,
 xP 232 .pick [.t 228,.t 231,.c (.bool false)],
 xM 233 232,
 yL 1 234 6 233 true,
 yL 3 235 3 233 true,
 yK 236 235 [.t 234,.t 235] 233 true,
 yP 237 (.un .not) [.t 236] 233 true,
 xP 238 .pick [.t 233,.t 237,.c (.bool false)]])
 (.cond (.t 238)
 (.seq (.ops [xC 4 (.bool false)])
 .ret)
 .skip))
 (.seq (.ops [xM 239 27,
 xM 240 239,
 yM 241 28 240 true,
 yL 1 242 16 240 true,
 yL 1 243 6 240 true,
 yK 244 687 [.t 242,.t 243] 240 true,
 yP 245 (.eqB false) [.t 241,.t 244] 240 true,
 xP 246 .pick [.t 240,.t 245,.c (.bool false)],
 xM 247 246,
 yM 248 28 247 true,
 yL 1 249 14 247 true,
 yL 1 250 5 247 true,
 yK 251 687 [.t 249,.t 250] 247 true,
 yP 252 (.eqB false) [.t 248,.t 251] 247 true,
 xP 253 .pick [.t 247,.t 252,.c (.bool false)],
 xM 254 253,
 yK 255 671 [] 254 true,
 xP 256 .pick [.t 254,.t 255,.c (.bool false)],
 xM 4 256])
 .ret)))))))))))))))))))))))) }
/-- datakit/numset.Not -/
def ac672:AFn:=
 { nt:=9,res:=[.cell 2 (some 1),.tmp 3],body:=
 (.seq (.ops [xB 1 1 0,
 xN 2 1 z2,
 xC 3 (.int .i64 0)])
 (.seq (.ops [xL 1 4 1,
 ⟨some 5,.new (.buildSlice 1 [z2] [0]),[.t 4],none⟩,
 ⟨some 6,.pcall 690,[.c (.fn 691 []),.t 5],none⟩,
 xP 7 (.ext 0) [.t 6],
 xP 8 (.ext 1) [.t 6],
 xS 1 2 7,
 xM 3 8])
 .ret)) }
/-- datakit/numset.Pick -/
def ac673:AFn:=
 { nt:=28,res:=[.cell 2 (some 3),.tmp 3],body:=
 (.seq (.ops [xB 1 1 0,
 xN 2 3 z1,
 xC 3 (.bool false)])
 (.seq (.seq (.ops [xL 1 8 1,
 xK 9 229 [.t 8],
 xP 10 (.un .not) [.t 9]])
 (.cond (.t 10)
 (.seq (.ops [⟨some 11,.pure (.build [.bool false,.str [],.int .i64 0] []),[],none⟩,
 xS 3 2 11,
 xC 3 (.bool false)])
 .ret)
 .skip))
 (.seq (.seq (.ops [xF 0 12 1,
 xR 13 12,
 xP 14 .lenL [.t 13],
 xC 15 (.int .i64 0)])
 (.block 0
 (.loop [2,13,14,15]
 (.seq (.ops [xP 16 (.bin .lss) [.t 15,.t 14]])
 (.seq (.cond (.t 16)
 .skip
 (.exit 0))
 (.seq (.block 1
 (.seq (.ops [xI 11 17 13 15,
 xL 11 18 17,
 xN 5 11 z0,
 xS 11 5 18])
 (.seq (.ops [xL 11 20 5,
 xK 21 692 [.t 20],
 xM 19 21,
 xP 22 (.ext 0) [.t 19],
 xP 23 (.ext 1) [.t 19],
 xN 6 3 z1,
 xS 3 6 22,
 xM 7 23])
 (.seq (.ops [xM 24 7])
 (.cond (.t 24)
 (.seq (.ops [xL 3 25 6,
 xS 3 2 25,
 xC 3 (.bool true)])
 .ret)
 .skip)))))
 (.ops [xP 26 (.bin .add) [.t 15,.c (.int .i64 1)],
 xM 15 26])))))))
 (.seq (.ops [⟨some 27,.pure (.build [.bool false,.str [],.int .i64 0] []),[],none⟩,
 xS 3 2 27,
 xC 3 (.bool false)])
 .ret)))) }
/-- datakit/numset.Empty -/
def ac674:AFn:=
 { nt:=12,res:=[.tmp 2],body:=
 (.seq (.ops [xB 1 1 0,
 xC 2 (.bool false)])
 (.seq (.ops [xL 1 6 1,
 xK 7 673 [.t 6],
 xM 5 7,
 xP 8 (.ext 0) [.t 5],
 xP 9 (.ext 1) [.t 5],
 xN 3 3 z1,
 xS 3 3 8,
 xM 4 9])
 (.seq (.ops [xM 10 4,
 xP 11 (.un .not) [.t 10],
 xM 2 11])
 .ret))) }
/-- datakit/numset.And -/
def ac675:AFn:=
 { nt:=12,res:=[.cell 4 (some 1),.tmp 5],body:=
 (.seq (.ops [xB 1 2 0,
 xB 1 3 1,
 xN 4 1 z2,
 xC 5 (.int .i64 0)])
 (.seq (.ops [xL 1 6 2,
 xL 1 7 3,
 ⟨some 8,.new (.buildSlice 1 [.agg [.snil 11],.agg [.snil 11]] [0,1]),[.t 6,.t 7],none⟩,
 ⟨some 9,.pcall 690,[.c (.fn 693 []),.t 8],none⟩,
 xP 10 (.ext 0) [.t 9],
 xP 11 (.ext 1) [.t 9],
 xS 1 4 10,
 xM 5 11])
 .ret)) }
/-- datakit/numset.Or -/
def ac676:AFn:=
 { nt:=12,res:=[.cell 4 (some 1),.tmp 5],body:=
 (.seq (.ops [xB 1 2 0,
 xB 1 3 1,
 xN 4 1 z2,
 xC 5 (.int .i64 0)])
 (.seq (.ops [xL 1 6 2,
 xL 1 7 3,
 ⟨some 8,.new (.buildSlice 1 [.agg [.snil 11],.agg [.snil 11]] [0,1]),[.t 6,.t 7],none⟩,
 ⟨some 9,.pcall 690,[.c (.fn 694 []),.t 8],none⟩,
 xP 10 (.ext 0) [.t 9],
 xP 11 (.ext 1) [.t 9],
 xS 1 4 10,
 xM 5 11])
 .ret)) }
/-- datakit/numset.Equal -/
def ac677:AFn:=
 { nt:=34,res:=[.tmp 4,.tmp 5],body:=
 (.seq (.ops [xB 1 2 0,
 xB 1 3 1,
 xC 4 (.bool false),
 xC 5 (.int .i64 0)])
 (.seq (.seq (.ops [xL 1 10 2,
 xK 11 229 [.t 10],
 xP 12 (.un .not) [.t 11],
 xM 13 12,
 yL 1 14 3 13 false,
 yK 15 229 [.t 14] 13 false,
 yP 16 (.un .not) [.t 15] 13 false,
 xP 17 .pick [.t 13,.c (.bool true),.t 16]])
 (.cond (.t 17)
 (.seq (.ops [xC 4 (.bool false),
 xC 5 (.int .i64 1)])
 .ret)
 .skip))
 (.seq (.seq (.ops [xL 1 18 2,
 xL 1 19 3,
 ⟨some 20,.new (.buildSlice 1 [.agg [.snil 11],.agg [.snil 11]] [0,1]),[.t 18,.t 19],none⟩,
 ⟨some 21,.pcall 695,[.c (.fn 696 []),.t 20],none⟩,
 xP 22 .lenL [.t 21],
 xC 23 (.int .i64 0)])
 (.block 0
 (.loop [21,22,23]
 (.seq (.ops [xP 24 (.bin .lss) [.t 23,.t 22]])
 (.seq (.cond (.t 24)
 .skip
 (.exit 0))
 (.seq (.block 1
 (.seq (.ops [xI 11 25 21 23,
 xL 11 26 25,
 xN 7 11 z0,
 xS 11 7 26])
 (.seq (.ops [xL 11 28 7,
 xK 29 692 [.t 28],
 xM 27 29,
 xP 30 (.ext 0) [.t 27],
 xP 31 (.ext 1) [.t 27],
 xN 8 3 z1,
 xS 3 8 30,
 xM 9 31])
 (.seq (.ops [xM 32 9])
 (.cond (.t 32)
 (.seq (.ops [xC 4 (.bool false),
 xC 5 (.int .i64 0)])
 .ret)
 .skip)))))
 (.ops [xP 33 (.bin .add) [.t 23,.c (.int .i64 1)],
 xM 23 33])))))))
 (.seq (.ops [xC 4 (.bool true),
 xC 5 (.int .i64 0)])
 .ret)))) }
/-- datakit/numset.All -/
def ac683:AFn:=
 { nt:=4,res:=[.cell 0 (some 1)],body:=
 (.seq (.ops [xN 0 1 z2])
 (.seq (.ops [⟨some 1,.pure (.build [.bool false,.bool false,.str [],.int .i64 0,.bool false,.bool false,.bool false,.str [],.int .i64 0,.bool false,.int .i64 0] []),[],none⟩,
 ⟨some 2,.new (.buildSlice 11 [z0] [0]),[.t 1],none⟩,
 ⟨some 3,.pure (.build [.snil 11] [(0,1)]),[.t 2],none⟩,
 xS 1 0 3])
 .ret)) }
/-- datakit/datakitlaw18.equal -/
def ac687:AFn:=
 { nt:=32,res:=[.tmp 4],body:=
 (.seq (.ops [xB 1 2 0,
 xB 1 3 1,
 xC 4 (.bool false)])
 (.seq (.ops [xL 1 8 2,
 xL 1 9 3,
 xK 10 677 [.t 8,.t 9],
 xM 7 10,
 xP 11 (.ext 0) [.t 7],
 xP 12 (.ext 1) [.t 7],
 xM 5 11,
 xM 6 12])
 (.seq (.ops [xM 13 6,
 xP 14 (.bin .eql) [.t 13,.c (.int .i64 0)],
 xM 15 14,
 yM 16 5 15 true,
 xP 17 .pick [.t 15,.t 16,.c (.bool false)],
 xM 18 17,
 yM 19 6 18 false,
 yP 20 (.bin .eql) [.t 19,.c (.int .i64 32)] 18 false,
 yM 21 20 18 false,
 yF 0 22 2 21 true,
 yR 23 22 21 true,
 yP 24 .lenL [.t 23] 21 true,
 yF 0 25 3 21 true,
 yR 26 25 21 true,
 yP 27 .lenL [.t 26] 21 true,
 yP 28 (.bin .add) [.t 24,.t 27] 21 true,
 yP 29 (.bin .gtr) [.t 28,.c (.int .i64 60)] 21 true,
 yP 30 .pick [.t 21,.t 29,.c (.bool false)] 18 false,
 xP 31 .pick [.t 18,.c (.bool true),.t 30],
 xM 4 31])
 .ret))) }
/-- datakit/datakitlaw18.within -/
def ac688:AFn:=
 { nt:=27,res:=[.tmp 4],body:=
 (.seq (.ops [xB 1 2 0,
 xB 1 3 1,
 xC 4 (.bool false)])
 (.seq (.ops [xL 1 9 3,
 xK 10 672 [.t 9],
 xM 8 10,
 xP 11 (.ext 0) [.t 8],
 xP 12 (.ext 1) [.t 8],
 xN 5 1 z2,
 xS 1 5 11,
 xM 6 12])
 (.seq (.seq (.ops [xM 13 6,
 xP 14 (.bin .neq) [.t 13,.c (.int .i64 0)]])
 (.cond (.t 14)
 (.seq (.ops [xC 4 (.bool false)])
 .ret)
 .skip))
 (.seq (.ops [xL 1 16 2,
 xL 1 17 5,
 xK 18 675 [.t 16,.t 17],
 xM 15 18,
 xP 19 (.ext 0) [.t 15],
 xP 20 (.ext 1) [.t 15],
 xN 7 1 z2,
 xS 1 7 19,
 xM 6 20])
 (.seq (.ops [xM 21 6,
 xP 22 (.bin .eql) [.t 21,.c (.int .i64 0)],
 xM 23 22,
 yL 1 24 7 23 true,
 yK 25 674 [.t 24] 23 true,
 xP 26 .pick [.t 23,.t 25,.c (.bool false)],
 xM 4 26])
 .ret))))) }
/-- datakit/numset.combined -/
def ac690:AFn:=
 { nt:=29,res:=[.cell 4 (some 1),.tmp 5],body:=
 (.seq (.ops [xN 4 1 z2,
 xC 5 (.int .i64 0)])
 (.seq (.seq (.ops [xM 9 1,
 xP 10 .lenL [.t 9],
 xC 11 (.int .i64 0)])
 (.block 0
 (.loop [0,1,4,9,10,11]
 (.seq (.ops [xP 12 (.bin .lss) [.t 11,.t 10]])
 (.seq (.cond (.t 12)
 .skip
 (.exit 0))
 (.seq (.block 1
 (.seq (.ops [xI 1 13 9 11,
 xL 1 14 13,
 xN 7 1 z2,
 xS 1 7 14])
 (.seq (.ops [xL 1 15 7,
 xK 16 229 [.t 15],
 xP 17 (.un .not) [.t 16]])
 (.cond (.t 17)
 (.seq (.ops [⟨some 18,.pure (.build [.snil 11] []),[],none⟩,
 xS 1 4 18,
 xC 5 (.int .i64 1)])
 .ret)
 .skip))))
 (.ops [xP 19 (.bin .add) [.t 11,.c (.int .i64 1)],
 xM 11 19])))))))
 (.seq (.ops [xM 20 0,
 xM 21 1,
 xK 22 695 [.t 20,.t 21],
 xM 8 22])
 (.seq (.seq (.ops [xM 23 8,
 xP 24 .lenL [.t 23],
 xP 25 (.bin .gtr) [.t 24,.c (.int .i64 256)]])
 (.cond (.t 25)
 (.seq (.ops [⟨some 26,.pure (.build [.snil 11] []),[],none⟩,
 xS 1 4 26,
 xC 5 (.int .i64 32)])
 .ret)
 .skip))
 (.seq (.ops [xM 27 8,
 ⟨some 28,.pure (.build [.snil 11] [(0,1)]),[.t 27],none⟩,
 xS 1 4 28,
 xC 5 (.int .i64 0)])
 .ret))))) }
/-- datakit/numset.Not$1 -/
def ac691:AFn:=
 { nt:=7,res:=[.tmp 2],body:=
 (.seq (.ops [xC 2 (.bool false)])
 (.seq (.ops [xM 3 0,
 xP 4 (.iaddrS 1) [.t 3,.c (.int .i64 0)],
 xR 5 4,
 xP 6 (.un .not) [.t 5],
 xM 2 6])
 .ret)) }
/-- datakit/numset.member -/
def ac692:AFn:=
 { nt:=55,res:=[.cell 2 (some 3),.tmp 3],body:=
 (.seq (.ops [xB 11 1 0,
 xN 2 3 z1,
 xC 3 (.bool false)])
 (.seq (.seq (.ops [xF 0 8 1,
 xF 0 9 8,
 xR 10 9,
 xP 11 (.un .not) [.t 10],
 xM 12 11,
 yF 5 13 1 12 true,
 yF 0 14 13 12 true,
 yR 15 14 12 true,
 yP 16 (.un .not) [.t 15] 12 true,
 xP 17 .pick [.t 12,.t 16,.c (.bool false)]])
 (.cond (.t 17)
 (.seq (.seq (.ops [xF 10 18 1,
 xR 19 18,
 xP 20 (.bin .eql) [.t 19,.c (.int .i64 2)]])
 (.cond (.t 20)
 (.seq (.ops [⟨some 21,.pcall 697,[.c (.str [53]),.c (.int .i64 (-1))],none⟩,
 xS 3 2 21,
 xC 3 (.bool true)])
 .ret)
 .skip))
 (.seq (.ops [⟨some 22,.pure (.build [.bool false,.str [],.int .i64 0] []),[],none⟩,
 xS 3 2 22,
 xC 3 (.bool true)])
 .ret))
 .skip))
 (.seq (.seq (.ops [xF 0 23 1,
 xF 0 24 23,
 xR 25 24,
 xP 26 (.un .not) [.t 25]])
 (.cond (.t 26)
 (.seq (.draw 1 [[xF 5 28 1,
 xL 5 29 28,
 xK 30 698 [.t 29],
 xF 10 31 1,
 xR 32 31,
 ⟨some 33,.pure (.build [.bool false,.bool false,.str [],.int .i64 0,.bool false,.bool false,.bool false,.str [],.int .i64 0,.bool false,.int .i64 0] [(0,5),(10,1)]),[.t 30,.t 32],none⟩,
 xK 34 692 [.t 33],
 xM 27 34,
 xP 35 (.ext 0) [.t 27],
 xP 36 (.ext 1) [.t 27],
 ⟨some 4,.newAt 0 (.new 3 [z1]),[],none⟩,
 xS 3 4 35,
 xM 5 36]])
 (.seq (.ops [xL 3 37 4,
 xK 38 699 [.t 37],
 xM 39 5,
 xS 3 2 38,
 xM 3 39])
 .ret))
 .skip))
 (.seq (.ops [xL 11 41 1,
 xK 42 700 [.t 41],
 xM 40 42,
 xP 43 (.ext 0) [.t 40],
 xP 44 (.ext 1) [.t 40],
 xN 6 3 z1,
 xS 3 6 43,
 xM 7 44])
 (.seq (.seq (.ops [xM 45 7,
 xP 46 (.un .not) [.t 45],
 xM 47 46,
 yL 11 48 1 47 false,
 yL 3 49 6 47 false,
 yK 50 251 [.t 48,.t 49] 47 false,
 yP 51 (.un .not) [.t 50] 47 false,
 xP 52 .pick [.t 47,.c (.bool true),.t 51]])
 (.cond (.t 52)
 (.seq (.ops [⟨some 53,.pure (.build [.bool false,.str [],.int .i64 0] []),[],none⟩,
 xS 3 2 53,
 xC 3 (.bool false)])
 .ret)
 .skip))
 (.seq (.ops [xL 3 54 6,
 xS 3 2 54,
 xC 3 (.bool true)])
 .ret)))))) }
/-- datakit/numset.And$1 -/
def ac693:AFn:=
 { nt:=11,res:=[.tmp 2],body:=
 (.seq (.ops [xC 2 (.bool false)])
 (.seq (.ops [xM 3 0,
 xP 4 (.iaddrS 1) [.t 3,.c (.int .i64 0)],
 xR 5 4,
 xM 6 5,
 yM 7 0 6 true,
 yP 8 (.iaddrS 1) [.t 7,.c (.int .i64 1)] 6 true,
 yR 9 8 6 true,
 xP 10 .pick [.t 6,.t 9,.c (.bool false)],
 xM 2 10])
 .ret)) }
/-- datakit/numset.Or$1 -/
def ac694:AFn:=
 { nt:=11,res:=[.tmp 2],body:=
 (.seq (.ops [xC 2 (.bool false)])
 (.seq (.ops [xM 3 0,
 xP 4 (.iaddrS 1) [.t 3,.c (.int .i64 0)],
 xR 5 4,
 xM 6 5,
 yM 7 0 6 false,
 yP 8 (.iaddrS 1) [.t 7,.c (.int .i64 1)] 6 false,
 yR 9 8 6 false,
 xP 10 .pick [.t 6,.c (.bool true),.t 9],
 xM 2 10])
 .ret)) }
/-- datakit/numset.combine -/
def ac695:AFn:=
 { nt:=81,res:=[.tmp 4],body:=
 (.seq (.ops [xB 1 2 0,
 xB 1 3 1,
 xC 4 (.snil 11)])
 (.seq (.ops [xR 16 3,
 xP 17 .lenL [.t 16],
 ⟨some 18,.new (.mkSlice 1 1 (.bool false)),[.t 17,.t 17],none⟩,
 ⟨some 5,.new (.new 1 [.snil 1]),[],none⟩,
 xS 1 5 18])
 (.seq (.ops [xP 19 (.mkfn 701) [.t 3,.t 5,.t 2],
 xM 6 19])
 (.seq (.ops [⟨some 7,.new (.new 1 [.snil 12]),[],none⟩])
 (.seq (.ops [xP 20 (.mkfn 703) [.t 7],
 xM 8 20])
 (.seq (.ops [xR 21 3,
 xK 22 704 [.t 21],
 xM 9 22])
 (.seq (.seq (.ops [xC 10 (.int .i64 1)])
 (.block 0
 (.loop [6,7,8,9,10]
 (.seq (.seq (.ops [xM 23 10,
 xM 24 9,
 xP 25 .lenL [.t 24],
 xP 26 (.bin .lss) [.t 23,.t 25]])
 (.cond (.t 26)
 .skip
 (.exit 0)))
 (.seq (.block 1
 (drawPS 0 [xM 29 8,
 xM 30 9,
 xM 31 10,
 xP 32 (.bin .sub) [.t 31,.c (.int .i64 1)],
 xI 5 33 30 32,
 xM 35 9,
 xM 36 10,
 xI 5 37 35 36,
 xM 39 6,
 xM 40 9,
 xM 41 10,
 xP 42 (.bin .sub) [.t 41,.c (.int .i64 1)],
 xI 5 43 40 42,
 xL 5 44 43,
 xM 45 9,
 xM 46 10,
 xI 5 47 45 46,
 xL 5 48 47,
 xM 50 6,
 xM 51 9,
 xM 52 10,
 xP 53 (.bin .sub) [.t 52,.c (.int .i64 1)],
 xI 5 54 51 53,
 xM 56 9,
 xM 57 10,
 xI 5 58 56 57]
 [xL 5 34 33,
 xL 5 38 37,
 ⟨some 49,.callv,[.t 39,.t 44,.t 48,.c (.int .i64 1)],none⟩,
 xL 5 55 54,
 xL 5 59 58,
 ⟨some 60,.callv,[.t 50,.t 55,.t 59,.c (.int .i64 2)],none⟩]
 [[0,1,2,3,4,5],[0,1,3,2,4,5],[0,1,3,4,2,5],[0,1,4,2,3,5],[0,1,4,3,2,5],[0,2,3,4,1,5],[0,2,3,4,5,1],[0,3,1,2,4,5],[0,3,1,4,2,5],[0,3,2,4,1,5],[0,3,2,4,5,1],[0,3,4,1,2,5],[0,3,4,2,1,5],[0,3,4,2,5,1],[0,4,1,2,3,5],[0,4,1,3,2,5],[0,4,2,3,1,5],[0,4,2,3,5,1],[0,4,3,1,2,5],[0,4,3,2,1,5],[0,4,3,2,5,1],[1,0,2,3,4,5],[1,0,3,2,4,5],[1,0,3,4,2,5],[1,0,4,2,3,5],[1,0,4,3,2,5],[1,2,3,4,0,5],[1,2,3,4,5,0],[1,3,0,2,4,5],[1,3,0,4,2,5],[1,3,2,4,0,5],[1,3,2,4,5,0],[1,3,4,0,2,5],[1,3,4,2,0,5],[1,3,4,2,5,0],[1,4,0,2,3,5],[1,4,0,3,2,5],[1,4,2,3,0,5],[1,4,2,3,5,0],[1,4,3,0,2,5],[1,4,3,2,0,5],[1,4,3,2,5,0],[2,3,4,0,1,5],[2,3,4,0,5,1],[2,3,4,1,0,5],[2,3,4,1,5,0],[2,3,4,5,0,1],[3,0,1,2,4,5],[3,0,1,4,2,5],[3,0,2,4,1,5],[3,0,2,4,5,1],[3,0,4,1,2,5],[3,0,4,2,1,5],[3,0,4,2,5,1],[3,1,0,2,4,5],[3,1,0,4,2,5],[3,1,2,4,0,5],[3,1,2,4,5,0],[3,1,4,0,2,5],[3,1,4,2,0,5],[3,1,4,2,5,0],[3,2,4,0,1,5],[3,2,4,0,5,1],[3,2,4,1,0,5],[3,2,4,1,5,0],[3,2,4,5,0,1],[3,4,0,1,2,5],[3,4,0,2,1,5],[3,4,0,2,5,1],[3,4,1,0,2,5],[3,4,1,2,0,5],[3,4,1,2,5,0],[3,4,2,0,1,5],[3,4,2,0,5,1],[3,4,2,1,0,5],[3,4,2,1,5,0],[3,4,2,5,0,1],[4,0,1,2,3,5],[4,0,1,3,2,5],[4,0,2,3,1,5],[4,0,2,3,5,1],[4,0,3,1,2,5],[4,0,3,2,1,5],[4,0,3,2,5,1],[4,1,0,2,3,5],[4,1,0,3,2,5],[4,1,2,3,0,5],[4,1,2,3,5,0],[4,1,3,0,2,5],[4,1,3,2,0,5],[4,1,3,2,5,0],[4,2,3,0,1,5],[4,2,3,0,5,1],[4,2,3,1,0,5],[4,2,3,1,5,0],[4,2,3,5,0,1],[4,3,0,1,2,5],[4,3,0,2,1,5],[4,3,0,2,5,1],[4,3,1,0,2,5],[4,3,1,2,0,5],[4,3,1,2,5,0],[4,3,2,0,1,5],[4,3,2,0,5,1],[4,3,2,1,0,5],[4,3,2,1,5,0],[4,3,2,5,0,1]]
 [⟨some 61,.pure (.build [.int .i64 0,.bool false,.str [],.int .i64 0,.bool false,.int .i64 0,.bool false,.str [],.int .i64 0,.bool false,.bool false,.bool false] [(0,5),(5,5),(10,1),(11,1)]),[.t 34,.t 38,.t 49,.t 60],none⟩,
 ⟨some 62,.callv,[.t 29,.t 61],none⟩]))
 (.ops [xM 27 10,
 xP 28 (.bin .add) [.t 27,.c (.int .i64 1)],
 xM 10 28]))))))
 (.seq (.ops [xC 11 (.snil 11)])
 (.seq (.seq (.ops [xR 63 7,
 xP 64 .lenL [.t 63],
 xC 65 (.int .i64 0)])
 (.block 2
 (.loop [11,63,64,65]
 (.seq (.ops [xP 66 (.bin .lss) [.t 65,.t 64]])
 (.seq (.cond (.t 66)
 .skip
 (.exit 2))
 (.seq (.block 3
 (.seq (.ops [xI 12 67 63 65,
 xL 12 68 67,
 ⟨some 13,.new (.new 12 [.agg [.int .i64 0,.bool false,.str [],.int .i64 0,.bool false,.int .i64 0,.bool false,.str [],.int .i64 0,.bool false,.bool false,.bool false]]),[],none⟩,
 xS 12 13 68])
 (.seq (.ops [xL 12 70 13,
 xK 71 705 [.t 70],
 xM 69 71,
 xP 72 (.ext 0) [.t 69],
 xP 73 (.ext 1) [.t 69],
 xN 14 11 z0,
 xS 11 14 72,
 xM 15 73])
 (.seq (.ops [xM 74 15])
 (.cond (.t 74)
 (.ops [xM 75 11,
 xL 11 76 14,
 ⟨some 77,.new (.buildSlice 11 [z0] [0]),[.t 76],none⟩,
 ⟨some 78,.eff (.append 11 104),[.t 75,.t 77],none⟩,
 xM 11 78])
 .skip)))))
 (.ops [xP 79 (.bin .add) [.t 65,.c (.int .i64 1)],
 xM 65 79])))))))
 (.seq (.ops [xM 80 11,
 xM 4 80])
 .ret)))))))))) }
/-- datakit/numset.Equal$1 -/
def ac696:AFn:=
 { nt:=10,res:=[.tmp 2],body:=
 (.seq (.ops [xC 2 (.bool false)])
 (.seq (.ops [xM 3 0,
 xP 4 (.iaddrS 1) [.t 3,.c (.int .i64 0)],
 xR 5 4,
 xM 6 0,
 xP 7 (.iaddrS 1) [.t 6,.c (.int .i64 1)],
 xR 8 7,
 xP 9 (.eqB true) [.t 5,.t 8],
 xM 2 9])
 .ret)) }
/-- datakit/numset.power -/
def ac697:AFn:=
 { nt:=14,res:=[.cell 4 (some 3)],body:=
 (.seq (.ops [xN 4 3 z1])
 (.seq (.ops [xM 8 0,
 xM 9 1,
 xK 10 706 [.c (.bool false),.t 8,.t 9],
 xM 7 10,
 xP 11 (.ext 0) [.t 7],
 xP 12 (.ext 1) [.t 7],
 xN 5 3 z1,
 xS 3 5 11,
 xM 6 12])
 (.seq (.ops [xL 3 13 5,
 xS 3 4 13])
 .ret))) }
/-- datakit/numset.mirrored -/
def ac698:AFn:=
 { nt:=8,res:=[.cell 2 (some 5)],body:=
 (.seq (.ops [xB 5 1 0,
 ⟨some 2,.new (.new 5 [.agg [.bool false,.bool false,.str [],.int .i64 0,.bool false]]),[],none⟩])
 (.seq (.ops [xF 1 3 1,
 xL 3 4 3,
 xK 5 699 [.t 4],
 xF 1 6 1,
 xS 3 6 5])
 (.seq (.ops [xL 5 7 1,
 xS 5 2 7])
 .ret))) }
/-- datakit/decimal.Neg -/
def ac699:AFn:=
 { nt:=11,res:=[.cell 2 (some 3)],body:=
 (.seq (.ops [xB 3 1 0,
 xN 2 3 z1])
 (.seq (.seq (.ops [xF 1 3 1,
 xR 4 3,
 ⟨some 5,.pure (.bin .neq),[.t 4,.c (.str [])],none⟩])
 (.cond (.t 5)
 (.ops [xF 0 6 1,
 xR 7 6,
 xP 8 (.un .not) [.t 7],
 xF 0 9 1,
 xS 1 9 8])
 .skip))
 (.seq (.ops [xL 3 10 1,
 xS 3 2 10])
 .ret))) }
/-- datakit/numset.least -/
def ac700:AFn:=
 { nt:=34,res:=[.cell 2 (some 3),.tmp 3],body:=
 (.seq (.ops [xB 11 1 0,
 xN 2 3 z1,
 xC 3 (.bool false)])
 (.seq (.draw 1 [[xF 0 6 1,
 xF 1 7 6,
 xL 3 8 7,
 xF 0 9 1,
 xF 4 10 9,
 ⟨some 4,.newAt 0 (.new 3 [z1]),[],none⟩,
 xR 11 10,
 xS 3 4 8,
 xM 5 11],
 [xF 0 6 1,
 xF 1 7 6,
 xL 3 8 7,
 xF 0 9 1,
 xF 4 10 9,
 ⟨some 4,.newAt 0 (.new 3 [z1]),[],none⟩,
 xS 3 4 8,
 xR 11 10,
 xM 5 11]])
 (.seq (.seq (.ops [xF 10 12 1,
 xR 13 12])
 (.block 0
 (.seq (.ops [xP 15 (.bin .eql) [.t 13,.c (.int .i64 1)],
 xM 14 15])
 (.cond (.t 14)
 (.seq (.ops [xL 3 16 4,
 xM 17 5,
 xK 18 707 [.t 16,.t 17],
 xP 19 (.ext 0) [.t 18],
 xP 20 (.ext 1) [.t 18],
 xS 3 2 19,
 xM 3 20])
 .ret)
 (.seq (.ops [xP 22 (.bin .eql) [.t 13,.c (.int .i64 2)],
 xM 21 22])
 (.cond (.t 21)
 (.seq (.ops [xL 3 23 4,
 xM 24 5,
 xK 25 708 [.t 23,.t 24],
 xP 26 (.ext 0) [.t 25],
 xP 27 (.ext 1) [.t 25],
 xS 3 2 26,
 xM 3 27])
 .ret)
 .skip))))))
 (.seq (.seq (.ops [xM 28 5])
 (.cond (.t 28)
 (.seq (.ops [xL 3 29 4,
 xK 30 709 [.t 29],
 xP 31 (.ext 0) [.t 30],
 xP 32 (.ext 1) [.t 30],
 xS 3 2 31,
 xM 3 32])
 .ret)
 .skip))
 (.seq (.ops [xL 3 33 4,
 xS 3 2 33,
 xC 3 (.bool true)])
 .ret))))) }
/-- datakit/numset.combine$1 -/
def ac701:AFn:=
 { nt:=31,res:=[.tmp 9],body:=
 (.seq (.ops [xB 5 6 0,
 xB 5 7 1,
 xC 9 (.bool false)])
 (.seq (.seq (.ops [xR 12 3,
 xP 13 .lenL [.t 12],
 xC 14 (.int .i64 0)])
 (.block 0
 (.loop [2,4,5,6,7,12,13,14]
 (.seq (.ops [xP 15 (.bin .lss) [.t 14,.t 13]])
 (.seq (.cond (.t 15)
 .skip
 (.exit 0))
 (.seq (.block 1
 (.seq (.ops [xM 16 14,
 xI 1 17 12 14,
 xL 1 18 17,
 xN 11 1 z2,
 xM 10 16,
 xS 1 11 18])
 (.ops [xR 19 4,
 xM 20 10,
 xL 1 21 11,
 xL 5 22 6,
 xL 5 23 7,
 xM 24 2,
 xK 25 702 [.t 21,.t 22,.t 23,.t 24],
 xI 1 26 19 20,
 xS 1 26 25])))
 (.ops [xP 27 (.bin .add) [.t 14,.c (.int .i64 1)],
 xM 14 27])))))))
 (.seq (.ops [xR 28 5,
 xR 29 4,
 ⟨some 30,.callv,[.t 28,.t 29],none⟩,
 xM 9 30])
 .ret))) }
/-- datakit/numset.covers -/
def ac702:AFn:=
 { nt:=44,res:=[.tmp 8],body:=
 (.seq (.ops [xB 1 4 0,
 xB 5 5 1,
 xB 5 6 2,
 xC 8 (.bool false)])
 (.seq (.seq (.ops [xF 0 11 4,
 xR 12 11,
 xP 13 .lenL [.t 12],
 xC 14 (.int .i64 0)])
 (.block 0
 (.loop [3,5,6,12,13,14]
 (.seq (.ops [xP 15 (.bin .lss) [.t 14,.t 13]])
 (.seq (.cond (.t 15)
 .skip
 (.exit 0))
 (.seq (.block 1
 (.seq (.ops [xI 11 16 12 14,
 xL 11 17 16,
 xN 10 11 z0,
 xS 11 10 17])
 (.seq (.ops [xF 10 18 10,
 xR 19 18,
 xP 20 (.bin .eql) [.t 19,.c (.int .i64 0)],
 xM 21 20,
 yF 10 22 10 21 false,
 yR 23 22 21 false,
 yM 24 3 21 false,
 yP 25 (.bin .eql) [.t 23,.t 24] 21 false,
 xP 26 .pick [.t 21,.c (.bool true),.t 25],
 xM 27 26,
 yF 0 28 10 27 true,
 yL 5 29 28 27 true,
 yK 30 711 [.t 29] 27 true,
 yL 5 31 5 27 true,
 yK 32 710 [.t 30,.t 31] 27 true,
 yP 33 (.bin .leq) [.t 32,.c (.int .i64 0)] 27 true,
 xP 34 .pick [.t 27,.t 33,.c (.bool false)],
 xM 35 34,
 yL 5 36 6 35 true,
 yF 5 37 10 35 true,
 yL 5 38 37 35 true,
 yK 39 712 [.t 38] 35 true,
 yK 40 710 [.t 36,.t 39] 35 true,
 yP 41 (.bin .leq) [.t 40,.c (.int .i64 0)] 35 true,
 xP 42 .pick [.t 35,.t 41,.c (.bool false)]])
 (.cond (.t 42)
 (.seq (.ops [xC 8 (.bool true)])
 .ret)
 .skip))))
 (.ops [xP 43 (.bin .add) [.t 14,.c (.int .i64 1)],
 xM 14 43])))))))
 (.seq (.ops [xC 8 (.bool false)])
 .ret))) }
/-- datakit/numset.combine$2 -/
def ac703:AFn:=
 { nt:=41,res:=[],body:=
 (.seq (.ops [xB 12 2 0])
 (.seq (.seq (.ops [xR 4 1,
 xP 5 .lenL [.t 4],
 xM 3 5])
 (.seq (.ops [xM 6 3,
 xP 7 (.bin .gtr) [.t 6,.c (.int .i64 0)],
 xM 8 7,
 yR 9 1 8 true,
 yM 10 3 8 true,
 yP 11 (.bin .sub) [.t 10,.c (.int .i64 1)] 8 true,
 yP 12 (.iaddrS 12) [.t 9,.t 11] 8 true,
 yF 10 13 12 8 true,
 yR 14 13 8 true,
 yF 10 15 2 8 true,
 yR 16 15 8 true,
 yP 17 (.eqB false) [.t 14,.t 16] 8 true,
 xP 18 .pick [.t 8,.t 17,.c (.bool false)],
 xM 19 18,
 yR 20 1 19 true,
 yM 21 3 19 true,
 yP 22 (.bin .sub) [.t 21,.c (.int .i64 1)] 19 true,
 yP 23 (.iaddrS 12) [.t 20,.t 22] 19 true,
 yF 11 24 23 19 true,
 yR 25 24 19 true,
 yF 11 26 2 19 true,
 yR 27 26 19 true,
 yP 28 (.eqB false) [.t 25,.t 27] 19 true,
 xP 29 .pick [.t 19,.t 28,.c (.bool false)]])
 (.cond (.t 29)
 (.seq (.ops [xR 30 1,
 xM 31 3,
 xP 32 (.bin .sub) [.t 31,.c (.int .i64 1)],
 xF 5 33 2,
 xL 5 34 33,
 xI 12 35 30 32,
 xF 5 36 35,
 xS 5 36 34])
 .ret)
 .skip)))
 (.ops [xR 37 1,
 xL 12 38 2,
 ⟨some 39,.new (.buildSlice 12 [.agg [.int .i64 0,.bool false,.str [],.int .i64 0,.bool false,.int .i64 0,.bool false,.str [],.int .i64 0,.bool false,.bool false,.bool false]] [0]),[.t 38],none⟩,
 ⟨some 40,.eff (.append 12 104),[.t 37,.t 39],none⟩,
 xS 1 1 40]))) }
/-- datakit/numset.cuts -/
def ac704:AFn:=
 { nt:=39,res:=[.tmp 2],body:=
 (.seq (.ops [xC 2 (.snil 5)])
 (.seq (.ops [⟨some 8,.pure (.build [.int .i64 0,.bool false,.str [],.int .i64 0,.bool false] [(0,1)]),[.c (.int .i64 (-1))],none⟩,
 ⟨some 9,.pure (.build [.int .i64 0,.bool false,.str [],.int .i64 0,.bool false] [(0,1)]),[.c (.int .i64 1)],none⟩,
 ⟨some 10,.new (.buildSlice 5 [.agg [.int .i64 0,.bool false,.str [],.int .i64 0,.bool false],.agg [.int .i64 0,.bool false,.str [],.int .i64 0,.bool false]] [0,1]),[.t 8,.t 9],none⟩,
 xM 3 10])
 (.seq (.seq (.ops [xM 11 0,
 xP 12 .lenL [.t 11],
 xC 13 (.int .i64 0)])
 (.block 0
 (.loop [3,11,12,13]
 (.seq (.ops [xP 14 (.bin .lss) [.t 13,.t 12]])
 (.seq (.cond (.t 14)
 .skip
 (.exit 0))
 (.seq (.block 1
 (.seq (.ops [xI 1 15 11 13,
 xL 1 16 15,
 xN 5 1 z2,
 xS 1 5 16])
 (.seq (.ops [xF 0 17 5,
 xR 18 17,
 xP 19 .lenL [.t 18],
 xC 20 (.int .i64 0)])
 (.block 2
 (.loop [3,11,12,13,18,19,20]
 (.seq (.ops [xP 21 (.bin .lss) [.t 20,.t 19]])
 (.seq (.cond (.t 21)
 .skip
 (.exit 2))
 (.seq (.block 3
 (.seq (.ops [xI 11 22 18 20,
 xL 11 23 22,
 xN 7 11 z0,
 xS 11 7 23])
 (.draw 1 [[xM 24 3,
 xF 0 25 7,
 xL 5 26 25,
 xK 27 711 [.t 26],
 xF 5 28 7,
 xL 5 29 28,
 xK 30 712 [.t 29],
 ⟨some 31,.newAt 0 (.buildSlice 5 [.agg [.int .i64 0,.bool false,.str [],.int .i64 0,.bool false],.agg [.int .i64 0,.bool false,.str [],.int .i64 0,.bool false]] [0,1]),[.t 27,.t 30],none⟩,
 ⟨some 32,.eff (.append 5 48),[.t 24,.t 31],none⟩,
 xM 3 32]])))
 (.ops [xP 33 (.bin .add) [.t 20,.c (.int .i64 1)],
 xM 20 33])))))))))
 (.ops [xP 34 (.bin .add) [.t 13,.c (.int .i64 1)],
 xM 13 34])))))))
 (.seq (.ops [xM 35 3,
 ⟨some 36,.call 713,[.t 35,.c (.fn 710 [])],none⟩])
 (.seq (.ops [xM 37 3,
 ⟨some 38,.call 714,[.t 37,.c (.fn 715 [])],none⟩,
 xM 2 38])
 .ret))))) }
/-- (datakit/numset.region).part -/
def ac705:AFn:=
 { nt:=47,res:=[.cell 2 (some 11),.tmp 3],body:=
 (.seq (.ops [xB 12 1 0,
 xN 2 11 z0,
 xC 3 (.bool false)])
 (.seq (.ops [xN 4 11 z0])
 (.seq (.block 0
 (.seq (.ops [xF 10 7 1,
 xR 8 7,
 xM 9 8,
 yF 11 10 1 9 true,
 yR 11 10 9 true,
 xP 12 .pick [.t 9,.t 11,.c (.bool false)],
 xM 6 12])
 (.cond (.t 6)
 .skip
 (.seq (.ops [xF 10 14 1,
 xR 15 14,
 xM 13 15])
 (.cond (.t 13)
 (.ops [xF 10 16 4,
 ⟨none,.eff (.store 1),[.t 16,.c (.int .i64 1)],none⟩])
 (.seq (.ops [xF 11 18 1,
 xR 19 18,
 xM 17 19])
 (.cond (.t 17)
 (.ops [xF 10 20 4,
 ⟨none,.eff (.store 1),[.t 20,.c (.int .i64 2)],none⟩])
 (.seq (.ops [xL 11 5 4,
 xS 11 2 5,
 xC 3 (.bool false)])
 .ret))))))))
 (.seq (.seq (.ops [xF 0 21 1,
 xF 0 22 21,
 xR 23 22,
 xP 24 (.bin .eql) [.t 23,.c (.int .i64 0)]])
 (.cond (.t 24)
 (.ops [xF 0 25 1,
 xF 1 26 25,
 xL 3 27 26,
 xF 0 28 1,
 xF 4 29 28,
 xR 30 29,
 ⟨some 31,.pure (.build [.bool false,.bool false,.str [],.int .i64 0,.bool false] [(0,1),(1,3),(4,1)]),[.c (.bool true),.t 27,.t 30],none⟩,
 xF 0 32 4,
 xS 5 32 31])
 .skip))
 (.seq (.seq (.ops [xF 5 33 1,
 xF 0 34 33,
 xR 35 34,
 xP 36 (.bin .eql) [.t 35,.c (.int .i64 0)]])
 (.cond (.t 36)
 (.ops [xF 5 37 1,
 xF 1 38 37,
 xL 3 39 38,
 xF 5 40 1,
 xF 4 41 40,
 xR 42 41,
 xP 43 (.un .not) [.t 42],
 ⟨some 44,.pure (.build [.bool false,.bool false,.str [],.int .i64 0,.bool false] [(0,1),(1,3),(4,1)]),[.c (.bool true),.t 39,.t 43],none⟩,
 xF 5 45 4,
 xS 5 45 44])
 .skip))
 (.seq (.ops [xL 11 46 4,
 xS 11 2 46,
 xC 3 (.bool true)])
 .ret)))))) }
/-- datakit/decimal.Make -/
def ac706:AFn:=
 { nt:=33,res:=[.cell 6 (some 3),.tmp 7],body:=
 (.seq (.ops [xN 6 3 z1,
 xC 7 (.int .i64 0)])
 (.seq (.seq (.ops [xM 9 1,
 xP 10 .lenS [.t 9],
 xC 11 (.int .i64 0)])
 (.block 0
 (.loop [0,1,2,6,10,11]
 (.seq (.ops [xP 12 (.bin .lss) [.t 11,.t 10]])
 (.seq (.cond (.t 12)
 .skip
 (.exit 0))
 (.seq (.block 1
 (.seq (.ops [xM 13 11,
 xM 8 13])
 (.seq (.ops [xM 14 1,
 xM 15 8,
 xP 16 .idxStr [.t 14,.t 15],
 xP 17 (.bin .lss) [.t 16,.c (.int .u8 48)],
 xM 18 17,
 yM 19 1 18 false,
 yM 20 8 18 false,
 yP 21 .idxStr [.t 19,.t 20] 18 false,
 yP 22 (.bin .gtr) [.t 21,.c (.int .u8 57)] 18 false,
 xP 23 .pick [.t 18,.c (.bool true),.t 22]])
 (.cond (.t 23)
 (.seq (.ops [⟨some 24,.pure (.build [.bool false,.str [],.int .i64 0] []),[],none⟩,
 xS 3 6 24,
 xC 7 (.int .i64 3)])
 .ret)
 .skip))))
 (.ops [xP 25 (.bin .add) [.t 11,.c (.int .i64 1)],
 xM 11 25])))))))
 (.seq (.ops [xM 26 0,
 xM 27 1,
 ⟨some 28,.pcall 137,[.t 27,.c (.str [48])],none⟩,
 xM 29 2,
 xK 30 138 [.t 26,.t 28,.t 29],
 xP 31 (.ext 0) [.t 30],
 xP 32 (.ext 1) [.t 30],
 xS 3 6 31,
 xM 7 32])
 .ret))) }
/-- datakit/numset.nextWhole -/
def ac707:AFn:=
 { nt:=45,res:=[.cell 4 (some 3),.tmp 5],body:=
 (.seq (.ops [xB 3 2 0,
 xN 4 3 z1,
 xC 5 (.bool false)])
 (.seq (.seq (.ops [xL 3 10 2,
 xK 11 264 [.t 10],
 xP 12 (.un .not) [.t 11]])
 (.cond (.t 12)
 (.seq (.ops [xL 3 14 2,
 xK 15 716 [.t 14,.c (.int .i64 0),.c (.int .i64 1)],
 xM 13 15,
 xP 16 (.ext 0) [.t 13],
 xP 17 (.ext 1) [.t 13],
 xN 6 3 z1,
 xS 3 6 16,
 xM 7 17])
 (.seq (.ops [xL 3 18 6,
 xM 19 7,
 xP 20 (.bin .eql) [.t 19,.c (.int .i64 0)],
 xS 3 4 18,
 xM 5 20])
 .ret))
 .skip))
 (.seq (.seq (.ops [xM 21 1,
 xP 22 (.un .not) [.t 21]])
 (.cond (.t 22)
 (.seq (.ops [xL 3 23 2,
 xS 3 4 23,
 xC 5 (.bool true)])
 .ret)
 .skip))
 (.seq (.seq (.ops [xF 1 24 2,
 xR 25 24,
 ⟨some 26,.pure (.bin .eql),[.t 25,.c (.str [])],none⟩,
 xM 27 26,
 yL 3 28 2 27 false,
 yK 29 717 [.t 28] 27 false,
 yP 30 (.bin .leq) [.t 29,.c (.int .i64 120)] 27 false,
 xP 31 .pick [.t 27,.c (.bool true),.t 30]])
 (.cond (.t 31)
 (.seq (.draw 1 [[xL 3 33 2,
 xK 34 129 [.c (.int .i64 1)],
 xK 35 718 [.t 33,.t 34],
 xM 32 35,
 xP 36 (.ext 0) [.t 32],
 xP 37 (.ext 1) [.t 32],
 ⟨some 8,.newAt 0 (.new 3 [z1]),[],none⟩,
 xS 3 8 36,
 xM 9 37]])
 (.seq (.ops [xL 3 38 8,
 xM 39 9,
 xP 40 (.bin .eql) [.t 39,.c (.int .i64 0)],
 xS 3 4 38,
 xM 5 40])
 .ret))
 .skip))
 (.seq (.ops [xL 3 41 2,
 xK 42 709 [.t 41],
 xP 43 (.ext 0) [.t 42],
 xP 44 (.ext 1) [.t 42],
 xS 3 4 43,
 xM 5 44])
 .ret))))) }
/-- datakit/numset.nextFract -/
def ac708:AFn:=
 { nt:=58,res:=[.cell 4 (some 3),.tmp 5],body:=
 (.seq (.ops [xB 3 2 0,
 xN 4 3 z1,
 xC 5 (.bool false)])
 (.seq (.seq (.ops [xL 3 10 2,
 xK 11 264 [.t 10],
 xP 12 (.un .not) [.t 11],
 xM 13 12,
 yM 14 1 13 true,
 yP 15 (.un .not) [.t 14] 13 true,
 xP 16 .pick [.t 13,.t 15,.c (.bool false)]])
 (.cond (.t 16)
 (.seq (.ops [xL 3 17 2,
 xS 3 4 17,
 xC 5 (.bool true)])
 .ret)
 .skip))
 (.seq (.seq (.ops [xF 1 18 2,
 xR 19 18,
 ⟨some 20,.pure (.bin .neq),[.t 19,.c (.str [])],none⟩,
 xM 21 20,
 yL 3 22 2 21 true,
 yK 23 717 [.t 22] 21 true,
 yP 24 (.bin .geq) [.t 23,.c (.int .i64 120)] 21 true,
 xP 25 .pick [.t 21,.t 24,.c (.bool false)]])
 (.cond (.t 25)
 (.seq (.ops [⟨some 27,.pcall 291,[.c (.str [57]),.c (.int .i64 120)],none⟩,
 xK 28 706 [.c (.bool true),.t 27,.c (.int .i64 (-1))],
 xM 26 28,
 xP 29 (.ext 0) [.t 26],
 xP 30 (.ext 1) [.t 26],
 xN 6 3 z1,
 xS 3 6 29,
 xM 7 30])
 (.seq (.ops [xL 3 31 6,
 xF 0 32 2,
 xR 33 32,
 xM 34 33,
 yM 35 7 34 true,
 yP 36 (.bin .eql) [.t 35,.c (.int .i64 0)] 34 true,
 xP 37 .pick [.t 34,.t 36,.c (.bool false)],
 xS 3 4 31,
 xM 5 37])
 .ret))
 .skip))
 (.seq (.ops [xC 8 (.bool true)])
 (.seq (.seq (.ops [xC 9 (.int .i64 0)])
 (.block 0
 (.loop [2,4,8,9]
 (.seq (.seq (.ops [xM 38 9,
 xP 39 (.bin .lss) [.t 38,.c (.int .i64 3)],
 xM 40 39,
 yM 41 8 40 true,
 xP 42 .pick [.t 40,.t 41,.c (.bool false)]])
 (.cond (.t 42)
 .skip
 (.exit 0)))
 (.seq (.block 1
 (.seq (.ops [xL 3 46 2,
 xK 47 709 [.t 46],
 xM 45 47,
 xP 48 (.ext 0) [.t 45],
 xP 49 (.ext 1) [.t 45],
 xS 3 2 48,
 xM 8 49])
 (.seq (.ops [xM 50 8,
 xM 51 50,
 yL 3 52 2 51 true,
 yK 53 264 [.t 52] 51 true,
 yP 54 (.un .not) [.t 53] 51 true,
 xP 55 .pick [.t 51,.t 54,.c (.bool false)]])
 (.cond (.t 55)
 (.seq (.ops [xL 3 56 2,
 xS 3 4 56,
 xC 5 (.bool true)])
 .ret)
 .skip))))
 (.ops [xM 43 9,
 xP 44 (.bin .add) [.t 43,.c (.int .i64 1)],
 xM 9 44]))))))
 (.seq (.ops [⟨some 57,.pure (.build [.bool false,.str [],.int .i64 0] []),[],none⟩,
 xS 3 4 57,
 xC 5 (.bool false)])
 .ret)))))) }
/-- datakit/numset.next -/
def ac709:AFn:=
 { nt:=67,res:=[.cell 2 (some 3),.tmp 3],body:=
 (.seq (.ops [xB 3 1 0,
 xN 2 3 z1,
 xC 3 (.bool false)])
 (.seq (.seq (.ops [xF 1 10 1,
 xR 11 10,
 ⟨some 12,.pure (.bin .eql),[.t 11,.c (.str [])],none⟩])
 (.cond (.t 12)
 (.seq (.ops [⟨some 13,.pcall 697,[.c (.str [49]),.c (.int .i64 (-400))],none⟩,
 xS 3 2 13,
 xC 3 (.bool true)])
 .ret)
 .skip))
 (.seq (.ops [xL 3 14 1,
 xK 15 717 [.t 14],
 xP 16 (.bin .sub) [.t 15,.c (.int .i64 120)],
 xP 17 (.minmax true) [.t 16,.c (.int .i64 (-400))],
 xM 4 17])
 (.seq (.ops [xM 18 4,
 ⟨some 19,.pcall 697,[.c (.str [49]),.t 18],none⟩,
 xM 20 4,
 ⟨some 21,.pcall 697,[.c (.str [50]),.t 20],none⟩,
 xM 22 4,
 ⟨some 23,.pcall 697,[.c (.str [49,49]),.t 22],none⟩,
 ⟨some 24,.new (.buildSlice 3 [.agg [.bool false,.str [],.int .i64 0],.agg [.bool false,.str [],.int .i64 0],.agg [.bool false,.str [],.int .i64 0]] [0,1,2]),[.t 19,.t 21,.t 23],none⟩,
 xM 5 24])
 (.seq (.seq (.ops [xF 0 25 1,
 xR 26 25])
 (.cond (.t 26)
 (.seq (.ops [xM 27 4,
 ⟨some 28,.pcall 697,[.c (.str [49]),.t 27],none⟩,
 xM 29 4,
 ⟨some 30,.pcall 697,[.c (.str [50]),.t 29],none⟩,
 ⟨some 31,.new (.buildSlice 3 [.agg [.bool false,.str [],.int .i64 0],.agg [.bool false,.str [],.int .i64 0]] [0,1]),[.t 28,.t 30],none⟩,
 xM 5 31])
 (.seq (.ops [xM 32 4,
 xP 33 (.bin .gtr) [.t 32,.c (.int .i64 (-400))]])
 (.cond (.t 33)
 (.ops [xM 34 4,
 xP 35 (.bin .sub) [.t 34,.c (.int .i64 1)],
 ⟨some 36,.pcall 697,[.c (.str [49]),.t 35],none⟩,
 xM 37 4,
 ⟨some 38,.pcall 697,[.c (.str [49]),.t 37],none⟩,
 xM 39 4,
 xP 40 (.bin .sub) [.t 39,.c (.int .i64 1)],
 ⟨some 41,.pcall 697,[.c (.str [49,49]),.t 40],none⟩,
 xM 42 4,
 ⟨some 43,.pcall 697,[.c (.str [50]),.t 42],none⟩,
 ⟨some 44,.new (.buildSlice 3 [.agg [.bool false,.str [],.int .i64 0],.agg [.bool false,.str [],.int .i64 0],.agg [.bool false,.str [],.int .i64 0],.agg [.bool false,.str [],.int .i64 0]] [0,1,2,3]),[.t 36,.t 38,.t 41,.t 43],none⟩,
 xM 5 44])
 .skip)))
 .skip))
 (.seq (.seq (.ops [xM 45 5,
 xP 46 .lenL [.t 45],
 xC 47 (.int .i64 0)])
 (.block 0
 (.loop [1,2,45,46,47]
 (.seq (.ops [xP 48 (.bin .lss) [.t 47,.t 46]])
 (.seq (.cond (.t 48)
 .skip
 (.exit 0))
 (.seq (.block 1
 (.seq (.ops [xI 3 49 45 47,
 xL 3 50 49,
 xN 7 3 z1,
 xS 3 7 50])
 (.seq (.ops [xL 3 52 1,
 xL 3 53 7,
 xK 54 718 [.t 52,.t 53],
 xM 51 54,
 xP 55 (.ext 0) [.t 51],
 xP 56 (.ext 1) [.t 51],
 xN 8 3 z1,
 xS 3 8 55,
 xM 9 56])
 (.seq (.ops [xM 57 9,
 xP 58 (.bin .eql) [.t 57,.c (.int .i64 0)],
 xM 59 58,
 yF 1 60 7 59 true,
 yR 61 60 59 true,
 ⟨some 62,.pure (.bin .neq),[.t 61,.c (.str [])],some (59,true)⟩,
 xP 63 .pick [.t 59,.t 62,.c (.bool false)]])
 (.cond (.t 63)
 (.seq (.ops [xL 3 64 8,
 xS 3 2 64,
 xC 3 (.bool true)])
 .ret)
 .skip)))))
 (.ops [xP 65 (.bin .add) [.t 47,.c (.int .i64 1)],
 xM 47 65])))))))
 (.seq (.ops [⟨some 66,.pure (.build [.bool false,.str [],.int .i64 0] []),[],none⟩,
 xS 3 2 66,
 xC 3 (.bool false)])
 .ret))))))) }
/-- datakit/numset.compare -/
def ac710:AFn:=
 { nt:=33,res:=[.tmp 4],body:=
 (.seq (.ops [xB 5 2 0,
 xB 5 3 1,
 xC 4 (.int .i64 0)])
 (.seq (.seq (.ops [xF 0 6 2,
 xR 7 6,
 xF 0 8 3,
 xR 9 8,
 xP 10 (.bin .neq) [.t 7,.t 9]])
 (.cond (.t 10)
 (.seq (.ops [xF 0 11 2,
 xR 12 11,
 xF 0 13 3,
 xR 14 13,
 xP 15 (.bin .sub) [.t 12,.t 14],
 xM 4 15])
 .ret)
 .skip))
 (.seq (.seq (.ops [xF 1 16 2,
 xL 3 17 16,
 xF 1 18 3,
 xL 3 19 18,
 xK 20 263 [.t 17,.t 19],
 xM 5 20])
 (.seq (.ops [xM 21 5,
 xP 22 (.bin .neq) [.t 21,.c (.int .i64 0)],
 xM 23 22,
 yF 4 24 2 23 false,
 yR 25 24 23 false,
 yF 4 26 3 23 false,
 yR 27 26 23 false,
 yP 28 (.eqB false) [.t 25,.t 27] 23 false,
 xP 29 .pick [.t 23,.c (.bool true),.t 28]])
 (.cond (.t 29)
 (.seq (.ops [xM 30 5,
 xM 4 30])
 .ret)
 .skip)))
 (.seq (.seq (.ops [xF 4 31 3,
 xR 32 31])
 (.cond (.t 32)
 (.seq (.ops [xC 4 (.int .i64 (-1))])
 .ret)
 .skip))
 (.seq (.ops [xC 4 (.int .i64 1)])
 .ret))))) }
/-- datakit/numset.lower -/
def ac711:AFn:=
 { nt:=12,res:=[.cell 2 (some 5)],body:=
 (.seq (.ops [xB 5 1 0,
 ⟨some 2,.new (.new 5 [.agg [.int .i64 0,.bool false,.str [],.int .i64 0,.bool false]]),[],none⟩])
 (.seq (.seq (.ops [xF 0 3 1,
 xR 4 3,
 xP 5 (.un .not) [.t 4]])
 (.cond (.t 5)
 (.seq (.ops [⟨some 6,.pure (.build [.int .i64 0,.bool false,.str [],.int .i64 0,.bool false] [(0,1)]),[.c (.int .i64 (-1))],none⟩,
 xS 5 2 6])
 .ret)
 .skip))
 (.seq (.ops [xF 1 7 1,
 xL 3 8 7,
 xF 4 9 1,
 xR 10 9,
 ⟨some 11,.pure (.build [.int .i64 0,.bool false,.str [],.int .i64 0,.bool false] [(1,3),(4,1)]),[.t 8,.t 10],none⟩,
 xS 5 2 11])
 .ret))) }
/-- datakit/numset.upper -/
def ac712:AFn:=
 { nt:=13,res:=[.cell 2 (some 5)],body:=
 (.seq (.ops [xB 5 1 0,
 ⟨some 2,.new (.new 5 [.agg [.int .i64 0,.bool false,.str [],.int .i64 0,.bool false]]),[],none⟩])
 (.seq (.seq (.ops [xF 0 3 1,
 xR 4 3,
 xP 5 (.un .not) [.t 4]])
 (.cond (.t 5)
 (.seq (.ops [⟨some 6,.pure (.build [.int .i64 0,.bool false,.str [],.int .i64 0,.bool false] [(0,1)]),[.c (.int .i64 1)],none⟩,
 xS 5 2 6])
 .ret)
 .skip))
 (.seq (.ops [xF 1 7 1,
 xL 3 8 7,
 xF 4 9 1,
 xR 10 9,
 xP 11 (.un .not) [.t 10],
 ⟨some 12,.pure (.build [.int .i64 0,.bool false,.str [],.int .i64 0,.bool false] [(1,3),(4,1)]),[.t 8,.t 11],none⟩,
 xS 5 2 12])
 .ret))) }
/-- slices.CompactFunc[[]datakit/numset.cut,datakit/numset.cut] -/
def ac714:AFn:=
 { nt:=66,res:=[.tmp 4],body:=
 (.seq (.ops [xC 4 (.snil 5)])
 (.seq (.seq (.ops [xM 8 0,
 xP 9 .lenL [.t 8],
 xP 10 (.bin .lss) [.t 9,.c (.int .i64 2)]])
 (.cond (.t 10)
 (.seq (.ops [xM 11 0,
 xM 4 11])
 .ret)
 .skip))
 (.seq (.seq (.ops [xC 5 (.int .i64 1)])
 (.block 0
 (.loop [0,1,5]
 (.seq (.seq (.ops [xM 12 5,
 xM 13 0,
 xP 14 .lenL [.t 13],
 xP 15 (.bin .lss) [.t 12,.t 14]])
 (.cond (.t 15)
 .skip
 (.exit 0)))
 (.seq (.block 1
 (.seq (.ops [xM 18 1,
 xM 19 0,
 xM 20 5,
 xI 5 21 19 20,
 xL 5 22 21,
 xM 23 0,
 xM 24 5,
 xP 25 (.bin .sub) [.t 24,.c (.int .i64 1)],
 xI 5 26 23 25,
 xL 5 27 26,
 ⟨some 28,.callv,[.t 18,.t 22,.t 27],none⟩])
 (.cond (.t 28)
 (.seq (.ops [xM 29 0,
 xM 30 5,
 xP 31 (.sliceL 5 true false false) [.t 29,.t 30],
 xM 6 31])
 (.seq (.seq (.ops [xC 7 (.int .i64 1)])
 (.block 2
 (.loop [0,1,5,6,7]
 (.seq (.seq (.ops [xM 32 7,
 xM 33 6,
 xP 34 .lenL [.t 33],
 xP 35 (.bin .lss) [.t 32,.t 34]])
 (.cond (.t 35)
 .skip
 (.exit 2)))
 (.seq (.block 3
 (.seq (.ops [xM 38 1,
 xM 39 6,
 xM 40 7,
 xI 5 41 39 40,
 xL 5 42 41,
 xM 43 6,
 xM 44 7,
 xP 45 (.bin .sub) [.t 44,.c (.int .i64 1)],
 xI 5 46 43 45,
 xL 5 47 46,
 ⟨some 48,.callv,[.t 38,.t 42,.t 47],none⟩,
 xP 49 (.un .not) [.t 48]])
 (.cond (.t 49)
 (.seq (.ops [xM 50 0,
 xM 51 5,
 xM 52 6,
 xM 53 7,
 xI 5 54 52 53,
 xL 5 55 54,
 xI 5 56 50 51,
 xS 5 56 55])
 (.ops [xM 57 5,
 xP 58 (.bin .add) [.t 57,.c (.int .i64 1)],
 xM 5 58]))
 .skip)))
 (.ops [xM 36 7,
 xP 37 (.bin .add) [.t 36,.c (.int .i64 1)],
 xM 7 37]))))))
 (.seq (.ops [xM 59 0,
 xM 60 5,
 xP 61 (.sliceL 5 true false false) [.t 59,.t 60],
 ⟨none,.eff (.clearS (.agg [.int .i64 0,.bool false,.str [],.int .i64 0,.bool false])),[.t 61],none⟩])
 (.seq (.ops [xM 62 0,
 xM 63 5,
 xP 64 (.sliceL 5 false true false) [.t 62,.t 63],
 xM 4 64])
 .ret))))
 .skip)))
 (.ops [xM 16 5,
 xP 17 (.bin .add) [.t 16,.c (.int .i64 1)],
 xM 5 17]))))))
 (.seq (.ops [xM 65 0,
 xM 4 65])
 .ret)))) }
/-- datakit/numset.cuts$1 -/
def ac715:AFn:=
 { nt:=9,res:=[.tmp 4],body:=
 (.seq (.ops [xB 5 2 0,
 xB 5 3 1,
 xC 4 (.bool false)])
 (.seq (.ops [xL 5 5 2,
 xL 5 6 3,
 xK 7 710 [.t 5,.t 6],
 xP 8 (.bin .eql) [.t 7,.c (.int .i64 0)],
 xM 4 8])
 .ret)) }
/-- datakit/decimal.Round -/
def ac716:AFn:=
 { nt:=15,res:=[.cell 6 (some 3),.tmp 7],body:=
 (.seq (.ops [xB 3 3 0,
 xN 6 3 z1,
 xC 7 (.int .i64 0)])
 (.seq (.ops [xL 3 8 3,
 xK 9 129 [.c (.int .i64 1)],
 xM 10 1,
 xM 11 2,
 xK 12 720 [.t 8,.t 9,.t 10,.t 11],
 xP 13 (.ext 0) [.t 12],
 xP 14 (.ext 1) [.t 12],
 xS 3 6 13,
 xM 7 14])
 .ret)) }
/-- datakit/numset.places -/
def ac717:AFn:=
 { nt:=9,res:=[.tmp 2],body:=
 (.seq (.ops [xB 3 1 0,
 xC 2 (.int .i64 0)])
 (.seq (.ops [xF 1 3 1,
 xR 4 3,
 xP 5 .lenS [.t 4],
 xF 2 6 1,
 xR 7 6,
 xP 8 (.bin .add) [.t 5,.t 7],
 xM 2 8])
 .ret)) }
/-- datakit/decimal.Add -/
def ac718:AFn:=
 { nt:=52,res:=[.cell 4 (some 3),.tmp 5],body:=
 (.seq (.ops [xB 3 2 0,
 xB 3 3 1,
 xN 4 3 z1,
 xC 5 (.int .i64 0)])
 (.seq (.ops [xL 3 10 2,
 xL 3 11 3,
 xK 12 285 [.t 10,.t 11],
 xM 9 12,
 xP 13 (.ext 0) [.t 9],
 xP 14 (.ext 1) [.t 9],
 xP 15 (.ext 2) [.t 9],
 xM 6 13,
 xM 7 14,
 xM 8 15])
 (.seq (.seq (.ops [xF 0 16 2,
 xR 17 16,
 xF 0 18 3,
 xR 19 18,
 xP 20 (.eqB false) [.t 17,.t 19]])
 (.cond (.t 20)
 (.seq (.ops [xF 0 21 2,
 xR 22 21,
 xM 23 6,
 xM 24 7,
 xK 25 721 [.t 23,.t 24],
 xM 26 8,
 xK 27 138 [.t 22,.t 25,.t 26],
 xP 28 (.ext 0) [.t 27],
 xP 29 (.ext 1) [.t 27],
 xS 3 4 28,
 xM 5 29])
 .ret)
 .skip))
 (.seq (.seq (.ops [xM 30 6,
 xM 31 7,
 xK 32 286 [.t 30,.t 31],
 xP 33 (.bin .geq) [.t 32,.c (.int .i64 0)]])
 (.cond (.t 33)
 (.seq (.ops [xF 0 34 2,
 xR 35 34,
 xM 36 6,
 xM 37 7,
 xK 38 722 [.t 36,.t 37],
 xM 39 8,
 xK 40 138 [.t 35,.t 38,.t 39],
 xP 41 (.ext 0) [.t 40],
 xP 42 (.ext 1) [.t 40],
 xS 3 4 41,
 xM 5 42])
 .ret)
 .skip))
 (.seq (.ops [xF 0 43 3,
 xR 44 43,
 xM 45 7,
 xM 46 6,
 xK 47 722 [.t 45,.t 46],
 xM 48 8,
 xK 49 138 [.t 44,.t 47,.t 48],
 xP 50 (.ext 0) [.t 49],
 xP 51 (.ext 1) [.t 49],
 xS 3 4 50,
 xM 5 51])
 .ret))))) }
/-- datakit/decimal.Quo -/
def ac720:AFn:=
 { nt:=111,res:=[.cell 8 (some 3),.tmp 9],body:=
 (.seq (.ops [xB 3 4 0,
 xB 3 5 1,
 xN 8 3 z1,
 xC 9 (.int .i64 0)])
 (.seq (.seq (.ops [xM 17 3,
 xP 18 (.bin .lss) [.t 17,.c (.int .i64 0)],
 xM 19 18,
 yM 20 3 19 false,
 yP 21 (.bin .gtr) [.t 20,.c (.int .i64 4)] 19 false,
 xP 22 .pick [.t 19,.c (.bool true),.t 21],
 xM 23 22,
 yM 24 2 23 false,
 yP 25 (.bin .lss) [.t 24,.c (.int .i64 (-400))] 23 false,
 xP 26 .pick [.t 23,.c (.bool true),.t 25],
 xM 27 26,
 yM 28 2 27 false,
 yP 29 (.bin .gtr) [.t 28,.c (.int .i64 400)] 27 false,
 xP 30 .pick [.t 27,.c (.bool true),.t 29]])
 (.cond (.t 30)
 (.seq (.ops [⟨some 31,.pure (.build [.bool false,.str [],.int .i64 0] []),[],none⟩,
 xS 3 8 31,
 xC 9 (.int .i64 1)])
 .ret)
 .skip))
 (.seq (.seq (.ops [xF 1 32 5,
 xR 33 32,
 ⟨some 34,.pure (.bin .eql),[.t 33,.c (.str [])],none⟩])
 (.cond (.t 34)
 (.seq (.ops [⟨some 35,.pure (.build [.bool false,.str [],.int .i64 0] []),[],none⟩,
 xS 3 8 35,
 xC 9 (.int .i64 14)])
 .ret)
 .skip))
 (.seq (.seq (.ops [xL 3 36 4,
 xK 37 140 [.t 36],
 xP 38 (.un .not) [.t 37],
 xM 39 38,
 yL 3 40 5 39 false,
 yK 41 140 [.t 40] 39 false,
 yP 42 (.un .not) [.t 41] 39 false,
 xP 43 .pick [.t 39,.c (.bool true),.t 42]])
 (.cond (.t 43)
 (.seq (.ops [⟨some 44,.pure (.build [.bool false,.str [],.int .i64 0] []),[],none⟩,
 xS 3 8 44,
 xC 9 (.int .i64 0)])
 .ret)
 .skip))
 (.seq (.ops [xF 0 45 4,
 xR 46 45,
 xF 0 47 5,
 xR 48 47,
 xP 49 (.eqB true) [.t 46,.t 48],
 xM 10 49])
 (.seq (.ops [xF 1 50 4,
 xR 51 50,
 xF 1 52 5,
 xR 53 52,
 xM 11 51,
 xM 12 53])
 (.seq (.seq (.ops [xF 2 54 4,
 xR 55 54,
 xF 2 56 5,
 xR 57 56,
 xP 58 (.bin .sub) [.t 55,.t 57],
 xM 59 2,
 xP 60 (.bin .add) [.t 58,.t 59],
 xM 13 60])
 (.seq (.ops [xM 61 13,
 xP 62 (.bin .geq) [.t 61,.c (.int .i64 0)]])
 (.cond (.t 62)
 (.ops [xM 63 11,
 xM 64 13,
 ⟨some 65,.pcall 291,[.c (.str [48]),.t 64],none⟩,
 xP 66 (.bin .add) [.t 63,.t 65],
 ⟨some 67,.pcall 137,[.t 66,.c (.str [48])],none⟩,
 xM 11 67])
 (.ops [xM 68 12,
 xM 69 13,
 xP 70 (.un .neg) [.t 69],
 ⟨some 71,.pcall 291,[.c (.str [48]),.t 70],none⟩,
 xP 72 (.bin .add) [.t 68,.t 71],
 xM 12 72]))))
 (.seq (.ops [xM 74 11,
 xM 75 12,
 xK 76 731 [.t 74,.t 75],
 xM 73 76,
 xP 77 (.ext 0) [.t 73],
 xP 78 (.ext 1) [.t 73],
 xM 14 77,
 xM 15 78])
 (.seq (.seq (.ops [xM 79 15,
 ⟨some 80,.pure (.bin .neq),[.t 79,.c (.str [])],none⟩])
 (.cond (.t 80)
 (.seq (.ops [xM 81 14,
 ⟨some 82,.pure (.bin .neq),[.t 81,.c (.str [])],none⟩,
 xM 83 82,
 yM 84 14 83 true,
 yM 85 14 83 true,
 yP 86 .lenS [.t 85] 83 true,
 yP 87 (.bin .sub) [.t 86,.c (.int .i64 1)] 83 true,
 yP 88 .idxStr [.t 84,.t 87] 83 true,
 yP 89 (.bin .sub) [.t 88,.c (.int .u8 48)] 83 true,
 yP 90 (.bin .rem) [.t 89,.c (.int .u8 2)] 83 true,
 yP 91 (.bin .eql) [.t 90,.c (.int .u8 1)] 83 true,
 xP 92 .pick [.t 83,.t 91,.c (.bool false)],
 xM 16 92])
 (.seq (.ops [xM 93 3,
 xM 94 10,
 xM 95 16,
 xM 96 15,
 xM 97 15,
 xK 98 721 [.t 96,.t 97],
 xM 99 12,
 xK 100 286 [.t 98,.t 99],
 xK 101 732 [.t 93,.t 94,.t 95,.t 100]])
 (.cond (.t 101)
 (.ops [xM 102 14,
 ⟨some 103,.pcall 721,[.t 102,.c (.str [49])],none⟩,
 xM 14 103])
 .skip)))
 .skip))
 (.seq (.ops [xM 104 10,
 xM 105 14,
 xM 106 2,
 xP 107 (.un .neg) [.t 106],
 xK 108 138 [.t 104,.t 105,.t 107],
 xP 109 (.ext 0) [.t 108],
 xP 110 (.ext 1) [.t 108],
 xS 3 8 109,
 xM 9 110])
 .ret)))))))))) }
/-- datakit/decimal.plus -/
def ac721:AFn:=
 { nt:=46,res:=[.tmp 4],body:=
 (.seq (.ops [xC 4 (.str [])])
 (.seq (.ops [xM 9 0,
 xP 10 .lenS [.t 9],
 xM 11 1,
 xP 12 .lenS [.t 11],
 xP 13 (.minmax true) [.t 10,.t 12],
 xP 14 (.bin .add) [.t 13,.c (.int .i64 1)],
 xM 5 14])
 (.seq (.ops [xM 15 5,
 ⟨some 16,.new (.mkSlice 1 1 (.int .u8 0)),[.t 15,.t 15],none⟩,
 xM 6 16])
 (.seq (.ops [xC 7 (.int .i64 0)])
 (.seq (.seq (.ops [xM 17 5,
 xC 18 (.int .i64 0)])
 (.block 0
 (.loop [0,1,5,6,7,17,18]
 (.seq (.ops [xP 19 (.bin .lss) [.t 18,.t 17]])
 (.seq (.cond (.t 19)
 .skip
 (.exit 0))
 (.seq (.block 1
 (.seq (.ops [xM 20 18,
 xM 8 20])
 (.seq (.ops [xM 21 7,
 xM 22 0,
 xM 23 8,
 xK 24 733 [.t 22,.t 23],
 xM 25 1,
 xM 26 8,
 xK 27 733 [.t 25,.t 26],
 xP 28 (.bin .add) [.t 24,.t 27],
 xP 29 (.bin .add) [.t 21,.t 28],
 xM 7 29])
 (.seq (.ops [xM 30 6,
 xM 31 5,
 xP 32 (.bin .sub) [.t 31,.c (.int .i64 1)],
 xM 33 8,
 xP 34 (.bin .sub) [.t 32,.t 33],
 xM 35 7,
 ⟨some 36,.pure (.bin .rem),[.t 35,.c (.int .i64 10)],none⟩,
 xP 37 (.bin .add) [.c (.int .i64 48),.t 36],
 xP 38 (.conv .u8) [.t 37],
 xI 1 39 30 34,
 xS 1 39 38])
 (.ops [xM 40 7,
 ⟨some 41,.pure (.bin .quo),[.t 40,.c (.int .i64 10)],none⟩,
 xM 7 41])))))
 (.ops [xP 42 (.bin .add) [.t 18,.c (.int .i64 1)],
 xM 18 42])))))))
 (.seq (.ops [xM 43 6,
 ⟨some 44,.read .bytesStr,[.t 43],none⟩,
 ⟨some 45,.pcall 137,[.t 44,.c (.str [48])],none⟩,
 xM 4 45])
 .ret)))))) }
/-- datakit/decimal.minus -/
def ac722:AFn:=
 { nt:=44,res:=[.tmp 4],body:=
 (.seq (.ops [xC 4 (.str [])])
 (.seq (.ops [xM 9 0,
 xP 10 .lenS [.t 9],
 ⟨some 11,.new (.mkSlice 1 1 (.int .u8 0)),[.t 10,.t 10],none⟩,
 xM 5 11])
 (.seq (.ops [xC 6 (.int .i64 0)])
 (.seq (.seq (.ops [xM 12 0,
 xP 13 .lenS [.t 12],
 xC 14 (.int .i64 0)])
 (.block 0
 (.loop [0,1,5,6,13,14]
 (.seq (.ops [xP 15 (.bin .lss) [.t 14,.t 13]])
 (.seq (.cond (.t 15)
 .skip
 (.exit 0))
 (.seq (.block 1
 (.seq (.ops [xM 16 14,
 xM 7 16])
 (.seq (.ops [xM 17 0,
 xM 18 7,
 xK 19 733 [.t 17,.t 18],
 xM 20 1,
 xM 21 7,
 xK 22 733 [.t 20,.t 21],
 xP 23 (.bin .sub) [.t 19,.t 22],
 xM 24 6,
 xP 25 (.bin .sub) [.t 23,.t 24],
 xM 8 25])
 (.seq (.ops [xC 6 (.int .i64 0)])
 (.seq (.seq (.ops [xM 26 8,
 xP 27 (.bin .lss) [.t 26,.c (.int .i64 0)]])
 (.cond (.t 27)
 (.seq (.ops [xM 28 8,
 xP 29 (.bin .add) [.t 28,.c (.int .i64 10)],
 xM 8 29])
 (.ops [xC 6 (.int .i64 1)]))
 .skip))
 (.ops [xM 30 5,
 xM 31 0,
 xP 32 .lenS [.t 31],
 xP 33 (.bin .sub) [.t 32,.c (.int .i64 1)],
 xM 34 7,
 xP 35 (.bin .sub) [.t 33,.t 34],
 xM 36 8,
 xP 37 (.bin .add) [.c (.int .i64 48),.t 36],
 xP 38 (.conv .u8) [.t 37],
 xI 1 39 30 35,
 xS 1 39 38]))))))
 (.ops [xP 40 (.bin .add) [.t 14,.c (.int .i64 1)],
 xM 14 40])))))))
 (.seq (.ops [xM 41 5,
 ⟨some 42,.read .bytesStr,[.t 41],none⟩,
 ⟨some 43,.pcall 137,[.t 42,.c (.str [48])],none⟩,
 xM 4 43])
 .ret))))) }
/-- datakit/decimal.divide -/
def ac731:AFn:=
 { nt:=44,res:=[.tmp 4,.tmp 5],body:=
 (.seq (.ops [xC 4 (.str []),
 xC 5 (.str [])])
 (.seq (.ops [xM 10 0,
 xP 11 .lenS [.t 10],
 ⟨some 12,.new (.mkSlice 1 1 (.int .u8 0)),[.t 11,.t 11],none⟩,
 xM 6 12])
 (.seq (.ops [xC 7 (.str [])])
 (.seq (.seq (.ops [xM 13 0,
 xP 14 .lenS [.t 13],
 xC 15 (.int .i64 0)])
 (.block 0
 (.loop [0,1,6,7,14,15]
 (.seq (.ops [xP 16 (.bin .lss) [.t 15,.t 14]])
 (.seq (.cond (.t 16)
 .skip
 (.exit 0))
 (.seq (.block 1
 (.seq (.ops [xM 17 15,
 xM 8 17])
 (.seq (.ops [xM 18 7,
 xM 19 0,
 xM 20 8,
 xM 21 8,
 xP 22 (.bin .add) [.t 21,.c (.int .i64 1)],
 xP 23 (.sliceS true true) [.t 19,.t 20,.t 22],
 xP 24 (.bin .add) [.t 18,.t 23],
 ⟨some 25,.pcall 137,[.t 24,.c (.str [48])],none⟩,
 xM 7 25])
 (.seq (.ops [xC 9 (.int .u8 48)])
 (.seq (.block 2
 (.loop [0,1,6,7,8,9,14,15]
 (.seq (.seq (.ops [xM 26 7,
 xM 27 1,
 xK 28 286 [.t 26,.t 27],
 xP 29 (.bin .geq) [.t 28,.c (.int .i64 0)]])
 (.cond (.t 29)
 .skip
 (.exit 2)))
 (.block 3
 (.seq (.ops [xM 30 7,
 xM 31 1,
 xK 32 722 [.t 30,.t 31],
 xM 7 32])
 (.ops [xM 33 9,
 xP 34 (.bin .add) [.t 33,.c (.int .u8 1)],
 xM 9 34]))))))
 (.ops [xM 35 6,
 xM 36 8,
 xM 37 9,
 xI 1 38 35 36,
 xS 1 38 37]))))))
 (.ops [xP 39 (.bin .add) [.t 15,.c (.int .i64 1)],
 xM 15 39])))))))
 (.seq (.ops [xM 40 6,
 ⟨some 41,.read .bytesStr,[.t 40],none⟩,
 ⟨some 42,.pcall 137,[.t 41,.c (.str [48])],none⟩,
 xM 43 7,
 xM 4 42,
 xM 5 43])
 .ret))))) }
/-- datakit/decimal.rounds -/
def ac732:AFn:=
 { nt:=32,res:=[.tmp 8],body:=
 (.seq (.ops [xC 8 (.bool false)])
 (.seq (.seq (.ops [xM 9 0])
 (.block 0
 (.seq (.ops [xP 11 (.bin .eql) [.t 9,.c (.int .i64 0)],
 xM 10 11])
 (.cond (.t 10)
 (.seq (.ops [xM 12 1,
 xM 8 12])
 .ret)
 (.seq (.ops [xP 14 (.bin .eql) [.t 9,.c (.int .i64 1)],
 xM 13 14])
 (.cond (.t 13)
 (.seq (.ops [xM 15 1,
 xP 16 (.un .not) [.t 15],
 xM 8 16])
 .ret)
 (.seq (.ops [xP 18 (.bin .eql) [.t 9,.c (.int .i64 3)],
 xM 17 18])
 (.cond (.t 17)
 (.seq (.ops [xM 19 3,
 xP 20 (.bin .gtr) [.t 19,.c (.int .i64 0)],
 xM 21 20,
 yM 22 3 21 false,
 yP 23 (.bin .eql) [.t 22,.c (.int .i64 0)] 21 false,
 yM 24 23 21 false,
 yM 25 2 24 true,
 yP 26 .pick [.t 24,.t 25,.c (.bool false)] 21 false,
 xP 27 .pick [.t 21,.c (.bool true),.t 26],
 xM 8 27])
 .ret)
 (.seq (.ops [xP 29 (.bin .eql) [.t 9,.c (.int .i64 4)],
 xM 28 29])
 (.cond (.t 28)
 (.seq (.ops [xM 30 3,
 xP 31 (.bin .geq) [.t 30,.c (.int .i64 0)],
 xM 8 31])
 .ret)
 .skip))))))))))
 (.seq (.ops [xC 8 (.bool false)])
 .ret))) }
/-- datakit/decimal.at -/
def ac733:AFn:=
 { nt:=18,res:=[.tmp 4],body:=
 (.seq (.ops [xC 4 (.int .i64 0)])
 (.seq (.seq (.ops [xM 5 1,
 xM 6 0,
 xP 7 .lenS [.t 6],
 xP 8 (.bin .geq) [.t 5,.t 7]])
 (.cond (.t 8)
 (.seq (.ops [xC 4 (.int .i64 0)])
 .ret)
 .skip))
 (.seq (.ops [xM 9 0,
 xM 10 0,
 xP 11 .lenS [.t 10],
 xP 12 (.bin .sub) [.t 11,.c (.int .i64 1)],
 xM 13 1,
 xP 14 (.bin .sub) [.t 12,.t 13],
 xP 15 .idxStr [.t 9,.t 14],
 xP 16 (.bin .sub) [.t 15,.c (.int .u8 48)],
 xP 17 (.conv .i64) [.t 16],
 xM 4 17])
 .ret))) }
def codeN1:Nat→Option AFn
 | 137=>some ac137
 | 144=>some ac144
 | 145=>some ac145
 | 146=>some ac146
 | 147=>some ac147
 | 152=>some ac152
 | 153=>some ac153
 | 154=>some ac154
 | 159=>some ac159
 | 229=>some ac229
 | 235=>some ac235
 | 250=>some ac250
 | 251=>some ac251
 | 257=>some ac257
 | 262=>some ac262
 | 263=>some ac263
 | 264=>some ac264
 | 273=>some ac273
 | 285=>some ac285
 | 286=>some ac286
 | 670=>some ac670
 | 672=>some ac672
 | 673=>some ac673
 | 674=>some ac674
 | 675=>some ac675
 | 676=>some ac676
 | 677=>some ac677
 | 683=>some ac683
 | 687=>some ac687
 | 688=>some ac688
 | 690=>some ac690
 | 691=>some ac691
 | 692=>some ac692
 | 693=>some ac693
 | 694=>some ac694
 | 695=>some ac695
 | 696=>some ac696
 | 697=>some ac697
 | 698=>some ac698
 | 699=>some ac699
 | 700=>some ac700
 | 701=>some ac701
 | 702=>some ac702
 | 703=>some ac703
 | 704=>some ac704
 | 705=>some ac705
 | 706=>some ac706
 | 707=>some ac707
 | 708=>some ac708
 | 709=>some ac709
 | 710=>some ac710
 | 711=>some ac711
 | 712=>some ac712
 | 714=>some ac714
 | 715=>some ac715
 | 716=>some ac716
 | 717=>some ac717
 | 718=>some ac718
 | 720=>some ac720
 | 721=>some ac721
 | 722=>some ac722
 | 731=>some ac731
 | 732=>some ac732
 | 733=>some ac733
 | _=>none
def codeN (f:Nat):Option AFn:=match code f with
 | some a=>some a
 | none=>codeN1 f
def clRN:Nat→Option (Nat × Nat)
 | _=>none
def clPN:Nat→Option (Nat × Nat)
 | _=>none
def ppN:Nat→Option (List AV→Option AV)
 | 291=>some repF
 | 272=>some cmpF
 | 671=>some awkF
 | _=>none
def CN:Ctx:=funCtx (mkCtx codeN clRN clPN) ppN
end Ago
