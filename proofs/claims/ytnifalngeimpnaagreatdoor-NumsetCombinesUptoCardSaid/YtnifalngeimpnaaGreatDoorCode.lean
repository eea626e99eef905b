/- The abstract code of the functions,printed by program. -/
import Derived.Test.YtnifalngeimpnaaGreatDoorCodeZ
import Derived.Test.YtnifalngeimpnaaGreatDoorMachH
set_option linter.unusedSimpArgs false
set_option linter.unusedVariables false
set_option maxRecDepth 100000
namespace Ago
/-- datakit/numset.Valid -/
def ac229:AFn:=
 { nt:=20,res:=[.tmp 2],body:=
 (.seq (.ops [xB 1 1 0,
 xC 2 (.bool false)])
 (.seq (.seq (.ops [xF 0 5 1,
 xR 6 5,
 xP 7 .lenL [.t 6],
 xP 8 (.bin .gtr) [.t 7,.c (.int .i64 256)]])
 (.cond (.t 8)
 (.seq (.ops [xC 2 (.bool false)])
 .ret)
 .skip))
 (.seq (.seq (.ops [xF 0 9 1,
 xR 10 9,
 xP 11 .lenL [.t 10],
 xC 12 (.int .i64 0)])
 (.block 0
 (.loop [10,11,12]
 (.seq (.ops [xP 13 (.bin .lss) [.t 12,.t 11]])
 (.seq (.cond (.t 13)
 .skip
 (.exit 0))
 (.seq (.block 1
 (.seq (.ops [xI 11 14 10 12,
 xL 11 15 14,
 xN 4 11 z0,
 xS 11 4 15])
 (.seq (.ops [xL 11 16 4,
 xK 17 250 [.t 16],
 xP 18 (.un .not) [.t 17]])
 (.cond (.t 18)
 (.seq (.ops [xC 2 (.bool false)])
 .ret)
 .skip))))
 (.ops [xP 19 (.bin .add) [.t 12,.c (.int .i64 1)],
 xM 12 19])))))))
 (.seq (.ops [xC 2 (.bool true)])
 .ret)))) }
/-- datakit/numset.validPart -/
def ac250:AFn:=
 { nt:=21,res:=[.tmp 2],body:=
 (.seq (.ops [xB 11 1 0,
 xC 2 (.bool false)])
 (.seq (.ops [xF 0 3 1,
 xL 5 4 3,
 xK 5 262 [.t 4],
 xM 6 5,
 yF 5 7 1 6 true,
 yL 5 8 7 6 true,
 yK 9 262 [.t 8] 6 true,
 xP 10 .pick [.t 6,.t 9,.c (.bool false)],
 xM 11 10,
 yF 10 12 1 11 true,
 yR 13 12 11 true,
 yP 14 (.bin .geq) [.t 13,.c (.int .i64 0)] 11 true,
 xP 15 .pick [.t 11,.t 14,.c (.bool false)],
 xM 16 15,
 yF 10 17 1 16 true,
 yR 18 17 16 true,
 yP 19 (.bin .leq) [.t 18,.c (.int .i64 2)] 16 true,
 xP 20 .pick [.t 16,.t 19,.c (.bool false)],
 xM 2 20])
 .ret)) }
/-- strings.Compare -/
def ac257:AFn:=
 { nt:=8,res:=[.tmp 4],body:=
 (.seq (.ops [xC 4 (.int .i64 0)])
 (.seq (.ops [xM 5 0,
 xM 6 1,
 xK 7 272 [.t 5,.t 6],
 xM 4 7])
 .ret)) }
/-- datakit/numset.validBound -/
def ac262:AFn:=
 { nt:=12,res:=[.tmp 2],body:=
 (.seq (.ops [xB 5 1 0,
 xC 2 (.bool false)])
 (.seq (.seq (.ops [xF 0 3 1,
 xR 4 3,
 xP 5 (.un .not) [.t 4]])
 (.cond (.t 5)
 (.seq (.ops [xL 5 6 1,
 ⟨some 7,.pure (.build [.bool false,.bool false,.str [],.int .i64 0,.bool false] []),[],none⟩,
 ⟨some 8,.pure (.eqF [.bool,.bool,.str,.int,.bool] false),[.t 6,.t 7],none⟩,
 xM 2 8])
 .ret)
 .skip))
 (.seq (.ops [xF 1 9 1,
 xL 3 10 9,
 xK 11 140 [.t 10],
 xM 2 11])
 .ret))) }
/-- datakit/decimal.Cmp -/
def ac263:AFn:=
 { nt:=24,res:=[.tmp 4],body:=
 (.seq (.ops [xB 3 2 0,
 xB 3 3 1,
 xC 4 (.int .i64 0)])
 (.seq (.block 0
 (.seq (.ops [xF 0 6 2,
 xR 7 6,
 xM 8 7,
 yF 0 9 3 8 true,
 yR 10 9 8 true,
 xP 11 .pick [.t 8,.t 10,.c (.bool false)],
 xM 5 11])
 (.cond (.t 5)
 (.seq (.ops [xL 3 12 3,
 xL 3 13 2,
 xK 14 273 [.t 12,.t 13],
 xM 4 14])
 .ret)
 (.seq (.ops [xF 0 16 2,
 xR 17 16,
 xM 15 17])
 (.cond (.t 15)
 (.seq (.ops [xC 4 (.int .i64 (-1))])
 .ret)
 (.seq (.ops [xF 0 19 3,
 xR 20 19,
 xM 18 20])
 (.cond (.t 18)
 (.seq (.ops [xC 4 (.int .i64 1)])
 .ret)
 .skip)))))))
 (.seq (.ops [xL 3 21 2,
 xL 3 22 3,
 xK 23 273 [.t 21,.t 22],
 xM 4 23])
 .ret))) }
/-- datakit/decimal.size -/
def ac273:AFn:=
 { nt:=18,res:=[.tmp 4],body:=
 (.seq (.ops [xB 3 2 0,
 xB 3 3 1,
 xC 4 (.int .i64 0)])
 (.seq (.ops [xL 3 9 2,
 xL 3 10 3,
 xK 11 285 [.t 9,.t 10],
 xM 8 11,
 xP 12 (.ext 0) [.t 8],
 xP 13 (.ext 1) [.t 8],
 xP 14 (.ext 2) [.t 8],
 xM 5 12,
 xM 6 13,
 xM 7 14])
 (.seq (.ops [xM 15 5,
 xM 16 6,
 xK 17 286 [.t 15,.t 16],
 xM 4 17])
 .ret))) }
/-- datakit/decimal.align -/
def ac285:AFn:=
 { nt:=52,res:=[.tmp 4,.tmp 5,.tmp 6],body:=
 (.seq (.ops [xB 3 2 0,
 xB 3 3 1,
 xC 4 (.str []),
 xC 5 (.str []),
 xC 6 (.int .i64 0)])
 (.seq (.seq (.ops [xL 3 8 2,
 xK 9 140 [.t 8],
 xP 10 (.un .not) [.t 9],
 xM 11 10,
 yL 3 12 3 11 false,
 yK 13 140 [.t 12] 11 false,
 yP 14 (.un .not) [.t 13] 11 false,
 xP 15 .pick [.t 11,.c (.bool true),.t 14]])
 (.cond (.t 15)
 (.seq (.ops [xC 4 (.str []),
 xC 5 (.str []),
 xC 6 (.int .i64 0)])
 .ret)
 .skip))
 (.seq (.seq (.ops [xF 1 16 2,
 xR 17 16,
 ⟨some 18,.pure (.bin .eql),[.t 17,.c (.str [])],none⟩])
 (.cond (.t 18)
 (.seq (.ops [xF 1 19 3,
 xR 20 19,
 xF 2 21 3,
 xR 22 21,
 xC 4 (.str []),
 xM 5 20,
 xM 6 22])
 .ret)
 .skip))
 (.seq (.seq (.ops [xF 1 23 3,
 xR 24 23,
 ⟨some 25,.pure (.bin .eql),[.t 24,.c (.str [])],none⟩])
 (.cond (.t 25)
 (.seq (.ops [xF 1 26 2,
 xR 27 26,
 xF 2 28 2,
 xR 29 28,
 xM 4 27,
 xC 5 (.str []),
 xM 6 29])
 .ret)
 .skip))
 (.seq (.ops [xF 2 30 2,
 xR 31 30,
 xF 2 32 3,
 xR 33 32,
 xP 34 (.minmax false) [.t 31,.t 33],
 xM 7 34])
 (.seq (.ops [xF 1 35 2,
 xR 36 35,
 xF 2 37 2,
 xR 38 37,
 xM 39 7,
 xP 40 (.bin .sub) [.t 38,.t 39],
 ⟨some 41,.pcall 291,[.c (.str [48]),.t 40],none⟩,
 xP 42 (.bin .add) [.t 36,.t 41],
 xF 1 43 3,
 xR 44 43,
 xF 2 45 3,
 xR 46 45,
 xM 47 7,
 xP 48 (.bin .sub) [.t 46,.t 47],
 ⟨some 49,.pcall 291,[.c (.str [48]),.t 48],none⟩,
 xP 50 (.bin .add) [.t 44,.t 49],
 xM 51 7,
 xM 4 42,
 xM 5 50,
 xM 6 51])
 .ret)))))) }
/-- datakit/decimal.cmp -/
def ac286:AFn:=
 { nt:=18,res:=[.tmp 4],body:=
 (.seq (.ops [xC 4 (.int .i64 0)])
 (.seq (.seq (.ops [xM 5 0,
 xP 6 .lenS [.t 5],
 xM 7 1,
 xP 8 .lenS [.t 7],
 xP 9 (.bin .neq) [.t 6,.t 8]])
 (.cond (.t 9)
 (.seq (.seq (.ops [xM 10 0,
 xP 11 .lenS [.t 10],
 xM 12 1,
 xP 13 .lenS [.t 12],
 xP 14 (.bin .lss) [.t 11,.t 13]])
 (.cond (.t 14)
 (.seq (.ops [xC 4 (.int .i64 (-1))])
 .ret)
 .skip))
 (.seq (.ops [xC 4 (.int .i64 1)])
 .ret))
 .skip))
 (.seq (.ops [xM 15 0,
 xM 16 1,
 xK 17 257 [.t 15,.t 16],
 xM 4 17])
 .ret))) }
/-- datakit/datakitref18.Has -/
def ac585:AFn:=
 { nt:=28,res:=[.tmp 4],body:=
 (.seq (.ops [xB 1 2 0,
 xB 3 3 1,
 xC 4 (.bool false)])
 (.seq (.seq (.ops [xL 1 6 2,
 xK 7 600 [.t 6],
 xP 8 (.un .not) [.t 7],
 xM 9 8,
 yL 3 10 3 9 false,
 yK 11 79 [.t 10] 9 false,
 yP 12 (.un .not) [.t 11] 9 false,
 xP 13 .pick [.t 9,.c (.bool true),.t 12]])
 (.cond (.t 13)
 (.seq (.ops [xC 4 (.bool false)])
 .ret)
 .skip))
 (.seq (.seq (.ops [xC 5 (.int .i64 0)])
 (.block 0
 (.loop [2,3,5]
 (.seq (.seq (.ops [xM 14 5,
 xF 0 15 2,
 xR 16 15,
 xP 17 .lenL [.t 16],
 xP 18 (.bin .lss) [.t 14,.t 17]])
 (.cond (.t 18)
 .skip
 (.exit 0)))
 (.seq (.block 1
 (.seq (.ops [xF 0 21 2,
 xR 22 21,
 xM 23 5,
 xI 11 24 22 23,
 xL 11 25 24,
 xL 3 26 3,
 xK 27 618 [.t 25,.t 26]])
 (.cond (.t 27)
 (.seq (.ops [xC 4 (.bool true)])
 .ret)
 .skip)))
 (.ops [xM 19 5,
 xP 20 (.bin .add) [.t 19,.c (.int .i64 1)],
 xM 5 20]))))))
 (.seq (.ops [xC 4 (.bool false)])
 .ret)))) }
/-- datakit/datakitref18.Valid -/
def ac600:AFn:=
 { nt:=22,res:=[.tmp 2],body:=
 (.seq (.ops [xB 1 1 0,
 xC 2 (.bool false)])
 (.seq (.seq (.ops [xC 3 (.int .i64 0)])
 (.block 0
 (.loop [1,3]
 (.seq (.seq (.ops [xM 4 3,
 xF 0 5 1,
 xR 6 5,
 xP 7 .lenL [.t 6],
 xP 8 (.bin .lss) [.t 4,.t 7]])
 (.cond (.t 8)
 .skip
 (.exit 0)))
 (.seq (.block 1
 (.seq (.ops [xF 0 11 1,
 xR 12 11,
 xM 13 3,
 xI 11 14 12 13,
 xL 11 15 14,
 xK 16 625 [.t 15],
 xP 17 (.un .not) [.t 16]])
 (.cond (.t 17)
 (.seq (.ops [xC 2 (.bool false)])
 .ret)
 .skip)))
 (.ops [xM 9 3,
 xP 10 (.bin .add) [.t 9,.c (.int .i64 1)],
 xM 3 10]))))))
 (.seq (.ops [xF 0 18 1,
 xR 19 18,
 xP 20 .lenL [.t 19],
 xP 21 (.bin .leq) [.t 20,.c (.int .i64 256)],
 xM 2 21])
 .ret))) }
/-- datakit/datakitref18.In -/
def ac618:AFn:=
 { nt:=56,res:=[.tmp 4],body:=
 (.seq (.ops [xB 11 2 0,
 xB 3 3 1,
 xC 4 (.bool false)])
 (.seq (.seq (.ops [xF 0 7 2,
 xF 0 8 7,
 xR 9 8])
 (.cond (.t 9)
 (.seq (.ops [xL 3 10 3,
 xF 0 11 2,
 xF 1 12 11,
 xL 3 13 12,
 xK 14 634 [.t 10,.t 13],
 xM 5 14])
 (.seq (.ops [xM 15 5,
 xP 16 (.bin .lss) [.t 15,.c (.int .i64 0)],
 xM 17 16,
 yM 18 5 17 false,
 yP 19 (.bin .eql) [.t 18,.c (.int .i64 0)] 17 false,
 yM 20 19 17 false,
 yF 0 21 2 20 true,
 yF 4 22 21 20 true,
 yR 23 22 20 true,
 yP 24 .pick [.t 20,.t 23,.c (.bool false)] 17 false,
 xP 25 .pick [.t 17,.c (.bool true),.t 24]])
 (.cond (.t 25)
 (.seq (.ops [xC 4 (.bool false)])
 .ret)
 .skip)))
 .skip))
 (.seq (.seq (.ops [xF 5 26 2,
 xF 0 27 26,
 xR 28 27])
 (.cond (.t 28)
 (.seq (.ops [xL 3 29 3,
 xF 5 30 2,
 xF 1 31 30,
 xL 3 32 31,
 xK 33 634 [.t 29,.t 32],
 xM 6 33])
 (.seq (.ops [xM 34 6,
 xP 35 (.bin .gtr) [.t 34,.c (.int .i64 0)],
 xM 36 35,
 yM 37 6 36 false,
 yP 38 (.bin .eql) [.t 37,.c (.int .i64 0)] 36 false,
 yM 39 38 36 false,
 yF 5 40 2 39 true,
 yF 4 41 40 39 true,
 yR 42 41 39 true,
 yP 43 .pick [.t 39,.t 42,.c (.bool false)] 36 false,
 xP 44 .pick [.t 36,.c (.bool true),.t 43]])
 (.cond (.t 44)
 (.seq (.ops [xC 4 (.bool false)])
 .ret)
 .skip)))
 .skip))
 (.seq (.ops [xF 10 45 2,
 xR 46 45,
 xP 47 (.bin .eql) [.t 46,.c (.int .i64 0)],
 xM 48 47,
 yL 3 49 3 48 false,
 yK 50 635 [.t 49] 48 false,
 yF 10 51 2 48 false,
 yR 52 51 48 false,
 yP 53 (.bin .eql) [.t 52,.c (.int .i64 1)] 48 false,
 yP 54 (.eqB false) [.t 50,.t 53] 48 false,
 xP 55 .pick [.t 48,.c (.bool true),.t 54],
 xM 4 55])
 .ret)))) }
/-- datakit/datakitref18.Part -/
def ac625:AFn:=
 { nt:=21,res:=[.tmp 2],body:=
 (.seq (.ops [xB 11 1 0,
 xC 2 (.bool false)])
 (.seq (.ops [xF 0 3 1,
 xL 5 4 3,
 xK 5 638 [.t 4],
 xM 6 5,
 yF 5 7 1 6 true,
 yL 5 8 7 6 true,
 yK 9 638 [.t 8] 6 true,
 xP 10 .pick [.t 6,.t 9,.c (.bool false)],
 xM 11 10,
 yF 10 12 1 11 true,
 yR 13 12 11 true,
 yP 14 (.bin .geq) [.t 13,.c (.int .i64 0)] 11 true,
 xP 15 .pick [.t 11,.t 14,.c (.bool false)],
 xM 16 15,
 yF 10 17 1 16 true,
 yR 18 17 16 true,
 yP 19 (.bin .leq) [.t 18,.c (.int .i64 2)] 16 true,
 xP 20 .pick [.t 16,.t 19,.c (.bool false)],
 xM 2 20])
 .ret)) }
/-- datakit/datakitref02.Cmp -/
def ac634:AFn:=
 { nt:=27,res:=[.tmp 4],body:=
 (.seq (.ops [xB 3 2 0,
 xB 3 3 1,
 xC 4 (.int .i64 0)])
 (.seq (.seq (.ops [xF 0 5 2,
 xR 6 5,
 xM 7 6,
 yF 0 8 3 7 true,
 yR 9 8 7 true,
 yP 10 (.un .not) [.t 9] 7 true,
 xP 11 .pick [.t 7,.t 10,.c (.bool false)]])
 (.cond (.t 11)
 (.seq (.ops [xC 4 (.int .i64 (-1))])
 .ret)
 .skip))
 (.seq (.seq (.ops [xF 0 12 3,
 xR 13 12,
 xM 14 13,
 yF 0 15 2 14 true,
 yR 16 15 14 true,
 yP 17 (.un .not) [.t 16] 14 true,
 xP 18 .pick [.t 14,.t 17,.c (.bool false)]])
 (.cond (.t 18)
 (.seq (.ops [xC 4 (.int .i64 1)])
 .ret)
 .skip))
 (.seq (.seq (.ops [xF 0 19 2,
 xR 20 19])
 (.cond (.t 20)
 (.seq (.ops [xL 3 21 3,
 xL 3 22 2,
 xK 23 643 [.t 21,.t 22],
 xM 4 23])
 .ret)
 .skip))
 (.seq (.ops [xL 3 24 2,
 xL 3 25 3,
 xK 26 643 [.t 24,.t 25],
 xM 4 26])
 .ret))))) }
/-- datakit/datakitref02.Whole -/
def ac635:AFn:=
 { nt:=6,res:=[.tmp 2],body:=
 (.seq (.ops [xB 3 1 0,
 xC 2 (.bool false)])
 (.seq (.ops [xF 2 3 1,
 xR 4 3,
 xP 5 (.bin .geq) [.t 4,.c (.int .i64 0)],
 xM 2 5])
 .ret)) }
/-- datakit/datakitref18.bound -/
def ac638:AFn:=
 { nt:=12,res:=[.tmp 2],body:=
 (.seq (.ops [xB 5 1 0,
 xC 2 (.bool false)])
 (.seq (.seq (.ops [xF 0 3 1,
 xR 4 3,
 xP 5 (.un .not) [.t 4]])
 (.cond (.t 5)
 (.seq (.ops [xL 5 6 1,
 ⟨some 7,.pure (.build [.bool false,.bool false,.str [],.int .i64 0,.bool false] []),[],none⟩,
 ⟨some 8,.pure (.eqF [.bool,.bool,.str,.int,.bool] false),[.t 6,.t 7],none⟩,
 xM 2 8])
 .ret)
 .skip))
 (.seq (.ops [xF 1 9 1,
 xL 3 10 9,
 xK 11 79 [.t 10],
 xM 2 11])
 .ret))) }
/-- datakit/datakitref02.size -/
def ac643:AFn:=
 { nt:=69,res:=[.tmp 4],body:=
 (.seq (.ops [xB 3 2 0,
 xB 3 3 1,
 xC 4 (.int .i64 0)])
 (.seq (.seq (.ops [xF 1 8 2,
 xR 9 8,
 ⟨some 10,.pure (.bin .eql),[.t 9,.c (.str [])],none⟩,
 xM 11 10,
 yF 1 12 3 11 false,
 yR 13 12 11 false,
 ⟨some 14,.pure (.bin .eql),[.t 13,.c (.str [])],some (11,false)⟩,
 xP 15 .pick [.t 11,.c (.bool true),.t 14]])
 (.cond (.t 15)
 (.seq (.ops [xF 1 16 2,
 xR 17 16,
 xF 1 18 3,
 xR 19 18,
 xK 20 647 [.t 17,.t 19],
 xM 4 20])
 .ret)
 .skip))
 (.seq (.ops [xF 1 21 2,
 xR 22 21,
 xP 23 .lenS [.t 22],
 xF 2 24 2,
 xR 25 24,
 xP 26 (.bin .add) [.t 23,.t 25],
 xF 1 27 3,
 xR 28 27,
 xP 29 .lenS [.t 28],
 xF 2 30 3,
 xR 31 30,
 xP 32 (.bin .add) [.t 29,.t 31],
 xM 5 26,
 xM 6 32])
 (.seq (.seq (.ops [xM 33 5,
 xM 34 6,
 xP 35 (.bin .lss) [.t 33,.t 34]])
 (.cond (.t 35)
 (.seq (.ops [xC 4 (.int .i64 (-1))])
 .ret)
 .skip))
 (.seq (.seq (.ops [xM 36 5,
 xM 37 6,
 xP 38 (.bin .gtr) [.t 36,.t 37]])
 (.cond (.t 38)
 (.seq (.ops [xC 4 (.int .i64 1)])
 .ret)
 .skip))
 (.seq (.ops [xF 1 39 2,
 xR 40 39,
 xP 41 .lenS [.t 40],
 xM 7 41])
 (.seq (.seq (.ops [xF 1 42 3,
 xR 43 42,
 xP 44 .lenS [.t 43],
 xM 45 7,
 xP 46 (.bin .gtr) [.t 44,.t 45]])
 (.cond (.t 46)
 (.ops [xF 1 47 3,
 xR 48 47,
 xP 49 .lenS [.t 48],
 xM 7 49])
 .skip))
 (.seq (.ops [xF 1 50 2,
 xR 51 50,
 xM 52 7,
 xF 1 53 2,
 xR 54 53,
 xP 55 .lenS [.t 54],
 xP 56 (.bin .sub) [.t 52,.t 55],
 xK 57 40 [.t 56],
 xP 58 (.bin .add) [.t 51,.t 57],
 xF 1 59 3,
 xR 60 59,
 xM 61 7,
 xF 1 62 3,
 xR 63 62,
 xP 64 .lenS [.t 63],
 xP 65 (.bin .sub) [.t 61,.t 64],
 xK 66 40 [.t 65],
 xP 67 (.bin .add) [.t 60,.t 66],
 xK 68 647 [.t 58,.t 67],
 xM 4 68])
 .ret)))))))) }
/-- datakit/datakitref01.Cmp -/
def ac647:AFn:=
 { nt:=25,res:=[.tmp 4],body:=
 (.seq (.ops [xC 4 (.int .i64 0)])
 (.seq (.seq (.ops [xM 5 0,
 xP 6 .lenS [.t 5],
 xM 7 1,
 xP 8 .lenS [.t 7],
 xP 9 (.bin .lss) [.t 6,.t 8],
 xM 10 9,
 yM 11 0 10 false,
 yP 12 .lenS [.t 11] 10 false,
 yM 13 1 10 false,
 yP 14 .lenS [.t 13] 10 false,
 yP 15 (.bin .eql) [.t 12,.t 14] 10 false,
 yM 16 15 10 false,
 yM 17 0 16 true,
 yM 18 1 16 true,
 yP 19 (.bin .lss) [.t 17,.t 18] 16 true,
 yP 20 .pick [.t 16,.t 19,.c (.bool false)] 10 false,
 xP 21 .pick [.t 10,.c (.bool true),.t 20]])
 (.cond (.t 21)
 (.seq (.ops [xC 4 (.int .i64 (-1))])
 .ret)
 .skip))
 (.seq (.seq (.ops [xM 22 0,
 xM 23 1,
 xP 24 (.bin .eql) [.t 22,.t 23]])
 (.cond (.t 24)
 (.seq (.ops [xC 4 (.int .i64 0)])
 .ret)
 .skip))
 (.seq (.ops [xC 4 (.int .i64 1)])
 .ret)))) }
/-- datakit/datakitlaw18.NumsetNots -/
def ac665:AFn:=
 { nt:=80,res:=[.tmp 4],body:=
 (.seq (.ops [xB 1 2 0,
 xB 3 3 1,
 xC 4 (.bool false)])
 (.seq (.seq (.ops [xF 0 7 2,
 xR 8 7,
 xP 9 .lenL [.t 8],
 xP 10 (.bin .gtr) [.t 9,.c (.int .i64 300)]])
 (.cond (.t 10)
 (.seq (.ops [xK 11 671 [],
 xM 4 11])
 .ret)
 .skip))
 (.seq (.ops [xL 1 13 2,
 xK 14 672 [.t 13],
 xM 12 14,
 xP 15 (.ext 0) [.t 12],
 xP 16 (.ext 1) [.t 12],
 ⟨some 5,.new (.new 1 [.agg [.snil 11]]),[],none⟩,
 xS 1 5 15,
 xM 6 16])
 (.seq (.seq (.ops [xL 1 17 2,
 xK 18 600 [.t 17],
 xP 19 (.un .not) [.t 18]])
 (.cond (.t 19)
 (.seq (.ops [xM 20 6,
 xP 21 (.bin .eql) [.t 20,.c (.int .i64 1)],
 xM 22 21,
 yF 0 23 5 22 true,
 yR 24 23 22 true,
 yP 25 .lenL [.t 24] 22 true,
 yP 26 (.bin .eql) [.t 25,.c (.int .i64 0)] 22 true,
 xP 27 .pick [.t 22,.t 26,.c (.bool false)],
 xM 28 27,
 yK 29 671 [] 28 true,
 xP 30 .pick [.t 28,.t 29,.c (.bool false)],
 xM 4 30])
 .ret)
 .skip))
 (.seq (.seq (.ops [xM 31 6,
 xP 32 (.bin .neq) [.t 31,.c (.int .i64 0)]])
 (.cond (.t 32)
 (.seq (.ops [xM 33 6,
 xP 34 (.bin .eql) [.t 33,.c (.int .i64 32)],
 xM 35 34,
 yF 0 36 2 35 true,
 yR 37 36 35 true,
 yP 38 .lenL [.t 37] 35 true,
 yP 39 (.bin .gtr) [.t 38,.c (.int .i64 127)] 35 true,
 xP 40 .pick [.t 35,.t 39,.c (.bool false)],
 xM 41 40,
 yF 0 42 5 41 true,
 yR 43 42 41 true,
 yP 44 .lenL [.t 43] 41 true,
 yP 45 (.bin .eql) [.t 44,.c (.int .i64 0)] 41 true,
 xP 46 .pick [.t 41,.t 45,.c (.bool false)],
 xM 47 46,
 yK 48 671 [] 47 true,
 xP 49 .pick [.t 47,.t 48,.c (.bool false)],
 xM 4 49])
 .ret)
 .skip))
 (.seq (.ops [xL 1 50 5,
 xK 51 600 [.t 50],
 xM 52 51,
 yF 0 53 5 52 true,
 yR 54 53 52 true,
 yP 55 .lenL [.t 54] 52 true,
 yF 0 56 2 52 true,
 yR 57 56 52 true,
 yP 58 .lenL [.t 57] 52 true,
 yP 59 (.bin .mul) [.c (.int .i64 2),.t 58] 52 true,
 yP 60 (.bin .add) [.t 59,.c (.int .i64 2)] 52 true,
 yP 61 (.bin .leq) [.t 55,.t 60] 52 true,
 xP 62 .pick [.t 52,.t 61,.c (.bool false)],
 xM 63 62,
 yL 3 64 3 63 true,
 yK 65 79 [.t 64] 63 true,
 yP 66 (.un .not) [.t 65] 63 true,
 yM 67 66 63 true,
 yL 1 68 5 67 false,
 yL 3 69 3 67 false,
 yK 70 585 [.t 68,.t 69] 67 false,
 yL 1 71 2 67 false,
 yL 3 72 3 67 false,
 yK 73 585 [.t 71,.t 72] 67 false,
 yP 74 (.eqB true) [.t 70,.t 73] 67 false,
 yP 75 .pick [.t 67,.c (.bool true),.t 74] 63 true,
 xP 76 .pick [.t 63,.t 75,.c (.bool false)],
 xM 77 76,
 yK 78 671 [] 77 true,
 xP 79 .pick [.t 77,.t 78,.c (.bool false)],
 xM 4 79])
 .ret)))))) }
/-- datakit/datakitlaw18.NumsetCombines -/
def ac667:AFn:=
 { nt:=174,res:=[.tmp 6],body:=
 (.seq (.ops [xB 1 3 0,
 xB 1 4 1,
 xB 3 5 2,
 xC 6 (.bool false)])
 (.seq (.seq (.ops [xF 0 13 3,
 xR 14 13,
 xP 15 .lenL [.t 14],
 xP 16 (.bin .gtr) [.t 15,.c (.int .i64 300)],
 xM 17 16,
 yF 0 18 4 17 false,
 yR 19 18 17 false,
 yP 20 .lenL [.t 19] 17 false,
 yP 21 (.bin .gtr) [.t 20,.c (.int .i64 300)] 17 false,
 xP 22 .pick [.t 17,.c (.bool true),.t 21]])
 (.cond (.t 22)
 (.seq (.ops [xK 23 671 [],
 xM 6 23])
 .ret)
 .skip))
 (.seq (.ops [xL 1 25 3,
 xL 1 26 4,
 xK 27 675 [.t 25,.t 26],
 xM 24 27,
 xP 28 (.ext 0) [.t 24],
 xP 29 (.ext 1) [.t 24],
 ⟨some 7,.new (.new 1 [.agg [.snil 11]]),[],none⟩,
 xS 1 7 28,
 xM 8 29])
 (.seq (.ops [xL 1 31 3,
 xL 1 32 4,
 xK 33 676 [.t 31,.t 32],
 xM 30 33,
 xP 34 (.ext 0) [.t 30],
 xP 35 (.ext 1) [.t 30],
 ⟨some 9,.new (.new 1 [.agg [.snil 11]]),[],none⟩,
 xS 1 9 34,
 xM 10 35])
 (.seq (.seq (.ops [xL 1 36 3,
 xK 37 600 [.t 36],
 xP 38 (.un .not) [.t 37],
 xM 39 38,
 yL 1 40 4 39 false,
 yK 41 600 [.t 40] 39 false,
 yP 42 (.un .not) [.t 41] 39 false,
 xP 43 .pick [.t 39,.c (.bool true),.t 42]])
 (.cond (.t 43)
 (.seq (.ops [xM 44 8,
 xP 45 (.bin .eql) [.t 44,.c (.int .i64 1)],
 xM 46 45,
 yM 47 10 46 true,
 yP 48 (.bin .eql) [.t 47,.c (.int .i64 1)] 46 true,
 xP 49 .pick [.t 46,.t 48,.c (.bool false)],
 xM 50 49,
 yF 0 51 7 50 true,
 yR 52 51 50 true,
 yP 53 .lenL [.t 52] 50 true,
 yP 54 (.bin .eql) [.t 53,.c (.int .i64 0)] 50 true,
 xP 55 .pick [.t 50,.t 54,.c (.bool false)],
 xM 56 55,
 yF 0 57 9 56 true,
 yR 58 57 56 true,
 yP 59 .lenL [.t 58] 56 true,
 yP 60 (.bin .eql) [.t 59,.c (.int .i64 0)] 56 true,
 xP 61 .pick [.t 56,.t 60,.c (.bool false)],
 xM 62 61,
 yK 63 671 [] 62 true,
 xP 64 .pick [.t 62,.t 63,.c (.bool false)],
 xM 6 64])
 .ret)
 .skip))
 (.seq (.ops [xF 0 65 3,
 xR 66 65,
 xP 67 .lenL [.t 66],
 xF 0 68 4,
 xR 69 68,
 xP 70 .lenL [.t 69],
 xP 71 (.bin .add) [.t 67,.t 70],
 xP 72 (.bin .gtr) [.t 71,.c (.int .i64 127)],
 xM 11 72])
 (.seq (.seq (.ops [xM 73 8,
 xP 74 (.bin .neq) [.t 73,.c (.int .i64 0)],
 xM 75 74,
 yM 76 8 75 true,
 yP 77 (.bin .neq) [.t 76,.c (.int .i64 32)] 75 true,
 yM 78 77 75 true,
 yM 79 11 78 false,
 yP 80 (.un .not) [.t 79] 78 false,
 yP 81 .pick [.t 78,.c (.bool true),.t 80] 75 true,
 yM 82 81 75 true,
 yF 0 83 7 82 false,
 yR 84 83 82 false,
 yP 85 .lenL [.t 84] 82 false,
 yP 86 (.bin .gtr) [.t 85,.c (.int .i64 0)] 82 false,
 yP 87 .pick [.t 82,.c (.bool true),.t 86] 75 true,
 xP 88 .pick [.t 75,.t 87,.c (.bool false)],
 xM 89 88,
 yM 90 10 89 false,
 yP 91 (.bin .neq) [.t 90,.c (.int .i64 0)] 89 false,
 yM 92 91 89 false,
 yM 93 10 92 true,
 yP 94 (.bin .neq) [.t 93,.c (.int .i64 32)] 92 true,
 yM 95 94 92 true,
 yM 96 11 95 false,
 yP 97 (.un .not) [.t 96] 95 false,
 yP 98 .pick [.t 95,.c (.bool true),.t 97] 92 true,
 yM 99 98 92 true,
 yF 0 100 9 99 false,
 yR 101 100 99 false,
 yP 102 .lenL [.t 101] 99 false,
 yP 103 (.bin .gtr) [.t 102,.c (.int .i64 0)] 99 false,
 yP 104 .pick [.t 99,.c (.bool true),.t 103] 92 true,
 yP 105 .pick [.t 92,.t 104,.c (.bool false)] 89 false,
 xP 106 .pick [.t 89,.c (.bool true),.t 105]])
 (.cond (.t 106)
 (.seq (.ops [xC 6 (.bool false)])
 .ret)
 .skip))
 (.seq (.ops [xF 0 107 3,
 xR 108 107,
 xP 109 .lenL [.t 108],
 xF 0 110 4,
 xR 111 110,
 xP 112 .lenL [.t 111],
 xP 113 (.bin .add) [.t 109,.t 112],
 ⟨some 114,.pure (.bin .mul),[.c (.int .i64 2),.t 113],none⟩,
 xP 115 (.bin .add) [.t 114,.c (.int .i64 2)],
 xM 12 115])
 (.seq (.seq (.ops [xM 116 8,
 xP 117 (.bin .eql) [.t 116,.c (.int .i64 0)],
 xM 118 117,
 yL 1 119 7 118 true,
 yK 120 600 [.t 119] 118 true,
 yP 121 (.un .not) [.t 120] 118 true,
 yM 122 121 118 true,
 yF 0 123 7 122 false,
 yR 124 123 122 false,
 yP 125 .lenL [.t 124] 122 false,
 yM 126 12 122 false,
 yP 127 (.bin .gtr) [.t 125,.t 126] 122 false,
 yP 128 .pick [.t 122,.c (.bool true),.t 127] 118 true,
 yM 129 128 118 true,
 yL 1 130 7 129 false,
 yL 3 131 5 129 false,
 yK 132 585 [.t 130,.t 131] 129 false,
 yL 1 133 3 129 false,
 yL 3 134 5 129 false,
 yK 135 585 [.t 133,.t 134] 129 false,
 yM 136 135 129 false,
 yL 1 137 4 136 true,
 yL 3 138 5 136 true,
 yK 139 585 [.t 137,.t 138] 136 true,
 yP 140 .pick [.t 136,.t 139,.c (.bool false)] 129 false,
 yP 141 (.eqB true) [.t 132,.t 140] 129 false,
 yP 142 .pick [.t 129,.c (.bool true),.t 141] 118 true,
 xP 143 .pick [.t 118,.t 142,.c (.bool false)]])
 (.cond (.t 143)
 (.seq (.ops [xC 6 (.bool false)])
 .ret)
 .skip))
 (.seq (.ops [xM 144 10,
 xP 145 (.bin .neq) [.t 144,.c (.int .i64 0)],
 xM 146 145,
 yL 1 147 9 146 false,
 yK 148 600 [.t 147] 146 false,
 yM 149 148 146 false,
 yF 0 150 9 149 true,
 yR 151 150 149 true,
 yP 152 .lenL [.t 151] 149 true,
 yM 153 12 149 true,
 yP 154 (.bin .leq) [.t 152,.t 153] 149 true,
 yP 155 .pick [.t 149,.t 154,.c (.bool false)] 146 false,
 yM 156 155 146 false,
 yL 1 157 9 156 true,
 yL 3 158 5 156 true,
 yK 159 585 [.t 157,.t 158] 156 true,
 yL 1 160 3 156 true,
 yL 3 161 5 156 true,
 yK 162 585 [.t 160,.t 161] 156 true,
 yM 163 162 156 true,
 yL 1 164 4 163 false,
 yL 3 165 5 163 false,
 yK 166 585 [.t 164,.t 165] 163 false,
 yP 167 .pick [.t 163,.c (.bool true),.t 166] 156 true,
 yP 168 (.eqB false) [.t 159,.t 167] 156 true,
 yP 169 .pick [.t 156,.t 168,.c (.bool false)] 146 false,
 xP 170 .pick [.t 146,.c (.bool true),.t 169],
 xM 171 170,
 yK 172 671 [] 171 true,
 xP 173 .pick [.t 171,.t 172,.c (.bool false)],
 xM 6 173])
 .ret)))))))))) }
/-- datakit/numset.Not -/
def ac672:AFn:=
 { nt:=9,res:=[.cell 2 (some 1),.tmp 3],body:=
 (.seq (.ops [xB 1 1 0,
 ⟨some 2,.new (.new 1 [.agg [.snil 11]]),[],none⟩,
 xC 3 (.int .i64 0)])
 (.seq (.ops [xL 1 4 1,
 ⟨some 5,.new (.buildSlice 1 [.agg [.snil 11]] [0]),[.t 4],none⟩,
 ⟨some 6,.pcall 690,[.c (.fn 691 []),.t 5],none⟩,
 xP 7 (.ext 0) [.t 6],
 xP 8 (.ext 1) [.t 6],
 xS 1 2 7,
 xM 3 8])
 .ret)) }
/-- datakit/numset.And -/
def ac675:AFn:=
 { nt:=12,res:=[.cell 4 (some 1),.tmp 5],body:=
 (.seq (.ops [xB 1 2 0,
 xB 1 3 1,
 ⟨some 4,.new (.new 1 [.agg [.snil 11]]),[],none⟩,
 xC 5 (.int .i64 0)])
 (.seq (.ops [xL 1 6 2,
 xL 1 7 3,
 ⟨some 8,.new (.buildSlice 1 [.agg [.snil 11],.agg [.snil 11]] [0,1]),[.t 6,.t 7],none⟩,
 ⟨some 9,.pcall 690,[.c (.fn 693 []),.t 8],none⟩,
 xP 10 (.ext 0) [.t 9],
 xP 11 (.ext 1) [.t 9],
 xS 1 4 10,
 xM 5 11])
 .ret)) }
/-- datakit/numset.Or -/
def ac676:AFn:=
 { nt:=12,res:=[.cell 4 (some 1),.tmp 5],body:=
 (.seq (.ops [xB 1 2 0,
 xB 1 3 1,
 ⟨some 4,.new (.new 1 [.agg [.snil 11]]),[],none⟩,
 xC 5 (.int .i64 0)])
 (.seq (.ops [xL 1 6 2,
 xL 1 7 3,
 ⟨some 8,.new (.buildSlice 1 [.agg [.snil 11],.agg [.snil 11]] [0,1]),[.t 6,.t 7],none⟩,
 ⟨some 9,.pcall 690,[.c (.fn 694 []),.t 8],none⟩,
 xP 10 (.ext 0) [.t 9],
 xP 11 (.ext 1) [.t 9],
 xS 1 4 10,
 xM 5 11])
 .ret)) }
/-- datakit/numset.combined -/
def ac690:AFn:=
 { nt:=29,res:=[.cell 4 (some 1),.tmp 5],body:=
 (.seq (.ops [⟨some 4,.new (.new 1 [.agg [.snil 11]]),[],none⟩,
 xC 5 (.int .i64 0)])
 (.seq (.seq (.ops [xM 9 1,
 xP 10 .lenL [.t 9],
 xC 11 (.int .i64 0)])
 (.block 0
 (.loop [0,1,4,9,10,11]
 (.seq (.ops [xP 12 (.bin .lss) [.t 11,.t 10]])
 (.seq (.cond (.t 12)
 .skip
 (.exit 0))
 (.seq (.block 1
 (.seq (.ops [xI 1 13 9 11,
 xL 1 14 13,
 ⟨some 7,.new (.new 1 [.agg [.snil 11]]),[],none⟩,
 xS 1 7 14])
 (.seq (.ops [xL 1 15 7,
 xK 16 229 [.t 15],
 xP 17 (.un .not) [.t 16]])
 (.cond (.t 17)
 (.seq (.ops [⟨some 18,.pure (.build [.snil 11] []),[],none⟩,
 xS 1 4 18,
 xC 5 (.int .i64 1)])
 .ret)
 .skip))))
 (.ops [xP 19 (.bin .add) [.t 11,.c (.int .i64 1)],
 xM 11 19])))))))
 (.seq (.ops [xM 20 0,
 xM 21 1,
 xK 22 695 [.t 20,.t 21],
 xM 8 22])
 (.seq (.seq (.ops [xM 23 8,
 xP 24 .lenL [.t 23],
 xP 25 (.bin .gtr) [.t 24,.c (.int .i64 256)]])
 (.cond (.t 25)
 (.seq (.ops [⟨some 26,.pure (.build [.snil 11] []),[],none⟩,
 xS 1 4 26,
 xC 5 (.int .i64 32)])
 .ret)
 .skip))
 (.seq (.ops [xM 27 8,
 ⟨some 28,.pure (.build [.snil 11] [(0,1)]),[.t 27],none⟩,
 xS 1 4 28,
 xC 5 (.int .i64 0)])
 .ret))))) }
/-- datakit/numset.Not$1 -/
def ac691:AFn:=
 { nt:=7,res:=[.tmp 2],body:=
 (.seq (.ops [xC 2 (.bool false)])
 (.seq (.ops [xM 3 0,
 xP 4 (.iaddrS 1) [.t 3,.c (.int .i64 0)],
 xR 5 4,
 xP 6 (.un .not) [.t 5],
 xM 2 6])
 .ret)) }
/-- datakit/numset.And$1 -/
def ac693:AFn:=
 { nt:=11,res:=[.tmp 2],body:=
 (.seq (.ops [xC 2 (.bool false)])
 (.seq (.ops [xM 3 0,
 xP 4 (.iaddrS 1) [.t 3,.c (.int .i64 0)],
 xR 5 4,
 xM 6 5,
 yM 7 0 6 true,
 yP 8 (.iaddrS 1) [.t 7,.c (.int .i64 1)] 6 true,
 yR 9 8 6 true,
 xP 10 .pick [.t 6,.t 9,.c (.bool false)],
 xM 2 10])
 .ret)) }
/-- datakit/numset.Or$1 -/
def ac694:AFn:=
 { nt:=11,res:=[.tmp 2],body:=
 (.seq (.ops [xC 2 (.bool false)])
 (.seq (.ops [xM 3 0,
 xP 4 (.iaddrS 1) [.t 3,.c (.int .i64 0)],
 xR 5 4,
 xM 6 5,
 yM 7 0 6 false,
 yP 8 (.iaddrS 1) [.t 7,.c (.int .i64 1)] 6 false,
 yR 9 8 6 false,
 xP 10 .pick [.t 6,.c (.bool true),.t 9],
 xM 2 10])
 .ret)) }
/-- datakit/numset.combine -/
def ac695:AFn:=
 { nt:=81,res:=[.tmp 4],body:=
 (.seq (.ops [xB 1 2 0,
 xB 1 3 1,
 xC 4 (.snil 11)])
 (.seq (.ops [xR 16 3,
 xP 17 .lenL [.t 16],
 ⟨some 18,.new (.mkSlice 1 1 (.bool false)),[.t 17,.t 17],none⟩,
 ⟨some 5,.new (.new 1 [.snil 1]),[],none⟩,
 xS 1 5 18])
 (.seq (.ops [xP 19 (.mkfn 701) [.t 3,.t 5,.t 2],
 xM 6 19])
 (.seq (.ops [⟨some 7,.new (.new 1 [.snil 12]),[],none⟩])
 (.seq (.ops [xP 20 (.mkfn 703) [.t 7],
 xM 8 20])
 (.seq (.ops [xR 21 3,
 xK 22 704 [.t 21],
 xM 9 22])
 (.seq (.seq (.ops [xC 10 (.int .i64 1)])
 (.block 0
 (.loop [6,7,8,9,10]
 (.seq (.seq (.ops [xM 23 10,
 xM 24 9,
 xP 25 .lenL [.t 24],
 xP 26 (.bin .lss) [.t 23,.t 25]])
 (.cond (.t 26)
 .skip
 (.exit 0)))
 (.seq (.block 1
 (drawPS 0 [xM 29 8,
 xM 30 9,
 xM 31 10,
 xP 32 (.bin .sub) [.t 31,.c (.int .i64 1)],
 xI 5 33 30 32,
 xM 35 9,
 xM 36 10,
 xI 5 37 35 36,
 xM 39 6,
 xM 40 9,
 xM 41 10,
 xP 42 (.bin .sub) [.t 41,.c (.int .i64 1)],
 xI 5 43 40 42,
 xL 5 44 43,
 xM 45 9,
 xM 46 10,
 xI 5 47 45 46,
 xL 5 48 47,
 xM 50 6,
 xM 51 9,
 xM 52 10,
 xP 53 (.bin .sub) [.t 52,.c (.int .i64 1)],
 xI 5 54 51 53,
 xM 56 9,
 xM 57 10,
 xI 5 58 56 57]
 [xL 5 34 33,
 xL 5 38 37,
 ⟨some 49,.callv,[.t 39,.t 44,.t 48,.c (.int .i64 1)],none⟩,
 xL 5 55 54,
 xL 5 59 58,
 ⟨some 60,.callv,[.t 50,.t 55,.t 59,.c (.int .i64 2)],none⟩]
 [[0,1,2,3,4,5],[0,1,3,2,4,5],[0,1,3,4,2,5],[0,1,4,2,3,5],[0,1,4,3,2,5],[0,2,3,4,1,5],[0,2,3,4,5,1],[0,3,1,2,4,5],[0,3,1,4,2,5],[0,3,2,4,1,5],[0,3,2,4,5,1],[0,3,4,1,2,5],[0,3,4,2,1,5],[0,3,4,2,5,1],[0,4,1,2,3,5],[0,4,1,3,2,5],[0,4,2,3,1,5],[0,4,2,3,5,1],[0,4,3,1,2,5],[0,4,3,2,1,5],[0,4,3,2,5,1],[1,0,2,3,4,5],[1,0,3,2,4,5],[1,0,3,4,2,5],[1,0,4,2,3,5],[1,0,4,3,2,5],[1,2,3,4,0,5],[1,2,3,4,5,0],[1,3,0,2,4,5],[1,3,0,4,2,5],[1,3,2,4,0,5],[1,3,2,4,5,0],[1,3,4,0,2,5],[1,3,4,2,0,5],[1,3,4,2,5,0],[1,4,0,2,3,5],[1,4,0,3,2,5],[1,4,2,3,0,5],[1,4,2,3,5,0],[1,4,3,0,2,5],[1,4,3,2,0,5],[1,4,3,2,5,0],[2,3,4,0,1,5],[2,3,4,0,5,1],[2,3,4,1,0,5],[2,3,4,1,5,0],[2,3,4,5,0,1],[3,0,1,2,4,5],[3,0,1,4,2,5],[3,0,2,4,1,5],[3,0,2,4,5,1],[3,0,4,1,2,5],[3,0,4,2,1,5],[3,0,4,2,5,1],[3,1,0,2,4,5],[3,1,0,4,2,5],[3,1,2,4,0,5],[3,1,2,4,5,0],[3,1,4,0,2,5],[3,1,4,2,0,5],[3,1,4,2,5,0],[3,2,4,0,1,5],[3,2,4,0,5,1],[3,2,4,1,0,5],[3,2,4,1,5,0],[3,2,4,5,0,1],[3,4,0,1,2,5],[3,4,0,2,1,5],[3,4,0,2,5,1],[3,4,1,0,2,5],[3,4,1,2,0,5],[3,4,1,2,5,0],[3,4,2,0,1,5],[3,4,2,0,5,1],[3,4,2,1,0,5],[3,4,2,1,5,0],[3,4,2,5,0,1],[4,0,1,2,3,5],[4,0,1,3,2,5],[4,0,2,3,1,5],[4,0,2,3,5,1],[4,0,3,1,2,5],[4,0,3,2,1,5],[4,0,3,2,5,1],[4,1,0,2,3,5],[4,1,0,3,2,5],[4,1,2,3,0,5],[4,1,2,3,5,0],[4,1,3,0,2,5],[4,1,3,2,0,5],[4,1,3,2,5,0],[4,2,3,0,1,5],[4,2,3,0,5,1],[4,2,3,1,0,5],[4,2,3,1,5,0],[4,2,3,5,0,1],[4,3,0,1,2,5],[4,3,0,2,1,5],[4,3,0,2,5,1],[4,3,1,0,2,5],[4,3,1,2,0,5],[4,3,1,2,5,0],[4,3,2,0,1,5],[4,3,2,0,5,1],[4,3,2,1,0,5],[4,3,2,1,5,0],[4,3,2,5,0,1]]
 [⟨some 61,.pure (.build [.int .i64 0,.bool false,.str [],.int .i64 0,.bool false,.int .i64 0,.bool false,.str [],.int .i64 0,.bool false,.bool false,.bool false] [(0,5),(5,5),(10,1),(11,1)]),[.t 34,.t 38,.t 49,.t 60],none⟩,
 ⟨some 62,.callv,[.t 29,.t 61],none⟩]))
 (.ops [xM 27 10,
 xP 28 (.bin .add) [.t 27,.c (.int .i64 1)],
 xM 10 28]))))))
 (.seq (.ops [xC 11 (.snil 11)])
 (.seq (.seq (.ops [xR 63 7,
 xP 64 .lenL [.t 63],
 xC 65 (.int .i64 0)])
 (.block 2
 (.loop [11,63,64,65]
 (.seq (.ops [xP 66 (.bin .lss) [.t 65,.t 64]])
 (.seq (.cond (.t 66)
 .skip
 (.exit 2))
 (.seq (.block 3
 (.seq (.ops [xI 12 67 63 65,
 xL 12 68 67,
 ⟨some 13,.new (.new 12 [.agg [.int .i64 0,.bool false,.str [],.int .i64 0,.bool false,.int .i64 0,.bool false,.str [],.int .i64 0,.bool false,.bool false,.bool false]]),[],none⟩,
 xS 12 13 68])
 (.seq (.ops [xL 12 70 13,
 xK 71 705 [.t 70],
 xM 69 71,
 xP 72 (.ext 0) [.t 69],
 xP 73 (.ext 1) [.t 69],
 xN 14 11 z0,
 xS 11 14 72,
 xM 15 73])
 (.seq (.ops [xM 74 15])
 (.cond (.t 74)
 (.ops [xM 75 11,
 xL 11 76 14,
 ⟨some 77,.new (.buildSlice 11 [z0] [0]),[.t 76],none⟩,
 ⟨some 78,.eff (.append 11 104),[.t 75,.t 77],none⟩,
 xM 11 78])
 .skip)))))
 (.ops [xP 79 (.bin .add) [.t 65,.c (.int .i64 1)],
 xM 65 79])))))))
 (.seq (.ops [xM 80 11,
 xM 4 80])
 .ret)))))))))) }
/-- datakit/numset.combine$1 -/
def ac701:AFn:=
 { nt:=31,res:=[.tmp 9],body:=
 (.seq (.ops [xB 5 6 0,
 xB 5 7 1,
 xC 9 (.bool false)])
 (.seq (.seq (.ops [xR 12 3,
 xP 13 .lenL [.t 12],
 xC 14 (.int .i64 0)])
 (.block 0
 (.loop [2,4,5,6,7,12,13,14]
 (.seq (.ops [xP 15 (.bin .lss) [.t 14,.t 13]])
 (.seq (.cond (.t 15)
 .skip
 (.exit 0))
 (.seq (.block 1
 (.seq (.ops [xM 16 14,
 xI 1 17 12 14,
 xL 1 18 17,
 ⟨some 11,.new (.new 1 [.agg [.snil 11]]),[],none⟩,
 xM 10 16,
 xS 1 11 18])
 (.ops [xR 19 4,
 xM 20 10,
 xL 1 21 11,
 xL 5 22 6,
 xL 5 23 7,
 xM 24 2,
 xK 25 702 [.t 21,.t 22,.t 23,.t 24],
 xI 1 26 19 20,
 xS 1 26 25])))
 (.ops [xP 27 (.bin .add) [.t 14,.c (.int .i64 1)],
 xM 14 27])))))))
 (.seq (.ops [xR 28 5,
 xR 29 4,
 ⟨some 30,.callv,[.t 28,.t 29],none⟩,
 xM 9 30])
 .ret))) }
/-- datakit/numset.covers -/
def ac702:AFn:=
 { nt:=44,res:=[.tmp 8],body:=
 (.seq (.ops [xB 1 4 0,
 xB 5 5 1,
 xB 5 6 2,
 xC 8 (.bool false)])
 (.seq (.seq (.ops [xF 0 11 4,
 xR 12 11,
 xP 13 .lenL [.t 12],
 xC 14 (.int .i64 0)])
 (.block 0
 (.loop [3,5,6,12,13,14]
 (.seq (.ops [xP 15 (.bin .lss) [.t 14,.t 13]])
 (.seq (.cond (.t 15)
 .skip
 (.exit 0))
 (.seq (.block 1
 (.seq (.ops [xI 11 16 12 14,
 xL 11 17 16,
 xN 10 11 z0,
 xS 11 10 17])
 (.seq (.ops [xF 10 18 10,
 xR 19 18,
 xP 20 (.bin .eql) [.t 19,.c (.int .i64 0)],
 xM 21 20,
 yF 10 22 10 21 false,
 yR 23 22 21 false,
 yM 24 3 21 false,
 yP 25 (.bin .eql) [.t 23,.t 24] 21 false,
 xP 26 .pick [.t 21,.c (.bool true),.t 25],
 xM 27 26,
 yF 0 28 10 27 true,
 yL 5 29 28 27 true,
 yK 30 711 [.t 29] 27 true,
 yL 5 31 5 27 true,
 yK 32 710 [.t 30,.t 31] 27 true,
 yP 33 (.bin .leq) [.t 32,.c (.int .i64 0)] 27 true,
 xP 34 .pick [.t 27,.t 33,.c (.bool false)],
 xM 35 34,
 yL 5 36 6 35 true,
 yF 5 37 10 35 true,
 yL 5 38 37 35 true,
 yK 39 712 [.t 38] 35 true,
 yK 40 710 [.t 36,.t 39] 35 true,
 yP 41 (.bin .leq) [.t 40,.c (.int .i64 0)] 35 true,
 xP 42 .pick [.t 35,.t 41,.c (.bool false)]])
 (.cond (.t 42)
 (.seq (.ops [xC 8 (.bool true)])
 .ret)
 .skip))))
 (.ops [xP 43 (.bin .add) [.t 14,.c (.int .i64 1)],
 xM 14 43])))))))
 (.seq (.ops [xC 8 (.bool false)])
 .ret))) }
/-- datakit/numset.combine$2 -/
def ac703:AFn:=
 { nt:=41,res:=[],body:=
 (.seq (.ops [xB 12 2 0])
 (.seq (.seq (.ops [xR 4 1,
 xP 5 .lenL [.t 4],
 xM 3 5])
 (.seq (.ops [xM 6 3,
 xP 7 (.bin .gtr) [.t 6,.c (.int .i64 0)],
 xM 8 7,
 yR 9 1 8 true,
 yM 10 3 8 true,
 yP 11 (.bin .sub) [.t 10,.c (.int .i64 1)] 8 true,
 yP 12 (.iaddrS 12) [.t 9,.t 11] 8 true,
 yF 10 13 12 8 true,
 yR 14 13 8 true,
 yF 10 15 2 8 true,
 yR 16 15 8 true,
 yP 17 (.eqB false) [.t 14,.t 16] 8 true,
 xP 18 .pick [.t 8,.t 17,.c (.bool false)],
 xM 19 18,
 yR 20 1 19 true,
 yM 21 3 19 true,
 yP 22 (.bin .sub) [.t 21,.c (.int .i64 1)] 19 true,
 yP 23 (.iaddrS 12) [.t 20,.t 22] 19 true,
 yF 11 24 23 19 true,
 yR 25 24 19 true,
 yF 11 26 2 19 true,
 yR 27 26 19 true,
 yP 28 (.eqB false) [.t 25,.t 27] 19 true,
 xP 29 .pick [.t 19,.t 28,.c (.bool false)]])
 (.cond (.t 29)
 (.seq (.ops [xR 30 1,
 xM 31 3,
 xP 32 (.bin .sub) [.t 31,.c (.int .i64 1)],
 xF 5 33 2,
 xL 5 34 33,
 xI 12 35 30 32,
 xF 5 36 35,
 xS 5 36 34])
 .ret)
 .skip)))
 (.ops [xR 37 1,
 xL 12 38 2,
 ⟨some 39,.new (.buildSlice 12 [.agg [.int .i64 0,.bool false,.str [],.int .i64 0,.bool false,.int .i64 0,.bool false,.str [],.int .i64 0,.bool false,.bool false,.bool false]] [0]),[.t 38],none⟩,
 ⟨some 40,.eff (.append 12 104),[.t 37,.t 39],none⟩,
 xS 1 1 40]))) }
/-- datakit/numset.cuts -/
def ac704:AFn:=
 { nt:=39,res:=[.tmp 2],body:=
 (.seq (.ops [xC 2 (.snil 5)])
 (.seq (.ops [⟨some 8,.pure (.build [.int .i64 0,.bool false,.str [],.int .i64 0,.bool false] [(0,1)]),[.c (.int .i64 (-1))],none⟩,
 ⟨some 9,.pure (.build [.int .i64 0,.bool false,.str [],.int .i64 0,.bool false] [(0,1)]),[.c (.int .i64 1)],none⟩,
 ⟨some 10,.new (.buildSlice 5 [.agg [.int .i64 0,.bool false,.str [],.int .i64 0,.bool false],.agg [.int .i64 0,.bool false,.str [],.int .i64 0,.bool false]] [0,1]),[.t 8,.t 9],none⟩,
 xM 3 10])
 (.seq (.seq (.ops [xM 11 0,
 xP 12 .lenL [.t 11],
 xC 13 (.int .i64 0)])
 (.block 0
 (.loop [3,11,12,13]
 (.seq (.ops [xP 14 (.bin .lss) [.t 13,.t 12]])
 (.seq (.cond (.t 14)
 .skip
 (.exit 0))
 (.seq (.block 1
 (.seq (.ops [xI 1 15 11 13,
 xL 1 16 15,
 ⟨some 5,.new (.new 1 [.agg [.snil 11]]),[],none⟩,
 xS 1 5 16])
 (.seq (.ops [xF 0 17 5,
 xR 18 17,
 xP 19 .lenL [.t 18],
 xC 20 (.int .i64 0)])
 (.block 2
 (.loop [3,11,12,13,18,19,20]
 (.seq (.ops [xP 21 (.bin .lss) [.t 20,.t 19]])
 (.seq (.cond (.t 21)
 .skip
 (.exit 2))
 (.seq (.block 3
 (.seq (.ops [xI 11 22 18 20,
 xL 11 23 22,
 xN 7 11 z0,
 xS 11 7 23])
 (.draw 1 [[xM 24 3,
 xF 0 25 7,
 xL 5 26 25,
 xK 27 711 [.t 26],
 xF 5 28 7,
 xL 5 29 28,
 xK 30 712 [.t 29],
 ⟨some 31,.newAt 0 (.buildSlice 5 [.agg [.int .i64 0,.bool false,.str [],.int .i64 0,.bool false],.agg [.int .i64 0,.bool false,.str [],.int .i64 0,.bool false]] [0,1]),[.t 27,.t 30],none⟩,
 ⟨some 32,.eff (.append 5 48),[.t 24,.t 31],none⟩,
 xM 3 32]])))
 (.ops [xP 33 (.bin .add) [.t 20,.c (.int .i64 1)],
 xM 20 33])))))))))
 (.ops [xP 34 (.bin .add) [.t 13,.c (.int .i64 1)],
 xM 13 34])))))))
 (.seq (.ops [xM 35 3,
 ⟨some 36,.call 713,[.t 35,.c (.fn 710 [])],none⟩])
 (.seq (.ops [xM 37 3,
 ⟨some 38,.call 714,[.t 37,.c (.fn 715 [])],none⟩,
 xM 2 38])
 .ret))))) }
/-- (datakit/numset.region).part -/
def ac705:AFn:=
 { nt:=47,res:=[.cell 2 (some 11),.tmp 3],body:=
 (.seq (.ops [xB 12 1 0,
 xN 2 11 z0,
 xC 3 (.bool false)])
 (.seq (.ops [xN 4 11 z0])
 (.seq (.block 0
 (.seq (.ops [xF 10 7 1,
 xR 8 7,
 xM 9 8,
 yF 11 10 1 9 true,
 yR 11 10 9 true,
 xP 12 .pick [.t 9,.t 11,.c (.bool false)],
 xM 6 12])
 (.cond (.t 6)
 .skip
 (.seq (.ops [xF 10 14 1,
 xR 15 14,
 xM 13 15])
 (.cond (.t 13)
 (.ops [xF 10 16 4,
 ⟨none,.eff (.store 1),[.t 16,.c (.int .i64 1)],none⟩])
 (.seq (.ops [xF 11 18 1,
 xR 19 18,
 xM 17 19])
 (.cond (.t 17)
 (.ops [xF 10 20 4,
 ⟨none,.eff (.store 1),[.t 20,.c (.int .i64 2)],none⟩])
 (.seq (.ops [xL 11 5 4,
 xS 11 2 5,
 xC 3 (.bool false)])
 .ret))))))))
 (.seq (.seq (.ops [xF 0 21 1,
 xF 0 22 21,
 xR 23 22,
 xP 24 (.bin .eql) [.t 23,.c (.int .i64 0)]])
 (.cond (.t 24)
 (.ops [xF 0 25 1,
 xF 1 26 25,
 xL 3 27 26,
 xF 0 28 1,
 xF 4 29 28,
 xR 30 29,
 ⟨some 31,.pure (.build [.bool false,.bool false,.str [],.int .i64 0,.bool false] [(0,1),(1,3),(4,1)]),[.c (.bool true),.t 27,.t 30],none⟩,
 xF 0 32 4,
 xS 5 32 31])
 .skip))
 (.seq (.seq (.ops [xF 5 33 1,
 xF 0 34 33,
 xR 35 34,
 xP 36 (.bin .eql) [.t 35,.c (.int .i64 0)]])
 (.cond (.t 36)
 (.ops [xF 5 37 1,
 xF 1 38 37,
 xL 3 39 38,
 xF 5 40 1,
 xF 4 41 40,
 xR 42 41,
 xP 43 (.un .not) [.t 42],
 ⟨some 44,.pure (.build [.bool false,.bool false,.str [],.int .i64 0,.bool false] [(0,1),(1,3),(4,1)]),[.c (.bool true),.t 39,.t 43],none⟩,
 xF 5 45 4,
 xS 5 45 44])
 .skip))
 (.seq (.ops [xL 11 46 4,
 xS 11 2 46,
 xC 3 (.bool true)])
 .ret)))))) }
/-- datakit/numset.compare -/
def ac710:AFn:=
 { nt:=33,res:=[.tmp 4],body:=
 (.seq (.ops [xB 5 2 0,
 xB 5 3 1,
 xC 4 (.int .i64 0)])
 (.seq (.seq (.ops [xF 0 6 2,
 xR 7 6,
 xF 0 8 3,
 xR 9 8,
 xP 10 (.bin .neq) [.t 7,.t 9]])
 (.cond (.t 10)
 (.seq (.ops [xF 0 11 2,
 xR 12 11,
 xF 0 13 3,
 xR 14 13,
 xP 15 (.bin .sub) [.t 12,.t 14],
 xM 4 15])
 .ret)
 .skip))
 (.seq (.seq (.ops [xF 1 16 2,
 xL 3 17 16,
 xF 1 18 3,
 xL 3 19 18,
 xK 20 263 [.t 17,.t 19],
 xM 5 20])
 (.seq (.ops [xM 21 5,
 xP 22 (.bin .neq) [.t 21,.c (.int .i64 0)],
 xM 23 22,
 yF 4 24 2 23 false,
 yR 25 24 23 false,
 yF 4 26 3 23 false,
 yR 27 26 23 false,
 yP 28 (.eqB false) [.t 25,.t 27] 23 false,
 xP 29 .pick [.t 23,.c (.bool true),.t 28]])
 (.cond (.t 29)
 (.seq (.ops [xM 30 5,
 xM 4 30])
 .ret)
 .skip)))
 (.seq (.seq (.ops [xF 4 31 3,
 xR 32 31])
 (.cond (.t 32)
 (.seq (.ops [xC 4 (.int .i64 (-1))])
 .ret)
 .skip))
 (.seq (.ops [xC 4 (.int .i64 1)])
 .ret))))) }
/-- datakit/numset.lower -/
def ac711:AFn:=
 { nt:=12,res:=[.cell 2 (some 5)],body:=
 (.seq (.ops [xB 5 1 0,
 ⟨some 2,.new (.new 5 [.agg [.int .i64 0,.bool false,.str [],.int .i64 0,.bool false]]),[],none⟩])
 (.seq (.seq (.ops [xF 0 3 1,
 xR 4 3,
 xP 5 (.un .not) [.t 4]])
 (.cond (.t 5)
 (.seq (.ops [⟨some 6,.pure (.build [.int .i64 0,.bool false,.str [],.int .i64 0,.bool false] [(0,1)]),[.c (.int .i64 (-1))],none⟩,
 xS 5 2 6])
 .ret)
 .skip))
 (.seq (.ops [xF 1 7 1,
 xL 3 8 7,
 xF 4 9 1,
 xR 10 9,
 ⟨some 11,.pure (.build [.int .i64 0,.bool false,.str [],.int .i64 0,.bool false] [(1,3),(4,1)]),[.t 8,.t 10],none⟩,
 xS 5 2 11])
 .ret))) }
/-- datakit/numset.upper -/
def ac712:AFn:=
 { nt:=13,res:=[.cell 2 (some 5)],body:=
 (.seq (.ops [xB 5 1 0,
 ⟨some 2,.new (.new 5 [.agg [.int .i64 0,.bool false,.str [],.int .i64 0,.bool false]]),[],none⟩])
 (.seq (.seq (.ops [xF 0 3 1,
 xR 4 3,
 xP 5 (.un .not) [.t 4]])
 (.cond (.t 5)
 (.seq (.ops [⟨some 6,.pure (.build [.int .i64 0,.bool false,.str [],.int .i64 0,.bool false] [(0,1)]),[.c (.int .i64 1)],none⟩,
 xS 5 2 6])
 .ret)
 .skip))
 (.seq (.ops [xF 1 7 1,
 xL 3 8 7,
 xF 4 9 1,
 xR 10 9,
 xP 11 (.un .not) [.t 10],
 ⟨some 12,.pure (.build [.int .i64 0,.bool false,.str [],.int .i64 0,.bool false] [(1,3),(4,1)]),[.t 8,.t 11],none⟩,
 xS 5 2 12])
 .ret))) }
/-- slices.CompactFunc[[]datakit/numset.cut,datakit/numset.cut] -/
def ac714:AFn:=
 { nt:=66,res:=[.tmp 4],body:=
 (.seq (.ops [xC 4 (.snil 5)])
 (.seq (.seq (.ops [xM 8 0,
 xP 9 .lenL [.t 8],
 xP 10 (.bin .lss) [.t 9,.c (.int .i64 2)]])
 (.cond (.t 10)
 (.seq (.ops [xM 11 0,
 xM 4 11])
 .ret)
 .skip))
 (.seq (.seq (.ops [xC 5 (.int .i64 1)])
 (.block 0
 (.loop [0,1,5]
 (.seq (.seq (.ops [xM 12 5,
 xM 13 0,
 xP 14 .lenL [.t 13],
 xP 15 (.bin .lss) [.t 12,.t 14]])
 (.cond (.t 15)
 .skip
 (.exit 0)))
 (.seq (.block 1
 (.seq (.ops [xM 18 1,
 xM 19 0,
 xM 20 5,
 xI 5 21 19 20,
 xL 5 22 21,
 xM 23 0,
 xM 24 5,
 xP 25 (.bin .sub) [.t 24,.c (.int .i64 1)],
 xI 5 26 23 25,
 xL 5 27 26,
 ⟨some 28,.callv,[.t 18,.t 22,.t 27],none⟩])
 (.cond (.t 28)
 (.seq (.ops [xM 29 0,
 xM 30 5,
 xP 31 (.sliceL 5 true false false) [.t 29,.t 30],
 xM 6 31])
 (.seq (.seq (.ops [xC 7 (.int .i64 1)])
 (.block 2
 (.loop [0,1,5,6,7]
 (.seq (.seq (.ops [xM 32 7,
 xM 33 6,
 xP 34 .lenL [.t 33],
 xP 35 (.bin .lss) [.t 32,.t 34]])
 (.cond (.t 35)
 .skip
 (.exit 2)))
 (.seq (.block 3
 (.seq (.ops [xM 38 1,
 xM 39 6,
 xM 40 7,
 xI 5 41 39 40,
 xL 5 42 41,
 xM 43 6,
 xM 44 7,
 xP 45 (.bin .sub) [.t 44,.c (.int .i64 1)],
 xI 5 46 43 45,
 xL 5 47 46,
 ⟨some 48,.callv,[.t 38,.t 42,.t 47],none⟩,
 xP 49 (.un .not) [.t 48]])
 (.cond (.t 49)
 (.seq (.ops [xM 50 0,
 xM 51 5,
 xM 52 6,
 xM 53 7,
 xI 5 54 52 53,
 xL 5 55 54,
 xI 5 56 50 51,
 xS 5 56 55])
 (.ops [xM 57 5,
 xP 58 (.bin .add) [.t 57,.c (.int .i64 1)],
 xM 5 58]))
 .skip)))
 (.ops [xM 36 7,
 xP 37 (.bin .add) [.t 36,.c (.int .i64 1)],
 xM 7 37]))))))
 (.seq (.ops [xM 59 0,
 xM 60 5,
 xP 61 (.sliceL 5 true false false) [.t 59,.t 60],
 ⟨none,.eff (.clearS (.agg [.int .i64 0,.bool false,.str [],.int .i64 0,.bool false])),[.t 61],none⟩])
 (.seq (.ops [xM 62 0,
 xM 63 5,
 xP 64 (.sliceL 5 false true false) [.t 62,.t 63],
 xM 4 64])
 .ret))))
 .skip)))
 (.ops [xM 16 5,
 xP 17 (.bin .add) [.t 16,.c (.int .i64 1)],
 xM 5 17]))))))
 (.seq (.ops [xM 65 0,
 xM 4 65])
 .ret)))) }
/-- datakit/numset.cuts$1 -/
def ac715:AFn:=
 { nt:=9,res:=[.tmp 4],body:=
 (.seq (.ops [xB 5 2 0,
 xB 5 3 1,
 xC 4 (.bool false)])
 (.seq (.ops [xL 5 5 2,
 xL 5 6 3,
 xK 7 710 [.t 5,.t 6],
 xP 8 (.bin .eql) [.t 7,.c (.int .i64 0)],
 xM 4 8])
 .ret)) }
def codeN1:Nat→Option AFn
 | 229=>some ac229
 | 250=>some ac250
 | 257=>some ac257
 | 262=>some ac262
 | 263=>some ac263
 | 273=>some ac273
 | 285=>some ac285
 | 286=>some ac286
 | 585=>some ac585
 | 600=>some ac600
 | 618=>some ac618
 | 625=>some ac625
 | 634=>some ac634
 | 635=>some ac635
 | 638=>some ac638
 | 643=>some ac643
 | 647=>some ac647
 | 665=>some ac665
 | 667=>some ac667
 | 672=>some ac672
 | 675=>some ac675
 | 676=>some ac676
 | 690=>some ac690
 | 691=>some ac691
 | 693=>some ac693
 | 694=>some ac694
 | 695=>some ac695
 | 701=>some ac701
 | 702=>some ac702
 | 703=>some ac703
 | 704=>some ac704
 | 705=>some ac705
 | 710=>some ac710
 | 711=>some ac711
 | 712=>some ac712
 | 714=>some ac714
 | 715=>some ac715
 | _=>none
def codeN (f:Nat):Option AFn:=match code f with
 | some a=>some a
 | none=>codeN1 f
def clRN:Nat→Option (Nat × Nat)
 | _=>none
def clPN:Nat→Option (Nat × Nat)
 | _=>none
def ppN:Nat→Option (List AV→Option AV)
 | 291=>some repF
 | 272=>some cmpF
 | 671=>some awkF
 | _=>none
def CN:Ctx:=funCtx (mkCtx codeN clRN clPN) ppN
end Ago
