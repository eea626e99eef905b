/- The abstract code of the functions,printed by program. -/
import Derived.Test.YtkibapblgbdhmaaGreatDoorCodeZ
import Derived.Test.YtkibapblgbdhmaaGreatDoorMachH
set_option linter.unusedSimpArgs false
set_option linter.unusedVariables false
set_option maxRecDepth 100000
namespace Ago
/-- datakit/datakitref07.Text -/
def qla:AFn:=
 { nt:=5,res:=[.cell 2 (some 13)],body:=
 (.seq (.ops [xN 2 13 z1])
 (.seq (.ops [xM 3 0,
 ⟨some 4,.pure (.build [.int .i64 0,.bool false,.bool false,.str [],.int .i64 0,.int .i64 0,.int .i64 0,.int .i64 0,.int .i64 0,.str [],.snil 1,.snil 13,.snil 14] [(0,1),(9,1)]),[.c (.int .i64 4),.t 3],none⟩,
 xS 13 2 4])
 .ret)) }
/-- datakit/numset.Valid -/
def qg3:AFn:=
 { nt:=20,res:=[.tmp 2],body:=
 (.seq (.ops [xB 1 1 0,
 xC 2 (.bool false)])
 (.seq (.seq (.ops [xF 0 5 1,
 xR 6 5,
 xP 7 .lenL [.t 6],
 xP 8 (.bin .gtr) [.t 7,.c (.int .i64 256)]])
 (.cond (.t 8)
 (.seq (.ops [xC 2 (.bool false)])
 .ret)
 .skip))
 (.seq (.seq (.ops [xF 0 9 1,
 xR 10 9,
 xP 11 .lenL [.t 10],
 xC 12 (.int .i64 0)])
 (.block 0
 (.loop [10,11,12]
 (.seq (.ops [xP 13 (.bin .lss) [.t 12,.t 11]])
 (.seq (.cond (.t 13)
 .skip
 (.exit 0))
 (.seq (.block 1
 (.seq (.ops [xI 11 14 10 12,
 xL 11 15 14,
 xN 4 11 z2,
 xS 11 4 15])
 (.seq (.ops [xL 11 16 4,
 xK 17 250 [.t 16],
 xP 18 (.un .not) [.t 17]])
 (.cond (.t 18)
 (.seq (.ops [xC 2 (.bool false)])
 .ret)
 .skip))))
 (.ops [xP 19 (.bin .add) [.t 12,.c (.int .i64 1)],
 xM 12 19])))))))
 (.seq (.ops [xC 2 (.bool true)])
 .ret)))) }
/-- datakit/numset.validPart -/
def qcF:AFn:=
 { nt:=21,res:=[.tmp 2],body:=
 (.seq (.ops [xB 11 1 0,
 xC 2 (.bool false)])
 (.seq (.ops [xF 0 3 1,
 xL 5 4 3,
 xK 5 262 [.t 4],
 xM 6 5,
 yF 5 7 1 6 true,
 yL 5 8 7 6 true,
 yK 9 262 [.t 8] 6 true,
 xP 10 .pick [.t 6,.t 9,.c (.bool false)],
 xM 11 10,
 yF 10 12 1 11 true,
 yR 13 12 11 true,
 yP 14 (.bin .geq) [.t 13,.c (.int .i64 0)] 11 true,
 xP 15 .pick [.t 11,.t 14,.c (.bool false)],
 xM 16 15,
 yF 10 17 1 16 true,
 yR 18 17 16 true,
 yP 19 (.bin .leq) [.t 18,.c (.int .i64 2)] 16 true,
 xP 20 .pick [.t 16,.t 19,.c (.bool false)],
 xM 2 20])
 .ret)) }
/-- strings.Compare -/
def qhd:AFn:=
 { nt:=8,res:=[.tmp 4],body:=
 (.seq (.ops [xC 4 (.int .i64 0)])
 (.seq (.ops [xM 5 0,
 xM 6 1,
 xK 7 272 [.t 5,.t 6],
 xM 4 7])
 .ret)) }
/-- datakit/numset.validBound -/
def qfy:AFn:=
 { nt:=12,res:=[.tmp 2],body:=
 (.seq (.ops [xB 5 1 0,
 xC 2 (.bool false)])
 (.seq (.seq (.ops [xF 0 3 1,
 xR 4 3,
 xP 5 (.un .not) [.t 4]])
 (.cond (.t 5)
 (.seq (.ops [xL 5 6 1,
 ⟨some 7,.pure (.build [.bool false,.bool false,.str [],.int .i64 0,.bool false] []),[],none⟩,
 ⟨some 8,.pure (.eqF [.bool,.bool,.str,.int,.bool] false),[.t 6,.t 7],none⟩,
 xM 2 8])
 .ret)
 .skip))
 (.seq (.ops [xF 1 9 1,
 xL 3 10 9,
 xK 11 140 [.t 10],
 xM 2 11])
 .ret))) }
/-- datakit/decimal.Cmp -/
def qbl:AFn:=
 { nt:=24,res:=[.tmp 4],body:=
 (.seq (.ops [xB 3 2 0,
 xB 3 3 1,
 xC 4 (.int .i64 0)])
 (.seq (.block 0
 (.seq (.ops [xF 0 6 2,
 xR 7 6,
 xM 8 7,
 yF 0 9 3 8 true,
 yR 10 9 8 true,
 xP 11 .pick [.t 8,.t 10,.c (.bool false)],
 xM 5 11])
 (.cond (.t 5)
 (.seq (.ops [xL 3 12 3,
 xL 3 13 2,
 xK 14 273 [.t 12,.t 13],
 xM 4 14])
 .ret)
 (.seq (.ops [xF 0 16 2,
 xR 17 16,
 xM 15 17])
 (.cond (.t 15)
 (.seq (.ops [xC 4 (.int .i64 (-1))])
 .ret)
 (.seq (.ops [xF 0 19 3,
 xR 20 19,
 xM 18 20])
 (.cond (.t 18)
 (.seq (.ops [xC 4 (.int .i64 1)])
 .ret)
 .skip)))))))
 (.seq (.ops [xL 3 21 2,
 xL 3 22 3,
 xK 23 273 [.t 21,.t 22],
 xM 4 23])
 .ret))) }
/-- datakit/decimal.Whole -/
def qhc:AFn:=
 { nt:=6,res:=[.tmp 2],body:=
 (.seq (.ops [xB 3 1 0,
 xC 2 (.bool false)])
 (.seq (.ops [xF 2 3 1,
 xR 4 3,
 xP 5 (.bin .geq) [.t 4,.c (.int .i64 0)],
 xM 2 5])
 .ret)) }
/-- datakit/decimal.size -/
def qgn:AFn:=
 { nt:=18,res:=[.tmp 4],body:=
 (.seq (.ops [xB 3 2 0,
 xB 3 3 1,
 xC 4 (.int .i64 0)])
 (.seq (.ops [xL 3 9 2,
 xL 3 10 3,
 xK 11 285 [.t 9,.t 10],
 xM 8 11,
 xP 12 (.ext 0) [.t 8],
 xP 13 (.ext 1) [.t 8],
 xP 14 (.ext 2) [.t 8],
 xM 5 12,
 xM 6 13,
 xM 7 14])
 (.seq (.ops [xM 15 5,
 xM 16 6,
 xK 17 286 [.t 15,.t 16],
 xM 4 17])
 .ret))) }
/-- datakit/decimal.align -/
def q7v:AFn:=
 { nt:=52,res:=[.tmp 4,.tmp 5,.tmp 6],body:=
 (.seq (.ops [xB 3 2 0,
 xB 3 3 1,
 xC 4 (.str []),
 xC 5 (.str []),
 xC 6 (.int .i64 0)])
 (.seq (.seq (.ops [xL 3 8 2,
 xK 9 140 [.t 8],
 xP 10 (.un .not) [.t 9],
 xM 11 10,
 yL 3 12 3 11 false,
 yK 13 140 [.t 12] 11 false,
 yP 14 (.un .not) [.t 13] 11 false,
 xP 15 .pick [.t 11,.c (.bool true),.t 14]])
 (.cond (.t 15)
 (.seq (.ops [xC 4 (.str []),
 xC 5 (.str []),
 xC 6 (.int .i64 0)])
 .ret)
 .skip))
 (.seq (.seq (.ops [xF 1 16 2,
 xR 17 16,
 ⟨some 18,.pure (.bin .eql),[.t 17,.c (.str [])],none⟩])
 (.cond (.t 18)
 (.seq (.ops [xF 1 19 3,
 xR 20 19,
 xF 2 21 3,
 xR 22 21,
 xC 4 (.str []),
 xM 5 20,
 xM 6 22])
 .ret)
 .skip))
 (.seq (.seq (.ops [xF 1 23 3,
 xR 24 23,
 ⟨some 25,.pure (.bin .eql),[.t 24,.c (.str [])],none⟩])
 (.cond (.t 25)
 (.seq (.ops [xF 1 26 2,
 xR 27 26,
 xF 2 28 2,
 xR 29 28,
 xM 4 27,
 xC 5 (.str []),
 xM 6 29])
 .ret)
 .skip))
 (.seq (.ops [xF 2 30 2,
 xR 31 30,
 xF 2 32 3,
 xR 33 32,
 xP 34 (.minmax false) [.t 31,.t 33],
 xM 7 34])
 (.seq (.ops [xF 1 35 2,
 xR 36 35,
 xF 2 37 2,
 xR 38 37,
 xM 39 7,
 xP 40 (.bin .sub) [.t 38,.t 39],
 ⟨some 41,.pcall 291,[.c (.str [48]),.t 40],none⟩,
 xP 42 (.bin .add) [.t 36,.t 41],
 xF 1 43 3,
 xR 44 43,
 xF 2 45 3,
 xR 46 45,
 xM 47 7,
 xP 48 (.bin .sub) [.t 46,.t 47],
 ⟨some 49,.pcall 291,[.c (.str [48]),.t 48],none⟩,
 xP 50 (.bin .add) [.t 44,.t 49],
 xM 51 7,
 xM 4 42,
 xM 5 50,
 xM 6 51])
 .ret)))))) }
/-- datakit/decimal.cmp -/
def qie:AFn:=
 { nt:=18,res:=[.tmp 4],body:=
 (.seq (.ops [xC 4 (.int .i64 0)])
 (.seq (.seq (.ops [xM 5 0,
 xP 6 .lenS [.t 5],
 xM 7 1,
 xP 8 .lenS [.t 7],
 xP 9 (.bin .neq) [.t 6,.t 8]])
 (.cond (.t 9)
 (.seq (.seq (.ops [xM 10 0,
 xP 11 .lenS [.t 10],
 xM 12 1,
 xP 13 .lenS [.t 12],
 xP 14 (.bin .lss) [.t 11,.t 13]])
 (.cond (.t 14)
 (.seq (.ops [xC 4 (.int .i64 (-1))])
 .ret)
 .skip))
 (.seq (.ops [xC 4 (.int .i64 1)])
 .ret))
 .skip))
 (.seq (.ops [xM 15 0,
 xM 16 1,
 xK 17 257 [.t 15,.t 16],
 xM 4 17])
 .ret))) }
/-- datakit/datakitref15.Valid -/
def qgy:AFn:=
 { nt:=10,res:=[.tmp 2],body:=
 (.seq (.ops [xB 6 1 0,
 xC 2 (.bool false)])
 (.seq (.ops [xL 6 3 1,
 xK 4 360 [.t 3,.c (.int .i64 48)],
 xM 5 4,
 yL 6 6 1 5 true,
 yK 7 357 [.t 6] 5 true,
 yP 8 (.bin .leq) [.t 7,.c (.int .i64 512)] 5 true,
 xP 9 .pick [.t 5,.t 8,.c (.bool false)],
 xM 2 9])
 .ret)) }
/-- datakit/datakitref15.Size -/
def qjj:AFn:=
 { nt:=5,res:=[.tmp 2],body:=
 (.seq (.ops [xB 6 1 0,
 xC 2 (.int .i64 0)])
 (.seq (.ops [xL 6 3 1,
 xK 4 376 [.t 3,.c (.int .i64 48)],
 xM 2 4])
 .ret)) }
/-- datakit/regex.Valid -/
def qhz:AFn:=
 { nt:=10,res:=[.tmp 2],body:=
 (.seq (.ops [xB 6 1 0,
 xC 2 (.bool false)])
 (.seq (.ops [xL 6 3 1,
 xK 4 377 [.t 3,.c (.int .i64 48)],
 xM 5 4,
 yL 6 6 1 5 true,
 yK 7 378 [.t 6,.c (.int .i64 48)] 5 true,
 yP 8 (.bin .leq) [.t 7,.c (.int .i64 512)] 5 true,
 xP 9 .pick [.t 5,.t 8,.c (.bool false)],
 xM 2 9])
 .ret)) }
/-- datakit/datakitref15.nodes -/
def qcQ:AFn:=
 { nt:=29,res:=[.tmp 4],body:=
 (.seq (.ops [xB 6 2 0,
 xC 4 (.bool false)])
 (.seq (.seq (.ops [xM 6 1,
 xP 7 (.bin .lss) [.t 6,.c (.int .i64 1)],
 xM 8 7,
 yL 6 9 2 8 false,
 yK 10 384 [.t 9] 8 false,
 yP 11 (.un .not) [.t 10] 8 false,
 xP 12 .pick [.t 8,.c (.bool true),.t 11]])
 (.cond (.t 12)
 (.seq (.ops [xC 4 (.bool false)])
 .ret)
 .skip))
 (.seq (.seq (.ops [xC 5 (.int .i64 0)])
 (.block 0
 (.loop [1,2,5]
 (.seq (.seq (.ops [xM 13 5,
 xF 5 14 2,
 xR 15 14,
 xP 16 .lenL [.t 15],
 xP 17 (.bin .lss) [.t 13,.t 16]])
 (.cond (.t 17)
 .skip
 (.exit 0)))
 (.seq (.block 1
 (.seq (.ops [xF 5 20 2,
 xR 21 20,
 xM 22 5,
 xI 6 23 21 22,
 xL 6 24 23,
 xM 25 1,
 xP 26 (.bin .sub) [.t 25,.c (.int .i64 1)],
 xK 27 360 [.t 24,.t 26],
 xP 28 (.un .not) [.t 27]])
 (.cond (.t 28)
 (.seq (.ops [xC 4 (.bool false)])
 .ret)
 .skip)))
 (.ops [xM 18 5,
 xP 19 (.bin .add) [.t 18,.c (.int .i64 1)],
 xM 5 19]))))))
 (.seq (.ops [xC 4 (.bool true)])
 .ret)))) }
/-- datakit/datakitref15.count -/
def qfG:AFn:=
 { nt:=27,res:=[.tmp 4],body:=
 (.seq (.ops [xB 6 2 0,
 xC 4 (.int .i64 0)])
 (.seq (.seq (.ops [xM 7 1,
 xP 8 (.bin .lss) [.t 7,.c (.int .i64 1)]])
 (.cond (.t 8)
 (.seq (.ops [xC 4 (.int .i64 0)])
 .ret)
 .skip))
 (.seq (.ops [xC 5 (.int .i64 1)])
 (.seq (.seq (.ops [xC 6 (.int .i64 0)])
 (.block 0
 (.loop [1,2,5,6]
 (.seq (.seq (.ops [xM 9 6,
 xF 5 10 2,
 xR 11 10,
 xP 12 .lenL [.t 11],
 xP 13 (.bin .lss) [.t 9,.t 12]])
 (.cond (.t 13)
 .skip
 (.exit 0)))
 (.seq (.block 1
 (.ops [xM 16 5,
 xF 5 17 2,
 xR 18 17,
 xM 19 6,
 xI 6 20 18 19,
 xL 6 21 20,
 xM 22 1,
 xP 23 (.bin .sub) [.t 22,.c (.int .i64 1)],
 xK 24 376 [.t 21,.t 23],
 xP 25 (.bin .add) [.t 16,.t 24],
 xM 5 25]))
 (.ops [xM 14 6,
 xP 15 (.bin .add) [.t 14,.c (.int .i64 1)],
 xM 6 15]))))))
 (.seq (.ops [xM 26 5,
 xM 4 26])
 .ret))))) }
/-- datakit/regex.sound -/
def qdD:AFn:=
 { nt:=27,res:=[.tmp 4],body:=
 (.seq (.ops [xB 6 2 0,
 xC 4 (.bool false)])
 (.seq (.seq (.ops [xM 7 1,
 xP 8 (.bin .lss) [.t 7,.c (.int .i64 1)],
 xM 9 8,
 yL 6 10 2 9 false,
 yK 11 396 [.t 10] 9 false,
 yP 12 (.un .not) [.t 11] 9 false,
 xP 13 .pick [.t 9,.c (.bool true),.t 12]])
 (.cond (.t 13)
 (.seq (.ops [xC 4 (.bool false)])
 .ret)
 .skip))
 (.seq (.seq (.ops [xF 5 14 2,
 xR 15 14,
 xP 16 .lenL [.t 15],
 xC 17 (.int .i64 0)])
 (.block 0
 (.loop [1,15,16,17]
 (.seq (.ops [xP 18 (.bin .lss) [.t 17,.t 16]])
 (.seq (.cond (.t 18)
 .skip
 (.exit 0))
 (.seq (.block 1
 (.seq (.ops [xI 6 19 15 17,
 xL 6 20 19,
 ⟨some 6,.new (.new 6 [.agg [.int .i64 0,.int .i64 0,.int .i64 0,.int .i64 0,.int .i64 0,.snil 6]]),[],none⟩,
 xS 6 6 20])
 (.seq (.ops [xL 6 21 6,
 xM 22 1,
 xP 23 (.bin .sub) [.t 22,.c (.int .i64 1)],
 xK 24 377 [.t 21,.t 23],
 xP 25 (.un .not) [.t 24]])
 (.cond (.t 25)
 (.seq (.ops [xC 4 (.bool false)])
 .ret)
 .skip))))
 (.ops [xP 26 (.bin .add) [.t 17,.c (.int .i64 1)],
 xM 17 26])))))))
 (.seq (.ops [xC 4 (.bool true)])
 .ret)))) }
/-- datakit/regex.size -/
def qfn:AFn:=
 { nt:=25,res:=[.tmp 4],body:=
 (.seq (.ops [xB 6 2 0,
 xC 4 (.int .i64 0)])
 (.seq (.seq (.ops [xM 8 1,
 xP 9 (.bin .lss) [.t 8,.c (.int .i64 1)]])
 (.cond (.t 9)
 (.seq (.ops [xC 4 (.int .i64 0)])
 .ret)
 .skip))
 (.seq (.ops [xC 5 (.int .i64 1)])
 (.seq (.seq (.ops [xF 5 10 2,
 xR 11 10,
 xP 12 .lenL [.t 11],
 xC 13 (.int .i64 0)])
 (.block 0
 (.loop [1,5,11,12,13]
 (.seq (.ops [xP 14 (.bin .lss) [.t 13,.t 12]])
 (.seq (.cond (.t 14)
 .skip
 (.exit 0))
 (.seq (.block 1
 (.seq (.ops [xI 6 15 11 13,
 xL 6 16 15,
 ⟨some 7,.new (.new 6 [.agg [.int .i64 0,.int .i64 0,.int .i64 0,.int .i64 0,.int .i64 0,.snil 6]]),[],none⟩,
 xS 6 7 16])
 (.ops [xM 17 5,
 xL 6 18 7,
 xM 19 1,
 xP 20 (.bin .sub) [.t 19,.c (.int .i64 1)],
 xK 21 378 [.t 18,.t 20],
 xP 22 (.bin .add) [.t 17,.t 21],
 xM 5 22])))
 (.ops [xP 23 (.bin .add) [.t 13,.c (.int .i64 1)],
 xM 13 23])))))))
 (.seq (.ops [xM 24 5,
 xM 4 24])
 .ret))))) }
/-- datakit/datakitref15.node -/
def qk9:AFn:=
 { nt:=156,res:=[.tmp 2],body:=
 (.seq (.ops [xB 6 1 0,
 xC 2 (.bool false)])
 (.seq (.ops [xF 5 4 1,
 xR 5 4,
 xP 6 .lenL [.t 5],
 xM 3 6])
 (.seq (.seq (.ops [xF 0 7 1,
 xR 8 7])
 (.block 0
 (.seq (.seq (.ops [xP 10 (.bin .eql) [.t 8,.c (.int .i64 0)],
 xM 9 10])
 (.cond (.t 9)
 .skip
 (.ops [xP 11 (.bin .eql) [.t 8,.c (.int .i64 1)],
 xM 9 11])))
 (.cond (.t 9)
 (.seq (.ops [xM 12 3,
 xP 13 (.bin .eql) [.t 12,.c (.int .i64 0)],
 xM 14 13,
 yF 1 15 1 14 true,
 yR 16 15 14 true,
 yP 17 (.bin .eql) [.t 16,.c (.int .i64 0)] 14 true,
 xP 18 .pick [.t 14,.t 17,.c (.bool false)],
 xM 19 18,
 yF 2 20 1 19 true,
 yR 21 20 19 true,
 yP 22 (.bin .eql) [.t 21,.c (.int .i64 0)] 19 true,
 xP 23 .pick [.t 19,.t 22,.c (.bool false)],
 xM 24 23,
 yF 3 25 1 24 true,
 yR 26 25 24 true,
 yP 27 (.bin .eql) [.t 26,.c (.int .i64 0)] 24 true,
 xP 28 .pick [.t 24,.t 27,.c (.bool false)],
 xM 29 28,
 yF 4 30 1 29 true,
 yR 31 30 29 true,
 yP 32 (.bin .eql) [.t 31,.c (.int .i64 0)] 29 true,
 xP 33 .pick [.t 29,.t 32,.c (.bool false)],
 xM 2 33])
 .ret)
 (.seq (.ops [xP 35 (.bin .eql) [.t 8,.c (.int .i64 2)],
 xM 34 35])
 (.cond (.t 34)
 (.seq (.ops [xM 36 3,
 xP 37 (.bin .eql) [.t 36,.c (.int .i64 0)],
 xM 38 37,
 yF 1 39 1 38 true,
 yR 40 39 38 true,
 yP 41 (.bin .geq) [.t 40,.c (.int .i64 0)] 38 true,
 xP 42 .pick [.t 38,.t 41,.c (.bool false)],
 xM 43 42,
 yF 1 44 1 43 true,
 yR 45 44 43 true,
 yF 2 46 1 43 true,
 yR 47 46 43 true,
 yP 48 (.bin .leq) [.t 45,.t 47] 43 true,
 xP 49 .pick [.t 43,.t 48,.c (.bool false)],
 xM 50 49,
 yF 2 51 1 50 true,
 yR 52 51 50 true,
 yP 53 (.bin .leq) [.t 52,.c (.int .i64 255)] 50 true,
 xP 54 .pick [.t 50,.t 53,.c (.bool false)],
 xM 55 54,
 yF 3 56 1 55 true,
 yR 57 56 55 true,
 yP 58 (.bin .eql) [.t 57,.c (.int .i64 0)] 55 true,
 xP 59 .pick [.t 55,.t 58,.c (.bool false)],
 xM 60 59,
 yF 4 61 1 60 true,
 yR 62 61 60 true,
 yP 63 (.bin .eql) [.t 62,.c (.int .i64 0)] 60 true,
 xP 64 .pick [.t 60,.t 63,.c (.bool false)],
 xM 2 64])
 .ret)
 (.seq (.seq (.ops [xP 66 (.bin .eql) [.t 8,.c (.int .i64 3)],
 xM 65 66])
 (.cond (.t 65)
 .skip
 (.seq (.ops [xP 67 (.bin .eql) [.t 8,.c (.int .i64 4)],
 xM 65 67])
 (.cond (.t 65)
 .skip
 (.ops [xP 68 (.bin .eql) [.t 8,.c (.int .i64 6)],
 xM 65 68])))))
 (.cond (.t 65)
 (.seq (.ops [xM 69 3,
 xP 70 (.bin .geq) [.t 69,.c (.int .i64 2)],
 xM 71 70,
 yF 1 72 1 71 true,
 yR 73 72 71 true,
 yP 74 (.bin .eql) [.t 73,.c (.int .i64 0)] 71 true,
 xP 75 .pick [.t 71,.t 74,.c (.bool false)],
 xM 76 75,
 yF 2 77 1 76 true,
 yR 78 77 76 true,
 yP 79 (.bin .eql) [.t 78,.c (.int .i64 0)] 76 true,
 xP 80 .pick [.t 76,.t 79,.c (.bool false)],
 xM 81 80,
 yF 3 82 1 81 true,
 yR 83 82 81 true,
 yP 84 (.bin .eql) [.t 83,.c (.int .i64 0)] 81 true,
 xP 85 .pick [.t 81,.t 84,.c (.bool false)],
 xM 86 85,
 yF 4 87 1 86 true,
 yR 88 87 86 true,
 yP 89 (.bin .eql) [.t 88,.c (.int .i64 0)] 86 true,
 xP 90 .pick [.t 86,.t 89,.c (.bool false)],
 xM 2 90])
 .ret)
 (.seq (.ops [xP 92 (.bin .eql) [.t 8,.c (.int .i64 5)],
 xM 91 92])
 (.cond (.t 91)
 (.seq (.ops [xM 93 3,
 xP 94 (.bin .eql) [.t 93,.c (.int .i64 1)],
 xM 95 94,
 yF 1 96 1 95 true,
 yR 97 96 95 true,
 yP 98 (.bin .eql) [.t 97,.c (.int .i64 0)] 95 true,
 xP 99 .pick [.t 95,.t 98,.c (.bool false)],
 xM 100 99,
 yF 2 101 1 100 true,
 yR 102 101 100 true,
 yP 103 (.bin .eql) [.t 102,.c (.int .i64 0)] 100 true,
 xP 104 .pick [.t 100,.t 103,.c (.bool false)],
 xM 105 104,
 yF 3 106 1 105 true,
 yR 107 106 105 true,
 yP 108 (.bin .geq) [.t 107,.c (.int .i64 0)] 105 true,
 xP 109 .pick [.t 105,.t 108,.c (.bool false)],
 xM 110 109,
 yF 3 111 1 110 true,
 yR 112 111 110 true,
 yP 113 (.bin .leq) [.t 112,.c (.int .i64 64)] 110 true,
 xP 114 .pick [.t 110,.t 113,.c (.bool false)],
 xM 115 114,
 yF 4 116 1 115 true,
 yR 117 116 115 true,
 yP 118 (.bin .eql) [.t 117,.c (.int .i64 (-1))] 115 true,
 yM 119 118 115 true,
 yF 4 120 1 119 false,
 yR 121 120 119 false,
 yF 3 122 1 119 false,
 yR 123 122 119 false,
 yP 124 (.bin .geq) [.t 121,.t 123] 119 false,
 yM 125 124 119 false,
 yF 4 126 1 125 true,
 yR 127 126 125 true,
 yP 128 (.bin .leq) [.t 127,.c (.int .i64 64)] 125 true,
 yP 129 .pick [.t 125,.t 128,.c (.bool false)] 119 false,
 yP 130 .pick [.t 119,.c (.bool true),.t 129] 115 true,
 xP 131 .pick [.t 115,.t 130,.c (.bool false)],
 xM 2 131])
 .ret)
 (.seq (.ops [xP 133 (.bin .eql) [.t 8,.c (.int .i64 7)],
 xM 132 133])
 (.cond (.t 132)
 (.seq (.ops [xM 134 3,
 xP 135 (.bin .eql) [.t 134,.c (.int .i64 1)],
 xM 136 135,
 yF 1 137 1 136 true,
 yR 138 137 136 true,
 yP 139 (.bin .eql) [.t 138,.c (.int .i64 0)] 136 true,
 xP 140 .pick [.t 136,.t 139,.c (.bool false)],
 xM 141 140,
 yF 2 142 1 141 true,
 yR 143 142 141 true,
 yP 144 (.bin .eql) [.t 143,.c (.int .i64 0)] 141 true,
 xP 145 .pick [.t 141,.t 144,.c (.bool false)],
 xM 146 145,
 yF 3 147 1 146 true,
 yR 148 147 146 true,
 yP 149 (.bin .eql) [.t 148,.c (.int .i64 0)] 146 true,
 xP 150 .pick [.t 146,.t 149,.c (.bool false)],
 xM 151 150,
 yF 4 152 1 151 true,
 yR 153 152 151 true,
 yP 154 (.bin .eql) [.t 153,.c (.int .i64 0)] 151 true,
 xP 155 .pick [.t 151,.t 154,.c (.bool false)],
 xM 2 155])
 .ret)
 .skip))))))))))))
 (.seq (.ops [xC 2 (.bool false)])
 .ret)))) }
/-- datakit/regex.form -/
def qkC:AFn:=
 { nt:=104,res:=[.tmp 2],body:=
 (.seq (.ops [xB 6 1 0,
 xC 2 (.bool false)])
 (.seq (.ops [xF 5 4 1,
 xR 5 4,
 xP 6 .lenL [.t 5],
 xM 3 6])
 (.seq (.seq (.ops [xF 0 7 1,
 xR 8 7,
 xP 9 (.bin .neq) [.t 8,.c (.int .i64 2)],
 xM 10 9,
 yF 1 11 1 10 true,
 yR 12 11 10 true,
 yP 13 (.bin .neq) [.t 12,.c (.int .i64 0)] 10 true,
 yM 14 13 10 true,
 yF 2 15 1 14 false,
 yR 16 15 14 false,
 yP 17 (.bin .neq) [.t 16,.c (.int .i64 0)] 14 false,
 yP 18 .pick [.t 14,.c (.bool true),.t 17] 10 true,
 xP 19 .pick [.t 10,.t 18,.c (.bool false)],
 xM 20 19,
 yF 0 21 1 20 false,
 yR 22 21 20 false,
 yP 23 (.bin .neq) [.t 22,.c (.int .i64 5)] 20 false,
 yM 24 23 20 false,
 yF 3 25 1 24 true,
 yR 26 25 24 true,
 yP 27 (.bin .neq) [.t 26,.c (.int .i64 0)] 24 true,
 yM 28 27 24 true,
 yF 4 29 1 28 false,
 yR 30 29 28 false,
 yP 31 (.bin .neq) [.t 30,.c (.int .i64 0)] 28 false,
 yP 32 .pick [.t 28,.c (.bool true),.t 31] 24 true,
 yP 33 .pick [.t 24,.t 32,.c (.bool false)] 20 false,
 xP 34 .pick [.t 20,.c (.bool true),.t 33]])
 (.cond (.t 34)
 (.seq (.ops [xC 2 (.bool false)])
 .ret)
 .skip))
 (.seq (.seq (.ops [xF 0 35 1,
 xR 36 35])
 (.block 0
 (.seq (.seq (.ops [xP 38 (.bin .eql) [.t 36,.c (.int .i64 0)],
 xM 37 38])
 (.cond (.t 37)
 .skip
 (.ops [xP 39 (.bin .eql) [.t 36,.c (.int .i64 1)],
 xM 37 39])))
 (.cond (.t 37)
 (.seq (.ops [xM 40 3,
 xP 41 (.bin .eql) [.t 40,.c (.int .i64 0)],
 xM 2 41])
 .ret)
 (.seq (.ops [xP 43 (.bin .eql) [.t 36,.c (.int .i64 2)],
 xM 42 43])
 (.cond (.t 42)
 (.seq (.ops [xM 44 3,
 xP 45 (.bin .eql) [.t 44,.c (.int .i64 0)],
 xM 46 45,
 yF 1 47 1 46 true,
 yR 48 47 46 true,
 yP 49 (.bin .geq) [.t 48,.c (.int .i64 0)] 46 true,
 xP 50 .pick [.t 46,.t 49,.c (.bool false)],
 xM 51 50,
 yF 1 52 1 51 true,
 yR 53 52 51 true,
 yF 2 54 1 51 true,
 yR 55 54 51 true,
 yP 56 (.bin .leq) [.t 53,.t 55] 51 true,
 xP 57 .pick [.t 51,.t 56,.c (.bool false)],
 xM 58 57,
 yF 2 59 1 58 true,
 yR 60 59 58 true,
 yP 61 (.bin .leq) [.t 60,.c (.int .i64 255)] 58 true,
 xP 62 .pick [.t 58,.t 61,.c (.bool false)],
 xM 2 62])
 .ret)
 (.seq (.seq (.ops [xP 64 (.bin .eql) [.t 36,.c (.int .i64 3)],
 xM 63 64])
 (.cond (.t 63)
 .skip
 (.seq (.ops [xP 65 (.bin .eql) [.t 36,.c (.int .i64 4)],
 xM 63 65])
 (.cond (.t 63)
 .skip
 (.ops [xP 66 (.bin .eql) [.t 36,.c (.int .i64 6)],
 xM 63 66])))))
 (.cond (.t 63)
 (.seq (.ops [xM 67 3,
 xP 68 (.bin .geq) [.t 67,.c (.int .i64 2)],
 xM 2 68])
 .ret)
 (.seq (.ops [xP 70 (.bin .eql) [.t 36,.c (.int .i64 7)],
 xM 69 70])
 (.cond (.t 69)
 (.seq (.ops [xM 71 3,
 xP 72 (.bin .eql) [.t 71,.c (.int .i64 1)],
 xM 2 72])
 .ret)
 (.seq (.ops [xP 74 (.bin .eql) [.t 36,.c (.int .i64 5)],
 xM 73 74])
 (.cond (.t 73)
 (.seq (.ops [xM 75 3,
 xP 76 (.bin .eql) [.t 75,.c (.int .i64 1)],
 xM 77 76,
 yF 3 78 1 77 true,
 yR 79 78 77 true,
 yP 80 (.bin .geq) [.t 79,.c (.int .i64 0)] 77 true,
 xP 81 .pick [.t 77,.t 80,.c (.bool false)],
 xM 82 81,
 yF 3 83 1 82 true,
 yR 84 83 82 true,
 yP 85 (.bin .leq) [.t 84,.c (.int .i64 64)] 82 true,
 xP 86 .pick [.t 82,.t 85,.c (.bool false)],
 xM 87 86,
 yF 4 88 1 87 true,
 yR 89 88 87 true,
 yP 90 (.bin .eql) [.t 89,.c (.int .i64 (-1))] 87 true,
 yM 91 90 87 true,
 yF 4 92 1 91 false,
 yR 93 92 91 false,
 yF 3 94 1 91 false,
 yR 95 94 91 false,
 yP 96 (.bin .geq) [.t 93,.t 95] 91 false,
 yM 97 96 91 false,
 yF 4 98 1 97 true,
 yR 99 98 97 true,
 yP 100 (.bin .leq) [.t 99,.c (.int .i64 64)] 97 true,
 yP 101 .pick [.t 97,.t 100,.c (.bool false)] 91 false,
 yP 102 .pick [.t 91,.c (.bool true),.t 101] 87 true,
 xP 103 .pick [.t 87,.t 102,.c (.bool false)],
 xM 2 103])
 .ret)
 .skip))))))))))))
 (.seq (.ops [xC 2 (.bool false)])
 .ret))))) }
/-- datakit/schema.Check -/
def qk0:AFn:=
 { nt:=85,res:=[.tmp 2],body:=
 (.seq (.ops [xB 16 1 0,
 xC 2 (.int .i64 0)])
 (.seq (.ops [⟨some 3,.new (.new 1 [.bool false]),[],none⟩,
 ⟨some 4,.new (.new 1 [.int .i64 0]),[],none⟩,
 ⟨none,.eff (.store 1),[.t 3,.c (.bool false)],none⟩,
 ⟨none,.eff (.store 1),[.t 4,.c (.int .i64 0)],none⟩])
 (.seq (.ops [xP 14 (.mkfn 485) [.t 1,.t 3,.t 4],
 xM 5 14])
 (.seq (.seq (.ops [xF 0 15 1,
 xR 16 15,
 xP 17 .lenL [.t 16],
 xC 18 (.int .i64 0)])
 (.block 0
 (.loop [1,3,4,5,16,17,18]
 (.seq (.ops [xP 19 (.bin .lss) [.t 18,.t 17]])
 (.seq (.cond (.t 19)
 .skip
 (.exit 0))
 (.seq (.block 1
 (.seq (.ops [xM 20 18,
 xI 16 21 16 18,
 xL 16 22 21,
 xN 7 16 z3,
 xM 6 20,
 xS 16 7 22])
 (.seq (.seq (.ops [xF 0 23 7,
 xR 24 23,
 xP 25 .lenS [.t 24],
 xP 26 (.bin .lss) [.t 25,.c (.int .i64 1)],
 xM 27 26,
 yF 0 28 7 27 false,
 yR 29 28 27 false,
 yP 30 .lenS [.t 29] 27 false,
 yP 31 (.bin .gtr) [.t 30,.c (.int .i64 64)] 27 false,
 xP 32 .pick [.t 27,.c (.bool true),.t 31],
 xM 33 32,
 yF 0 34 7 33 false,
 yR 35 34 33 false,
 yK 36 46 [.t 35] 33 false,
 yP 37 (.un .not) [.t 36] 33 false,
 xP 38 .pick [.t 33,.c (.bool true),.t 37]])
 (.cond (.t 38)
 (.seq (.ops [xC 2 (.int .i64 1)])
 .ret)
 .skip))
 (.seq (.seq (.ops [xF 0 39 1,
 xR 40 39,
 xM 41 6,
 xP 42 (.sliceL 16 false true false) [.t 40,.t 41],
 xP 43 .lenL [.t 42],
 xC 44 (.int .i64 0)])
 (.block 2
 (.loop [1,3,4,5,7,16,17,18,42,43,44]
 (.seq (.ops [xP 45 (.bin .lss) [.t 44,.t 43]])
 (.seq (.cond (.t 45)
 .skip
 (.exit 2))
 (.seq (.block 3
 (.seq (.ops [xI 16 46 42 44,
 xL 16 47 46,
 xN 9 16 z3,
 xS 16 9 47])
 (.seq (.ops [xF 0 48 9,
 xR 49 48,
 xF 0 50 7,
 xR 51 50,
 xP 52 (.bin .eql) [.t 49,.t 51]])
 (.cond (.t 52)
 (.seq (.ops [xC 2 (.int .i64 8)])
 .ret)
 .skip))))
 (.ops [xP 53 (.bin .add) [.t 44,.c (.int .i64 1)],
 xM 44 53])))))))
 (.seq (.ops [xM 54 5,
 xF 1 55 7,
 xL 15 56 55,
 ⟨some 57,.callv,[.t 54,.t 56],none⟩,
 xM 10 57])
 (.seq (.ops [xM 58 10,
 xP 59 (.bin .neq) [.t 58,.c (.int .i64 0)]])
 (.cond (.t 59)
 (.seq (.ops [xM 60 10,
 xM 2 60])
 .ret)
 .skip)))))))
 (.ops [xP 61 (.bin .add) [.t 18,.c (.int .i64 1)],
 xM 18 61])))))))
 (.seq (.seq (.ops [xM 62 5,
 xF 1 63 1,
 xL 15 64 63,
 ⟨some 65,.callv,[.t 62,.t 64],none⟩,
 xM 11 65])
 (.seq (.ops [xM 66 11,
 xP 67 (.bin .neq) [.t 66,.c (.int .i64 0)]])
 (.cond (.t 67)
 (.seq (.ops [xM 68 11,
 xM 2 68])
 .ret)
 .skip)))
 (.seq (.seq (.ops [xR 69 3])
 (.cond (.t 69)
 (.seq (.ops [xC 2 (.int .i64 9)])
 .ret)
 .skip))
 (.seq (.seq (.ops [xR 70 4,
 xP 71 (.bin .gtr) [.t 70,.c (.int .i64 1024)],
 xM 72 71,
 yF 0 73 1 72 false,
 yR 74 73 72 false,
 yP 75 .lenL [.t 74] 72 false,
 yP 76 (.bin .gtr) [.t 75,.c (.int .i64 64)] 72 false,
 xP 77 .pick [.t 72,.c (.bool true),.t 76]])
 (.cond (.t 77)
 (.seq (.ops [xC 2 (.int .i64 10)])
 .ret)
 .skip))
 (.seq (.seq (.ops [xL 16 79 1,
 xK 80 459 [.t 79],
 xM 78 80,
 xP 81 (.ext 0) [.t 78],
 xP 82 (.ext 1) [.t 78],
 xM 12 81,
 xM 13 82])
 (.seq (.ops [xM 83 13,
 xP 84 (.un .not) [.t 83]])
 (.cond (.t 84)
 (.seq (.ops [xC 2 (.int .i64 23)])
 .ret)
 .skip)))
 (.seq (.ops [xC 2 (.int .i64 0)])
 .ret))))))))) }
/-- datakit/datakitref45.Check -/
def qle:AFn:=
 { nt:=101,res:=[.tmp 2],body:=
 (.seq (.ops [xB 16 1 0,
 xC 2 (.int .i64 0)])
 (.seq (.ops [xF 1 12 1,
 xL 15 13 12,
 xK 14 474 [.t 13],
 xM 3 14])
 (.seq (.ops [xF 1 15 1,
 xL 15 16 15,
 xK 17 487 [.t 16,.c (.int .i64 48)],
 xM 4 17])
 (.seq (.seq (.ops [xC 5 (.int .i64 0)])
 (.block 0
 (.loop [1,3,4,5]
 (.seq (.seq (.ops [xM 18 5,
 xF 0 19 1,
 xR 20 19,
 xP 21 .lenL [.t 20],
 xP 22 (.bin .lss) [.t 18,.t 21]])
 (.cond (.t 22)
 .skip
 (.exit 0)))
 (.seq (.block 1
 (.seq (.ops [xF 0 25 1,
 xR 26 25,
 xM 27 5,
 xI 16 28 26 27,
 xL 16 29 28,
 xN 6 16 z3,
 xS 16 6 29])
 (.seq (.seq (.ops [xF 0 30 6,
 xR 31 30,
 xP 32 .lenS [.t 31],
 xP 33 (.bin .lss) [.t 32,.c (.int .i64 1)],
 xM 34 33,
 yF 0 35 6 34 false,
 yR 36 35 34 false,
 yP 37 .lenS [.t 36] 34 false,
 yP 38 (.bin .gtr) [.t 37,.c (.int .i64 64)] 34 false,
 xP 39 .pick [.t 34,.c (.bool true),.t 38],
 xM 40 39,
 yF 0 41 6 40 false,
 yR 42 41 40 false,
 yK 43 24 [.t 42] 40 false,
 yP 44 (.un .not) [.t 43] 40 false,
 xP 45 .pick [.t 40,.c (.bool true),.t 44]])
 (.cond (.t 45)
 (.seq (.ops [xC 2 (.int .i64 1)])
 .ret)
 .skip))
 (.seq (.seq (.ops [xC 7 (.int .i64 0)])
 (.block 2
 (.loop [1,3,4,5,6,7]
 (.seq (.seq (.ops [xM 46 7,
 xM 47 5,
 xP 48 (.bin .lss) [.t 46,.t 47]])
 (.cond (.t 48)
 .skip
 (.exit 2)))
 (.seq (.block 3
 (.seq (.ops [xF 0 51 1,
 xR 52 51,
 xM 53 7,
 xI 16 54 52 53,
 xF 0 55 54,
 xR 56 55,
 xF 0 57 6,
 xR 58 57,
 xP 59 (.bin .eql) [.t 56,.t 58]])
 (.cond (.t 59)
 (.seq (.ops [xC 2 (.int .i64 8)])
 .ret)
 .skip)))
 (.ops [xM 49 7,
 xP 50 (.bin .add) [.t 49,.c (.int .i64 1)],
 xM 7 50]))))))
 (.seq (.seq (.ops [xL 16 60 1,
 xF 1 61 6,
 xL 15 62 61,
 xK 63 488 [.t 60,.t 62,.c (.int .i64 48)],
 xM 8 63])
 (.seq (.ops [xM 64 8,
 xP 65 (.bin .neq) [.t 64,.c (.int .i64 0)]])
 (.cond (.t 65)
 (.seq (.ops [xM 66 8,
 xM 2 66])
 .ret)
 .skip)))
 (.seq (.ops [xM 67 3,
 xF 1 68 6,
 xL 15 69 68,
 xK 70 474 [.t 69],
 xP 71 (.bin .add) [.t 67,.t 70],
 xM 3 71])
 (.ops [xM 72 4,
 xM 73 72,
 yF 1 74 6 73 false,
 yL 15 75 74 73 false,
 yK 76 487 [.t 75,.c (.int .i64 48)] 73 false,
 xP 77 .pick [.t 73,.c (.bool true),.t 76],
 xM 4 77])))))))
 (.ops [xM 23 5,
 xP 24 (.bin .add) [.t 23,.c (.int .i64 1)],
 xM 5 24]))))))
 (.seq (.seq (.ops [xL 16 78 1,
 xF 1 79 1,
 xL 15 80 79,
 xK 81 488 [.t 78,.t 80,.c (.int .i64 48)],
 xM 9 81])
 (.seq (.ops [xM 82 9,
 xP 83 (.bin .neq) [.t 82,.c (.int .i64 0)]])
 (.cond (.t 83)
 (.seq (.ops [xM 84 9,
 xM 2 84])
 .ret)
 .skip)))
 (.seq (.seq (.ops [xM 85 4])
 (.cond (.t 85)
 (.seq (.ops [xC 2 (.int .i64 9)])
 .ret)
 .skip))
 (.seq (.seq (.ops [xM 86 3,
 xP 87 (.bin .gtr) [.t 86,.c (.int .i64 1024)],
 xM 88 87,
 yF 0 89 1 88 false,
 yR 90 89 88 false,
 yP 91 .lenL [.t 90] 88 false,
 yP 92 (.bin .gtr) [.t 91,.c (.int .i64 64)] 88 false,
 xP 93 .pick [.t 88,.c (.bool true),.t 92]])
 (.cond (.t 93)
 (.seq (.ops [xC 2 (.int .i64 10)])
 .ret)
 .skip))
 (.seq (.seq (.ops [xL 16 95 1,
 xK 96 460 [.t 95],
 xM 94 96,
 xP 97 (.ext 0) [.t 94],
 xP 98 (.ext 1) [.t 94],
 xM 10 97,
 xM 11 98])
 (.seq (.ops [xM 99 11,
 xP 100 (.un .not) [.t 99]])
 (.cond (.t 100)
 (.seq (.ops [xC 2 (.int .i64 23)])
 .ret)
 .skip)))
 (.seq (.ops [xC 2 (.int .i64 0)])
 .ret))))))))) }
/-- datakit/schema.Lookup -/
def qkm:AFn:=
 { nt:=24,res:=[.cell 4 (some 15),.tmp 5],body:=
 (.seq (.ops [xB 16 2 0,
 xN 4 15 z0,
 xC 5 (.bool false)])
 (.seq (.seq (.ops [xF 0 8 2,
 xR 9 8,
 xP 10 .lenL [.t 9],
 xC 11 (.int .i64 0)])
 (.block 0
 (.loop [1,4,9,10,11]
 (.seq (.ops [xP 12 (.bin .lss) [.t 11,.t 10]])
 (.seq (.cond (.t 12)
 .skip
 (.exit 0))
 (.seq (.block 1
 (.seq (.ops [xI 16 13 9 11,
 xL 16 14 13,
 xN 7 16 z3,
 xS 16 7 14])
 (.seq (.ops [xF 0 15 7,
 xR 16 15,
 xM 17 1,
 xP 18 (.bin .eql) [.t 16,.t 17]])
 (.cond (.t 18)
 (.seq (.ops [xF 1 19 7,
 xL 15 20 19,
 xK 21 490 [.t 20],
 xS 15 4 21,
 xC 5 (.bool true)])
 .ret)
 .skip))))
 (.ops [xP 22 (.bin .add) [.t 11,.c (.int .i64 1)],
 xM 11 22])))))))
 (.seq (.ops [⟨some 23,.pure (.build [.int .i64 0,.int .i64 0,.int .i64 0,.int .i64 0,.str [],.snil 11,.int .i64 0,.int .i64 0,.int .i64 0,.int .i64 0,.int .i64 0,.snil 6,.snil 13,.snil 17,.snil 15] []),[],none⟩,
 xS 15 4 23,
 xC 5 (.bool false)])
 .ret))) }
/-- datakit/datakitref45.Lookup -/
def qld:AFn:=
 { nt:=29,res:=[.cell 4 (some 15),.tmp 5],body:=
 (.seq (.ops [xB 16 2 0,
 xN 4 15 z0,
 xC 5 (.bool false)])
 (.seq (.seq (.ops [xC 6 (.int .i64 0)])
 (.block 0
 (.loop [1,2,4,6]
 (.seq (.seq (.ops [xM 7 6,
 xF 0 8 2,
 xR 9 8,
 xP 10 .lenL [.t 9],
 xP 11 (.bin .lss) [.t 7,.t 10]])
 (.cond (.t 11)
 .skip
 (.exit 0)))
 (.seq (.block 1
 (.seq (.ops [xF 0 14 2,
 xR 15 14,
 xM 16 6,
 xI 16 17 15 16,
 xF 0 18 17,
 xR 19 18,
 xM 20 1,
 xP 21 (.bin .eql) [.t 19,.t 20]])
 (.cond (.t 21)
 (.seq (.ops [xF 0 22 2,
 xR 23 22,
 xM 24 6,
 xI 16 25 23 24,
 xF 1 26 25,
 xL 15 27 26,
 xS 15 4 27,
 xC 5 (.bool true)])
 .ret)
 .skip)))
 (.ops [xM 12 6,
 xP 13 (.bin .add) [.t 12,.c (.int .i64 1)],
 xM 6 13]))))))
 (.seq (.ops [⟨some 28,.pure (.build [.int .i64 0,.int .i64 0,.int .i64 0,.int .i64 0,.str [],.snil 11,.int .i64 0,.int .i64 0,.int .i64 0,.int .i64 0,.int .i64 0,.snil 6,.snil 13,.snil 17,.snil 15] []),[],none⟩,
 xS 15 4 28,
 xC 5 (.bool false)])
 .ret))) }
/-- datakit/schema.Guarded -/
def qjC:AFn:=
 { nt:=79,res:=[.tmp 2,.tmp 3],body:=
 (.seq (.ops [xB 16 1 0,
 xC 2 (.str []),
 xC 3 (.bool false)])
 (.seq (.ops [⟨some 14,.new .mkMap,[],none⟩,
 xM 4 14])
 (.seq (.seq (.ops [xF 0 15 1,
 xR 16 15,
 xP 17 .lenL [.t 16],
 xC 18 (.int .i64 0)])
 (.block 0
 (.loop [1,4,16,17,18]
 (.seq (.ops [xP 19 (.bin .lss) [.t 18,.t 17]])
 (.seq (.cond (.t 19)
 .skip
 (.exit 0))
 (.seq (.block 1
 (.seq (.ops [xI 16 20 16 18,
 xL 16 21 20,
 xN 6 16 z3,
 xS 16 6 21])
 (.seq (.ops [xM 23 4,
 xF 0 24 6,
 xR 25 24,
 ⟨some 26,.read (.lookup (.one .str) (.snil 1) true),[.t 23,.t 25],none⟩,
 xM 22 26,
 xP 27 (.ext 0) [.t 22],
 xP 28 (.ext 1) [.t 22],
 xM 7 27,
 xM 8 28])
 (.seq (.ops [xM 29 8,
 xP 30 (.un .not) [.t 29]])
 (.cond (.t 30)
 (.draw 0 [[xM 31 4,
 xF 0 32 6,
 xF 1 34 6,
 xL 15 35 34,
 xR 33 32,
 ⟨some 36,.call 491,[.c (.snil 1),.t 35,.c (.int .i64 48),.c (.bool true)],none⟩,
 ⟨none,.eff (.mapSet (.one .str)),[.t 31,.t 33,.t 36],none⟩],
 [xM 31 4,
 xF 0 32 6,
 xF 1 34 6,
 xL 15 35 34,
 ⟨some 36,.call 491,[.c (.snil 1),.t 35,.c (.int .i64 48),.c (.bool true)],none⟩,
 xR 33 32,
 ⟨none,.eff (.mapSet (.one .str)),[.t 31,.t 33,.t 36],none⟩]])
 .skip)))))
 (.ops [xP 37 (.bin .add) [.t 18,.c (.int .i64 1)],
 xM 18 37])))))))
 (.seq (.seq (.ops [xF 0 38 1,
 xR 39 38,
 xP 40 .lenL [.t 39],
 xC 41 (.int .i64 0)])
 (.block 2
 (.loop [4,39,40,41]
 (.seq (.ops [xP 42 (.bin .lss) [.t 41,.t 40]])
 (.seq (.cond (.t 42)
 .skip
 (.exit 2))
 (.seq (.block 3
 (.seq (.ops [xI 16 43 39 41,
 xL 16 44 43,
 xN 10 16 z3,
 xS 16 10 44])
 (.seq (.ops [xM 45 4,
 xF 0 46 10,
 xR 47 46,
 ⟨some 48,.read (.lookup (.one .str) (.snil 1) false),[.t 45,.t 47],none⟩,
 ⟨some 49,.call 214,[.t 48],none⟩,
 xM 11 49])
 (.seq (.ops [⟨some 50,.new .mkMap,[],none⟩,
 xM 12 50])
 (.block 4
 (.loop [4,10,11,12,39,40,41]
 (.seq (.seq (.ops [xM 51 11,
 xP 52 .lenL [.t 51],
 xP 53 (.bin .gtr) [.t 52,.c (.int .i64 0)]])
 (.cond (.t 53)
 .skip
 (.exit 4)))
 (.block 5
 (.seq (.ops [xM 54 11,
 xP 55 (.iaddrS 1) [.t 54,.c (.int .i64 0)],
 xR 56 55,
 xM 13 56])
 (.seq (.ops [xM 57 11,
 xP 58 (.sliceL 1 true false false) [.t 57,.c (.int .i64 1)],
 xM 11 58])
 (.seq (.seq (.ops [xM 59 13,
 xF 0 60 10,
 xR 61 60,
 xP 62 (.bin .eql) [.t 59,.t 61]])
 (.cond (.t 62)
 (.seq (.ops [xF 0 63 10,
 xR 64 63,
 xM 2 64,
 xC 3 (.bool false)])
 .ret)
 .skip))
 (.seq (.ops [xM 65 12,
 xM 66 13,
 ⟨some 67,.read (.lookup (.one .str) (.int .i64 0) false),[.t 65,.t 66],none⟩,
 xP 68 (.bin .add) [.t 67,.c (.int .i64 1)],
 ⟨none,.eff (.mapSet (.one .str)),[.t 65,.t 66,.t 68],none⟩])
 (.seq (.ops [xM 69 12,
 xM 70 13,
 ⟨some 71,.read (.lookup (.one .str) (.int .i64 0) false),[.t 69,.t 70],none⟩,
 xP 72 (.bin .eql) [.t 71,.c (.int .i64 1)]])
 (.cond (.t 72)
 (.ops [xM 73 11,
 xM 74 4,
 xM 75 13,
 ⟨some 76,.read (.lookup (.one .str) (.snil 1) false),[.t 74,.t 75],none⟩,
 ⟨some 77,.eff (.append 1 16),[.t 73,.t 76],none⟩,
 xM 11 77])
 .skip))))))))))))))
 (.ops [xP 78 (.bin .add) [.t 41,.c (.int .i64 1)],
 xM 41 78])))))))
 (.seq (.ops [xC 2 (.str []),
 xC 3 (.bool true)])
 .ret))))) }
/-- datakit/datakitref45.Guarded -/
def qkB:AFn:=
 { nt:=41,res:=[.tmp 2,.tmp 3],body:=
 (.seq (.ops [xB 16 1 0,
 xC 2 (.str []),
 xC 3 (.bool false)])
 (.seq (.seq (.ops [xC 4 (.int .i64 0)])
 (.block 0
 (.loop [1,4]
 (.seq (.seq (.ops [xM 7 4,
 xF 0 8 1,
 xR 9 8,
 xP 10 .lenL [.t 9],
 xP 11 (.bin .lss) [.t 7,.t 10]])
 (.cond (.t 11)
 .skip
 (.exit 0)))
 (.seq (.block 1
 (.seq (.draw 1 [[xL 16 15 1,
 xF 0 16 1,
 xR 17 16,
 xM 18 4,
 xI 16 19 17 18,
 xF 0 20 19,
 xR 21 20,
 xK 22 458 [.t 15,.t 21],
 xM 14 22,
 xP 23 (.ext 0) [.t 14],
 xP 24 (.ext 1) [.t 14],
 ⟨some 5,.newAt 0 (.new 15 [z0]),[],none⟩,
 xS 15 5 23,
 xM 6 24]])
 (.seq (.ops [xL 16 25 1,
 xL 15 26 5,
 xK 27 493 [.t 25,.t 26],
 xF 0 28 1,
 xR 29 28,
 xM 30 4,
 xI 16 31 29 30,
 xF 0 32 31,
 xR 33 32,
 xK 34 492 [.t 27,.t 33]])
 (.cond (.t 34)
 (.seq (.ops [xF 0 35 1,
 xR 36 35,
 xM 37 4,
 xI 16 38 36 37,
 xF 0 39 38,
 xR 40 39,
 xM 2 40,
 xC 3 (.bool false)])
 .ret)
 .skip))))
 (.ops [xM 12 4,
 xP 13 (.bin .add) [.t 12,.c (.int .i64 1)],
 xM 4 13]))))))
 (.seq (.ops [xC 2 (.str []),
 xC 3 (.bool true)])
 .ret))) }
/-- datakit/datakitref45.Same -/
def qkI:AFn:=
 { nt:=8,res:=[.tmp 4],body:=
 (.seq (.ops [xB 15 2 0,
 xB 15 3 1,
 xC 4 (.bool false)])
 (.seq (.ops [xL 15 5 2,
 xL 15 6 3,
 xK 7 494 [.t 5,.t 6,.c (.int .i64 48)],
 xM 4 7])
 .ret)) }
/-- datakit/datakitlaw46.Brief -/
def qjS:AFn:=
 { nt:=5,res:=[.tmp 2],body:=
 (.seq (.ops [xB 13 1 0,
 xC 2 (.bool false)])
 (.seq (.ops [xL 13 3 1,
 xK 4 501 [.t 3],
 xM 2 4])
 .ret)) }
/-- datakit/datakitref45.Size -/
def ql8:AFn:=
 { nt:=5,res:=[.tmp 2],body:=
 (.seq (.ops [xB 15 1 0,
 xC 2 (.int .i64 0)])
 (.seq (.ops [xL 15 3 1,
 xK 4 507 [.t 3,.c (.int .i64 48)],
 xM 2 4])
 .ret)) }
/-- datakit/schema.Size -/
def ql6:AFn:=
 { nt:=5,res:=[.tmp 2],body:=
 (.seq (.ops [xB 15 1 0,
 xC 2 (.int .i64 0)])
 (.seq (.ops [xL 15 3 1,
 xK 4 509 [.t 3,.c (.int .i64 48)],
 xM 2 4])
 .ret)) }
/-- datakit/schema.Check$1 -/
def qbU:AFn:=
 { nt:=23,res:=[.tmp 5],body:=
 (.seq (.ops [xB 15 4 0,
 xC 5 (.int .i64 0)])
 (.seq (.ops [xL 16 9 1,
 xL 15 10 4,
 xK 11 486 [.t 9,.t 10,.c (.int .i64 1)],
 xM 8 11,
 xP 12 (.ext 0) [.t 8],
 xP 13 (.ext 1) [.t 8],
 xM 6 12,
 xM 7 13])
 (.seq (.ops [xR 14 2,
 xM 15 14,
 yM 16 6 15 false,
 xP 17 .pick [.t 15,.c (.bool true),.t 16],
 xS 1 2 17])
 (.seq (.ops [xR 18 3,
 xL 15 19 4,
 xK 20 481 [.t 19],
 xP 21 (.bin .add) [.t 18,.t 20],
 xS 1 3 21])
 (.seq (.ops [xM 22 7,
 xM 5 22])
 .ret))))) }
/-- datakit/schema.tree -/
def qcL:AFn:=
 { nt:=46,res:=[.tmp 6,.tmp 7],body:=
 (.seq (.ops [xB 16 3 0,
 xB 15 4 1,
 xC 6 (.bool false),
 xC 7 (.int .i64 0)])
 (.seq (.seq (.ops [xM 14 2,
 xP 15 (.bin .gtr) [.t 14,.c (.int .i64 48)]])
 (.cond (.t 15)
 (.seq (.ops [xC 6 (.bool true),
 xC 7 (.int .i64 0)])
 .ret)
 .skip))
 (.seq (.seq (.ops [xL 16 16 3,
 xL 15 17 4,
 xK 18 513 [.t 16,.t 17],
 xM 8 18])
 (.seq (.ops [xM 19 8,
 xP 20 (.bin .neq) [.t 19,.c (.int .i64 0)]])
 (.cond (.t 20)
 (.seq (.ops [xM 21 8,
 xC 6 (.bool false),
 xM 7 21])
 .ret)
 .skip)))
 (.seq (.ops [xC 9 (.bool false)])
 (.seq (.seq (.ops [xL 15 22 4,
 xK 23 514 [.t 22],
 xP 24 .lenL [.t 23],
 xC 25 (.int .i64 0)])
 (.block 0
 (.loop [2,3,9,23,24,25]
 (.seq (.ops [xP 26 (.bin .lss) [.t 25,.t 24]])
 (.seq (.cond (.t 26)
 .skip
 (.exit 0))
 (.seq (.block 1
 (.seq (.ops [xI 15 27 23 25,
 xL 15 28 27,
 xN 11 15 z0,
 xS 15 11 28])
 (.seq (.ops [xL 16 30 3,
 xL 15 31 11,
 xM 32 2,
 xP 33 (.bin .add) [.t 32,.c (.int .i64 1)],
 xK 34 486 [.t 30,.t 31,.t 33],
 xM 29 34,
 xP 35 (.ext 0) [.t 29],
 xP 36 (.ext 1) [.t 29],
 xM 12 35,
 xM 13 36])
 (.seq (.seq (.ops [xM 37 13,
 xP 38 (.bin .neq) [.t 37,.c (.int .i64 0)]])
 (.cond (.t 38)
 (.seq (.ops [xM 39 13,
 xC 6 (.bool false),
 xM 7 39])
 .ret)
 .skip))
 (.ops [xM 40 9,
 xM 41 40,
 yM 42 12 41 false,
 xP 43 .pick [.t 41,.c (.bool true),.t 42],
 xM 9 43])))))
 (.ops [xP 44 (.bin .add) [.t 25,.c (.int .i64 1)],
 xM 25 44])))))))
 (.seq (.ops [xM 45 9,
 xM 6 45,
 xC 7 (.int .i64 0)])
 .ret)))))) }
/-- datakit/datakitref45.deeper -/
def qg8:AFn:=
 { nt:=24,res:=[.tmp 4],body:=
 (.seq (.ops [xB 15 2 0,
 xC 4 (.bool false)])
 (.seq (.seq (.ops [xM 7 1,
 xP 8 (.bin .lss) [.t 7,.c (.int .i64 1)]])
 (.cond (.t 8)
 (.seq (.ops [xC 4 (.bool true)])
 .ret)
 .skip))
 (.seq (.ops [xL 15 9 2,
 xK 10 515 [.t 9],
 xM 5 10])
 (.seq (.seq (.ops [xC 6 (.int .i64 0)])
 (.block 0
 (.loop [1,5,6]
 (.seq (.seq (.ops [xM 11 6,
 xM 12 5,
 xP 13 .lenL [.t 12],
 xP 14 (.bin .lss) [.t 11,.t 13]])
 (.cond (.t 14)
 .skip
 (.exit 0)))
 (.seq (.block 1
 (.seq (.ops [xM 17 5,
 xM 18 6,
 xI 15 19 17 18,
 xL 15 20 19,
 xM 21 1,
 xP 22 (.bin .sub) [.t 21,.c (.int .i64 1)],
 xK 23 487 [.t 20,.t 22]])
 (.cond (.t 23)
 (.seq (.ops [xC 4 (.bool true)])
 .ret)
 .skip)))
 (.ops [xM 15 6,
 xP 16 (.bin .add) [.t 15,.c (.int .i64 1)],
 xM 6 16]))))))
 (.seq (.ops [xC 4 (.bool false)])
 .ret))))) }
/-- datakit/datakitref45.nodes -/
def qcI:AFn:=
 { nt:=38,res:=[.tmp 6],body:=
 (.seq (.ops [xB 16 3 0,
 xB 15 4 1,
 xC 6 (.int .i64 0)])
 (.seq (.seq (.ops [xM 11 2,
 xP 12 (.bin .lss) [.t 11,.c (.int .i64 1)]])
 (.cond (.t 12)
 (.seq (.ops [xC 6 (.int .i64 0)])
 .ret)
 .skip))
 (.seq (.seq (.ops [xL 16 13 3,
 xL 15 14 4,
 xK 15 516 [.t 13,.t 14],
 xM 7 15])
 (.seq (.ops [xM 16 7,
 xP 17 (.bin .neq) [.t 16,.c (.int .i64 0)]])
 (.cond (.t 17)
 (.seq (.ops [xM 18 7,
 xM 6 18])
 .ret)
 .skip)))
 (.seq (.ops [xL 15 19 4,
 xK 20 515 [.t 19],
 xM 8 20])
 (.seq (.seq (.ops [xC 9 (.int .i64 0)])
 (.block 0
 (.loop [2,3,8,9]
 (.seq (.seq (.ops [xM 21 9,
 xM 22 8,
 xP 23 .lenL [.t 22],
 xP 24 (.bin .lss) [.t 21,.t 23]])
 (.cond (.t 24)
 .skip
 (.exit 0)))
 (.seq (.block 1
 (.seq (.ops [xL 16 27 3,
 xM 28 8,
 xM 29 9,
 xI 15 30 28 29,
 xL 15 31 30,
 xM 32 2,
 xP 33 (.bin .sub) [.t 32,.c (.int .i64 1)],
 xK 34 488 [.t 27,.t 31,.t 33],
 xM 10 34])
 (.seq (.ops [xM 35 10,
 xP 36 (.bin .neq) [.t 35,.c (.int .i64 0)]])
 (.cond (.t 36)
 (.seq (.ops [xM 37 10,
 xM 6 37])
 .ret)
 .skip))))
 (.ops [xM 25 9,
 xP 26 (.bin .add) [.t 25,.c (.int .i64 1)],
 xM 9 26]))))))
 (.seq (.ops [xC 6 (.int .i64 0)])
 .ret)))))) }
/-- datakit/schema.clone -/
def qka:AFn:=
 { nt:=82,res:=[.cell 2 (some 15)],body:=
 (.seq (.ops [xB 15 1 0,
 xN 2 15 z0])
 (.seq (.ops [xF 5 6 1,
 xF 0 7 6,
 xR 8 7,
 ⟨some 9,.call 216,[.t 8],none⟩,
 xF 5 10 1,
 xF 0 11 10,
 xS 1 11 9])
 (.seq (.ops [xF 6 12 1,
 xL 6 13 12,
 xK 14 517 [.t 13],
 xF 6 15 1,
 xS 6 15 14])
 (.seq (.ops [xF 12 16 1,
 xR 17 16,
 ⟨some 18,.call 518,[.t 17],none⟩,
 xF 12 19 1,
 xS 1 19 18])
 (.seq (.seq (.ops [xF 12 20 1,
 xR 21 20,
 xP 22 .lenL [.t 21],
 xC 23 (.int .i64 0)])
 (.block 0
 (.loop [1,2,22,23]
 (.seq (.ops [xP 24 (.bin .lss) [.t 23,.t 22]])
 (.seq (.cond (.t 24)
 .skip
 (.exit 0))
 (.seq (.block 1
 (.seq (.ops [xM 25 23,
 xM 3 25])
 (.ops [xF 12 26 1,
 xR 27 26,
 xM 28 3,
 xF 12 29 1,
 xR 30 29,
 xM 31 3,
 xI 13 32 30 31,
 xL 13 33 32,
 xK 34 26 [.t 33],
 xI 13 35 27 28,
 xS 13 35 34])))
 (.ops [xP 36 (.bin .add) [.t 23,.c (.int .i64 1)],
 xM 23 36])))))))
 (.seq (.ops [xF 13 37 1,
 xR 38 37,
 ⟨some 39,.call 519,[.t 38],none⟩,
 xF 13 40 1,
 xS 1 40 39])
 (.seq (.seq (.ops [xF 13 41 1,
 xR 42 41,
 xP 43 .lenL [.t 42],
 xC 44 (.int .i64 0)])
 (.block 2
 (.loop [1,2,43,44]
 (.seq (.ops [xP 45 (.bin .lss) [.t 44,.t 43]])
 (.seq (.cond (.t 45)
 .skip
 (.exit 2))
 (.seq (.block 3
 (.seq (.ops [xM 46 44,
 xM 4 46])
 (.ops [xF 13 47 1,
 xR 48 47,
 xM 49 4,
 xF 13 50 1,
 xR 51 50,
 xM 52 4,
 xI 17 53 51 52,
 xF 2 54 53,
 xL 15 55 54,
 xK 56 490 [.t 55],
 xI 17 57 48 49,
 xF 2 58 57,
 xS 15 58 56])))
 (.ops [xP 59 (.bin .add) [.t 44,.c (.int .i64 1)],
 xM 44 59])))))))
 (.seq (.ops [xF 14 60 1,
 xR 61 60,
 ⟨some 62,.call 520,[.t 61],none⟩,
 xF 14 63 1,
 xS 1 63 62])
 (.seq (.seq (.ops [xF 14 64 1,
 xR 65 64,
 xP 66 .lenL [.t 65],
 xC 67 (.int .i64 0)])
 (.block 4
 (.loop [1,2,66,67]
 (.seq (.ops [xP 68 (.bin .lss) [.t 67,.t 66]])
 (.seq (.cond (.t 68)
 .skip
 (.exit 4))
 (.seq (.block 5
 (.seq (.ops [xM 69 67,
 xM 5 69])
 (.ops [xF 14 70 1,
 xR 71 70,
 xM 72 5,
 xF 14 73 1,
 xR 74 73,
 xM 75 5,
 xI 15 76 74 75,
 xL 15 77 76,
 xK 78 490 [.t 77],
 xI 15 79 71 72,
 xS 15 79 78])))
 (.ops [xP 80 (.bin .add) [.t 67,.c (.int .i64 1)],
 xM 67 80])))))))
 (.seq (.ops [xL 15 81 1,
 xS 15 2 81])
 .ret)))))))))) }
/-- datakit/datakitref45.has -/
def qkH:AFn:=
 { nt:=18,res:=[.tmp 4],body:=
 (.seq (.ops [xC 4 (.bool false)])
 (.seq (.seq (.ops [xC 5 (.int .i64 0)])
 (.block 0
 (.loop [0,1,5]
 (.seq (.seq (.ops [xM 6 5,
 xM 7 0,
 xP 8 .lenL [.t 7],
 xP 9 (.bin .lss) [.t 6,.t 8]])
 (.cond (.t 9)
 .skip
 (.exit 0)))
 (.seq (.block 1
 (.seq (.ops [xM 12 0,
 xM 13 5,
 xI 1 14 12 13,
 xR 15 14,
 xM 16 1,
 xP 17 (.bin .eql) [.t 15,.t 16]])
 (.cond (.t 17)
 (.seq (.ops [xC 4 (.bool true)])
 .ret)
 .skip)))
 (.ops [xM 10 5,
 xP 11 (.bin .add) [.t 10,.c (.int .i64 1)],
 xM 5 11]))))))
 (.seq (.ops [xC 4 (.bool false)])
 .ret))) }
/-- datakit/datakitref45.same -/
def qjz:AFn:=
 { nt:=145,res:=[.tmp 6],body:=
 (.seq (.ops [xB 15 3 0,
 xB 15 4 1,
 xC 6 (.bool false)])
 (.seq (.seq (.ops [xM 11 2,
 xP 12 (.bin .lss) [.t 11,.c (.int .i64 1)],
 xM 13 12,
 yF 0 14 3 13 false,
 yR 15 14 13 false,
 yF 0 16 4 13 false,
 yR 17 16 13 false,
 yP 18 (.bin .neq) [.t 15,.t 17] 13 false,
 xP 19 .pick [.t 13,.c (.bool true),.t 18],
 xM 20 19,
 yF 1 21 3 20 false,
 yR 22 21 20 false,
 yF 1 23 4 20 false,
 yR 24 23 20 false,
 yP 25 (.bin .neq) [.t 22,.t 24] 20 false,
 xP 26 .pick [.t 20,.c (.bool true),.t 25],
 xM 27 26,
 yF 2 28 3 27 false,
 yR 29 28 27 false,
 yF 2 30 4 27 false,
 yR 31 30 27 false,
 yP 32 (.bin .neq) [.t 29,.t 31] 27 false,
 xP 33 .pick [.t 27,.c (.bool true),.t 32],
 xM 34 33,
 yF 3 35 3 34 false,
 yR 36 35 34 false,
 yF 3 37 4 34 false,
 yR 38 37 34 false,
 yP 39 (.bin .neq) [.t 36,.t 38] 34 false,
 xP 40 .pick [.t 34,.c (.bool true),.t 39],
 xM 41 40,
 yF 4 42 3 41 false,
 yR 43 42 41 false,
 yF 4 44 4 41 false,
 yR 45 44 41 false,
 yP 46 (.bin .neq) [.t 43,.t 45] 41 false,
 xP 47 .pick [.t 41,.c (.bool true),.t 46],
 xM 48 47,
 yF 13 49 3 48 false,
 yR 50 49 48 false,
 yP 51 .lenL [.t 50] 48 false,
 yF 13 52 4 48 false,
 yR 53 52 48 false,
 yP 54 .lenL [.t 53] 48 false,
 yP 55 (.bin .neq) [.t 51,.t 54] 48 false,
 xP 56 .pick [.t 48,.c (.bool true),.t 55],
 xM 57 56,
 yF 14 58 3 57 false,
 yR 59 58 57 false,
 yP 60 .lenL [.t 59] 57 false,
 yF 14 61 4 57 false,
 yR 62 61 57 false,
 yP 63 .lenL [.t 62] 57 false,
 yP 64 (.bin .neq) [.t 60,.t 63] 57 false,
 xP 65 .pick [.t 57,.c (.bool true),.t 64]])
 (.cond (.t 65)
 (.seq (.ops [xC 6 (.bool false)])
 .ret)
 .skip))
 (.seq (.seq (.ops [xF 5 66 3,
 xL 1 67 66,
 xF 5 68 4,
 xL 1 69 68,
 xK 70 522 [.t 67,.t 69],
 xP 71 (.un .not) [.t 70],
 xM 72 71,
 yF 6 73 3 72 false,
 yL 6 74 73 72 false,
 yF 6 75 4 72 false,
 yL 6 76 75 72 false,
 yK 77 523 [.t 74,.t 76] 72 false,
 yP 78 (.un .not) [.t 77] 72 false,
 xP 79 .pick [.t 72,.c (.bool true),.t 78],
 xM 80 79,
 yF 12 81 3 80 false,
 yR 82 81 80 false,
 yF 12 83 4 80 false,
 yR 84 83 80 false,
 yK 85 524 [.t 82,.t 84] 80 false,
 yP 86 (.un .not) [.t 85] 80 false,
 xP 87 .pick [.t 80,.c (.bool true),.t 86]])
 (.cond (.t 87)
 (.seq (.ops [xC 6 (.bool false)])
 .ret)
 .skip))
 (.seq (.seq (.ops [xC 7 (.int .i64 0)])
 (.block 0
 (.loop [2,3,4,7]
 (.seq (.seq (.ops [xM 88 7,
 xF 13 89 3,
 xR 90 89,
 xP 91 .lenL [.t 90],
 xP 92 (.bin .lss) [.t 88,.t 91]])
 (.cond (.t 92)
 .skip
 (.exit 0)))
 (.seq (.block 1
 (.seq (.ops [xF 13 95 3,
 xR 96 95,
 xM 97 7,
 xI 17 98 96 97,
 xF 0 99 98,
 xR 100 99,
 xF 13 101 4,
 xR 102 101,
 xM 103 7,
 xI 17 104 102 103,
 xF 0 105 104,
 xR 106 105,
 xP 107 (.bin .neq) [.t 100,.t 106],
 xM 108 107,
 yF 13 109 3 108 false,
 yR 110 109 108 false,
 yM 111 7 108 false,
 yP 112 (.iaddrS 17) [.t 110,.t 111] 108 false,
 yF 1 113 112 108 false,
 yR 114 113 108 false,
 yF 13 115 4 108 false,
 yR 116 115 108 false,
 yM 117 7 108 false,
 yP 118 (.iaddrS 17) [.t 116,.t 117] 108 false,
 yF 1 119 118 108 false,
 yR 120 119 108 false,
 yP 121 (.eqB true) [.t 114,.t 120] 108 false,
 xP 122 .pick [.t 108,.c (.bool true),.t 121]])
 (.cond (.t 122)
 (.seq (.ops [xC 6 (.bool false)])
 .ret)
 .skip)))
 (.ops [xM 93 7,
 xP 94 (.bin .add) [.t 93,.c (.int .i64 1)],
 xM 7 94]))))))
 (.seq (.ops [xL 15 123 3,
 xK 124 515 [.t 123],
 xL 15 125 4,
 xK 126 515 [.t 125],
 xM 8 124,
 xM 9 126])
 (.seq (.seq (.ops [xC 10 (.int .i64 0)])
 (.block 2
 (.loop [2,8,9,10]
 (.seq (.seq (.ops [xM 127 10,
 xM 128 8,
 xP 129 .lenL [.t 128],
 xP 130 (.bin .lss) [.t 127,.t 129]])
 (.cond (.t 130)
 .skip
 (.exit 2)))
 (.seq (.block 3
 (.seq (.ops [xM 133 8,
 xM 134 10,
 xI 15 135 133 134,
 xL 15 136 135,
 xM 137 9,
 xM 138 10,
 xI 15 139 137 138,
 xL 15 140 139,
 xM 141 2,
 xP 142 (.bin .sub) [.t 141,.c (.int .i64 1)],
 xK 143 494 [.t 136,.t 140,.t 142],
 xP 144 (.un .not) [.t 143]])
 (.cond (.t 144)
 (.seq (.ops [xC 6 (.bool false)])
 .ret)
 .skip)))
 (.ops [xM 131 10,
 xP 132 (.bin .add) [.t 131,.c (.int .i64 1)],
 xM 10 132]))))))
 (.seq (.ops [xC 6 (.bool true)])
 .ret))))))) }
/-- datakit/datakitref46.Brief -/
def qfl:AFn:=
 { nt:=9,res:=[.tmp 2],body:=
 (.seq (.ops [xB 13 1 0,
 xC 2 (.bool false)])
 (.seq (.ops [xL 13 3 1,
 xK 4 18 [.t 3,.c (.int .i64 40),.c (.int .i64 8)],
 xM 5 4,
 yL 13 6 1 5 true,
 yK 7 547 [.t 6] 5 true,
 xP 8 .pick [.t 5,.t 7,.c (.bool false)],
 xM 2 8])
 .ret)) }
/-- datakit/datakitref07.Int -/
def qkA:AFn:=
 { nt:=6,res:=[.cell 2 (some 13)],body:=
 (.seq (.ops [xN 2 13 z1])
 (.seq (.ops [xM 3 0,
 xK 4 549 [.t 3],
 xK 5 548 [.t 4],
 xS 13 2 5])
 .ret)) }
/-- datakit/datakitref45.count -/
def qgh:AFn:=
 { nt:=28,res:=[.tmp 4],body:=
 (.seq (.ops [xB 15 2 0,
 xC 4 (.int .i64 0)])
 (.seq (.seq (.ops [xM 8 1,
 xP 9 (.bin .lss) [.t 8,.c (.int .i64 1)]])
 (.cond (.t 9)
 (.seq (.ops [xC 4 (.int .i64 0)])
 .ret)
 .skip))
 (.seq (.ops [xC 5 (.int .i64 1)])
 (.seq (.ops [xL 15 10 2,
 xK 11 515 [.t 10],
 xM 6 11])
 (.seq (.seq (.ops [xC 7 (.int .i64 0)])
 (.block 0
 (.loop [1,5,6,7]
 (.seq (.seq (.ops [xM 12 7,
 xM 13 6,
 xP 14 .lenL [.t 13],
 xP 15 (.bin .lss) [.t 12,.t 14]])
 (.cond (.t 15)
 .skip
 (.exit 0)))
 (.seq (.block 1
 (.ops [xM 18 5,
 xM 19 6,
 xM 20 7,
 xI 15 21 19 20,
 xL 15 22 21,
 xM 23 1,
 xP 24 (.bin .sub) [.t 23,.c (.int .i64 1)],
 xK 25 507 [.t 22,.t 24],
 xP 26 (.bin .add) [.t 18,.t 25],
 xM 5 26]))
 (.ops [xM 16 7,
 xP 17 (.bin .add) [.t 16,.c (.int .i64 1)],
 xM 7 17]))))))
 (.seq (.ops [xM 27 5,
 xM 4 27])
 .ret)))))) }
/-- datakit/schema.size -/
def qf0:AFn:=
 { nt:=25,res:=[.tmp 4],body:=
 (.seq (.ops [xB 15 2 0,
 xC 4 (.int .i64 0)])
 (.seq (.seq (.ops [xM 8 1,
 xP 9 (.bin .lss) [.t 8,.c (.int .i64 1)]])
 (.cond (.t 9)
 (.seq (.ops [xC 4 (.int .i64 0)])
 .ret)
 .skip))
 (.seq (.ops [xC 5 (.int .i64 1)])
 (.seq (.seq (.ops [xL 15 10 2,
 xK 11 514 [.t 10],
 xP 12 .lenL [.t 11],
 xC 13 (.int .i64 0)])
 (.block 0
 (.loop [1,5,11,12,13]
 (.seq (.ops [xP 14 (.bin .lss) [.t 13,.t 12]])
 (.seq (.cond (.t 14)
 .skip
 (.exit 0))
 (.seq (.block 1
 (.seq (.ops [xI 15 15 11 13,
 xL 15 16 15,
 xN 7 15 z0,
 xS 15 7 16])
 (.ops [xM 17 5,
 xL 15 18 7,
 xM 19 1,
 xP 20 (.bin .sub) [.t 19,.c (.int .i64 1)],
 xK 21 509 [.t 18,.t 20],
 xP 22 (.bin .add) [.t 17,.t 21],
 xM 5 22])))
 (.ops [xP 23 (.bin .add) [.t 13,.c (.int .i64 1)],
 xM 13 23])))))))
 (.seq (.ops [xM 24 5,
 xM 4 24])
 .ret))))) }
/-- datakit/schema.node -/
def qa5:AFn:=
 { nt:=55,res:=[.tmp 4],body:=
 (.seq (.ops [xB 16 2 0,
 xB 15 3 1,
 xC 4 (.int .i64 0)])
 (.seq (.seq (.ops [xL 15 10 3,
 xK 11 562 [.t 10],
 xP 12 (.un .not) [.t 11]])
 (.cond (.t 12)
 (.seq (.ops [xC 4 (.int .i64 1)])
 .ret)
 .skip))
 (.seq (.seq (.ops [xF 0 13 3,
 xR 14 13,
 xP 15 (.bin .eql) [.t 14,.c (.int .i64 7)],
 xM 16 15,
 yF 4 17 3 16 true,
 yR 18 17 16 true,
 yK 19 563 [.t 18] 16 true,
 yP 20 (.un .not) [.t 19] 16 true,
 xP 21 .pick [.t 16,.t 20,.c (.bool false)]])
 (.cond (.t 21)
 (.seq (.ops [xC 4 (.int .i64 7)])
 .ret)
 .skip))
 (.seq (.seq (.ops [xL 16 23 2,
 xF 4 24 3,
 xR 25 24,
 xK 26 457 [.t 23,.t 25],
 xM 22 26,
 xP 27 (.ext 0) [.t 22],
 xP 28 (.ext 1) [.t 22],
 xN 5 15 z0,
 xS 15 5 27,
 xM 6 28])
 (.seq (.ops [xF 0 29 3,
 xR 30 29,
 xP 31 (.bin .eql) [.t 30,.c (.int .i64 14)],
 xM 32 31,
 yM 33 6 32 true,
 yP 34 (.un .not) [.t 33] 32 true,
 xP 35 .pick [.t 32,.t 34,.c (.bool false)]])
 (.cond (.t 35)
 (.seq (.ops [xC 4 (.int .i64 7)])
 .ret)
 .skip)))
 (.seq (.ops [⟨some 36,.new .mkMap,[],none⟩,
 xM 7 36])
 (.seq (.seq (.ops [xF 13 37 3,
 xR 38 37,
 xP 39 .lenL [.t 38],
 xC 40 (.int .i64 0)])
 (.block 0
 (.loop [7,38,39,40]
 (.seq (.ops [xP 41 (.bin .lss) [.t 40,.t 39]])
 (.seq (.cond (.t 41)
 .skip
 (.exit 0))
 (.seq (.block 1
 (.seq (.ops [xI 17 42 38 40,
 xL 17 43 42,
 xN 9 17 z4,
 xS 17 9 43])
 (.seq (.ops [xM 44 7,
 xF 0 45 9,
 xR 46 45,
 ⟨some 47,.read (.lookup (.one .str) (.int .i64 0) false),[.t 44,.t 46],none⟩,
 xP 48 (.bin .add) [.t 47,.c (.int .i64 1)],
 ⟨none,.eff (.mapSet (.one .str)),[.t 44,.t 46,.t 48],none⟩])
 (.seq (.ops [xM 49 7,
 xF 0 50 9,
 xR 51 50,
 ⟨some 52,.read (.lookup (.one .str) (.int .i64 0) false),[.t 49,.t 51],none⟩,
 xP 53 (.bin .gtr) [.t 52,.c (.int .i64 1)]])
 (.cond (.t 53)
 (.seq (.ops [xC 4 (.int .i64 8)])
 .ret)
 .skip)))))
 (.ops [xP 54 (.bin .add) [.t 40,.c (.int .i64 1)],
 xM 40 54])))))))
 (.seq (.ops [xC 4 (.int .i64 0)])
 .ret))))))) }
/-- datakit/schema.parts -/
def qkG:AFn:=
 { nt:=23,res:=[.tmp 2],body:=
 (.seq (.ops [xB 15 1 0,
 xC 2 (.snil 15)])
 (.seq (.ops [xC 3 (.snil 15)])
 (.seq (.seq (.ops [xF 13 6 1,
 xR 7 6,
 xP 8 .lenL [.t 7],
 xC 9 (.int .i64 0)])
 (.block 0
 (.loop [1,3,7,8,9]
 (.seq (.ops [xP 10 (.bin .lss) [.t 9,.t 8]])
 (.seq (.cond (.t 10)
 .skip
 (.exit 0))
 (.seq (.block 1
 (.seq (.ops [xI 17 11 7 9,
 xL 17 12 11,
 xN 5 17 z4,
 xS 17 5 12])
 (.ops [xM 13 3,
 xF 2 14 5,
 xL 15 15 14,
 ⟨some 16,.new (.buildSlice 15 [z0] [0]),[.t 15],none⟩,
 ⟨some 17,.eff (.append 15 208),[.t 13,.t 16],none⟩,
 xM 3 17])))
 (.ops [xP 18 (.bin .add) [.t 9,.c (.int .i64 1)],
 xM 9 18])))))))
 (.seq (.ops [xM 19 3,
 xF 14 20 1,
 xR 21 20,
 ⟨some 22,.eff (.append 15 208),[.t 19,.t 21],none⟩,
 xM 2 22])
 .ret)))) }
/-- datakit/datakitref45.Parts -/
def qiZ:AFn:=
 { nt:=25,res:=[.tmp 2],body:=
 (.seq (.ops [xB 15 1 0,
 xC 2 (.snil 15)])
 (.seq (.ops [xC 3 (.snil 15)])
 (.seq (.seq (.ops [xC 4 (.int .i64 0)])
 (.block 0
 (.loop [1,3,4]
 (.seq (.seq (.ops [xM 5 4,
 xF 13 6 1,
 xR 7 6,
 xP 8 .lenL [.t 7],
 xP 9 (.bin .lss) [.t 5,.t 8]])
 (.cond (.t 9)
 .skip
 (.exit 0)))
 (.seq (.block 1
 (.ops [xM 12 3,
 xF 13 13 1,
 xR 14 13,
 xM 15 4,
 xI 17 16 14 15,
 xF 2 17 16,
 xL 15 18 17,
 ⟨some 19,.new (.buildSlice 15 [z0] [0]),[.t 18],none⟩,
 ⟨some 20,.eff (.append 15 208),[.t 12,.t 19],none⟩,
 xM 3 20]))
 (.ops [xM 10 4,
 xP 11 (.bin .add) [.t 10,.c (.int .i64 1)],
 xM 4 11]))))))
 (.seq (.ops [xM 21 3,
 xF 14 22 1,
 xR 23 22,
 ⟨some 24,.eff (.append 15 208),[.t 21,.t 23],none⟩,
 xM 2 24])
 .ret)))) }
/-- datakit/datakitref45.node -/
def qax:AFn:=
 { nt:=57,res:=[.tmp 4],body:=
 (.seq (.ops [xB 16 2 0,
 xB 15 3 1,
 xC 4 (.int .i64 0)])
 (.seq (.seq (.ops [xL 15 9 3,
 xK 10 564 [.t 9],
 xP 11 (.un .not) [.t 10]])
 (.cond (.t 11)
 (.seq (.ops [xC 4 (.int .i64 1)])
 .ret)
 .skip))
 (.seq (.seq (.ops [xF 0 12 3,
 xR 13 12,
 xP 14 (.bin .eql) [.t 13,.c (.int .i64 7)],
 xM 15 14,
 yF 4 16 3 15 true,
 yR 17 16 15 true,
 yK 18 565 [.t 17] 15 true,
 yP 19 (.un .not) [.t 18] 15 true,
 xP 20 .pick [.t 15,.t 19,.c (.bool false)]])
 (.cond (.t 20)
 (.seq (.ops [xC 4 (.int .i64 7)])
 .ret)
 .skip))
 (.seq (.seq (.ops [xF 0 21 3,
 xR 22 21,
 xP 23 (.bin .eql) [.t 22,.c (.int .i64 14)]])
 (.cond (.t 23)
 (.seq (.ops [xL 16 25 2,
 xF 4 26 3,
 xR 27 26,
 xK 28 458 [.t 25,.t 27],
 xM 24 28,
 xP 29 (.ext 0) [.t 24],
 xP 30 (.ext 1) [.t 24],
 xN 5 15 z0,
 xS 15 5 29,
 xM 6 30])
 (.seq (.ops [xM 31 6,
 xP 32 (.un .not) [.t 31]])
 (.cond (.t 32)
 (.seq (.ops [xC 4 (.int .i64 7)])
 .ret)
 .skip)))
 .skip))
 (.seq (.ops [xC 7 (.snil 1)])
 (.seq (.seq (.ops [xC 8 (.int .i64 0)])
 (.block 0
 (.loop [3,7,8]
 (.seq (.seq (.ops [xM 33 8,
 xF 13 34 3,
 xR 35 34,
 xP 36 .lenL [.t 35],
 xP 37 (.bin .lss) [.t 33,.t 36]])
 (.cond (.t 37)
 .skip
 (.exit 0)))
 (.seq (.block 1
 (.seq (.seq (.ops [xM 40 7,
 xF 13 41 3,
 xR 42 41,
 xM 43 8,
 xI 17 44 42 43,
 xF 0 45 44,
 xR 46 45,
 xK 47 492 [.t 40,.t 46]])
 (.cond (.t 47)
 (.seq (.ops [xC 4 (.int .i64 8)])
 .ret)
 .skip))
 (.ops [xM 48 7,
 xF 13 49 3,
 xR 50 49,
 xM 51 8,
 xI 17 52 50 51,
 xF 0 53 52,
 xR 54 53,
 ⟨some 55,.new (.buildSlice 1 [.str []] [0]),[.t 54],none⟩,
 ⟨some 56,.eff (.append 1 16),[.t 48,.t 55],none⟩,
 xM 7 56])))
 (.ops [xM 38 8,
 xP 39 (.bin .add) [.t 38,.c (.int .i64 1)],
 xM 8 39]))))))
 (.seq (.ops [xC 4 (.int .i64 0)])
 .ret))))))) }
/-- datakit/schema.clonePattern -/
def qgI:AFn:=
 { nt:=26,res:=[.cell 2 (some 6)],body:=
 (.seq (.ops [xB 6 1 0,
 ⟨some 2,.new (.new 6 [.agg [.int .i64 0,.int .i64 0,.int .i64 0,.int .i64 0,.int .i64 0,.snil 6]]),[],none⟩])
 (.seq (.ops [xF 5 4 1,
 xR 5 4,
 ⟨some 6,.call 566,[.t 5],none⟩,
 xF 5 7 1,
 xS 1 7 6])
 (.seq (.seq (.ops [xF 5 8 1,
 xR 9 8,
 xP 10 .lenL [.t 9],
 xC 11 (.int .i64 0)])
 (.block 0
 (.loop [1,2,10,11]
 (.seq (.ops [xP 12 (.bin .lss) [.t 11,.t 10]])
 (.seq (.cond (.t 12)
 .skip
 (.exit 0))
 (.seq (.block 1
 (.seq (.ops [xM 13 11,
 xM 3 13])
 (.ops [xF 5 14 1,
 xR 15 14,
 xM 16 3,
 xF 5 17 1,
 xR 18 17,
 xM 19 3,
 xI 6 20 18 19,
 xL 6 21 20,
 xK 22 517 [.t 21],
 xI 6 23 15 16,
 xS 6 23 22])))
 (.ops [xP 24 (.bin .add) [.t 11,.c (.int .i64 1)],
 xM 11 24])))))))
 (.seq (.ops [xL 6 25 1,
 xS 6 2 25])
 .ret)))) }
/-- datakit/datakitref18.Same -/
def qgZ:AFn:=
 { nt:=31,res:=[.tmp 4],body:=
 (.seq (.ops [xB 1 2 0,
 xB 1 3 1,
 xC 4 (.bool false)])
 (.seq (.seq (.ops [xF 0 6 2,
 xR 7 6,
 xP 8 .lenL [.t 7],
 xF 0 9 3,
 xR 10 9,
 xP 11 .lenL [.t 10],
 xP 12 (.bin .neq) [.t 8,.t 11]])
 (.cond (.t 12)
 (.seq (.ops [xC 4 (.bool false)])
 .ret)
 .skip))
 (.seq (.seq (.ops [xC 5 (.int .i64 0)])
 (.block 0
 (.loop [2,3,5]
 (.seq (.seq (.ops [xM 13 5,
 xF 0 14 2,
 xR 15 14,
 xP 16 .lenL [.t 15],
 xP 17 (.bin .lss) [.t 13,.t 16]])
 (.cond (.t 17)
 .skip
 (.exit 0)))
 (.seq (.block 1
 (.seq (.ops [xF 0 20 2,
 xR 21 20,
 xM 22 5,
 xI 11 23 21 22,
 xL 11 24 23,
 xF 0 25 3,
 xR 26 25,
 xM 27 5,
 xI 11 28 26 27,
 xL 11 29 28,
 ⟨some 30,.pure (.eqF [.bool,.bool,.str,.int,.bool,.bool,.bool,.str,.int,.bool,.int] true),[.t 24,.t 29],none⟩])
 (.cond (.t 30)
 (.seq (.ops [xC 4 (.bool false)])
 .ret)
 .skip)))
 (.ops [xM 18 5,
 xP 19 (.bin .add) [.t 18,.c (.int .i64 1)],
 xM 5 19]))))))
 (.seq (.ops [xC 4 (.bool true)])
 .ret)))) }
/-- datakit/datakitref15.Same -/
def qg4:AFn:=
 { nt:=8,res:=[.tmp 4],body:=
 (.seq (.ops [xB 6 2 0,
 xB 6 3 1,
 xC 4 (.bool false)])
 (.seq (.ops [xL 6 5 2,
 xL 6 6 3,
 xK 7 567 [.t 5,.t 6,.c (.int .i64 48)],
 xM 4 7])
 .ret)) }
/-- datakit/datakitref07.SameAll -/
def qjK:AFn:=
 { nt:=10,res:=[.tmp 4],body:=
 (.seq (.ops [xC 4 (.bool false)])
 (.seq (.ops [xM 5 0,
 xK 6 529 [.t 5],
 xM 7 1,
 xK 8 529 [.t 7],
 xK 9 29 [.t 6,.t 8],
 xM 4 9])
 .ret)) }
/-- datakit/datakitref07.List -/
def qfb:AFn:=
 { nt:=5,res:=[.cell 2 (some 13)],body:=
 (.seq (.ops [xN 2 13 z1])
 (.seq (.ops [xM 3 0,
 ⟨some 4,.pure (.build [.int .i64 0,.bool false,.bool false,.str [],.int .i64 0,.int .i64 0,.int .i64 0,.int .i64 0,.int .i64 0,.str [],.snil 1,.snil 13,.snil 14] [(0,1),(11,1)]),[.c (.int .i64 6),.t 3],none⟩,
 xS 13 2 4])
 .ret)) }
/-- datakit/datakitref46.texts -/
def qk6:AFn:=
 { nt:=38,res:=[.tmp 2],body:=
 (.seq (.ops [xB 13 1 0,
 xC 2 (.bool false)])
 (.seq (.seq (.ops [xC 3 (.int .i64 0)])
 (.block 0
 (.loop [1,3]
 (.seq (.seq (.ops [xM 5 3,
 xF 11 6 1,
 xR 7 6,
 xP 8 .lenL [.t 7],
 xP 9 (.bin .lss) [.t 5,.t 8]])
 (.cond (.t 9)
 .skip
 (.exit 0)))
 (.seq (.block 1
 (.seq (.ops [xF 11 12 1,
 xR 13 12,
 xM 14 3,
 xI 13 15 13 14,
 xL 13 16 15,
 xK 17 547 [.t 16],
 xP 18 (.un .not) [.t 17]])
 (.cond (.t 18)
 (.seq (.ops [xC 2 (.bool false)])
 .ret)
 .skip)))
 (.ops [xM 10 3,
 xP 11 (.bin .add) [.t 10,.c (.int .i64 1)],
 xM 3 11]))))))
 (.seq (.seq (.ops [xC 4 (.int .i64 0)])
 (.block 2
 (.loop [1,4]
 (.seq (.seq (.ops [xM 19 4,
 xF 12 20 1,
 xR 21 20,
 xP 22 .lenL [.t 21],
 xP 23 (.bin .lss) [.t 19,.t 22]])
 (.cond (.t 23)
 .skip
 (.exit 2)))
 (.seq (.block 3
 (.seq (.ops [xF 12 26 1,
 xR 27 26,
 xM 28 4,
 xI 14 29 27 28,
 xF 1 30 29,
 xL 13 31 30,
 xK 32 547 [.t 31],
 xP 33 (.un .not) [.t 32]])
 (.cond (.t 33)
 (.seq (.ops [xC 2 (.bool false)])
 .ret)
 .skip)))
 (.ops [xM 24 4,
 xP 25 (.bin .add) [.t 24,.c (.int .i64 1)],
 xM 4 25]))))))
 (.seq (.ops [xF 9 34 1,
 xR 35 34,
 xP 36 .lenS [.t 35],
 xP 37 (.bin .leq) [.t 36,.c (.int .i64 60)],
 xM 2 37])
 .ret)))) }
/-- datakit/datakitref07.Num -/
def qkD:AFn:=
 { nt:=5,res:=[.cell 2 (some 13)],body:=
 (.seq (.ops [xB 3 1 0,
 xN 2 13 z1])
 (.seq (.ops [xL 3 3 1,
 ⟨some 4,.pure (.build [.int .i64 0,.bool false,.bool false,.str [],.int .i64 0,.int .i64 0,.int .i64 0,.int .i64 0,.int .i64 0,.str [],.snil 1,.snil 13,.snil 14] [(0,1),(2,3)]),[.c (.int .i64 2),.t 3],none⟩,
 xS 13 2 4])
 .ret)) }
/-- datakit/datakitref02.FromInt -/
def qk5:AFn:=
 { nt:=23,res:=[.cell 2 (some 3)],body:=
 (.seq (.ops [⟨some 2,.new (.new 3 [.agg [.bool false,.str [],.int .i64 0]]),[],none⟩])
 (.seq (.ops [xM 6 0,
 xK 7 579 [.t 6],
 xM 3 7])
 (.seq (.seq (.ops [xM 8 0,
 xP 9 (.bin .lss) [.t 8,.c (.int .i64 0)]])
 (.cond (.t 9)
 (.ops [xM 10 0,
 xP 11 (.bin .add) [.t 10,.c (.int .i64 1)],
 xP 12 (.un .neg) [.t 11],
 xK 13 579 [.t 12],
 ⟨some 14,.pcall 580,[.t 13,.c (.str [49])],none⟩,
 xM 3 14])
 .skip))
 (.seq (.ops [xM 16 0,
 xP 17 (.bin .lss) [.t 16,.c (.int .i64 0)],
 xM 18 3,
 xK 19 581 [.t 17,.t 18,.c (.int .i64 0)],
 xM 15 19,
 xP 20 (.ext 0) [.t 15],
 xP 21 (.ext 1) [.t 15],
 ⟨some 4,.new (.new 3 [.agg [.bool false,.str [],.int .i64 0]]),[],none⟩,
 xS 3 4 20,
 xM 5 21])
 (.seq (.ops [xL 3 22 4,
 xS 3 2 22])
 .ret))))) }
/-- datakit/schema.form -/
def q8O:AFn:=
 { nt:=165,res:=[.tmp 2],body:=
 (.seq (.ops [xB 15 1 0,
 xC 2 (.bool false)])
 (.seq (.ops [xL 15 9 1,
 xN 3 15 z0,
 xS 15 3 9])
 (.seq (.ops [xF 0 10 3,
 ⟨none,.eff (.store 1),[.t 10,.c (.int .i64 0)],none⟩])
 (.seq (.seq (.ops [xF 0 11 1,
 xR 12 11])
 (.block 0
 (.seq (.seq (.ops [xP 14 (.bin .eql) [.t 12,.c (.int .i64 1)],
 xM 13 14])
 (.cond (.t 13)
 .skip
 (.ops [xP 15 (.bin .eql) [.t 12,.c (.int .i64 2)],
 xM 13 15])))
 (.cond (.t 13)
 .skip
 (.seq (.ops [xP 17 (.bin .eql) [.t 12,.c (.int .i64 3)],
 xM 16 17])
 (.cond (.t 16)
 (.seq (.ops [xF 1 18 3,
 ⟨none,.eff (.store 1),[.t 18,.c (.int .i64 0)],none⟩])
 (.seq (.ops [xF 1 19 1,
 xR 20 19,
 xP 21 (.bin .lss) [.t 20,.c (.int .i64 0)],
 xM 22 21,
 yF 1 23 1 22 false,
 yR 24 23 22 false,
 yP 25 (.bin .gtr) [.t 24,.c (.int .i64 255)] 22 false,
 xP 26 .pick [.t 22,.c (.bool true),.t 25]])
 (.cond (.t 26)
 (.seq (.ops [xC 2 (.bool false)])
 .ret)
 .skip)))
 (.seq (.ops [xP 28 (.bin .eql) [.t 12,.c (.int .i64 4)],
 xM 27 28])
 (.cond (.t 27)
 (.seq (.ops [⟨some 29,.pure (.build [.snil 11] []),[],none⟩,
 xF 5 30 3,
 xS 1 30 29])
 (.seq (.ops [xF 5 31 1,
 xL 1 32 31,
 xK 33 229 [.t 32],
 xP 34 (.un .not) [.t 33]])
 (.cond (.t 34)
 (.seq (.ops [xC 2 (.bool false)])
 .ret)
 .skip)))
 (.seq (.seq (.ops [xP 36 (.bin .eql) [.t 12,.c (.int .i64 5)],
 xM 35 36])
 (.cond (.t 35)
 .skip
 (.ops [xP 37 (.bin .eql) [.t 12,.c (.int .i64 9)],
 xM 35 37])))
 (.cond (.t 35)
 (.seq (.ops [xF 2 38 3,
 ⟨none,.eff (.store 1),[.t 38,.c (.int .i64 0)],none⟩,
 xF 3 39 3,
 ⟨none,.eff (.store 1),[.t 39,.c (.int .i64 0)],none⟩])
 (.seq (.ops [xC 4 (.int .i64 65536)])
 (.seq (.seq (.ops [xF 0 40 1,
 xR 41 40,
 xP 42 (.bin .eql) [.t 41,.c (.int .i64 9)]])
 (.cond (.t 42)
 (.seq (.ops [xF 14 43 3,
 ⟨none,.eff (.store 1),[.t 43,.c (.snil 15)],none⟩])
 (.ops [xC 4 (.int .i64 65536)]))
 .skip))
 (.seq (.ops [xF 2 44 1,
 xR 45 44,
 xP 46 (.bin .lss) [.t 45,.c (.int .i64 0)],
 xM 47 46,
 yF 2 48 1 47 false,
 yR 49 48 47 false,
 yM 50 4 47 false,
 yP 51 (.bin .gtr) [.t 49,.t 50] 47 false,
 xP 52 .pick [.t 47,.c (.bool true),.t 51],
 xM 53 52,
 yF 3 54 1 53 false,
 yR 55 54 53 false,
 yP 56 (.bin .neq) [.t 55,.c (.int .i64 (-1))] 53 false,
 yM 57 56 53 false,
 yF 3 58 1 57 true,
 yR 59 58 57 true,
 yF 2 60 1 57 true,
 yR 61 60 57 true,
 yP 62 (.bin .lss) [.t 59,.t 61] 57 true,
 yM 63 62 57 true,
 yF 3 64 1 63 false,
 yR 65 64 63 false,
 yM 66 4 63 false,
 yP 67 (.bin .gtr) [.t 65,.t 66] 63 false,
 yP 68 .pick [.t 63,.c (.bool true),.t 67] 57 true,
 yP 69 .pick [.t 57,.t 68,.c (.bool false)] 53 false,
 xP 70 .pick [.t 53,.c (.bool true),.t 69],
 xM 71 70,
 yF 0 72 1 71 false,
 yR 73 72 71 false,
 yP 74 (.bin .eql) [.t 73,.c (.int .i64 9)] 71 false,
 yM 75 74 71 false,
 yF 14 76 1 75 true,
 yR 77 76 75 true,
 yP 78 .lenL [.t 77] 75 true,
 yP 79 (.bin .neq) [.t 78,.c (.int .i64 1)] 75 true,
 yP 80 .pick [.t 75,.t 79,.c (.bool false)] 71 false,
 xP 81 .pick [.t 71,.c (.bool true),.t 80]])
 (.cond (.t 81)
 (.seq (.ops [xC 2 (.bool false)])
 .ret)
 .skip)))))
 (.seq (.ops [xP 83 (.bin .eql) [.t 12,.c (.int .i64 6)],
 xM 82 83])
 (.cond (.t 82)
 (.seq (.ops [⟨some 84,.pure (.build [.int .i64 0,.int .i64 0,.int .i64 0,.int .i64 0,.int .i64 0,.snil 6] []),[],none⟩,
 xF 6 85 3,
 xS 6 85 84])
 (.seq (.ops [xF 6 86 1,
 xL 6 87 86,
 xK 88 358 [.t 87],
 xP 89 (.un .not) [.t 88]])
 (.cond (.t 89)
 (.seq (.ops [xC 2 (.bool false)])
 .ret)
 .skip)))
 (.seq (.seq (.ops [xP 91 (.bin .eql) [.t 12,.c (.int .i64 7)],
 xM 90 91])
 (.cond (.t 90)
 .skip
 (.ops [xP 92 (.bin .eql) [.t 12,.c (.int .i64 14)],
 xM 90 92])))
 (.cond (.t 90)
 (.ops [xF 4 93 3,
 ⟨none,.eff (.store 1),[.t 93,.c (.str [])],none⟩])
 (.seq (.ops [xP 95 (.bin .eql) [.t 12,.c (.int .i64 8)],
 xM 94 95])
 (.cond (.t 94)
 (.seq (.ops [xF 12 96 3,
 ⟨none,.eff (.store 1),[.t 96,.c (.snil 13)],none⟩])
 (.seq (.seq (.ops [xF 12 97 1,
 xR 98 97,
 xP 99 .lenL [.t 98],
 xP 100 (.bin .gtr) [.t 99,.c (.int .i64 256)]])
 (.cond (.t 100)
 (.seq (.ops [xC 2 (.bool false)])
 .ret)
 .skip))
 (.seq (.ops [xF 12 101 1,
 xR 102 101,
 xP 103 .lenL [.t 102],
 xC 104 (.int .i64 0)])
 (.block 1
 (.loop [3,102,103,104]
 (.seq (.ops [xP 105 (.bin .lss) [.t 104,.t 103]])
 (.seq (.cond (.t 105)
 .skip
 (.exit 1))
 (.seq (.block 2
 (.seq (.ops [xI 13 106 102 104,
 xL 13 107 106,
 xN 6 13 z1,
 xS 13 6 107])
 (.seq (.ops [xF 0 108 6,
 xR 109 108,
 xP 110 (.bin .geq) [.t 109,.c (.int .i64 6)],
 xM 111 110,
 yL 13 112 6 111 false,
 yK 113 126 [.t 112] 111 false,
 yP 114 (.bin .neq) [.t 113,.c (.int .i64 0)] 111 false,
 xP 115 .pick [.t 111,.c (.bool true),.t 114]])
 (.cond (.t 115)
 (.seq (.ops [xC 2 (.bool false)])
 .ret)
 .skip))))
 (.ops [xP 116 (.bin .add) [.t 104,.c (.int .i64 1)],
 xM 104 116])))))))))
 (.seq (.ops [xP 118 (.bin .eql) [.t 12,.c (.int .i64 10)],
 xM 117 118])
 (.cond (.t 117)
 (.seq (.ops [xF 13 119 3,
 ⟨none,.eff (.store 1),[.t 119,.c (.snil 17)],none⟩,
 xF 14 120 3,
 ⟨none,.eff (.store 1),[.t 120,.c (.snil 15)],none⟩])
 (.seq (.seq (.ops [xF 13 121 1,
 xR 122 121,
 xP 123 .lenL [.t 122],
 xC 124 (.int .i64 0)])
 (.block 3
 (.loop [1,3,122,123,124]
 (.seq (.ops [xP 125 (.bin .lss) [.t 124,.t 123]])
 (.seq (.cond (.t 125)
 .skip
 (.exit 3))
 (.seq (.block 4
 (.seq (.ops [xI 17 126 122 124,
 xL 17 127 126,
 xN 8 17 z4,
 xS 17 8 127])
 (.seq (.ops [xF 0 128 8,
 xR 129 128,
 xK 130 46 [.t 129],
 xP 131 (.un .not) [.t 130],
 xM 132 131,
 yF 0 133 8 132 false,
 yR 134 133 132 false,
 yP 135 .lenS [.t 134] 132 false,
 yP 136 (.bin .gtr) [.t 135,.c (.int .i64 1024)] 132 false,
 xP 137 .pick [.t 132,.c (.bool true),.t 136]])
 (.cond (.t 137)
 (.seq (.ops [xC 2 (.bool false)])
 .ret)
 .skip))))
 (.ops [xP 138 (.bin .add) [.t 124,.c (.int .i64 1)],
 xM 124 138])))))))
 (.seq (.ops [xF 14 139 1,
 xR 140 139,
 xP 141 .lenL [.t 140],
 xP 142 (.bin .neq) [.t 141,.c (.int .i64 1)]])
 (.cond (.t 142)
 (.seq (.ops [xC 2 (.bool false)])
 .ret)
 .skip))))
 (.seq (.seq (.ops [xP 144 (.bin .eql) [.t 12,.c (.int .i64 11)],
 xM 143 144])
 (.cond (.t 143)
 .skip
 (.seq (.ops [xP 145 (.bin .eql) [.t 12,.c (.int .i64 12)],
 xM 143 145])
 (.cond (.t 143)
 .skip
 (.ops [xP 146 (.bin .eql) [.t 12,.c (.int .i64 13)],
 xM 143 146])))))
 (.cond (.t 143)
 (.seq (.ops [xF 14 147 3,
 ⟨none,.eff (.store 1),[.t 147,.c (.snil 15)],none⟩])
 (.seq (.ops [xF 14 148 1,
 xR 149 148,
 xP 150 .lenL [.t 149],
 xP 151 (.bin .eql) [.t 150,.c (.int .i64 0)],
 xM 152 151,
 yF 0 153 1 152 false,
 yR 154 153 152 false,
 yP 155 (.bin .eql) [.t 154,.c (.int .i64 13)] 152 false,
 yM 156 155 152 false,
 yF 14 157 1 156 true,
 yR 158 157 156 true,
 yP 159 .lenL [.t 158] 156 true,
 yP 160 (.bin .neq) [.t 159,.c (.int .i64 1)] 156 true,
 yP 161 .pick [.t 156,.t 160,.c (.bool false)] 152 false,
 xP 162 .pick [.t 152,.c (.bool true),.t 161]])
 (.cond (.t 162)
 (.seq (.ops [xC 2 (.bool false)])
 .ret)
 .skip)))
 (.seq (.ops [xC 2 (.bool false)])
 .ret)))))))))))))))))))))
 (.seq (.ops [xL 15 163 3,
 xK 164 597 [.t 163],
 xM 2 164])
 .ret))))) }
/-- datakit/formats.Known -/
def qkb:AFn:=
 { nt:=6,res:=[.tmp 2],body:=
 (.seq (.ops [xC 2 (.bool false)])
 (.seq (.ops [xM 3 0,
 xK 4 598 [.t 3],
 xP 5 (.bin .lss) [.t 4,.c (.int .i64 12)],
 xM 2 5])
 .ret)) }
/-- datakit/datakitref45.form -/
def qdn:AFn:=
 { nt:=94,res:=[.tmp 2],body:=
 (.seq (.ops [xB 15 1 0,
 xC 2 (.bool false)])
 (.seq (.seq (.ops [xF 0 5 1,
 xR 6 5,
 xP 7 (.bin .lss) [.t 6,.c (.int .i64 1)],
 xM 8 7,
 yF 0 9 1 8 false,
 yR 10 9 8 false,
 yP 11 (.bin .geq) [.t 10,.c (.int .i64 15)] 8 false,
 xP 12 .pick [.t 8,.c (.bool true),.t 11],
 xM 13 12,
 yL 15 14 1 13 false,
 yK 15 599 [.t 14] 13 false,
 yP 16 (.un .not) [.t 15] 13 false,
 xP 17 .pick [.t 13,.c (.bool true),.t 16]])
 (.cond (.t 17)
 (.seq (.ops [xC 2 (.bool false)])
 .ret)
 .skip))
 (.seq (.seq (.ops [xF 0 18 1,
 xR 19 18])
 (.block 0
 (.seq (.ops [xP 21 (.bin .eql) [.t 19,.c (.int .i64 3)],
 xM 20 21])
 (.cond (.t 20)
 (.seq (.ops [xF 1 22 1,
 xR 23 22,
 xP 24 (.bin .geq) [.t 23,.c (.int .i64 0)],
 xM 25 24,
 yF 1 26 1 25 true,
 yR 27 26 25 true,
 yP 28 (.bin .leq) [.t 27,.c (.int .i64 255)] 25 true,
 xP 29 .pick [.t 25,.t 28,.c (.bool false)],
 xM 2 29])
 .ret)
 (.seq (.ops [xP 31 (.bin .eql) [.t 19,.c (.int .i64 4)],
 xM 30 31])
 (.cond (.t 30)
 (.seq (.ops [xF 5 32 1,
 xL 1 33 32,
 xK 34 600 [.t 33],
 xM 2 34])
 .ret)
 (.seq (.ops [xP 36 (.bin .eql) [.t 19,.c (.int .i64 5)],
 xM 35 36])
 (.cond (.t 35)
 (.seq (.ops [xL 15 37 1,
 xK 38 601 [.t 37,.c (.int .i64 65536)],
 xM 2 38])
 .ret)
 (.seq (.ops [xP 40 (.bin .eql) [.t 19,.c (.int .i64 6)],
 xM 39 40])
 (.cond (.t 39)
 (.seq (.ops [xF 6 41 1,
 xL 6 42 41,
 xK 43 340 [.t 42],
 xM 2 43])
 .ret)
 (.seq (.ops [xP 45 (.bin .eql) [.t 19,.c (.int .i64 8)],
 xM 44 45])
 (.cond (.t 44)
 (.seq (.seq (.ops [xC 3 (.int .i64 0)])
 (.block 1
 (.loop [1,3]
 (.seq (.seq (.ops [xM 46 3,
 xF 12 47 1,
 xR 48 47,
 xP 49 .lenL [.t 48],
 xP 50 (.bin .lss) [.t 46,.t 49]])
 (.cond (.t 50)
 .skip
 (.exit 1)))
 (.seq (.block 2
 (.seq (.ops [xF 12 53 1,
 xR 54 53,
 xM 55 3,
 xI 13 56 54 55,
 xL 13 57 56,
 xK 58 602 [.t 57],
 xP 59 (.un .not) [.t 58],
 xM 60 59,
 yF 12 61 1 60 false,
 yR 62 61 60 false,
 yM 63 3 60 false,
 yP 64 (.iaddrS 13) [.t 62,.t 63] 60 false,
 yL 13 65 64 60 false,
 yK 66 19 [.t 65] 60 false,
 yP 67 (.bin .neq) [.t 66,.c (.int .i64 0)] 60 false,
 xP 68 .pick [.t 60,.c (.bool true),.t 67]])
 (.cond (.t 68)
 (.seq (.ops [xC 2 (.bool false)])
 .ret)
 .skip)))
 (.ops [xM 51 3,
 xP 52 (.bin .add) [.t 51,.c (.int .i64 1)],
 xM 3 52]))))))
 (.seq (.ops [xF 12 69 1,
 xR 70 69,
 xP 71 .lenL [.t 70],
 xP 72 (.bin .leq) [.t 71,.c (.int .i64 256)],
 xM 2 72])
 .ret))
 (.seq (.ops [xP 74 (.bin .eql) [.t 19,.c (.int .i64 9)],
 xM 73 74])
 (.cond (.t 73)
 (.seq (.ops [xL 15 75 1,
 xK 76 601 [.t 75,.c (.int .i64 65536)],
 xM 2 76])
 .ret)
 (.seq (.ops [xP 78 (.bin .eql) [.t 19,.c (.int .i64 10)],
 xM 77 78])
 (.cond (.t 77)
 (.seq (.ops [xC 4 (.int .i64 0)])
 (.block 3
 (.loop [1,4]
 (.seq (.seq (.ops [xM 79 4,
 xF 13 80 1,
 xR 81 80,
 xP 82 .lenL [.t 81],
 xP 83 (.bin .lss) [.t 79,.t 82]])
 (.cond (.t 83)
 .skip
 (.exit 3)))
 (.seq (.block 4
 (.seq (.ops [xF 13 86 1,
 xR 87 86,
 xM 88 4,
 xI 17 89 87 88,
 xF 0 90 89,
 xR 91 90,
 xK 92 603 [.t 91],
 xP 93 (.un .not) [.t 92]])
 (.cond (.t 93)
 (.seq (.ops [xC 2 (.bool false)])
 .ret)
 .skip)))
 (.ops [xM 84 4,
 xP 85 (.bin .add) [.t 84,.c (.int .i64 1)],
 xM 4 85]))))))
 .skip))))))))))))))))
 (.seq (.ops [xC 2 (.bool true)])
 .ret)))) }
/-- datakit/datakitref17.Known -/
def qkY:AFn:=
 { nt:=6,res:=[.tmp 2],body:=
 (.seq (.ops [xC 2 (.bool false)])
 (.seq (.ops [xM 3 0,
 xK 4 604 [.t 3],
 ⟨some 5,.pure (.bin .neq),[.t 4,.c (.str [])],none⟩,
 xM 2 5])
 .ret)) }
/-- datakit/datakitref15.same -/
def qg1:AFn:=
 { nt:=75,res:=[.tmp 6],body:=
 (.seq (.ops [xB 6 3 0,
 xB 6 4 1,
 xC 6 (.bool false)])
 (.seq (.seq (.ops [xM 8 2,
 xP 9 (.bin .lss) [.t 8,.c (.int .i64 1)],
 xM 10 9,
 yF 0 11 3 10 false,
 yR 12 11 10 false,
 yF 0 13 4 10 false,
 yR 14 13 10 false,
 yP 15 (.bin .neq) [.t 12,.t 14] 10 false,
 xP 16 .pick [.t 10,.c (.bool true),.t 15],
 xM 17 16,
 yF 1 18 3 17 false,
 yR 19 18 17 false,
 yF 1 20 4 17 false,
 yR 21 20 17 false,
 yP 22 (.bin .neq) [.t 19,.t 21] 17 false,
 xP 23 .pick [.t 17,.c (.bool true),.t 22],
 xM 24 23,
 yF 2 25 3 24 false,
 yR 26 25 24 false,
 yF 2 27 4 24 false,
 yR 28 27 24 false,
 yP 29 (.bin .neq) [.t 26,.t 28] 24 false,
 xP 30 .pick [.t 24,.c (.bool true),.t 29],
 xM 31 30,
 yF 3 32 3 31 false,
 yR 33 32 31 false,
 yF 3 34 4 31 false,
 yR 35 34 31 false,
 yP 36 (.bin .neq) [.t 33,.t 35] 31 false,
 xP 37 .pick [.t 31,.c (.bool true),.t 36],
 xM 38 37,
 yF 4 39 3 38 false,
 yR 40 39 38 false,
 yF 4 41 4 38 false,
 yR 42 41 38 false,
 yP 43 (.bin .neq) [.t 40,.t 42] 38 false,
 xP 44 .pick [.t 38,.c (.bool true),.t 43],
 xM 45 44,
 yF 5 46 3 45 false,
 yR 47 46 45 false,
 yP 48 .lenL [.t 47] 45 false,
 yF 5 49 4 45 false,
 yR 50 49 45 false,
 yP 51 .lenL [.t 50] 45 false,
 yP 52 (.bin .neq) [.t 48,.t 51] 45 false,
 xP 53 .pick [.t 45,.c (.bool true),.t 52]])
 (.cond (.t 53)
 (.seq (.ops [xC 6 (.bool false)])
 .ret)
 .skip))
 (.seq (.seq (.ops [xC 7 (.int .i64 0)])
 (.block 0
 (.loop [2,3,4,7]
 (.seq (.seq (.ops [xM 54 7,
 xF 5 55 3,
 xR 56 55,
 xP 57 .lenL [.t 56],
 xP 58 (.bin .lss) [.t 54,.t 57]])
 (.cond (.t 58)
 .skip
 (.exit 0)))
 (.seq (.block 1
 (.seq (.ops [xF 5 61 3,
 xR 62 61,
 xM 63 7,
 xI 6 64 62 63,
 xL 6 65 64,
 xF 5 66 4,
 xR 67 66,
 xM 68 7,
 xI 6 69 67 68,
 xL 6 70 69,
 xM 71 2,
 xP 72 (.bin .sub) [.t 71,.c (.int .i64 1)],
 xK 73 567 [.t 65,.t 70,.t 72],
 xP 74 (.un .not) [.t 73]])
 (.cond (.t 74)
 (.seq (.ops [xC 6 (.bool false)])
 .ret)
 .skip)))
 (.ops [xM 59 7,
 xP 60 (.bin .add) [.t 59,.c (.int .i64 1)],
 xM 7 60]))))))
 (.seq (.ops [xC 6 (.bool true)])
 .ret)))) }
/-- datakit/datakitref01.FromInt -/
def qjv:AFn:=
 { nt:=17,res:=[.tmp 2],body:=
 (.seq (.ops [xC 2 (.str [])])
 (.seq (.ops [xC 3 (.str [])])
 (.seq (.block 0
 (.loop [0,3]
 (.seq (.seq (.ops [xM 4 0,
 xP 5 (.bin .gtr) [.t 4,.c (.int .i64 0)]])
 (.cond (.t 5)
 .skip
 (.exit 0)))
 (.block 1
 (.seq (.ops [xM 6 0,
 ⟨some 7,.pure (.bin .rem),[.t 6,.c (.int .i64 10)],none⟩,
 xP 8 (.bin .add) [.c (.int .i64 48),.t 7],
 xP 9 (.conv .u8) [.t 8],
 ⟨some 10,.new (.buildSlice 1 [.int .u8 0] [0]),[.t 9],none⟩,
 ⟨some 11,.read .bytesStr,[.t 10],none⟩,
 xM 12 3,
 xP 13 (.bin .add) [.t 11,.t 12],
 xM 3 13])
 (.ops [xM 14 0,
 ⟨some 15,.pure (.bin .quo),[.t 14,.c (.int .i64 10)],none⟩,
 xM 0 15]))))))
 (.seq (.ops [xM 16 3,
 xM 2 16])
 .ret)))) }
/-- datakit/datakitref02.normal -/
def ql0:AFn:=
 { nt:=48,res:=[.cell 6 (some 3),.tmp 7],body:=
 (.seq (.ops [⟨some 6,.new (.new 3 [.agg [.bool false,.str [],.int .i64 0]]),[],none⟩,
 xC 7 (.int .i64 0)])
 (.seq (.ops [xM 9 1,
 xK 10 612 [.t 9],
 xM 1 10])
 (.seq (.seq (.ops [xM 11 1,
 ⟨some 12,.pure (.bin .eql),[.t 11,.c (.str [])],none⟩])
 (.cond (.t 12)
 (.seq (.ops [⟨some 13,.pure (.build [.bool false,.str [],.int .i64 0] []),[],none⟩,
 xS 3 6 13,
 xC 7 (.int .i64 0)])
 .ret)
 .skip))
 (.seq (.ops [xM 14 1,
 xK 15 90 [.t 14],
 xM 8 15])
 (.seq (.ops [xM 16 1,
 xM 17 1,
 xP 18 .lenS [.t 17],
 xM 19 8,
 xP 20 (.bin .sub) [.t 18,.t 19],
 xP 21 (.sliceS false true) [.t 16,.t 20],
 xM 1 21])
 (.seq (.seq (.ops [xM 22 1,
 xP 23 .lenS [.t 22],
 xP 24 (.bin .gtr) [.t 23,.c (.int .i64 120)],
 xM 25 24,
 yM 26 2 25 false,
 yP 27 (.bin .gtr) [.t 26,.c (.int .i64 400)] 25 false,
 xP 28 .pick [.t 25,.c (.bool true),.t 27],
 xM 29 28,
 yM 30 2 29 false,
 yM 31 8 29 false,
 yP 32 (.bin .add) [.t 30,.t 31] 29 false,
 yP 33 (.bin .gtr) [.t 32,.c (.int .i64 400)] 29 false,
 xP 34 .pick [.t 29,.c (.bool true),.t 33],
 xM 35 34,
 yM 36 2 35 false,
 yM 37 8 35 false,
 yP 38 (.bin .add) [.t 36,.t 37] 35 false,
 yP 39 (.bin .lss) [.t 38,.c (.int .i64 (-400))] 35 false,
 xP 40 .pick [.t 35,.c (.bool true),.t 39]])
 (.cond (.t 40)
 (.seq (.ops [⟨some 41,.pure (.build [.bool false,.str [],.int .i64 0] []),[],none⟩,
 xS 3 6 41,
 xC 7 (.int .i64 2)])
 .ret)
 .skip))
 (.seq (.ops [xM 42 0,
 xM 43 1,
 xM 44 2,
 xM 45 8,
 xP 46 (.bin .add) [.t 44,.t 45],
 ⟨some 47,.pure (.build [.bool false,.str [],.int .i64 0] [(0,1),(1,1),(2,1)]),[.t 42,.t 43,.t 46],none⟩,
 xS 3 6 47,
 xC 7 (.int .i64 0)])
 .ret))))))) }
/-- datakit/datakitref03.Len -/
def qjU:AFn:=
 { nt:=16,res:=[.tmp 2,.tmp 3],body:=
 (.seq (.ops [xC 2 (.int .i64 0),
 xC 3 (.int .i64 0)])
 (.seq (.ops [xM 7 0,
 xK 8 42 [.t 7],
 xM 6 8,
 xP 9 (.ext 0) [.t 6],
 xP 10 (.ext 1) [.t 6],
 xM 4 9,
 xM 5 10])
 (.seq (.seq (.ops [xM 11 5,
 xP 12 (.un .not) [.t 11]])
 (.cond (.t 12)
 (.seq (.ops [xC 2 (.int .i64 0),
 xC 3 (.int .i64 5)])
 .ret)
 .skip))
 (.seq (.ops [xM 13 4,
 xP 14 .lenL [.t 13],
 xP 15 (.bin .sub) [.t 14,.c (.int .i64 1)],
 xM 2 15,
 xC 3 (.int .i64 0)])
 .ret)))) }
/-- datakit/schema.empty -/
def qir:AFn:=
 { nt:=85,res:=[.tmp 2],body:=
 (.seq (.ops [xB 15 1 0,
 xC 2 (.bool false)])
 (.seq (.ops [xF 6 4 1,
 xL 6 5 4,
 ⟨some 3,.new (.new 6 [.agg [.int .i64 0,.int .i64 0,.int .i64 0,.int .i64 0,.int .i64 0,.snil 6]]),[],none⟩,
 xS 6 3 5])
 (.seq (.ops [xF 0 6 1,
 xR 7 6,
 xP 8 (.bin .eql) [.t 7,.c (.int .i64 0)],
 xM 9 8,
 yF 1 10 1 9 true,
 yR 11 10 9 true,
 yP 12 (.bin .eql) [.t 11,.c (.int .i64 0)] 9 true,
 xP 13 .pick [.t 9,.t 12,.c (.bool false)],
 xM 14 13,
 yF 2 15 1 14 true,
 yR 16 15 14 true,
 yP 17 (.bin .eql) [.t 16,.c (.int .i64 0)] 14 true,
 xP 18 .pick [.t 14,.t 17,.c (.bool false)],
 xM 19 18,
 yF 3 20 1 19 true,
 yR 21 20 19 true,
 yP 22 (.bin .eql) [.t 21,.c (.int .i64 0)] 19 true,
 xP 23 .pick [.t 19,.t 22,.c (.bool false)],
 xM 24 23,
 yF 4 25 1 24 true,
 yR 26 25 24 true,
 ⟨some 27,.pure (.bin .eql),[.t 26,.c (.str [])],some (24,true)⟩,
 xP 28 .pick [.t 24,.t 27,.c (.bool false)],
 xM 29 28,
 yF 5 30 1 29 true,
 yF 0 31 30 29 true,
 yR 32 31 29 true,
 yP 33 .lenL [.t 32] 29 true,
 yP 34 (.bin .eql) [.t 33,.c (.int .i64 0)] 29 true,
 xP 35 .pick [.t 29,.t 34,.c (.bool false)],
 xM 36 35,
 yF 12 37 1 36 true,
 yR 38 37 36 true,
 yP 39 .lenL [.t 38] 36 true,
 yP 40 (.bin .eql) [.t 39,.c (.int .i64 0)] 36 true,
 xP 41 .pick [.t 36,.t 40,.c (.bool false)],
 xM 42 41,
 yF 13 43 1 42 true,
 yR 44 43 42 true,
 yP 45 .lenL [.t 44] 42 true,
 yP 46 (.bin .eql) [.t 45,.c (.int .i64 0)] 42 true,
 xP 47 .pick [.t 42,.t 46,.c (.bool false)],
 xM 48 47,
 yF 14 49 1 48 true,
 yR 50 49 48 true,
 yP 51 .lenL [.t 50] 48 true,
 yP 52 (.bin .eql) [.t 51,.c (.int .i64 0)] 48 true,
 xP 53 .pick [.t 48,.t 52,.c (.bool false)],
 xM 54 53,
 yF 0 55 3 54 true,
 yR 56 55 54 true,
 yP 57 (.bin .eql) [.t 56,.c (.int .i64 0)] 54 true,
 xP 58 .pick [.t 54,.t 57,.c (.bool false)],
 xM 59 58,
 yF 1 60 3 59 true,
 yR 61 60 59 true,
 yP 62 (.bin .eql) [.t 61,.c (.int .i64 0)] 59 true,
 xP 63 .pick [.t 59,.t 62,.c (.bool false)],
 xM 64 63,
 yF 2 65 3 64 true,
 yR 66 65 64 true,
 yP 67 (.bin .eql) [.t 66,.c (.int .i64 0)] 64 true,
 xP 68 .pick [.t 64,.t 67,.c (.bool false)],
 xM 69 68,
 yF 3 70 3 69 true,
 yR 71 70 69 true,
 yP 72 (.bin .eql) [.t 71,.c (.int .i64 0)] 69 true,
 xP 73 .pick [.t 69,.t 72,.c (.bool false)],
 xM 74 73,
 yF 4 75 3 74 true,
 yR 76 75 74 true,
 yP 77 (.bin .eql) [.t 76,.c (.int .i64 0)] 74 true,
 xP 78 .pick [.t 74,.t 77,.c (.bool false)],
 xM 79 78,
 yF 5 80 3 79 true,
 yR 81 80 79 true,
 yP 82 .lenL [.t 81] 79 true,
 yP 83 (.bin .eql) [.t 82,.c (.int .i64 0)] 79 true,
 xP 84 .pick [.t 79,.t 83,.c (.bool false)],
 xM 2 84])
 .ret))) }
/-- datakit/formats.number -/
def qkd:AFn:=
 { nt:=17,res:=[.tmp 2],body:=
 (.seq (.ops [xC 2 (.int .i64 0)])
 (.seq (.seq (.ops [xK 5 624 [],
 xP 6 .lenL [.t 5],
 xC 7 (.int .i64 0)])
 (.block 0
 (.loop [0,5,6,7]
 (.seq (.ops [xP 8 (.bin .lss) [.t 7,.t 6]])
 (.seq (.cond (.t 8)
 .skip
 (.exit 0))
 (.seq (.block 1
 (.seq (.ops [xM 9 7,
 xI 1 10 5 7,
 xR 11 10,
 xM 3 9,
 xM 4 11])
 (.seq (.ops [xM 12 4,
 xM 13 0,
 xP 14 (.bin .eql) [.t 12,.t 13]])
 (.cond (.t 14)
 (.seq (.ops [xM 15 3,
 xM 2 15])
 .ret)
 .skip))))
 (.ops [xP 16 (.bin .add) [.t 7,.c (.int .i64 1)],
 xM 7 16])))))))
 (.seq (.ops [xC 2 (.int .i64 12)])
 .ret))) }
/-- datakit/datakitref45.unused -/
def qk4:AFn:=
 { nt:=100,res:=[.tmp 2],body:=
 (.seq (.ops [xB 15 1 0,
 xC 2 (.bool false)])
 (.seq (.ops [xF 0 4 1,
 xR 5 4,
 xM 3 5])
 (.seq (.seq (.ops [xM 6 3,
 xP 7 (.bin .neq) [.t 6,.c (.int .i64 3)],
 xM 8 7,
 yF 1 9 1 8 true,
 yR 10 9 8 true,
 yP 11 (.bin .neq) [.t 10,.c (.int .i64 0)] 8 true,
 xP 12 .pick [.t 8,.t 11,.c (.bool false)]])
 (.cond (.t 12)
 (.seq (.ops [xC 2 (.bool false)])
 .ret)
 .skip))
 (.seq (.seq (.ops [xM 13 3,
 xP 14 (.bin .neq) [.t 13,.c (.int .i64 5)],
 xM 15 14,
 yM 16 3 15 true,
 yP 17 (.bin .neq) [.t 16,.c (.int .i64 9)] 15 true,
 xP 18 .pick [.t 15,.t 17,.c (.bool false)],
 xM 19 18,
 yF 2 20 1 19 true,
 yR 21 20 19 true,
 yP 22 (.bin .neq) [.t 21,.c (.int .i64 0)] 19 true,
 yM 23 22 19 true,
 yF 3 24 1 23 false,
 yR 25 24 23 false,
 yP 26 (.bin .neq) [.t 25,.c (.int .i64 0)] 23 false,
 yP 27 .pick [.t 23,.c (.bool true),.t 26] 19 true,
 xP 28 .pick [.t 19,.t 27,.c (.bool false)]])
 (.cond (.t 28)
 (.seq (.ops [xC 2 (.bool false)])
 .ret)
 .skip))
 (.seq (.seq (.ops [xM 29 3,
 xP 30 (.bin .neq) [.t 29,.c (.int .i64 7)],
 xM 31 30,
 yM 32 3 31 true,
 yP 33 (.bin .neq) [.t 32,.c (.int .i64 14)] 31 true,
 xP 34 .pick [.t 31,.t 33,.c (.bool false)],
 xM 35 34,
 yF 4 36 1 35 true,
 yR 37 36 35 true,
 ⟨some 38,.pure (.bin .neq),[.t 37,.c (.str [])],some (35,true)⟩,
 xP 39 .pick [.t 35,.t 38,.c (.bool false)]])
 (.cond (.t 39)
 (.seq (.ops [xC 2 (.bool false)])
 .ret)
 .skip))
 (.seq (.seq (.ops [xM 40 3,
 xP 41 (.bin .neq) [.t 40,.c (.int .i64 4)],
 xM 42 41,
 yF 5 43 1 42 true,
 yF 0 44 43 42 true,
 yR 45 44 42 true,
 yP 46 .lenL [.t 45] 42 true,
 yP 47 (.bin .gtr) [.t 46,.c (.int .i64 0)] 42 true,
 xP 48 .pick [.t 42,.t 47,.c (.bool false)],
 xM 49 48,
 yM 50 3 49 false,
 yP 51 (.bin .neq) [.t 50,.c (.int .i64 6)] 49 false,
 yM 52 51 49 false,
 yF 6 53 1 52 true,
 yL 6 54 53 52 true,
 ⟨some 55,.pure (.build [.int .i64 0,.int .i64 0,.int .i64 0,.int .i64 0,.int .i64 0,.snil 6] []),[],some (52,true)⟩,
 yK 56 523 [.t 54,.t 55] 52 true,
 yP 57 (.un .not) [.t 56] 52 true,
 yP 58 .pick [.t 52,.t 57,.c (.bool false)] 49 false,
 xP 59 .pick [.t 49,.c (.bool true),.t 58],
 xM 60 59,
 yM 61 3 60 false,
 yP 62 (.bin .neq) [.t 61,.c (.int .i64 8)] 60 false,
 yM 63 62 60 false,
 yF 12 64 1 63 true,
 yR 65 64 63 true,
 yP 66 .lenL [.t 65] 63 true,
 yP 67 (.bin .gtr) [.t 66,.c (.int .i64 0)] 63 true,
 yP 68 .pick [.t 63,.t 67,.c (.bool false)] 60 false,
 xP 69 .pick [.t 60,.c (.bool true),.t 68],
 xM 70 69,
 yM 71 3 70 false,
 yP 72 (.bin .neq) [.t 71,.c (.int .i64 10)] 70 false,
 yM 73 72 70 false,
 yF 13 74 1 73 true,
 yR 75 74 73 true,
 yP 76 .lenL [.t 75] 73 true,
 yP 77 (.bin .gtr) [.t 76,.c (.int .i64 0)] 73 true,
 yP 78 .pick [.t 73,.t 77,.c (.bool false)] 70 false,
 xP 79 .pick [.t 70,.c (.bool true),.t 78]])
 (.cond (.t 79)
 (.seq (.ops [xC 2 (.bool false)])
 .ret)
 .skip))
 (.seq (.seq (.ops [xM 80 3])
 (.block 0
 (.seq (.seq (.ops [xP 82 (.bin .eql) [.t 80,.c (.int .i64 9)],
 xM 81 82])
 (.cond (.t 81)
 .skip
 (.seq (.ops [xP 83 (.bin .eql) [.t 80,.c (.int .i64 10)],
 xM 81 83])
 (.cond (.t 81)
 .skip
 (.ops [xP 84 (.bin .eql) [.t 80,.c (.int .i64 13)],
 xM 81 84])))))
 (.cond (.t 81)
 (.seq (.ops [xF 14 85 1,
 xR 86 85,
 xP 87 .lenL [.t 86],
 xP 88 (.bin .eql) [.t 87,.c (.int .i64 1)],
 xM 2 88])
 .ret)
 (.seq (.seq (.ops [xP 90 (.bin .eql) [.t 80,.c (.int .i64 11)],
 xM 89 90])
 (.cond (.t 89)
 .skip
 (.ops [xP 91 (.bin .eql) [.t 80,.c (.int .i64 12)],
 xM 89 91])))
 (.cond (.t 89)
 (.seq (.ops [xF 14 92 1,
 xR 93 92,
 xP 94 .lenL [.t 93],
 xP 95 (.bin .geq) [.t 94,.c (.int .i64 1)],
 xM 2 95])
 .ret)
 .skip))))))
 (.seq (.ops [xF 14 96 1,
 xR 97 96,
 xP 98 .lenL [.t 97],
 xP 99 (.bin .eql) [.t 98,.c (.int .i64 0)],
 xM 2 99])
 .ret)))))))) }
/-- datakit/datakitref18.Valid -/
def qiq:AFn:=
 { nt:=22,res:=[.tmp 2],body:=
 (.seq (.ops [xB 1 1 0,
 xC 2 (.bool false)])
 (.seq (.seq (.ops [xC 3 (.int .i64 0)])
 (.block 0
 (.loop [1,3]
 (.seq (.seq (.ops [xM 4 3,
 xF 0 5 1,
 xR 6 5,
 xP 7 .lenL [.t 6],
 xP 8 (.bin .lss) [.t 4,.t 7]])
 (.cond (.t 8)
 .skip
 (.exit 0)))
 (.seq (.block 1
 (.seq (.ops [xF 0 11 1,
 xR 12 11,
 xM 13 3,
 xI 11 14 12 13,
 xL 11 15 14,
 xK 16 625 [.t 15],
 xP 17 (.un .not) [.t 16]])
 (.cond (.t 17)
 (.seq (.ops [xC 2 (.bool false)])
 .ret)
 .skip)))
 (.ops [xM 9 3,
 xP 10 (.bin .add) [.t 9,.c (.int .i64 1)],
 xM 3 10]))))))
 (.seq (.ops [xF 0 18 1,
 xR 19 18,
 xP 20 .lenL [.t 19],
 xP 21 (.bin .leq) [.t 20,.c (.int .i64 256)],
 xM 2 21])
 .ret))) }
/-- datakit/datakitref45.bounds -/
def qkJ:AFn:=
 { nt:=32,res:=[.tmp 4],body:=
 (.seq (.ops [xB 15 2 0,
 xC 4 (.bool false)])
 (.seq (.ops [xF 2 5 2,
 xR 6 5,
 xP 7 (.bin .geq) [.t 6,.c (.int .i64 0)],
 xM 8 7,
 yF 2 9 2 8 true,
 yR 10 9 8 true,
 yM 11 1 8 true,
 yP 12 (.bin .leq) [.t 10,.t 11] 8 true,
 xP 13 .pick [.t 8,.t 12,.c (.bool false)],
 xM 14 13,
 yF 3 15 2 14 true,
 yR 16 15 14 true,
 yP 17 (.bin .eql) [.t 16,.c (.int .i64 (-1))] 14 true,
 yM 18 17 14 true,
 yF 3 19 2 18 false,
 yR 20 19 18 false,
 yF 2 21 2 18 false,
 yR 22 21 18 false,
 yP 23 (.bin .geq) [.t 20,.t 22] 18 false,
 yM 24 23 18 false,
 yF 3 25 2 24 true,
 yR 26 25 24 true,
 yM 27 1 24 true,
 yP 28 (.bin .leq) [.t 26,.t 27] 24 true,
 yP 29 .pick [.t 24,.t 28,.c (.bool false)] 18 false,
 yP 30 .pick [.t 18,.c (.bool true),.t 29] 14 true,
 xP 31 .pick [.t 14,.t 30,.c (.bool false)],
 xM 4 31])
 .ret)) }
/-- datakit/datakitref07.Scalar -/
def qkc:AFn:=
 { nt:=6,res:=[.tmp 2],body:=
 (.seq (.ops [xB 13 1 0,
 xC 2 (.bool false)])
 (.seq (.ops [xF 0 3 1,
 xR 4 3,
 xP 5 (.bin .lss) [.t 4,.c (.int .i64 6)],
 xM 2 5])
 .ret)) }
/-- datakit/datakitref45.Key -/
def qi6:AFn:=
 { nt:=10,res:=[.tmp 2],body:=
 (.seq (.ops [xC 2 (.bool false)])
 (.seq (.ops [xM 3 0,
 xP 4 .lenS [.t 3],
 xP 5 (.bin .leq) [.t 4,.c (.int .i64 1024)],
 xM 6 5,
 yM 7 0 6 true,
 yK 8 24 [.t 7] 6 true,
 xP 9 .pick [.t 6,.t 8,.c (.bool false)],
 xM 2 9])
 .ret)) }
/-- datakit/datakitref17.Source -/
def qj6:AFn:=
 { nt:=28,res:=[.tmp 2],body:=
 (.seq (.ops [xC 2 (.str [])])
 (.seq (.seq (.ops [xM 3 0])
 (.block 0
 (.seq (.ops [⟨some 5,.pure (.bin .eql),[.t 3,.c (.str [98,97,115,101,54,52])],none⟩,
 xM 4 5])
 (.cond (.t 4)
 (.seq (.ops [xC 2 (.str [40,91,65,45,90,93,124,91,97,45,122,93,124,91,48,45,57,93,124,92,120,50,98,124,47,41,123,52,44,52,125,42,40,40,91,65,45,90,93,124,91,97,45,122,93,124,91,48,45,57,93,124,92,120,50,98,124,47,41,123,50,44,50,125,61,61,124,40,91,65,45,90,93,124,91,97,45,122,93,124,91,48,45,57,93,124,92,120,50,98,124,47,41,123,51,44,51,125,61,41,63])])
 .ret)
 (.seq (.ops [⟨some 7,.pure (.bin .eql),[.t 3,.c (.str [100,97,116,101])],none⟩,
 xM 6 7])
 (.cond (.t 6)
 (.seq (.ops [xC 2 (.str [91,48,45,57,93,123,52,44,52,125,45,40,48,91,49,45,57,93,124,49,91,48,45,50,93,41,45,40,48,91,49,45,57,93,124,91,49,45,50,93,91,48,45,57,93,124,51,91,48,45,49,93,41])])
 .ret)
 (.seq (.ops [⟨some 9,.pure (.bin .eql),[.t 3,.c (.str [100,97,116,101,116,105,109,101])],none⟩,
 xM 8 9])
 (.cond (.t 8)
 (.seq (.ops [xC 2 (.str [91,48,45,57,93,123,52,44,52,125,45,40,48,91,49,45,57,93,124,49,91,48,45,50,93,41,45,40,48,91,49,45,57,93,124,91,49,45,50,93,91,48,45,57,93,124,51,91,48,45,49,93,41,84,40,91,48,45,49,93,91,48,45,57,93,124,50,91,48,45,51,93,41,58,91,48,45,53,93,91,48,45,57,93,58,91,48,45,53,93,91,48,45,57,93,40,92,120,50,101,91,48,45,57,93,123,49,44,57,125,41,63])])
 .ret)
 (.seq (.ops [⟨some 11,.pure (.bin .eql),[.t 3,.c (.str [104,101,120])],none⟩,
 xM 10 11])
 (.cond (.t 10)
 (.seq (.ops [xC 2 (.str [40,91,48,45,57,93,124,91,97,45,102,93,41,123,50,44,50,125,43])])
 .ret)
 (.seq (.ops [⟨some 13,.pure (.bin .eql),[.t 3,.c (.str [105,110,115,116,97,110,116])],none⟩,
 xM 12 13])
 (.cond (.t 12)
 (.seq (.ops [xC 2 (.str [91,48,45,57,93,123,52,44,52,125,45,40,48,91,49,45,57,93,124,49,91,48,45,50,93,41,45,40,48,91,49,45,57,93,124,91,49,45,50,93,91,48,45,57,93,124,51,91,48,45,49,93,41,84,40,91,48,45,49,93,91,48,45,57,93,124,50,91,48,45,51,93,41,58,91,48,45,53,93,91,48,45,57,93,58,91,48,45,53,93,91,48,45,57,93,40,92,120,50,101,91,48,45,57,93,123,49,44,57,125,41,63,40,90,124,40,92,120,50,98,124,45,41,40,91,48,45,49,93,91,48,45,57,93,124,50,91,48,45,51,93,41,58,91,48,45,53,93,91,48,45,57,93,41])])
 .ret)
 (.seq (.ops [⟨some 15,.pure (.bin .eql),[.t 3,.c (.str [105,110,116,101,103,101,114])],none⟩,
 xM 14 15])
 (.cond (.t 14)
 (.seq (.ops [xC 2 (.str [48,124,45,63,91,49,45,57,93,91,48,45,57,93,42])])
 .ret)
 (.seq (.ops [⟨some 17,.pure (.bin .eql),[.t 3,.c (.str [105,112,118,52])],none⟩,
 xM 16 17])
 (.cond (.t 16)
 (.seq (.ops [xC 2 (.str [40,91,48,45,57,93,124,91,49,45,57,93,91,48,45,57,93,124,49,91,48,45,57,93,91,48,45,57,93,124,50,91,48,45,52,93,91,48,45,57,93,124,50,53,91,48,45,53,93,41,40,92,120,50,101,40,91,48,45,57,93,124,91,49,45,57,93,91,48,45,57,93,124,49,91,48,45,57,93,91,48,45,57,93,124,50,91,48,45,52,93,91,48,45,57,93,124,50,53,91,48,45,53,93,41,41,123,51,44,51,125])])
 .ret)
 (.seq (.ops [⟨some 19,.pure (.bin .eql),[.t 3,.c (.str [110,97,109,101])],none⟩,
 xM 18 19])
 (.cond (.t 18)
 (.seq (.ops [xC 2 (.str [40,91,65,45,90,93,124,91,97,45,122,93,124,95,41,40,91,65,45,90,93,124,91,97,45,122,93,124,91,48,45,57,93,124,95,41,42])])
 .ret)
 (.seq (.ops [⟨some 21,.pure (.bin .eql),[.t 3,.c (.str [110,117,109,98,101,114])],none⟩,
 xM 20 21])
 (.cond (.t 20)
 (.seq (.ops [xC 2 (.str [45,63,40,48,124,91,49,45,57,93,91,48,45,57,93,42,41,40,92,120,50,101,91,48,45,57,93,43,41,63,40,40,101,124,69,41,40,92,120,50,98,124,45,41,63,91,48,45,57,93,43,41,63])])
 .ret)
 (.seq (.ops [⟨some 23,.pure (.bin .eql),[.t 3,.c (.str [112,97,116,104])],none⟩,
 xM 22 23])
 (.cond (.t 22)
 (.seq (.ops [xC 2 (.str [40,47,40,91,65,45,90,93,124,91,97,45,122,93,124,91,48,45,57,93,124,95,124,45,124,92,120,50,101,41,42,41,43])])
 .ret)
 (.seq (.ops [⟨some 25,.pure (.bin .eql),[.t 3,.c (.str [116,105,109,101])],none⟩,
 xM 24 25])
 (.cond (.t 24)
 (.seq (.ops [xC 2 (.str [40,91,48,45,49,93,91,48,45,57,93,124,50,91,48,45,51,93,41,58,91,48,45,53,93,91,48,45,57,93,58,91,48,45,53,93,91,48,45,57,93,40,92,120,50,101,91,48,45,57,93,123,49,44,57,125,41,63])])
 .ret)
 (.seq (.ops [⟨some 27,.pure (.bin .eql),[.t 3,.c (.str [117,117,105,100])],none⟩,
 xM 26 27])
 (.cond (.t 26)
 (.seq (.ops [xC 2 (.str [40,91,48,45,57,93,124,91,97,45,102,93,41,123,56,44,56,125,45,40,91,48,45,57,93,124,91,97,45,102,93,41,123,52,44,52,125,45,40,91,48,45,57,93,124,91,97,45,102,93,41,123,52,44,52,125,45,40,91,48,45,57,93,124,91,97,45,102,93,41,123,52,44,52,125,45,40,91,48,45,57,93,124,91,97,45,102,93,41,123,49,50,44,49,50,125])])
 .ret)
 .skip))))))))))))))))))))))))))
 (.seq (.ops [xC 2 (.str [])])
 .ret))) }
/-- datakit/datakitref01.Strip -/
def qjk:AFn:=
 { nt:=19,res:=[.tmp 2],body:=
 (.seq (.ops [xC 2 (.str [])])
 (.seq (.ops [xC 3 (.int .i64 0)])
 (.seq (.block 0
 (.loop [0,3]
 (.seq (.seq (.ops [xM 4 3,
 xM 5 0,
 xP 6 .lenS [.t 5],
 xP 7 (.bin .lss) [.t 4,.t 6],
 xM 8 7,
 yM 9 0 8 true,
 yM 10 3 8 true,
 yP 11 .idxStr [.t 9,.t 10] 8 true,
 yP 12 (.bin .eql) [.t 11,.c (.int .u8 48)] 8 true,
 xP 13 .pick [.t 8,.t 12,.c (.bool false)]])
 (.cond (.t 13)
 .skip
 (.exit 0)))
 (.block 1
 (.ops [xM 14 3,
 xP 15 (.bin .add) [.t 14,.c (.int .i64 1)],
 xM 3 15])))))
 (.seq (.ops [xM 16 0,
 xM 17 3,
 xP 18 (.sliceS true false) [.t 16,.t 17],
 xM 2 18])
 .ret)))) }
/-- datakit/datakitref07.Sorted -/
def qkl:AFn:=
 { nt:=55,res:=[.cell 2 (some 13)],body:=
 (.seq (.ops [xB 13 1 0,
 xN 2 13 z1])
 (.seq (.ops [xL 13 7 1,
 xN 3 13 z1,
 xS 13 3 7])
 (.seq (.ops [xF 11 8 3,
 ⟨none,.eff (.store 1),[.t 8,.c (.snil 13)],none⟩])
 (.seq (.ops [xF 12 9 3,
 ⟨none,.eff (.store 1),[.t 9,.c (.snil 14)],none⟩])
 (.seq (.seq (.ops [xC 4 (.int .i64 0)])
 (.block 0
 (.loop [1,2,3,4]
 (.seq (.seq (.ops [xM 10 4,
 xF 11 11 1,
 xR 12 11,
 xP 13 .lenL [.t 12],
 xP 14 (.bin .lss) [.t 10,.t 13]])
 (.cond (.t 14)
 .skip
 (.exit 0)))
 (.seq (.block 1
 (.draw 1 [[xF 11 17 3,
 xR 18 17,
 xF 11 19 1,
 xR 20 19,
 xM 21 4,
 xI 13 22 20 21,
 xL 13 23 22,
 xK 24 620 [.t 23],
 ⟨some 25,.newAt 0 (.buildSlice 13 [z1] [0]),[.t 24],none⟩,
 ⟨some 26,.eff (.append 13 168),[.t 18,.t 25],none⟩,
 xF 11 27 3,
 xS 1 27 26]]))
 (.ops [xM 15 4,
 xP 16 (.bin .add) [.t 15,.c (.int .i64 1)],
 xM 4 16]))))))
 (.seq (.ops [xF 12 28 1,
 xR 29 28,
 xK 30 636 [.t 29],
 xM 5 30])
 (.seq (.seq (.ops [xC 6 (.int .i64 0)])
 (.block 2
 (.loop [2,3,5,6]
 (.seq (.seq (.ops [xM 31 6,
 xM 32 5,
 xP 33 .lenL [.t 32],
 xP 34 (.bin .lss) [.t 31,.t 33]])
 (.cond (.t 34)
 .skip
 (.exit 2)))
 (.seq (.block 3
 (.draw 1 [[xF 12 37 3,
 xR 38 37,
 xM 39 5,
 xM 40 6,
 xI 14 41 39 40,
 xF 0 42 41,
 xR 43 42,
 xM 44 5,
 xM 45 6,
 xI 14 46 44 45,
 xF 1 47 46,
 xL 13 48 47,
 xK 49 620 [.t 48],
 ⟨some 50,.pure (.build [.str [],.int .i64 0,.bool false,.bool false,.str [],.int .i64 0,.int .i64 0,.int .i64 0,.int .i64 0,.int .i64 0,.str [],.snil 1,.snil 13,.snil 14] [(0,1),(1,13)]),[.t 43,.t 49],none⟩,
 ⟨some 51,.newAt 0 (.buildSlice 14 [z5] [0]),[.t 50],none⟩,
 ⟨some 52,.eff (.append 14 184),[.t 38,.t 51],none⟩,
 xF 12 53 3,
 xS 1 53 52]]))
 (.ops [xM 35 6,
 xP 36 (.bin .add) [.t 35,.c (.int .i64 1)],
 xM 6 36]))))))
 (.seq (.ops [xL 13 54 3,
 xS 13 2 54])
 .ret)))))))) }
/-- datakit/formats.Names -/
def qjl:AFn:=
 { nt:=2,res:=[.tmp 0],body:=
 (.seq (.ops [xC 0 (.snil 1)])
 (.seq (.ops [⟨some 1,.new (.buildSlice 1 [.str [],.str [],.str [],.str [],.str [],.str [],.str [],.str [],.str [],.str [],.str [],.str []] [0,1,2,3,4,5,6,7,8,9,10,11]),[.c (.str [98,97,115,101,54,52]),.c (.str [100,97,116,101]),.c (.str [100,97,116,101,116,105,109,101]),.c (.str [104,101,120]),.c (.str [105,110,115,116,97,110,116]),.c (.str [105,110,116,101,103,101,114]),.c (.str [105,112,118,52]),.c (.str [110,97,109,101]),.c (.str [110,117,109,98,101,114]),.c (.str [112,97,116,104]),.c (.str [116,105,109,101]),.c (.str [117,117,105,100])],none⟩,
 xM 0 1])
 .ret)) }
/-- datakit/datakitref18.Part -/
def qdA:AFn:=
 { nt:=21,res:=[.tmp 2],body:=
 (.seq (.ops [xB 11 1 0,
 xC 2 (.bool false)])
 (.seq (.ops [xF 0 3 1,
 xL 5 4 3,
 xK 5 638 [.t 4],
 xM 6 5,
 yF 5 7 1 6 true,
 yL 5 8 7 6 true,
 yK 9 638 [.t 8] 6 true,
 xP 10 .pick [.t 6,.t 9,.c (.bool false)],
 xM 11 10,
 yF 10 12 1 11 true,
 yR 13 12 11 true,
 yP 14 (.bin .geq) [.t 13,.c (.int .i64 0)] 11 true,
 xP 15 .pick [.t 11,.t 14,.c (.bool false)],
 xM 16 15,
 yF 10 17 1 16 true,
 yR 18 17 16 true,
 yP 19 (.bin .leq) [.t 18,.c (.int .i64 2)] 16 true,
 xP 20 .pick [.t 16,.t 19,.c (.bool false)],
 xM 2 20])
 .ret)) }
/-- datakit/datakitref02.Cmp -/
def qbT:AFn:=
 { nt:=27,res:=[.tmp 4],body:=
 (.seq (.ops [xB 3 2 0,
 xB 3 3 1,
 xC 4 (.int .i64 0)])
 (.seq (.seq (.ops [xF 0 5 2,
 xR 6 5,
 xM 7 6,
 yF 0 8 3 7 true,
 yR 9 8 7 true,
 yP 10 (.un .not) [.t 9] 7 true,
 xP 11 .pick [.t 7,.t 10,.c (.bool false)]])
 (.cond (.t 11)
 (.seq (.ops [xC 4 (.int .i64 (-1))])
 .ret)
 .skip))
 (.seq (.seq (.ops [xF 0 12 3,
 xR 13 12,
 xM 14 13,
 yF 0 15 2 14 true,
 yR 16 15 14 true,
 yP 17 (.un .not) [.t 16] 14 true,
 xP 18 .pick [.t 14,.t 17,.c (.bool false)]])
 (.cond (.t 18)
 (.seq (.ops [xC 4 (.int .i64 1)])
 .ret)
 .skip))
 (.seq (.seq (.ops [xF 0 19 2,
 xR 20 19])
 (.cond (.t 20)
 (.seq (.ops [xL 3 21 3,
 xL 3 22 2,
 xK 23 643 [.t 21,.t 22],
 xM 4 23])
 .ret)
 .skip))
 (.seq (.ops [xL 3 24 2,
 xL 3 25 3,
 xK 26 643 [.t 24,.t 25],
 xM 4 26])
 .ret))))) }
/-- datakit/datakitref02.Whole -/
def qh4:AFn:=
 { nt:=6,res:=[.tmp 2],body:=
 (.seq (.ops [xB 3 1 0,
 xC 2 (.bool false)])
 (.seq (.ops [xF 2 3 1,
 xR 4 3,
 xP 5 (.bin .geq) [.t 4,.c (.int .i64 0)],
 xM 2 5])
 .ret)) }
/-- datakit/datakitref07.Fields -/
def qkr:AFn:=
 { nt:=51,res:=[.tmp 2],body:=
 (.seq (.ops [xC 2 (.snil 14)])
 (.seq (.ops [xC 3 (.snil 14)])
 (.seq (.seq (.ops [xC 4 (.int .i64 0)])
 (.block 0
 (.loop [0,3,4]
 (.seq (.seq (.ops [xM 7 4,
 xM 8 0,
 xP 9 .lenL [.t 8],
 xP 10 (.bin .lss) [.t 7,.t 9]])
 (.cond (.t 10)
 .skip
 (.exit 0)))
 (.seq (.block 1
 (.seq (.ops [xC 5 (.int .i64 0)])
 (.seq (.block 2
 (.loop [0,3,4,5]
 (.seq (.seq (.ops [xM 13 5,
 xM 14 3,
 xP 15 .lenL [.t 14],
 xP 16 (.bin .lss) [.t 13,.t 15],
 xM 17 16,
 yM 18 3 17 true,
 yM 19 5 17 true,
 yP 20 (.iaddrS 14) [.t 18,.t 19] 17 true,
 yF 0 21 20 17 true,
 yR 22 21 17 true,
 yM 23 0 17 true,
 yM 24 4 17 true,
 yP 25 (.iaddrS 14) [.t 23,.t 24] 17 true,
 yF 0 26 25 17 true,
 yR 27 26 17 true,
 yP 28 (.bin .leq) [.t 22,.t 27] 17 true,
 xP 29 .pick [.t 17,.t 28,.c (.bool false)]])
 (.cond (.t 29)
 .skip
 (.exit 2)))
 (.block 3
 (.ops [xM 30 5,
 xP 31 (.bin .add) [.t 30,.c (.int .i64 1)],
 xM 5 31])))))
 (.seq (.ops [⟨some 32,.new (.buildSlice 14 [] []),[],none⟩,
 xM 33 3,
 xM 34 5,
 xP 35 (.sliceL 14 false true false) [.t 33,.t 34],
 ⟨some 36,.eff (.append 14 184),[.t 32,.t 35],none⟩,
 xM 6 36])
 (.seq (.ops [xM 37 6,
 xM 38 0,
 xM 39 4,
 xI 14 40 38 39,
 xL 14 41 40,
 ⟨some 42,.new (.buildSlice 14 [z5] [0]),[.t 41],none⟩,
 ⟨some 43,.eff (.append 14 184),[.t 37,.t 42],none⟩,
 xM 6 43])
 (.seq (.ops [xM 44 6,
 xM 45 3,
 xM 46 5,
 xP 47 (.sliceL 14 true false false) [.t 45,.t 46],
 ⟨some 48,.eff (.append 14 184),[.t 44,.t 47],none⟩,
 xM 6 48])
 (.ops [xM 49 6,
 xM 3 49])))))))
 (.ops [xM 11 4,
 xP 12 (.bin .add) [.t 11,.c (.int .i64 1)],
 xM 4 12]))))))
 (.seq (.ops [xM 50 3,
 xM 2 50])
 .ret)))) }
/-- datakit/datakitref18.bound -/
def qfB:AFn:=
 { nt:=12,res:=[.tmp 2],body:=
 (.seq (.ops [xB 5 1 0,
 xC 2 (.bool false)])
 (.seq (.seq (.ops [xF 0 3 1,
 xR 4 3,
 xP 5 (.un .not) [.t 4]])
 (.cond (.t 5)
 (.seq (.ops [xL 5 6 1,
 ⟨some 7,.pure (.build [.bool false,.bool false,.str [],.int .i64 0,.bool false] []),[],none⟩,
 ⟨some 8,.pure (.eqF [.bool,.bool,.str,.int,.bool] false),[.t 6,.t 7],none⟩,
 xM 2 8])
 .ret)
 .skip))
 (.seq (.ops [xF 1 9 1,
 xL 3 10 9,
 xK 11 79 [.t 10],
 xM 2 11])
 .ret))) }
/-- datakit/datakitref02.size -/
def q8P:AFn:=
 { nt:=69,res:=[.tmp 4],body:=
 (.seq (.ops [xB 3 2 0,
 xB 3 3 1,
 xC 4 (.int .i64 0)])
 (.seq (.seq (.ops [xF 1 8 2,
 xR 9 8,
 ⟨some 10,.pure (.bin .eql),[.t 9,.c (.str [])],none⟩,
 xM 11 10,
 yF 1 12 3 11 false,
 yR 13 12 11 false,
 ⟨some 14,.pure (.bin .eql),[.t 13,.c (.str [])],some (11,false)⟩,
 xP 15 .pick [.t 11,.c (.bool true),.t 14]])
 (.cond (.t 15)
 (.seq (.ops [xF 1 16 2,
 xR 17 16,
 xF 1 18 3,
 xR 19 18,
 xK 20 647 [.t 17,.t 19],
 xM 4 20])
 .ret)
 .skip))
 (.seq (.ops [xF 1 21 2,
 xR 22 21,
 xP 23 .lenS [.t 22],
 xF 2 24 2,
 xR 25 24,
 xP 26 (.bin .add) [.t 23,.t 25],
 xF 1 27 3,
 xR 28 27,
 xP 29 .lenS [.t 28],
 xF 2 30 3,
 xR 31 30,
 xP 32 (.bin .add) [.t 29,.t 31],
 xM 5 26,
 xM 6 32])
 (.seq (.seq (.ops [xM 33 5,
 xM 34 6,
 xP 35 (.bin .lss) [.t 33,.t 34]])
 (.cond (.t 35)
 (.seq (.ops [xC 4 (.int .i64 (-1))])
 .ret)
 .skip))
 (.seq (.seq (.ops [xM 36 5,
 xM 37 6,
 xP 38 (.bin .gtr) [.t 36,.t 37]])
 (.cond (.t 38)
 (.seq (.ops [xC 4 (.int .i64 1)])
 .ret)
 .skip))
 (.seq (.ops [xF 1 39 2,
 xR 40 39,
 xP 41 .lenS [.t 40],
 xM 7 41])
 (.seq (.seq (.ops [xF 1 42 3,
 xR 43 42,
 xP 44 .lenS [.t 43],
 xM 45 7,
 xP 46 (.bin .gtr) [.t 44,.t 45]])
 (.cond (.t 46)
 (.ops [xF 1 47 3,
 xR 48 47,
 xP 49 .lenS [.t 48],
 xM 7 49])
 .skip))
 (.seq (.ops [xF 1 50 2,
 xR 51 50,
 xM 52 7,
 xF 1 53 2,
 xR 54 53,
 xP 55 .lenS [.t 54],
 xP 56 (.bin .sub) [.t 52,.t 55],
 xK 57 40 [.t 56],
 xP 58 (.bin .add) [.t 51,.t 57],
 xF 1 59 3,
 xR 60 59,
 xM 61 7,
 xF 1 62 3,
 xR 63 62,
 xP 64 .lenS [.t 63],
 xP 65 (.bin .sub) [.t 61,.t 64],
 xK 66 40 [.t 65],
 xP 67 (.bin .add) [.t 60,.t 66],
 xK 68 647 [.t 58,.t 67],
 xM 4 68])
 .ret)))))))) }
/-- datakit/datakitref01.Cmp -/
def qgT:AFn:=
 { nt:=25,res:=[.tmp 4],body:=
 (.seq (.ops [xC 4 (.int .i64 0)])
 (.seq (.seq (.ops [xM 5 0,
 xP 6 .lenS [.t 5],
 xM 7 1,
 xP 8 .lenS [.t 7],
 xP 9 (.bin .lss) [.t 6,.t 8],
 xM 10 9,
 yM 11 0 10 false,
 yP 12 .lenS [.t 11] 10 false,
 yM 13 1 10 false,
 yP 14 .lenS [.t 13] 10 false,
 yP 15 (.bin .eql) [.t 12,.t 14] 10 false,
 yM 16 15 10 false,
 yM 17 0 16 true,
 yM 18 1 16 true,
 yP 19 (.bin .lss) [.t 17,.t 18] 16 true,
 yP 20 .pick [.t 16,.t 19,.c (.bool false)] 10 false,
 xP 21 .pick [.t 10,.c (.bool true),.t 20]])
 (.cond (.t 21)
 (.seq (.ops [xC 4 (.int .i64 (-1))])
 .ret)
 .skip))
 (.seq (.seq (.ops [xM 22 0,
 xM 23 1,
 xP 24 (.bin .eql) [.t 22,.t 23]])
 (.cond (.t 24)
 (.seq (.ops [xC 4 (.int .i64 0)])
 .ret)
 .skip))
 (.seq (.ops [xC 4 (.int .i64 1)])
 .ret)))) }
def qpt:Nat→Option AFn
 | 195=>some qla
 | 229=>some qg3
 | 250=>some qcF
 | 257=>some qhd
 | 262=>some qfy
 | 263=>some qbl
 | 264=>some qhc
 | 273=>some qgn
 | 285=>some q7v
 | 286=>some qie
 | 340=>some qgy
 | 357=>some qjj
 | 358=>some qhz
 | 360=>some qcQ
 | 376=>some qfG
 | 377=>some qdD
 | 378=>some qfn
 | 384=>some qk9
 | 396=>some qkC
 | 454=>some qk0
 | 455=>some qle
 | 457=>some qkm
 | 458=>some qld
 | 459=>some qjC
 | 460=>some qkB
 | 461=>some qkI
 | 468=>some qjS
 | 474=>some ql8
 | 481=>some ql6
 | 485=>some qbU
 | 486=>some qcL
 | 487=>some qg8
 | 488=>some qcI
 | 490=>some qka
 | 492=>some qkH
 | 494=>some qjz
 | 501=>some qfl
 | 503=>some qkA
 | 507=>some qgh
 | 509=>some qf0
 | 513=>some qa5
 | 514=>some qkG
 | 515=>some qiZ
 | 516=>some qax
 | 517=>some qgI
 | 522=>some qgZ
 | 523=>some qg4
 | 524=>some qjK
 | 529=>some qfb
 | 547=>some qk6
 | 548=>some qkD
 | 549=>some qk5
 | 562=>some q8O
 | 563=>some qkb
 | 564=>some qdn
 | 565=>some qkY
 | 567=>some qg1
 | 579=>some qjv
 | 581=>some ql0
 | 586=>some qjU
 | 597=>some qir
 | 598=>some qkd
 | 599=>some qk4
 | 600=>some qiq
 | 601=>some qkJ
 | 602=>some qkc
 | 603=>some qi6
 | 604=>some qj6
 | 612=>some qjk
 | 620=>some qkl
 | 624=>some qjl
 | 625=>some qdA
 | 634=>some qbT
 | 635=>some qh4
 | 636=>some qkr
 | 638=>some qfB
 | 643=>some q8P
 | 647=>some qgT
 | _=>none
def q8H (f:Nat):Option AFn:=match code f with
 | some a=>some a
 | none=>qpt f
def qd3:Nat→Option (Nat × Nat)
 | 216=>some (11,104)
 | 518=>some (13,168)
 | 519=>some (17,232)
 | 520=>some (15,208)
 | 566=>some (6,64)
 | 214=>some (1,16)
 | 130=>some (14,184)
 | _=>none
def qdJ:Nat→Option (Nat × Nat)
 | 62=>some (1,1)
 | _=>none
def csQ (f:Nat):Bool:=f == 272
def lnQ (f:Nat):Bool:=f == 551
def ssQ (f:Nat):Bool:=f == 510
def CS:Ctx:=q5c (q5g q8H qd3 qdJ) csQ lnQ ssQ
end Ago
