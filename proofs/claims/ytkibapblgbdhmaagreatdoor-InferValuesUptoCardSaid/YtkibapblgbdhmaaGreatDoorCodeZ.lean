/- The abstract code of the functions,printed by program. -/
import Derived.Test.YtkibapblgbdhmaaGreatDoorMachE
set_option linter.unusedSimpArgs false
set_option linter.unusedVariables false
set_option maxRecDepth 100000
namespace Ago
/-! ### Short names for the operations that the tables hold most -/
abbrev xM (d i:Nat):AOper:=⟨some d,.pure .move,[.t i],none⟩
abbrev xC (d:Nat) (v:AV):AOper:=⟨some d,.pure .move,[.c v],none⟩
abbrev xF (k d i:Nat):AOper:=⟨some d,.pure (.faddr k),[.t i],none⟩
abbrev xR (d i:Nat):AOper:=⟨some d,.read (.load none),[.t i],none⟩
abbrev xL (k d i:Nat):AOper:=⟨some d,.read (.load (some k)),[.t i],none⟩
abbrev xP (d:Nat) (p:POp) (a:List Opd):AOper:=⟨some d,.pure p,a,none⟩
abbrev xI (k d i j:Nat):AOper:=⟨some d,.pure (.iaddrS k),[.t i,.t j],none⟩
abbrev xK (d f:Nat) (a:List Opd):AOper:=⟨some d,.pcall f,a,none⟩
abbrev xS (k i j:Nat):AOper:=⟨none,.eff (.store k),[.t i,.t j],none⟩
abbrev xN (d k:Nat) (v:AV):AOper:=⟨some d,.new (.new k [v]),[],none⟩
abbrev xB (k d i:Nat):AOper:=⟨some d,.new (.box k),[.t i],none⟩
abbrev yM (d i g:Nat) (b:Bool):AOper:=⟨some d,.pure .move,[.t i],some (g,b)⟩
abbrev yF (k d i g:Nat) (b:Bool):AOper:=⟨some d,.pure (.faddr k),[.t i],some (g,b)⟩
abbrev yR (d i g:Nat) (b:Bool):AOper:=⟨some d,.read (.load none),[.t i],some (g,b)⟩
abbrev yL (k d i g:Nat) (b:Bool):AOper:=⟨some d,.read (.load (some k)),[.t i],some (g,b)⟩
abbrev yP (d:Nat) (p:POp) (a:List Opd) (g:Nat) (b:Bool):AOper:=⟨some d,.pure p,a,some (g,b)⟩
abbrev yK (d f:Nat) (a:List Opd) (g:Nat) (b:Bool):AOper:=⟨some d,.pcall f,a,some (g,b)⟩
abbrev z0:AV:=.agg [.int .i64 0,.int .i64 0,.int .i64 0,.int .i64 0,.str [],.snil 11,.int .i64 0,.int .i64 0,.int .i64 0,.int .i64 0,.int .i64 0,.snil 6,.snil 13,.snil 17,.snil 15]
abbrev z1:AV:=.agg [.int .i64 0,.bool false,.bool false,.str [],.int .i64 0,.int .i64 0,.int .i64 0,.int .i64 0,.int .i64 0,.str [],.snil 1,.snil 13,.snil 14]
abbrev z2:AV:=.agg [.bool false,.bool false,.str [],.int .i64 0,.bool false,.bool false,.bool false,.str [],.int .i64 0,.bool false,.int .i64 0]
abbrev z3:AV:=.agg [.str [],.int .i64 0,.int .i64 0,.int .i64 0,.int .i64 0,.str [],.snil 11,.int .i64 0,.int .i64 0,.int .i64 0,.int .i64 0,.int .i64 0,.snil 6,.snil 13,.snil 17,.snil 15]
abbrev z4:AV:=.agg [.str [],.bool false,.int .i64 0,.int .i64 0,.int .i64 0,.int .i64 0,.str [],.snil 11,.int .i64 0,.int .i64 0,.int .i64 0,.int .i64 0,.int .i64 0,.snil 6,.snil 13,.snil 17,.snil 15]
abbrev z5:AV:=.agg [.str [],.int .i64 0,.bool false,.bool false,.str [],.int .i64 0,.int .i64 0,.int .i64 0,.int .i64 0,.int .i64 0,.str [],.snil 1,.snil 13,.snil 14]
/-- datakit/datakitref07.Small -/
def qnI:AFn:=
 { nt:=12,res:=[.tmp 6],body:=
 (.seq (.ops [xB 13 3 0,
 xC 6 (.bool false)])
 (.seq (.ops [xL 13 7 3,
 xM 8 1,
 xM 9 2,
 xK 10 38 [.t 7,.t 8,.t 9],
 xP 11 (.bin .geq) [.t 10,.c (.int .i64 0)],
 xM 6 11])
 .ret)) }
/-- datakit/datakitref07.Check -/
def qnD:AFn:=
 { nt:=11,res:=[.tmp 2],body:=
 (.seq (.ops [xB 13 1 0,
 xC 2 (.int .i64 0)])
 (.seq (.ops [xL 13 6 1,
 xK 7 39 [.t 6,.c (.int .i64 1),.c (.int .i64 0)],
 xM 5 7,
 xP 8 (.ext 0) [.t 5],
 xP 9 (.ext 1) [.t 5],
 xM 3 8,
 xM 4 9])
 (.seq (.ops [xM 10 4,
 xM 2 10])
 .ret))) }
/-- datakit/datakitref03.Valid -/
def qoC:AFn:=
 { nt:=11,res:=[.tmp 2],body:=
 (.seq (.ops [xC 2 (.bool false)])
 (.seq (.ops [xM 6 0,
 xK 7 42 [.t 6],
 xM 5 7,
 xP 8 (.ext 0) [.t 5],
 xP 9 (.ext 1) [.t 5],
 xM 3 8,
 xM 4 9])
 (.seq (.ops [xM 10 4,
 xM 2 10])
 .ret))) }
/-- datakit/value.Copy -/
def qpb:AFn:=
 { nt:=5,res:=[.cell 2 (some 13)],body:=
 (.seq (.ops [xB 13 1 0,
 xN 2 13 z1])
 (.seq (.ops [xL 13 3 1,
 xK 4 45 [.t 3,.c (.int .i64 65536)],
 xS 13 2 4])
 .ret)) }
/-- datakit/datakitref07.Same -/
def qoU:AFn:=
 { nt:=122,res:=[.tmp 4],body:=
 (.seq (.ops [xB 13 2 0,
 xB 13 3 1,
 xC 4 (.bool false)])
 (.seq (.seq (.ops [xF 0 7 2,
 xR 8 7,
 xF 0 9 3,
 xR 10 9,
 xP 11 (.bin .neq) [.t 8,.t 10],
 xM 12 11,
 yF 1 13 2 12 false,
 yR 14 13 12 false,
 yF 1 15 3 12 false,
 yR 16 15 12 false,
 yP 17 (.eqB true) [.t 14,.t 16] 12 false,
 xP 18 .pick [.t 12,.c (.bool true),.t 17],
 xM 19 18,
 yF 2 20 2 19 false,
 yL 3 21 20 19 false,
 yF 2 22 3 19 false,
 yL 3 23 22 19 false,
 ⟨some 24,.pure (.eqF [.bool,.str,.int] true),[.t 21,.t 23],some (19,false)⟩,
 xP 25 .pick [.t 19,.c (.bool true),.t 24],
 xM 26 25,
 yF 5 27 2 26 false,
 yL 4 28 27 26 false,
 yF 5 29 3 26 false,
 yL 4 30 29 26 false,
 ⟨some 31,.pure (.eqF [.int,.int,.int,.int] true),[.t 28,.t 30],some (26,false)⟩,
 xP 32 .pick [.t 26,.c (.bool true),.t 31],
 xM 33 32,
 yF 9 34 2 33 false,
 yR 35 34 33 false,
 yF 9 36 3 33 false,
 yR 37 36 33 false,
 yP 38 (.bin .neq) [.t 35,.t 37] 33 false,
 xP 39 .pick [.t 33,.c (.bool true),.t 38],
 xM 40 39,
 yF 10 41 2 40 false,
 yR 42 41 40 false,
 ⟨some 43,.read .bytesStr,[.t 42],some (40,false)⟩,
 yF 10 44 3 40 false,
 yR 45 44 40 false,
 ⟨some 46,.read .bytesStr,[.t 45],some (40,false)⟩,
 yP 47 (.bin .neq) [.t 43,.t 46] 40 false,
 xP 48 .pick [.t 40,.c (.bool true),.t 47],
 xM 49 48,
 yF 11 50 2 49 false,
 yR 51 50 49 false,
 yP 52 .lenL [.t 51] 49 false,
 yF 11 53 3 49 false,
 yR 54 53 49 false,
 yP 55 .lenL [.t 54] 49 false,
 yP 56 (.bin .neq) [.t 52,.t 55] 49 false,
 xP 57 .pick [.t 49,.c (.bool true),.t 56],
 xM 58 57,
 yF 12 59 2 58 false,
 yR 60 59 58 false,
 yP 61 .lenL [.t 60] 58 false,
 yF 12 62 3 58 false,
 yR 63 62 58 false,
 yP 64 .lenL [.t 63] 58 false,
 yP 65 (.bin .neq) [.t 61,.t 64] 58 false,
 xP 66 .pick [.t 58,.c (.bool true),.t 65]])
 (.cond (.t 66)
 (.seq (.ops [xC 4 (.bool false)])
 .ret)
 .skip))
 (.seq (.seq (.ops [xC 5 (.int .i64 0)])
 (.block 0
 (.loop [2,3,5]
 (.seq (.seq (.ops [xM 67 5,
 xF 11 68 2,
 xR 69 68,
 xP 70 .lenL [.t 69],
 xP 71 (.bin .lss) [.t 67,.t 70]])
 (.cond (.t 71)
 .skip
 (.exit 0)))
 (.seq (.block 1
 (.seq (.ops [xF 11 74 2,
 xR 75 74,
 xM 76 5,
 xI 13 77 75 76,
 xL 13 78 77,
 xF 11 79 3,
 xR 80 79,
 xM 81 5,
 xI 13 82 80 81,
 xL 13 83 82,
 xK 84 29 [.t 78,.t 83],
 xP 85 (.un .not) [.t 84]])
 (.cond (.t 85)
 (.seq (.ops [xC 4 (.bool false)])
 .ret)
 .skip)))
 (.ops [xM 72 5,
 xP 73 (.bin .add) [.t 72,.c (.int .i64 1)],
 xM 5 73]))))))
 (.seq (.seq (.ops [xC 6 (.int .i64 0)])
 (.block 2
 (.loop [2,3,6]
 (.seq (.seq (.ops [xM 86 6,
 xF 12 87 2,
 xR 88 87,
 xP 89 .lenL [.t 88],
 xP 90 (.bin .lss) [.t 86,.t 89]])
 (.cond (.t 90)
 .skip
 (.exit 2)))
 (.seq (.block 3
 (.seq (.ops [xF 12 93 2,
 xR 94 93,
 xM 95 6,
 xI 14 96 94 95,
 xF 0 97 96,
 xR 98 97,
 xF 12 99 3,
 xR 100 99,
 xM 101 6,
 xI 14 102 100 101,
 xF 0 103 102,
 xR 104 103,
 xP 105 (.bin .neq) [.t 98,.t 104],
 xM 106 105,
 yF 12 107 2 106 false,
 yR 108 107 106 false,
 yM 109 6 106 false,
 yP 110 (.iaddrS 14) [.t 108,.t 109] 106 false,
 yF 1 111 110 106 false,
 yL 13 112 111 106 false,
 yF 12 113 3 106 false,
 yR 114 113 106 false,
 yM 115 6 106 false,
 yP 116 (.iaddrS 14) [.t 114,.t 115] 106 false,
 yF 1 117 116 106 false,
 yL 13 118 117 106 false,
 yK 119 29 [.t 112,.t 118] 106 false,
 yP 120 (.un .not) [.t 119] 106 false,
 xP 121 .pick [.t 106,.c (.bool true),.t 120]])
 (.cond (.t 121)
 (.seq (.ops [xC 4 (.bool false)])
 .ret)
 .skip)))
 (.ops [xM 91 6,
 xP 92 (.bin .add) [.t 91,.c (.int .i64 1)],
 xM 6 92]))))))
 (.seq (.ops [xC 4 (.bool true)])
 .ret))))) }
/-- datakit/datakitref07.room -/
def qmm:AFn:=
 { nt:=69,res:=[.tmp 6],body:=
 (.seq (.ops [xB 13 3 0,
 xC 6 (.int .i64 0)])
 (.seq (.ops [xM 9 1,
 xP 10 (.bin .sub) [.t 9,.c (.int .i64 1)],
 xM 1 10])
 (.seq (.seq (.ops [xM 11 2,
 xP 12 (.bin .leq) [.t 11,.c (.int .i64 0)],
 xM 13 12,
 yF 11 14 3 13 false,
 yR 15 14 13 false,
 yP 16 .lenL [.t 15] 13 false,
 yM 17 1 13 false,
 yP 18 (.bin .gtr) [.t 16,.t 17] 13 false,
 xP 19 .pick [.t 13,.c (.bool true),.t 18],
 xM 20 19,
 yF 12 21 3 20 false,
 yR 22 21 20 false,
 yP 23 .lenL [.t 22] 20 false,
 yM 24 1 20 false,
 yP 25 (.bin .gtr) [.t 23,.t 24] 20 false,
 xP 26 .pick [.t 20,.c (.bool true),.t 25]])
 (.cond (.t 26)
 (.seq (.ops [xC 6 (.int .i64 (-1))])
 .ret)
 .skip))
 (.seq (.seq (.ops [xC 7 (.int .i64 0)])
 (.block 0
 (.loop [1,2,3,7]
 (.seq (.seq (.ops [xM 27 7,
 xF 11 28 3,
 xR 29 28,
 xP 30 .lenL [.t 29],
 xP 31 (.bin .lss) [.t 27,.t 30],
 xM 32 31,
 yM 33 1 32 true,
 yP 34 (.bin .geq) [.t 33,.c (.int .i64 0)] 32 true,
 xP 35 .pick [.t 32,.t 34,.c (.bool false)]])
 (.cond (.t 35)
 .skip
 (.exit 0)))
 (.seq (.block 1
 (.ops [xF 11 38 3,
 xR 39 38,
 xM 40 7,
 xI 13 41 39 40,
 xL 13 42 41,
 xM 43 1,
 xM 44 2,
 xP 45 (.bin .sub) [.t 44,.c (.int .i64 1)],
 xK 46 38 [.t 42,.t 43,.t 45],
 xM 1 46]))
 (.ops [xM 36 7,
 xP 37 (.bin .add) [.t 36,.c (.int .i64 1)],
 xM 7 37]))))))
 (.seq (.seq (.ops [xC 8 (.int .i64 0)])
 (.block 2
 (.loop [1,2,3,8]
 (.seq (.seq (.ops [xM 47 8,
 xF 12 48 3,
 xR 49 48,
 xP 50 .lenL [.t 49],
 xP 51 (.bin .lss) [.t 47,.t 50],
 xM 52 51,
 yM 53 1 52 true,
 yP 54 (.bin .geq) [.t 53,.c (.int .i64 0)] 52 true,
 xP 55 .pick [.t 52,.t 54,.c (.bool false)]])
 (.cond (.t 55)
 .skip
 (.exit 2)))
 (.seq (.block 3
 (.ops [xF 12 58 3,
 xR 59 58,
 xM 60 8,
 xI 14 61 59 60,
 xF 1 62 61,
 xL 13 63 62,
 xM 64 1,
 xM 65 2,
 xP 66 (.bin .sub) [.t 65,.c (.int .i64 1)],
 xK 67 38 [.t 63,.t 64,.t 66],
 xM 1 67]))
 (.ops [xM 56 8,
 xP 57 (.bin .add) [.t 56,.c (.int .i64 1)],
 xM 8 57]))))))
 (.seq (.ops [xM 68 1,
 xM 6 68])
 .ret)))))) }
/-- datakit/datakitref07.look -/
def qi5:AFn:=
 { nt:=50,res:=[.tmp 6,.tmp 7],body:=
 (.seq (.ops [xB 13 3 0,
 xC 6 (.int .i64 0),
 xC 7 (.int .i64 0)])
 (.seq (.seq (.ops [xM 12 1,
 xP 13 (.bin .gtr) [.t 12,.c (.int .i64 48)]])
 (.cond (.t 13)
 (.seq (.ops [xM 14 2,
 xM 6 14,
 xC 7 (.int .i64 9)])
 .ret)
 .skip))
 (.seq (.seq (.ops [xM 15 2,
 xP 16 (.bin .geq) [.t 15,.c (.int .i64 65536)]])
 (.cond (.t 16)
 (.seq (.ops [xM 17 2,
 xM 6 17,
 xC 7 (.int .i64 10)])
 .ret)
 .skip))
 (.seq (.seq (.ops [xL 13 18 3,
 xK 19 57 [.t 18],
 xM 8 19])
 (.seq (.ops [xM 20 8,
 xP 21 (.bin .neq) [.t 20,.c (.int .i64 0)]])
 (.cond (.t 21)
 (.seq (.ops [xM 22 2,
 xM 23 8,
 xM 6 22,
 xM 7 23])
 .ret)
 .skip)))
 (.seq (.ops [xM 24 2,
 xP 25 (.bin .add) [.t 24,.c (.int .i64 1)],
 xM 2 25])
 (.seq (.ops [xL 13 26 3,
 xK 27 58 [.t 26],
 xM 9 27])
 (.seq (.seq (.ops [xC 10 (.int .i64 0)])
 (.block 0
 (.loop [1,2,9,10]
 (.seq (.seq (.ops [xM 28 10,
 xM 29 9,
 xP 30 .lenL [.t 29],
 xP 31 (.bin .lss) [.t 28,.t 30]])
 (.cond (.t 31)
 .skip
 (.exit 0)))
 (.seq (.block 1
 (.seq (.ops [xC 11 (.int .i64 0)])
 (.seq (.ops [xM 35 9,
 xM 36 10,
 xI 13 37 35 36,
 xL 13 38 37,
 xM 39 1,
 xP 40 (.bin .add) [.t 39,.c (.int .i64 1)],
 xM 41 2,
 xK 42 39 [.t 38,.t 40,.t 41],
 xM 34 42,
 xP 43 (.ext 0) [.t 34],
 xP 44 (.ext 1) [.t 34],
 xM 2 43,
 xM 11 44])
 (.seq (.ops [xM 45 11,
 xP 46 (.bin .neq) [.t 45,.c (.int .i64 0)]])
 (.cond (.t 46)
 (.seq (.ops [xM 47 2,
 xM 48 11,
 xM 6 47,
 xM 7 48])
 .ret)
 .skip)))))
 (.ops [xM 32 10,
 xP 33 (.bin .add) [.t 32,.c (.int .i64 1)],
 xM 10 33]))))))
 (.seq (.ops [xM 49 2,
 xM 6 49,
 xC 7 (.int .i64 0)])
 .ret)))))))) }
/-- datakit/datakitref01.Noughts -/
def qnQ:AFn:=
 { nt:=17,res:=[.tmp 2],body:=
 (.seq (.ops [xC 2 (.str [])])
 (.seq (.ops [xM 5 0,
 ⟨some 6,.new (.mkSlice 1 1 (.int .u8 0)),[.t 5,.t 5],none⟩,
 xM 3 6])
 (.seq (.seq (.ops [xC 4 (.int .i64 0)])
 (.block 0
 (.loop [0,3,4]
 (.seq (.seq (.ops [xM 7 4,
 xM 8 0,
 xP 9 (.bin .lss) [.t 7,.t 8]])
 (.cond (.t 9)
 .skip
 (.exit 0)))
 (.seq (.block 1
 (.ops [xM 12 3,
 xM 13 4,
 xI 1 14 12 13,
 ⟨none,.eff (.store 1),[.t 14,.c (.int .u8 48)],none⟩]))
 (.ops [xM 10 4,
 xP 11 (.bin .add) [.t 10,.c (.int .i64 1)],
 xM 4 11]))))))
 (.seq (.ops [xM 15 3,
 ⟨some 16,.read .bytesStr,[.t 15],none⟩,
 xM 2 16])
 .ret)))) }
/-- datakit/datakitref03.Boundaries -/
def qln:AFn:=
 { nt:=30,res:=[.tmp 2,.tmp 3],body:=
 (.seq (.ops [xC 2 (.snil 1),
 xC 3 (.bool false)])
 (.seq (.ops [⟨some 8,.new (.buildSlice 1 [.int .i64 0] [0]),[.c (.int .i64 0)],none⟩,
 xM 4 8])
 (.seq (.ops [xC 5 (.int .i64 0)])
 (.seq (.block 0
 (.loop [0,4,5]
 (.seq (.seq (.ops [xM 9 5,
 xM 10 0,
 xP 11 .lenS [.t 10],
 xP 12 (.bin .lss) [.t 9,.t 11]])
 (.cond (.t 12)
 .skip
 (.exit 0)))
 (.block 1
 (.seq (.ops [xM 14 0,
 xM 15 5,
 xK 16 60 [.t 14,.t 15],
 xM 13 16,
 xP 17 (.ext 0) [.t 13],
 xP 18 (.ext 1) [.t 13],
 xM 6 17,
 xM 7 18])
 (.seq (.seq (.ops [xM 19 7,
 xP 20 (.bin .eql) [.t 19,.c (.int .i64 0)]])
 (.cond (.t 20)
 (.seq (.ops [xM 21 4,
 xM 2 21,
 xC 3 (.bool false)])
 .ret)
 .skip))
 (.seq (.ops [xM 22 5,
 xM 23 7,
 xP 24 (.bin .add) [.t 22,.t 23],
 xM 5 24])
 (.ops [xM 25 4,
 xM 26 5,
 ⟨some 27,.new (.buildSlice 1 [.int .i64 0] [0]),[.t 26],none⟩,
 ⟨some 28,.eff (.append 1 8),[.t 25,.t 27],none⟩,
 xM 4 28]))))))))
 (.seq (.ops [xM 29 4,
 xM 2 29,
 xC 3 (.bool true)])
 .ret))))) }
/-- datakit/value.copied -/
def qnv:AFn:=
 { nt:=59,res:=[.cell 4 (some 13)],body:=
 (.seq (.ops [xB 13 2 0,
 xN 4 13 z1])
 (.seq (.ops [xF 10 11 2,
 xR 12 11,
 xK 13 62 [.t 12],
 xF 10 14 2,
 xS 1 14 13])
 (.seq (.seq (.ops [xM 15 1,
 xP 16 (.bin .lss) [.t 15,.c (.int .i64 1)]])
 (.cond (.t 16)
 (.seq (.ops [xF 11 17 2,
 ⟨none,.eff (.store 1),[.t 17,.c (.snil 13)],none⟩,
 xF 12 18 2,
 ⟨none,.eff (.store 1),[.t 18,.c (.snil 14)],none⟩])
 (.seq (.ops [xL 13 19 2,
 xS 13 4 19])
 .ret))
 .skip))
 (.seq (.ops [xC 5 (.snil 13)])
 (.seq (.seq (.ops [xF 11 20 2,
 xR 21 20,
 xP 22 .lenL [.t 21],
 xC 23 (.int .i64 0)])
 (.block 0
 (.loop [1,2,4,5,21,22,23]
 (.seq (.ops [xP 24 (.bin .lss) [.t 23,.t 22]])
 (.seq (.cond (.t 24)
 .skip
 (.exit 0))
 (.seq (.block 1
 (.seq (.ops [xI 13 25 21 23,
 xL 13 26 25,
 xN 7 13 z1,
 xS 13 7 26])
 (.ops [xM 27 5,
 xL 13 28 7,
 xM 29 1,
 xP 30 (.bin .sub) [.t 29,.c (.int .i64 1)],
 xK 31 45 [.t 28,.t 30],
 ⟨some 32,.new (.buildSlice 13 [z1] [0]),[.t 31],none⟩,
 ⟨some 33,.eff (.append 13 168),[.t 27,.t 32],none⟩,
 xM 5 33])))
 (.ops [xP 34 (.bin .add) [.t 23,.c (.int .i64 1)],
 xM 23 34])))))))
 (.seq (.ops [xC 8 (.snil 14)])
 (.seq (.seq (.ops [xF 12 35 2,
 xR 36 35,
 xP 37 .lenL [.t 36],
 xC 38 (.int .i64 0)])
 (.block 2
 (.loop [1,2,4,5,8,36,37,38]
 (.seq (.ops [xP 39 (.bin .lss) [.t 38,.t 37]])
 (.seq (.cond (.t 39)
 .skip
 (.exit 2))
 (.seq (.block 3
 (.seq (.ops [xI 14 40 36 38,
 xL 14 41 40,
 xN 10 14 z5,
 xS 14 10 41])
 (.draw 1 [[xM 42 8,
 xF 0 43 10,
 xR 44 43,
 xF 1 45 10,
 xL 13 46 45,
 xM 47 1,
 xP 48 (.bin .sub) [.t 47,.c (.int .i64 1)],
 xK 49 45 [.t 46,.t 48],
 ⟨some 50,.pure (.build [.str [],.int .i64 0,.bool false,.bool false,.str [],.int .i64 0,.int .i64 0,.int .i64 0,.int .i64 0,.int .i64 0,.str [],.snil 1,.snil 13,.snil 14] [(0,1),(1,13)]),[.t 44,.t 49],none⟩,
 ⟨some 51,.newAt 0 (.buildSlice 14 [z5] [0]),[.t 50],none⟩,
 ⟨some 52,.eff (.append 14 184),[.t 42,.t 51],none⟩,
 xM 8 52]])))
 (.ops [xP 53 (.bin .add) [.t 38,.c (.int .i64 1)],
 xM 38 53])))))))
 (.seq (.ops [xM 54 5,
 xM 55 8,
 xF 11 56 2,
 xS 1 56 54,
 xF 12 57 2,
 xS 1 57 55])
 (.seq (.ops [xL 13 58 2,
 xS 13 4 58])
 .ret))))))))) }
/-- datakit/utf.Valid -/
def qn5:AFn:=
 { nt:=12,res:=[.tmp 2],body:=
 (.seq (.ops [xC 2 (.bool false)])
 (.seq (.ops [xM 6 0,
 xK 7 63 [.t 6],
 xM 5 7,
 xP 8 (.ext 0) [.t 5],
 xP 9 (.ext 1) [.t 5],
 xM 3 8,
 xM 4 9])
 (.seq (.ops [xM 10 4,
 xP 11 (.bin .eql) [.t 10,.c (.int .i64 0)],
 xM 2 11])
 .ret))) }
/-- cmp.Compare[string] -/
def qjt:AFn:=
 { nt:=20,res:=[.tmp 4],body:=
 (.seq (.ops [xC 4 (.int .i64 0)])
 (.seq (.ops [xM 7 0,
 xK 8 75 [.t 7],
 xM 5 8])
 (.seq (.ops [xM 9 1,
 xK 10 75 [.t 9],
 xM 6 10])
 (.seq (.seq (.ops [xM 11 5])
 (.cond (.t 11)
 (.seq (.seq (.ops [xM 12 6])
 (.cond (.t 12)
 (.seq (.ops [xC 4 (.int .i64 0)])
 .ret)
 .skip))
 (.seq (.ops [xC 4 (.int .i64 (-1))])
 .ret))
 .skip))
 (.seq (.seq (.ops [xM 13 6])
 (.cond (.t 13)
 (.seq (.ops [xC 4 (.int .i64 1)])
 .ret)
 .skip))
 (.seq (.seq (.ops [xM 14 0,
 xM 15 1,
 xP 16 (.bin .lss) [.t 14,.t 15]])
 (.cond (.t 16)
 (.seq (.ops [xC 4 (.int .i64 (-1))])
 .ret)
 .skip))
 (.seq (.seq (.ops [xM 17 0,
 xM 18 1,
 xP 19 (.bin .gtr) [.t 17,.t 18]])
 (.cond (.t 19)
 (.seq (.ops [xC 4 (.int .i64 1)])
 .ret)
 .skip))
 (.seq (.ops [xC 4 (.int .i64 0)])
 .ret)))))))) }
/-- datakit/datakitref07.one -/
def q8L:AFn:=
 { nt:=38,res:=[.tmp 2],body:=
 (.seq (.ops [xB 13 1 0,
 xC 2 (.int .i64 0)])
 (.seq (.seq (.ops [xL 13 3 1,
 xK 4 78 [.t 3],
 xP 5 (.un .not) [.t 4]])
 (.cond (.t 5)
 (.seq (.ops [xC 2 (.int .i64 6)])
 .ret)
 .skip))
 (.seq (.seq (.ops [xF 2 6 1,
 xL 3 7 6,
 xK 8 79 [.t 7],
 xP 9 (.un .not) [.t 8],
 xM 10 9,
 yF 0 11 1 10 false,
 yR 12 11 10 false,
 yP 13 (.bin .eql) [.t 12,.c (.int .i64 3)] 10 false,
 yM 14 13 10 false,
 yF 5 15 1 14 true,
 yL 4 16 15 14 true,
 yK 17 80 [.t 16] 14 true,
 yP 18 (.un .not) [.t 17] 14 true,
 yP 19 .pick [.t 14,.t 18,.c (.bool false)] 10 false,
 xP 20 .pick [.t 10,.c (.bool true),.t 19]])
 (.cond (.t 20)
 (.seq (.ops [xC 2 (.int .i64 2)])
 .ret)
 .skip))
 (.seq (.seq (.ops [xF 9 21 1,
 xR 22 21,
 xK 23 24 [.t 22],
 xP 24 (.un .not) [.t 23]])
 (.cond (.t 24)
 (.seq (.ops [xC 2 (.int .i64 5)])
 .ret)
 .skip))
 (.seq (.seq (.ops [xF 9 25 1,
 xR 26 25,
 xP 27 .lenS [.t 26],
 xP 28 (.bin .gtr) [.t 27,.c (.int .i64 65536)],
 xM 29 28,
 yF 10 30 1 29 false,
 yR 31 30 29 false,
 yP 32 .lenL [.t 31] 29 false,
 yP 33 (.bin .gtr) [.t 32,.c (.int .i64 65536)] 29 false,
 xP 34 .pick [.t 29,.c (.bool true),.t 33]])
 (.cond (.t 34)
 (.seq (.ops [xC 2 (.int .i64 10)])
 .ret)
 .skip))
 (.seq (.ops [xF 12 35 1,
 xR 36 35,
 xK 37 81 [.t 36],
 xM 2 37])
 .ret)))))) }
/-- datakit/datakitref07.Kids -/
def qmc:AFn:=
 { nt:=27,res:=[.tmp 2],body:=
 (.seq (.ops [xB 13 1 0,
 xC 2 (.snil 13)])
 (.seq (.seq (.ops [xF 0 5 1,
 xR 6 5,
 xP 7 (.bin .neq) [.t 6,.c (.int .i64 7)]])
 (.cond (.t 7)
 (.seq (.ops [xF 11 8 1,
 xR 9 8,
 xM 2 9])
 .ret)
 .skip))
 (.seq (.ops [xC 3 (.snil 13)])
 (.seq (.seq (.ops [xC 4 (.int .i64 0)])
 (.block 0
 (.loop [1,3,4]
 (.seq (.seq (.ops [xM 10 4,
 xF 12 11 1,
 xR 12 11,
 xP 13 .lenL [.t 12],
 xP 14 (.bin .lss) [.t 10,.t 13]])
 (.cond (.t 14)
 .skip
 (.exit 0)))
 (.seq (.block 1
 (.ops [xM 17 3,
 xF 12 18 1,
 xR 19 18,
 xM 20 4,
 xI 14 21 19 20,
 xF 1 22 21,
 xL 13 23 22,
 ⟨some 24,.new (.buildSlice 13 [z1] [0]),[.t 23],none⟩,
 ⟨some 25,.eff (.append 13 168),[.t 17,.t 24],none⟩,
 xM 3 25]))
 (.ops [xM 15 4,
 xP 16 (.bin .add) [.t 15,.c (.int .i64 1)],
 xM 4 16]))))))
 (.seq (.ops [xM 26 3,
 xM 2 26])
 .ret))))) }
/-- datakit/datakitref01.Valid -/
def qlR:AFn:=
 { nt:=20,res:=[.tmp 2],body:=
 (.seq (.ops [xC 2 (.bool false)])
 (.seq (.ops [xM 3 0,
 xP 4 .lenS [.t 3],
 xP 5 (.bin .leq) [.t 4,.c (.int .i64 600)],
 xM 6 5,
 yM 7 0 6 true,
 yK 8 82 [.t 7] 6 true,
 xP 9 .pick [.t 6,.t 8,.c (.bool false)],
 xM 10 9,
 yM 11 0 10 true,
 yP 12 .lenS [.t 11] 10 true,
 yP 13 (.bin .eql) [.t 12,.c (.int .i64 0)] 10 true,
 yM 14 13 10 true,
 yM 15 0 14 false,
 yP 16 .idxStr [.t 15,.c (.int .i64 0)] 14 false,
 yP 17 (.bin .neq) [.t 16,.c (.int .u8 48)] 14 false,
 yP 18 .pick [.t 14,.c (.bool true),.t 17] 10 true,
 xP 19 .pick [.t 10,.t 18,.c (.bool false)],
 xM 2 19])
 .ret)) }
/-- datakit/datakitref03.Decode -/
def qaL:AFn:=
 { nt:=80,res:=[.tmp 4,.tmp 5],body:=
 (.seq (.ops [xC 4 (.int .i64 0),
 xC 5 (.int .i64 0)])
 (.seq (.seq (.ops [xM 12 1,
 xP 13 (.bin .lss) [.t 12,.c (.int .i64 0)],
 xM 14 13,
 yM 15 1 14 false,
 yM 16 0 14 false,
 yP 17 .lenS [.t 16] 14 false,
 yP 18 (.bin .geq) [.t 15,.t 17] 14 false,
 xP 19 .pick [.t 14,.c (.bool true),.t 18]])
 (.cond (.t 19)
 (.seq (.ops [xC 4 (.int .i64 0),
 xC 5 (.int .i64 0)])
 .ret)
 .skip))
 (.seq (.ops [xM 20 0,
 xM 21 1,
 xP 22 .idxStr [.t 20,.t 21],
 xP 23 (.conv .i64) [.t 22],
 xM 6 23])
 (.seq (.ops [xM 24 6,
 xC 7 (.int .i64 1),
 xM 8 24])
 (.seq (.block 0
 (.seq (.ops [xM 26 6,
 xP 27 (.bin .geq) [.t 26,.c (.int .i64 240)],
 xM 25 27])
 (.cond (.t 25)
 (.ops [xM 28 6,
 ⟨some 29,.pure (.bin .and),[.t 28,.c (.int .i64 7)],none⟩,
 xC 7 (.int .i64 4),
 xM 8 29])
 (.seq (.ops [xM 31 6,
 xP 32 (.bin .geq) [.t 31,.c (.int .i64 224)],
 xM 30 32])
 (.cond (.t 30)
 (.ops [xM 33 6,
 ⟨some 34,.pure (.bin .and),[.t 33,.c (.int .i64 15)],none⟩,
 xC 7 (.int .i64 3),
 xM 8 34])
 (.seq (.ops [xM 36 6,
 xP 37 (.bin .geq) [.t 36,.c (.int .i64 192)],
 xM 35 37])
 (.cond (.t 35)
 (.ops [xM 38 6,
 ⟨some 39,.pure (.bin .and),[.t 38,.c (.int .i64 31)],none⟩,
 xC 7 (.int .i64 2),
 xM 8 39])
 .skip)))))))
 (.seq (.seq (.ops [xM 40 0,
 xP 41 .lenS [.t 40],
 xM 42 1,
 xP 43 (.bin .sub) [.t 41,.t 42],
 xM 44 7,
 xP 45 (.bin .lss) [.t 43,.t 44]])
 (.cond (.t 45)
 (.seq (.ops [xC 4 (.int .i64 0),
 xC 5 (.int .i64 0)])
 .ret)
 .skip))
 (.seq (.seq (.ops [xC 9 (.int .i64 1)])
 (.block 1
 (.loop [0,1,7,8,9]
 (.seq (.seq (.ops [xM 46 9,
 xM 47 7,
 xP 48 (.bin .lss) [.t 46,.t 47]])
 (.cond (.t 48)
 .skip
 (.exit 1)))
 (.seq (.block 2
 (.ops [xM 51 8,
 ⟨some 52,.pure (.bin .shl),[.t 51,.c (.int .u64 6)],none⟩,
 xM 53 0,
 xM 54 1,
 xM 55 9,
 xP 56 (.bin .add) [.t 54,.t 55],
 xP 57 .idxStr [.t 53,.t 56],
 xP 58 (.conv .i64) [.t 57],
 ⟨some 59,.pure (.bin .and),[.t 58,.c (.int .i64 63)],none⟩,
 ⟨some 60,.pure (.bin .or),[.t 52,.t 59],none⟩,
 xM 8 60]))
 (.ops [xM 49 9,
 xP 50 (.bin .add) [.t 49,.c (.int .i64 1)],
 xM 9 50]))))))
 (.seq (.ops [xM 62 8,
 xK 63 83 [.t 62],
 xM 61 63,
 xP 64 (.ext 0) [.t 61],
 xP 65 (.ext 1) [.t 61],
 xM 10 64,
 xM 11 65])
 (.seq (.seq (.ops [xM 66 11,
 xP 67 (.bin .neq) [.t 66,.c (.int .i64 0)],
 xM 68 67,
 yM 69 10 68 false,
 yM 70 0 68 false,
 yM 71 1 68 false,
 yM 72 1 68 false,
 yM 73 7 68 false,
 yP 74 (.bin .add) [.t 72,.t 73] 68 false,
 yP 75 (.sliceS true true) [.t 70,.t 71,.t 74] 68 false,
 yP 76 (.bin .neq) [.t 69,.t 75] 68 false,
 xP 77 .pick [.t 68,.c (.bool true),.t 76]])
 (.cond (.t 77)
 (.seq (.ops [xC 4 (.int .i64 0),
 xC 5 (.int .i64 0)])
 .ret)
 .skip))
 (.seq (.ops [xM 78 8,
 xM 79 7,
 xM 4 78,
 xM 5 79])
 .ret)))))))))) }
/-- datakit/utf.Len -/
def qoF:AFn:=
 { nt:=26,res:=[.tmp 2,.tmp 3],body:=
 (.seq (.ops [xC 2 (.int .i64 0),
 xC 3 (.int .i64 0)])
 (.seq (.ops [xC 4 (.int .i64 0)])
 (.seq (.seq (.ops [xC 5 (.int .i64 0)])
 (.block 0
 (.loop [0,4,5]
 (.seq (.seq (.ops [xM 8 5,
 xM 9 0,
 xP 10 .lenS [.t 9],
 xP 11 (.bin .lss) [.t 8,.t 10]])
 (.cond (.t 11)
 .skip
 (.exit 0)))
 (.seq (.block 1
 (.seq (.ops [xM 15 0,
 xM 16 5,
 xK 17 84 [.t 15,.t 16],
 xM 14 17,
 xP 18 (.ext 0) [.t 14],
 xP 19 (.ext 1) [.t 14],
 xM 6 18,
 xM 7 19])
 (.seq (.seq (.ops [xM 20 7,
 xP 21 (.bin .eql) [.t 20,.c (.int .i64 0)]])
 (.cond (.t 21)
 (.seq (.ops [xC 2 (.int .i64 0),
 xC 3 (.int .i64 5)])
 .ret)
 .skip))
 (.ops [xM 22 5,
 xM 23 7,
 xP 24 (.bin .add) [.t 22,.t 23],
 xM 5 24]))))
 (.ops [xM 12 4,
 xP 13 (.bin .add) [.t 12,.c (.int .i64 1)],
 xM 4 13]))))))
 (.seq (.ops [xM 25 4,
 xM 2 25,
 xC 3 (.int .i64 0)])
 .ret)))) }
/-- cmp.isNaN[string] -/
def qoE:AFn:=
 { nt:=6,res:=[.tmp 2],body:=
 (.seq (.ops [xC 2 (.bool false)])
 (.seq (.ops [xM 3 0,
 xM 4 0,
 xP 5 (.bin .neq) [.t 3,.t 4],
 xM 2 5])
 .ret)) }
/-- datakit/datakitref07.own -/
def qol:AFn:=
 { nt:=77,res:=[.tmp 2],body:=
 (.seq (.ops [xB 13 1 0,
 xC 2 (.bool false)])
 (.seq (.ops [xF 0 4 1,
 xR 5 4,
 xM 3 5])
 (.seq (.seq (.ops [xM 6 3,
 xP 7 (.bin .lss) [.t 6,.c (.int .i64 0)],
 xM 8 7,
 yM 9 3 8 false,
 yP 10 (.bin .gtr) [.t 9,.c (.int .i64 7)] 8 false,
 xP 11 .pick [.t 8,.c (.bool true),.t 10],
 xM 12 11,
 yM 13 3 12 false,
 yP 14 (.bin .neq) [.t 13,.c (.int .i64 1)] 12 false,
 yM 15 14 12 false,
 yF 1 16 1 15 true,
 yR 17 16 15 true,
 yP 18 .pick [.t 15,.t 17,.c (.bool false)] 12 false,
 xP 19 .pick [.t 12,.c (.bool true),.t 18],
 xM 20 19,
 yM 21 3 20 false,
 yP 22 (.bin .neq) [.t 21,.c (.int .i64 2)] 20 false,
 yM 23 22 20 false,
 yF 2 24 1 23 true,
 yL 3 25 24 23 true,
 ⟨some 26,.pure (.build [.bool false,.str [],.int .i64 0] []),[],some (23,true)⟩,
 ⟨some 27,.pure (.eqF [.bool,.str,.int] true),[.t 25,.t 26],some (23,true)⟩,
 yP 28 .pick [.t 23,.t 27,.c (.bool false)] 20 false,
 xP 29 .pick [.t 20,.c (.bool true),.t 28],
 xM 30 29,
 yM 31 3 30 false,
 yP 32 (.bin .neq) [.t 31,.c (.int .i64 3)] 30 false,
 yM 33 32 30 false,
 yF 5 34 1 33 true,
 yL 4 35 34 33 true,
 ⟨some 36,.pure (.build [.int .i64 0,.int .i64 0,.int .i64 0,.int .i64 0] []),[],some (33,true)⟩,
 ⟨some 37,.pure (.eqF [.int,.int,.int,.int] true),[.t 35,.t 36],some (33,true)⟩,
 yP 38 .pick [.t 33,.t 37,.c (.bool false)] 30 false,
 xP 39 .pick [.t 30,.c (.bool true),.t 38]])
 (.cond (.t 39)
 (.seq (.ops [xC 2 (.bool false)])
 .ret)
 .skip))
 (.seq (.ops [xM 40 3,
 xP 41 (.bin .eql) [.t 40,.c (.int .i64 4)],
 xM 42 41,
 yF 9 43 1 42 false,
 yR 44 43 42 false,
 ⟨some 45,.pure (.bin .eql),[.t 44,.c (.str [])],some (42,false)⟩,
 xP 46 .pick [.t 42,.c (.bool true),.t 45],
 xM 47 46,
 yM 48 3 47 true,
 yP 49 (.bin .eql) [.t 48,.c (.int .i64 5)] 47 true,
 yM 50 49 47 true,
 yF 10 51 1 50 false,
 yR 52 51 50 false,
 yP 53 .lenL [.t 52] 50 false,
 yP 54 (.bin .eql) [.t 53,.c (.int .i64 0)] 50 false,
 yP 55 .pick [.t 50,.c (.bool true),.t 54] 47 true,
 xP 56 .pick [.t 47,.t 55,.c (.bool false)],
 xM 57 56,
 yM 58 3 57 true,
 yP 59 (.bin .eql) [.t 58,.c (.int .i64 6)] 57 true,
 yM 60 59 57 true,
 yF 11 61 1 60 false,
 yR 62 61 60 false,
 yP 63 .lenL [.t 62] 60 false,
 yP 64 (.bin .eql) [.t 63,.c (.int .i64 0)] 60 false,
 yP 65 .pick [.t 60,.c (.bool true),.t 64] 57 true,
 xP 66 .pick [.t 57,.t 65,.c (.bool false)],
 xM 67 66,
 yM 68 3 67 true,
 yP 69 (.bin .eql) [.t 68,.c (.int .i64 7)] 67 true,
 yM 70 69 67 true,
 yF 12 71 1 70 false,
 yR 72 71 70 false,
 yP 73 .lenL [.t 72] 70 false,
 yP 74 (.bin .eql) [.t 73,.c (.int .i64 0)] 70 false,
 yP 75 .pick [.t 70,.c (.bool true),.t 74] 67 true,
 xP 76 .pick [.t 67,.t 75,.c (.bool false)],
 xM 2 76])
 .ret)))) }
/-- datakit/datakitref02.Valid -/
def qn8:AFn:=
 { nt:=39,res:=[.tmp 2],body:=
 (.seq (.ops [xB 3 1 0,
 xC 2 (.bool false)])
 (.seq (.seq (.ops [xF 1 3 1,
 xR 4 3,
 ⟨some 5,.pure (.bin .eql),[.t 4,.c (.str [])],none⟩])
 (.cond (.t 5)
 (.seq (.ops [xF 0 6 1,
 xR 7 6,
 xP 8 (.un .not) [.t 7],
 xM 9 8,
 yF 2 10 1 9 true,
 yR 11 10 9 true,
 yP 12 (.bin .eql) [.t 11,.c (.int .i64 0)] 9 true,
 xP 13 .pick [.t 9,.t 12,.c (.bool false)],
 xM 2 13])
 .ret)
 .skip))
 (.seq (.ops [xF 1 14 1,
 xR 15 14,
 xP 16 .lenS [.t 15],
 xP 17 (.bin .leq) [.t 16,.c (.int .i64 120)],
 xM 18 17,
 yF 1 19 1 18 true,
 yR 20 19 18 true,
 yK 21 59 [.t 20] 18 true,
 xP 22 .pick [.t 18,.t 21,.c (.bool false)],
 xM 23 22,
 yF 1 24 1 23 true,
 yR 25 24 23 true,
 yK 26 90 [.t 25] 23 true,
 yP 27 (.bin .eql) [.t 26,.c (.int .i64 0)] 23 true,
 xP 28 .pick [.t 23,.t 27,.c (.bool false)],
 xM 29 28,
 yF 2 30 1 29 true,
 yR 31 30 29 true,
 yP 32 (.bin .geq) [.t 31,.c (.int .i64 (-400))] 29 true,
 xP 33 .pick [.t 29,.t 32,.c (.bool false)],
 xM 34 33,
 yF 2 35 1 34 true,
 yR 36 35 34 true,
 yP 37 (.bin .leq) [.t 36,.c (.int .i64 400)] 34 true,
 xP 38 .pick [.t 34,.t 37,.c (.bool false)],
 xM 2 38])
 .ret))) }
/-- datakit/datakitref05.Valid -/
def qoT:AFn:=
 { nt:=69,res:=[.tmp 2],body:=
 (.seq (.ops [xB 4 1 0,
 xC 2 (.bool false)])
 (.seq (.seq (.ops [xF 0 3 1,
 xR 4 3,
 xP 5 (.bin .lss) [.t 4,.c (.int .i64 1)],
 xM 6 5,
 yF 0 7 1 6 false,
 yR 8 7 6 false,
 yP 9 (.bin .gtr) [.t 8,.c (.int .i64 4)] 6 false,
 xP 10 .pick [.t 6,.c (.bool true),.t 9],
 xM 11 10,
 yF 1 12 1 11 false,
 yR 13 12 11 false,
 yP 14 (.bin .lss) [.t 13,.c (.int .i64 0)] 11 false,
 xP 15 .pick [.t 11,.c (.bool true),.t 14],
 xM 16 15,
 yF 1 17 1 16 false,
 yR 18 17 16 false,
 yP 19 (.bin .gtr) [.t 18,.c (.int .i64 3652058)] 16 false,
 xP 20 .pick [.t 16,.c (.bool true),.t 19],
 xM 21 20,
 yF 2 22 1 21 false,
 yR 23 22 21 false,
 yP 24 (.bin .lss) [.t 23,.c (.int .i64 0)] 21 false,
 xP 25 .pick [.t 21,.c (.bool true),.t 24],
 xM 26 25,
 yF 2 27 1 26 false,
 yR 28 27 26 false,
 yP 29 (.bin .gtr) [.t 28,.c (.int .i64 86399999999999)] 26 false,
 xP 30 .pick [.t 26,.c (.bool true),.t 29],
 xM 31 30,
 yF 3 32 1 31 false,
 yR 33 32 31 false,
 yP 34 (.bin .lss) [.t 33,.c (.int .i64 (-1439))] 31 false,
 xP 35 .pick [.t 31,.c (.bool true),.t 34],
 xM 36 35,
 yF 3 37 1 36 false,
 yR 38 37 36 false,
 yP 39 (.bin .gtr) [.t 38,.c (.int .i64 1439)] 36 false,
 xP 40 .pick [.t 36,.c (.bool true),.t 39]])
 (.cond (.t 40)
 (.seq (.ops [xC 2 (.bool false)])
 .ret)
 .skip))
 (.seq (.ops [xF 0 41 1,
 xR 42 41,
 xK 43 91 [.t 42],
 xM 44 43,
 yF 1 45 1 44 false,
 yR 46 45 44 false,
 yP 47 (.bin .eql) [.t 46,.c (.int .i64 0)] 44 false,
 xP 48 .pick [.t 44,.c (.bool true),.t 47],
 xM 49 48,
 yF 0 50 1 49 true,
 yR 51 50 49 true,
 yK 52 92 [.t 51] 49 true,
 yM 53 52 49 true,
 yF 2 54 1 53 false,
 yR 55 54 53 false,
 yP 56 (.bin .eql) [.t 55,.c (.int .i64 0)] 53 false,
 yP 57 .pick [.t 53,.c (.bool true),.t 56] 49 true,
 xP 58 .pick [.t 49,.t 57,.c (.bool false)],
 xM 59 58,
 yF 0 60 1 59 true,
 yR 61 60 59 true,
 yP 62 (.bin .eql) [.t 61,.c (.int .i64 4)] 59 true,
 yM 63 62 59 true,
 yF 3 64 1 63 false,
 yR 65 64 63 false,
 yP 66 (.bin .eql) [.t 65,.c (.int .i64 0)] 63 false,
 yP 67 .pick [.t 63,.c (.bool true),.t 66] 59 true,
 xP 68 .pick [.t 59,.t 67,.c (.bool false)],
 xM 2 68])
 .ret))) }
/-- datakit/datakitref07.Keys -/
def qnY:AFn:=
 { nt:=41,res:=[.tmp 2],body:=
 (.seq (.ops [xC 2 (.int .i64 0)])
 (.seq (.seq (.ops [xC 3 (.int .i64 0)])
 (.block 0
 (.loop [0,3]
 (.seq (.seq (.ops [xM 5 3,
 xM 6 0,
 xP 7 .lenL [.t 6],
 xP 8 (.bin .lss) [.t 5,.t 7]])
 (.cond (.t 8)
 .skip
 (.exit 0)))
 (.seq (.block 1
 (.seq (.seq (.ops [xM 11 0,
 xM 12 3,
 xI 14 13 11 12,
 xF 0 14 13,
 xR 15 14,
 xK 16 24 [.t 15],
 xP 17 (.un .not) [.t 16]])
 (.cond (.t 17)
 (.seq (.ops [xC 2 (.int .i64 5)])
 .ret)
 .skip))
 (.seq (.seq (.ops [xM 18 0,
 xM 19 3,
 xI 14 20 18 19,
 xF 0 21 20,
 xR 22 21,
 xP 23 .lenS [.t 22],
 xP 24 (.bin .gtr) [.t 23,.c (.int .i64 1024)]])
 (.cond (.t 24)
 (.seq (.ops [xC 2 (.int .i64 10)])
 .ret)
 .skip))
 (.seq (.ops [xC 4 (.int .i64 0)])
 (.block 2
 (.loop [0,3,4]
 (.seq (.seq (.ops [xM 25 4,
 xM 26 3,
 xP 27 (.bin .lss) [.t 25,.t 26]])
 (.cond (.t 27)
 .skip
 (.exit 2)))
 (.seq (.block 3
 (.seq (.ops [xM 30 0,
 xM 31 4,
 xI 14 32 30 31,
 xF 0 33 32,
 xR 34 33,
 xM 35 0,
 xM 36 3,
 xI 14 37 35 36,
 xF 0 38 37,
 xR 39 38,
 xP 40 (.bin .eql) [.t 34,.t 39]])
 (.cond (.t 40)
 (.seq (.ops [xC 2 (.int .i64 8)])
 .ret)
 .skip)))
 (.ops [xM 28 4,
 xP 29 (.bin .add) [.t 28,.c (.int .i64 1)],
 xM 4 29])))))))))
 (.ops [xM 9 3,
 xP 10 (.bin .add) [.t 9,.c (.int .i64 1)],
 xM 3 10]))))))
 (.seq (.ops [xC 2 (.int .i64 0)])
 .ret))) }
/-- datakit/datakitref01.Digits -/
def qqd:AFn:=
 { nt:=20,res:=[.tmp 2],body:=
 (.seq (.ops [xC 2 (.bool false)])
 (.seq (.seq (.ops [xC 3 (.int .i64 0)])
 (.block 0
 (.loop [0,3]
 (.seq (.seq (.ops [xM 4 3,
 xM 5 0,
 xP 6 .lenS [.t 5],
 xP 7 (.bin .lss) [.t 4,.t 6]])
 (.cond (.t 7)
 .skip
 (.exit 0)))
 (.seq (.block 1
 (.seq (.ops [xM 10 0,
 xM 11 3,
 xP 12 .idxStr [.t 10,.t 11],
 xP 13 (.bin .lss) [.t 12,.c (.int .u8 48)],
 xM 14 13,
 yM 15 0 14 false,
 yM 16 3 14 false,
 yP 17 .idxStr [.t 15,.t 16] 14 false,
 yP 18 (.bin .gtr) [.t 17,.c (.int .u8 57)] 14 false,
 xP 19 .pick [.t 14,.c (.bool true),.t 18]])
 (.cond (.t 19)
 (.seq (.ops [xC 2 (.bool false)])
 .ret)
 .skip)))
 (.ops [xM 8 3,
 xP 9 (.bin .add) [.t 8,.c (.int .i64 1)],
 xM 3 9]))))))
 (.seq (.ops [xC 2 (.bool true)])
 .ret))) }
/-- datakit/datakitref03.Encode -/
def qf1:AFn:=
 { nt:=66,res:=[.tmp 2,.tmp 3],body:=
 (.seq (.ops [xC 2 (.str []),
 xC 3 (.int .i64 0)])
 (.seq (.block 0
 (.seq (.ops [xM 5 0,
 xK 6 93 [.t 5],
 xP 7 (.un .not) [.t 6],
 xM 4 7])
 (.cond (.t 4)
 (.seq (.ops [xC 2 (.str []),
 xC 3 (.int .i64 2)])
 .ret)
 (.seq (.ops [xM 9 0,
 xP 10 (.bin .lss) [.t 9,.c (.int .i64 128)],
 xM 8 10])
 (.cond (.t 8)
 (.seq (.ops [xM 11 0,
 xP 12 (.conv .u8) [.t 11],
 ⟨some 13,.new (.buildSlice 1 [.int .u8 0] [0]),[.t 12],none⟩,
 ⟨some 14,.read .bytesStr,[.t 13],none⟩,
 xM 2 14,
 xC 3 (.int .i64 0)])
 .ret)
 (.seq (.ops [xM 16 0,
 xP 17 (.bin .lss) [.t 16,.c (.int .i64 2048)],
 xM 15 17])
 (.cond (.t 15)
 (.seq (.ops [xM 18 0,
 ⟨some 19,.pure (.bin .shr),[.t 18,.c (.int .u64 6)],none⟩,
 ⟨some 20,.pure (.bin .or),[.c (.int .i64 192),.t 19],none⟩,
 xP 21 (.conv .u8) [.t 20],
 xM 22 0,
 ⟨some 23,.pure (.bin .and),[.t 22,.c (.int .i64 63)],none⟩,
 ⟨some 24,.pure (.bin .or),[.c (.int .i64 128),.t 23],none⟩,
 xP 25 (.conv .u8) [.t 24],
 ⟨some 26,.new (.buildSlice 1 [.int .u8 0,.int .u8 0] [0,1]),[.t 21,.t 25],none⟩,
 ⟨some 27,.read .bytesStr,[.t 26],none⟩,
 xM 2 27,
 xC 3 (.int .i64 0)])
 .ret)
 (.seq (.ops [xM 29 0,
 xP 30 (.bin .lss) [.t 29,.c (.int .i64 65536)],
 xM 28 30])
 (.cond (.t 28)
 (.seq (.ops [xM 31 0,
 ⟨some 32,.pure (.bin .shr),[.t 31,.c (.int .u64 12)],none⟩,
 ⟨some 33,.pure (.bin .or),[.c (.int .i64 224),.t 32],none⟩,
 xP 34 (.conv .u8) [.t 33],
 xM 35 0,
 ⟨some 36,.pure (.bin .shr),[.t 35,.c (.int .u64 6)],none⟩,
 ⟨some 37,.pure (.bin .and),[.t 36,.c (.int .i64 63)],none⟩,
 ⟨some 38,.pure (.bin .or),[.c (.int .i64 128),.t 37],none⟩,
 xP 39 (.conv .u8) [.t 38],
 xM 40 0,
 ⟨some 41,.pure (.bin .and),[.t 40,.c (.int .i64 63)],none⟩,
 ⟨some 42,.pure (.bin .or),[.c (.int .i64 128),.t 41],none⟩,
 xP 43 (.conv .u8) [.t 42],
 ⟨some 44,.new (.buildSlice 1 [.int .u8 0,.int .u8 0,.int .u8 0] [0,1,2]),[.t 34,.t 39,.t 43],none⟩,
 ⟨some 45,.read .bytesStr,[.t 44],none⟩,
 xM 2 45,
 xC 3 (.int .i64 0)])
 .ret)
 .skip)))))))))
 (.seq (.ops [xM 46 0,
 ⟨some 47,.pure (.bin .shr),[.t 46,.c (.int .u64 18)],none⟩,
 ⟨some 48,.pure (.bin .or),[.c (.int .i64 240),.t 47],none⟩,
 xP 49 (.conv .u8) [.t 48],
 xM 50 0,
 ⟨some 51,.pure (.bin .shr),[.t 50,.c (.int .u64 12)],none⟩,
 ⟨some 52,.pure (.bin .and),[.t 51,.c (.int .i64 63)],none⟩,
 ⟨some 53,.pure (.bin .or),[.c (.int .i64 128),.t 52],none⟩,
 xP 54 (.conv .u8) [.t 53],
 xM 55 0,
 ⟨some 56,.pure (.bin .shr),[.t 55,.c (.int .u64 6)],none⟩,
 ⟨some 57,.pure (.bin .and),[.t 56,.c (.int .i64 63)],none⟩,
 ⟨some 58,.pure (.bin .or),[.c (.int .i64 128),.t 57],none⟩,
 xP 59 (.conv .u8) [.t 58],
 xM 60 0,
 ⟨some 61,.pure (.bin .and),[.t 60,.c (.int .i64 63)],none⟩,
 ⟨some 62,.pure (.bin .or),[.c (.int .i64 128),.t 61],none⟩,
 xP 63 (.conv .u8) [.t 62],
 ⟨some 64,.new (.buildSlice 1 [.int .u8 0,.int .u8 0,.int .u8 0,.int .u8 0] [0,1,2,3]),[.t 49,.t 54,.t 59,.t 63],none⟩,
 ⟨some 65,.read .bytesStr,[.t 64],none⟩,
 xM 2 65,
 xC 3 (.int .i64 0)])
 .ret))) }
/-- datakit/utf.Decode -/
def q9K:AFn:=
 { nt:=64,res:=[.tmp 4,.tmp 5],body:=
 (.seq (.ops [xC 4 (.int .i64 0),
 xC 5 (.int .i64 0)])
 (.seq (.seq (.ops [xM 9 1,
 xP 10 (.bin .lss) [.t 9,.c (.int .i64 0)],
 xM 11 10,
 yM 12 1 11 false,
 yM 13 0 11 false,
 yP 14 .lenS [.t 13] 11 false,
 yP 15 (.bin .geq) [.t 12,.t 14] 11 false,
 xP 16 .pick [.t 11,.c (.bool true),.t 15]])
 (.cond (.t 16)
 (.seq (.ops [xC 4 (.int .i64 0),
 xC 5 (.int .i64 0)])
 .ret)
 .skip))
 (.seq (.ops [xM 18 0,
 xM 19 1,
 xP 20 .idxStr [.t 18,.t 19],
 xK 21 94 [.t 20],
 xM 17 21,
 xP 22 (.ext 0) [.t 17],
 xP 23 (.ext 1) [.t 17],
 xM 6 22,
 xM 4 23])
 (.seq (.seq (.ops [xM 24 6,
 xP 25 (.bin .eql) [.t 24,.c (.int .i64 0)],
 xM 26 25,
 yM 27 6 26 false,
 yM 28 0 26 false,
 yP 29 .lenS [.t 28] 26 false,
 yM 30 1 26 false,
 yP 31 (.bin .sub) [.t 29,.t 30] 26 false,
 yP 32 (.bin .gtr) [.t 27,.t 31] 26 false,
 xP 33 .pick [.t 26,.c (.bool true),.t 32]])
 (.cond (.t 33)
 (.seq (.ops [xC 4 (.int .i64 0),
 xC 5 (.int .i64 0)])
 .ret)
 .skip))
 (.seq (.seq (.ops [xC 7 (.int .i64 1)])
 (.block 0
 (.loop [0,1,4,6,7]
 (.seq (.seq (.ops [xM 34 7,
 xM 35 6,
 xP 36 (.bin .lss) [.t 34,.t 35]])
 (.cond (.t 36)
 .skip
 (.exit 0)))
 (.seq (.block 1
 (.seq (.ops [xM 39 0,
 xM 40 1,
 xM 41 7,
 xP 42 (.bin .add) [.t 40,.t 41],
 xP 43 .idxStr [.t 39,.t 42],
 xM 8 43])
 (.seq (.seq (.ops [xM 44 8,
 ⟨some 45,.pure (.bin .and),[.t 44,.c (.int .u8 192)],none⟩,
 xP 46 (.bin .neq) [.t 45,.c (.int .u8 128)]])
 (.cond (.t 46)
 (.seq (.ops [xC 4 (.int .i64 0),
 xC 5 (.int .i64 0)])
 .ret)
 .skip))
 (.ops [xM 47 4,
 ⟨some 48,.pure (.bin .shl),[.t 47,.c (.int .u64 6)],none⟩,
 xM 49 8,
 ⟨some 50,.pure (.bin .and),[.t 49,.c (.int .u8 63)],none⟩,
 xP 51 (.conv .i64) [.t 50],
 ⟨some 52,.pure (.bin .or),[.t 48,.t 51],none⟩,
 xM 4 52]))))
 (.ops [xM 37 7,
 xP 38 (.bin .add) [.t 37,.c (.int .i64 1)],
 xM 7 38]))))))
 (.seq (.seq (.ops [xM 53 4,
 xK 54 95 [.t 53],
 xP 55 (.un .not) [.t 54],
 xM 56 55,
 yM 57 4 56 false,
 yK 58 96 [.t 57] 56 false,
 yM 59 6 56 false,
 yP 60 (.bin .neq) [.t 58,.t 59] 56 false,
 xP 61 .pick [.t 56,.c (.bool true),.t 60]])
 (.cond (.t 61)
 (.seq (.ops [xC 4 (.int .i64 0),
 xC 5 (.int .i64 0)])
 .ret)
 .skip))
 (.seq (.ops [xM 62 4,
 xM 63 6,
 xM 4 62,
 xM 5 63])
 .ret))))))) }
/-- datakit/datakitref01.Zeros -/
def qpN:AFn:=
 { nt:=21,res:=[.tmp 2],body:=
 (.seq (.ops [xC 2 (.int .i64 0)])
 (.seq (.ops [xC 3 (.int .i64 0)])
 (.seq (.block 0
 (.loop [0,3]
 (.seq (.seq (.ops [xM 4 3,
 xM 5 0,
 xP 6 .lenS [.t 5],
 xP 7 (.bin .lss) [.t 4,.t 6],
 xM 8 7,
 yM 9 0 8 true,
 yM 10 0 8 true,
 yP 11 .lenS [.t 10] 8 true,
 yP 12 (.bin .sub) [.t 11,.c (.int .i64 1)] 8 true,
 yM 13 3 8 true,
 yP 14 (.bin .sub) [.t 12,.t 13] 8 true,
 yP 15 .idxStr [.t 9,.t 14] 8 true,
 yP 16 (.bin .eql) [.t 15,.c (.int .u8 48)] 8 true,
 xP 17 .pick [.t 8,.t 16,.c (.bool false)]])
 (.cond (.t 17)
 .skip
 (.exit 0)))
 (.block 1
 (.ops [xM 18 3,
 xP 19 (.bin .add) [.t 18,.c (.int .i64 1)],
 xM 3 19])))))
 (.seq (.ops [xM 20 3,
 xM 2 20])
 .ret)))) }
/-- datakit/datakitref05.dated -/
def qp4:AFn:=
 { nt:=13,res:=[.tmp 2],body:=
 (.seq (.ops [xC 2 (.bool false)])
 (.seq (.ops [xM 3 0,
 xP 4 (.bin .eql) [.t 3,.c (.int .i64 1)],
 xM 5 4,
 yM 6 0 5 false,
 yP 7 (.bin .eql) [.t 6,.c (.int .i64 3)] 5 false,
 xP 8 .pick [.t 5,.c (.bool true),.t 7],
 xM 9 8,
 yM 10 0 9 false,
 yP 11 (.bin .eql) [.t 10,.c (.int .i64 4)] 9 false,
 xP 12 .pick [.t 9,.c (.bool true),.t 11],
 xM 2 12])
 .ret)) }
/-- datakit/datakitref05.clocked -/
def qoL:AFn:=
 { nt:=13,res:=[.tmp 2],body:=
 (.seq (.ops [xC 2 (.bool false)])
 (.seq (.ops [xM 3 0,
 xP 4 (.bin .eql) [.t 3,.c (.int .i64 2)],
 xM 5 4,
 yM 6 0 5 false,
 yP 7 (.bin .eql) [.t 6,.c (.int .i64 3)] 5 false,
 xP 8 .pick [.t 5,.c (.bool true),.t 7],
 xM 9 8,
 yM 10 0 9 false,
 yP 11 (.bin .eql) [.t 10,.c (.int .i64 4)] 9 false,
 xP 12 .pick [.t 9,.c (.bool true),.t 11],
 xM 2 12])
 .ret)) }
/-- datakit/datakitref03.character -/
def qor:AFn:=
 { nt:=17,res:=[.tmp 2],body:=
 (.seq (.ops [xC 2 (.bool false)])
 (.seq (.ops [xM 3 0,
 xP 4 (.bin .geq) [.t 3,.c (.int .i64 0)],
 xM 5 4,
 yM 6 0 5 true,
 yP 7 (.bin .leq) [.t 6,.c (.int .i64 1114111)] 5 true,
 xP 8 .pick [.t 5,.t 7,.c (.bool false)],
 xM 9 8,
 yM 10 0 9 true,
 yP 11 (.bin .lss) [.t 10,.c (.int .i64 55296)] 9 true,
 yM 12 11 9 true,
 yM 13 0 12 false,
 yP 14 (.bin .gtr) [.t 13,.c (.int .i64 57343)] 12 false,
 yP 15 .pick [.t 12,.c (.bool true),.t 14] 9 true,
 xP 16 .pick [.t 9,.t 15,.c (.bool false)],
 xM 2 16])
 .ret)) }
/-- datakit/utf.head -/
def qcx:AFn:=
 { nt:=39,res:=[.tmp 2,.tmp 3],body:=
 (.seq (.ops [xC 2 (.int .i64 0),
 xC 3 (.int .i64 0)])
 (.seq (.block 0
 (.seq (.ops [xM 5 0,
 xP 6 (.bin .lss) [.t 5,.c (.int .u8 128)],
 xM 4 6])
 (.cond (.t 4)
 (.seq (.ops [xM 7 0,
 xP 8 (.conv .i64) [.t 7],
 xC 2 (.int .i64 1),
 xM 3 8])
 .ret)
 (.seq (.ops [xM 10 0,
 xP 11 (.bin .geq) [.t 10,.c (.int .u8 192)],
 xM 12 11,
 yM 13 0 12 true,
 yP 14 (.bin .lss) [.t 13,.c (.int .u8 224)] 12 true,
 xP 15 .pick [.t 12,.t 14,.c (.bool false)],
 xM 9 15])
 (.cond (.t 9)
 (.seq (.ops [xM 16 0,
 ⟨some 17,.pure (.bin .and),[.t 16,.c (.int .u8 31)],none⟩,
 xP 18 (.conv .i64) [.t 17],
 xC 2 (.int .i64 2),
 xM 3 18])
 .ret)
 (.seq (.ops [xM 20 0,
 xP 21 (.bin .geq) [.t 20,.c (.int .u8 224)],
 xM 22 21,
 yM 23 0 22 true,
 yP 24 (.bin .lss) [.t 23,.c (.int .u8 240)] 22 true,
 xP 25 .pick [.t 22,.t 24,.c (.bool false)],
 xM 19 25])
 (.cond (.t 19)
 (.seq (.ops [xM 26 0,
 ⟨some 27,.pure (.bin .and),[.t 26,.c (.int .u8 15)],none⟩,
 xP 28 (.conv .i64) [.t 27],
 xC 2 (.int .i64 3),
 xM 3 28])
 .ret)
 (.seq (.ops [xM 30 0,
 xP 31 (.bin .geq) [.t 30,.c (.int .u8 240)],
 xM 32 31,
 yM 33 0 32 true,
 yP 34 (.bin .lss) [.t 33,.c (.int .u8 248)] 32 true,
 xP 35 .pick [.t 32,.t 34,.c (.bool false)],
 xM 29 35])
 (.cond (.t 29)
 (.seq (.ops [xM 36 0,
 ⟨some 37,.pure (.bin .and),[.t 36,.c (.int .u8 7)],none⟩,
 xP 38 (.conv .i64) [.t 37],
 xC 2 (.int .i64 4),
 xM 3 38])
 .ret)
 .skip)))))))))
 (.seq (.ops [xC 2 (.int .i64 0),
 xC 3 (.int .i64 0)])
 .ret))) }
/-- datakit/utf.scalar -/
def qp6:AFn:=
 { nt:=17,res:=[.tmp 2],body:=
 (.seq (.ops [xC 2 (.bool false)])
 (.seq (.ops [xM 3 0,
 xP 4 (.bin .geq) [.t 3,.c (.int .i64 0)],
 xM 5 4,
 yM 6 0 5 true,
 yP 7 (.bin .leq) [.t 6,.c (.int .i64 1114111)] 5 true,
 xP 8 .pick [.t 5,.t 7,.c (.bool false)],
 xM 9 8,
 yM 10 0 9 true,
 yP 11 (.bin .lss) [.t 10,.c (.int .i64 55296)] 9 true,
 yM 12 11 9 true,
 yM 13 0 12 false,
 yP 14 (.bin .gtr) [.t 13,.c (.int .i64 57343)] 12 false,
 yP 15 .pick [.t 12,.c (.bool true),.t 14] 9 true,
 xP 16 .pick [.t 9,.t 15,.c (.bool false)],
 xM 2 16])
 .ret)) }
/-- datakit/utf.width -/
def qgs:AFn:=
 { nt:=12,res:=[.tmp 2],body:=
 (.seq (.ops [xC 2 (.int .i64 0)])
 (.seq (.block 0
 (.seq (.ops [xM 4 0,
 xP 5 (.bin .lss) [.t 4,.c (.int .i64 128)],
 xM 3 5])
 (.cond (.t 3)
 (.seq (.ops [xC 2 (.int .i64 1)])
 .ret)
 (.seq (.ops [xM 7 0,
 xP 8 (.bin .lss) [.t 7,.c (.int .i64 2048)],
 xM 6 8])
 (.cond (.t 6)
 (.seq (.ops [xC 2 (.int .i64 2)])
 .ret)
 (.seq (.ops [xM 10 0,
 xP 11 (.bin .lss) [.t 10,.c (.int .i64 65536)],
 xM 9 11])
 (.cond (.t 9)
 (.seq (.ops [xC 2 (.int .i64 3)])
 .ret)
 .skip)))))))
 (.seq (.ops [xC 2 (.int .i64 4)])
 .ret))) }
/-- datakit/value.Check -/
def qhb:AFn:=
 { nt:=6,res:=[.tmp 2],body:=
 (.seq (.ops [xB 13 1 0,
 xC 2 (.int .i64 0)])
 (.seq (.ops [⟨some 3,.new (.new 1 [.int .i64 0]),[],none⟩,
 ⟨none,.eff (.store 1),[.t 3,.c (.int .i64 0)],none⟩])
 (.seq (.ops [xL 13 4 1,
 ⟨some 5,.call 133,[.t 4,.c (.int .i64 1),.t 3],none⟩,
 xM 2 5])
 .ret))) }
/-- datakit/value.check -/
def q0N:AFn:=
 { nt:=121,res:=[.tmp 6],body:=
 (.seq (.ops [xB 13 3 0,
 xC 6 (.int .i64 0)])
 (.seq (.ops [xM 14 2,
 xP 15 .chk [.t 14],
 xR 16 15,
 xP 17 (.bin .add) [.t 16,.c (.int .i64 1)],
 xP 18 .chk [.t 14],
 xS 1 18 17])
 (.seq (.block 0
 (.seq (.ops [xM 20 1,
 xP 21 (.bin .gtr) [.t 20,.c (.int .i64 48)],
 xM 19 21])
 (.cond (.t 19)
 (.seq (.ops [xC 6 (.int .i64 9)])
 .ret)
 (.seq (.ops [xM 23 2,
 xP 24 .chk [.t 23],
 xR 25 24,
 xP 26 (.bin .gtr) [.t 25,.c (.int .i64 65536)],
 xM 22 26])
 (.cond (.t 22)
 (.seq (.ops [xC 6 (.int .i64 10)])
 .ret)
 (.seq (.ops [xF 0 28 3,
 xR 29 28,
 xP 30 (.bin .lss) [.t 29,.c (.int .i64 0)],
 xM 31 30,
 yF 0 32 3 31 false,
 yR 33 32 31 false,
 yP 34 (.bin .geq) [.t 33,.c (.int .i64 8)] 31 false,
 xP 35 .pick [.t 31,.c (.bool true),.t 34],
 xM 36 35,
 yL 13 37 3 36 false,
 yK 38 139 [.t 37] 36 false,
 xP 39 .pick [.t 36,.c (.bool true),.t 38],
 xM 27 39])
 (.cond (.t 27)
 (.seq (.ops [xC 6 (.int .i64 6)])
 .ret)
 (.seq (.ops [xF 0 41 3,
 xR 42 41,
 xP 43 (.bin .eql) [.t 42,.c (.int .i64 2)],
 xM 44 43,
 yF 2 45 3 44 true,
 yL 3 46 45 44 true,
 yK 47 140 [.t 46] 44 true,
 yP 48 (.un .not) [.t 47] 44 true,
 xP 49 .pick [.t 44,.t 48,.c (.bool false)],
 xM 50 49,
 yF 0 51 3 50 false,
 yR 52 51 50 false,
 yP 53 (.bin .eql) [.t 52,.c (.int .i64 3)] 50 false,
 yM 54 53 50 false,
 yF 5 55 3 54 true,
 yL 4 56 55 54 true,
 yK 57 141 [.t 56] 54 true,
 yP 58 (.un .not) [.t 57] 54 true,
 yP 59 .pick [.t 54,.t 58,.c (.bool false)] 50 false,
 xP 60 .pick [.t 50,.c (.bool true),.t 59],
 xM 40 60])
 (.cond (.t 40)
 (.seq (.ops [xC 6 (.int .i64 2)])
 .ret)
 (.seq (.ops [xF 0 62 3,
 xR 63 62,
 xP 64 (.bin .eql) [.t 63,.c (.int .i64 4)],
 xM 65 64,
 yF 9 66 3 65 true,
 yR 67 66 65 true,
 yK 68 46 [.t 67] 65 true,
 yP 69 (.un .not) [.t 68] 65 true,
 xP 70 .pick [.t 65,.t 69,.c (.bool false)],
 xM 61 70])
 (.cond (.t 61)
 (.seq (.ops [xC 6 (.int .i64 5)])
 .ret)
 (.seq (.ops [xF 9 72 3,
 xR 73 72,
 xP 74 .lenS [.t 73],
 xP 75 (.bin .gtr) [.t 74,.c (.int .i64 65536)],
 xM 76 75,
 yF 10 77 3 76 false,
 yR 78 77 76 false,
 yP 79 .lenL [.t 78] 76 false,
 yP 80 (.bin .gtr) [.t 79,.c (.int .i64 65536)] 76 false,
 xP 81 .pick [.t 76,.c (.bool true),.t 80],
 xM 71 81])
 (.cond (.t 71)
 (.seq (.ops [xC 6 (.int .i64 10)])
 .ret)
 .skip)))))))))))))
 (.seq (.seq (.ops [xF 12 82 3,
 xR 83 82,
 xK 84 142 [.t 83],
 xM 7 84])
 (.seq (.ops [xM 85 7,
 xP 86 (.bin .neq) [.t 85,.c (.int .i64 0)]])
 (.cond (.t 86)
 (.seq (.ops [xM 87 7,
 xM 6 87])
 .ret)
 .skip)))
 (.seq (.seq (.ops [xF 11 88 3,
 xR 89 88,
 xP 90 .lenL [.t 89],
 xC 91 (.int .i64 0)])
 (.block 1
 (.loop [1,2,3,89,90,91]
 (.seq (.ops [xP 92 (.bin .lss) [.t 91,.t 90]])
 (.seq (.cond (.t 92)
 .skip
 (.exit 1))
 (.seq (.block 2
 (.seq (.ops [xI 13 93 89 91,
 xL 13 94 93,
 xN 9 13 z1,
 xS 13 9 94])
 (.seq (.ops [xL 13 95 9,
 xM 96 1,
 xP 97 (.bin .add) [.t 96,.c (.int .i64 1)],
 xM 98 2,
 ⟨some 99,.call 133,[.t 95,.t 97,.t 98],none⟩,
 xM 10 99])
 (.seq (.ops [xM 100 10,
 xP 101 (.bin .neq) [.t 100,.c (.int .i64 0)]])
 (.cond (.t 101)
 (.seq (.ops [xM 102 10,
 xM 6 102])
 .ret)
 .skip)))))
 (.ops [xP 103 (.bin .add) [.t 91,.c (.int .i64 1)],
 xM 91 103])))))))
 (.seq (.seq (.ops [xF 12 104 3,
 xR 105 104,
 xP 106 .lenL [.t 105],
 xC 107 (.int .i64 0)])
 (.block 3
 (.loop [1,2,105,106,107]
 (.seq (.ops [xP 108 (.bin .lss) [.t 107,.t 106]])
 (.seq (.cond (.t 108)
 .skip
 (.exit 3))
 (.seq (.block 4
 (.seq (.ops [xI 14 109 105 107,
 xL 14 110 109,
 xN 12 14 z5,
 xS 14 12 110])
 (.seq (.ops [xF 1 111 12,
 xL 13 112 111,
 xM 113 1,
 xP 114 (.bin .add) [.t 113,.c (.int .i64 1)],
 xM 115 2,
 ⟨some 116,.call 133,[.t 112,.t 114,.t 115],none⟩,
 xM 13 116])
 (.seq (.ops [xM 117 13,
 xP 118 (.bin .neq) [.t 117,.c (.int .i64 0)]])
 (.cond (.t 118)
 (.seq (.ops [xM 119 13,
 xM 6 119])
 .ret)
 .skip)))))
 (.ops [xP 120 (.bin .add) [.t 107,.c (.int .i64 1)],
 xM 107 120])))))))
 (.seq (.ops [xC 6 (.int .i64 0)])
 .ret))))))) }
/-- datakit/value.extra -/
def qhB:AFn:=
 { nt:=71,res:=[.tmp 2],body:=
 (.seq (.ops [xB 13 1 0,
 xC 2 (.bool false)])
 (.seq (.ops [xF 0 4 1,
 xR 5 4,
 xM 3 5])
 (.seq (.ops [xM 6 3,
 xP 7 (.bin .neq) [.t 6,.c (.int .i64 1)],
 xM 8 7,
 yF 1 9 1 8 true,
 yR 10 9 8 true,
 xP 11 .pick [.t 8,.t 10,.c (.bool false)],
 xM 12 11,
 yM 13 3 12 false,
 yP 14 (.bin .neq) [.t 13,.c (.int .i64 2)] 12 false,
 yM 15 14 12 false,
 yF 2 16 1 15 true,
 yL 3 17 16 15 true,
 ⟨some 18,.pure (.build [.bool false,.str [],.int .i64 0] []),[],some (15,true)⟩,
 ⟨some 19,.pure (.eqF [.bool,.str,.int] true),[.t 17,.t 18],some (15,true)⟩,
 yP 20 .pick [.t 15,.t 19,.c (.bool false)] 12 false,
 xP 21 .pick [.t 12,.c (.bool true),.t 20],
 xM 22 21,
 yM 23 3 22 false,
 yP 24 (.bin .neq) [.t 23,.c (.int .i64 3)] 22 false,
 yM 25 24 22 false,
 yF 5 26 1 25 true,
 yL 4 27 26 25 true,
 ⟨some 28,.pure (.build [.int .i64 0,.int .i64 0,.int .i64 0,.int .i64 0] []),[],some (25,true)⟩,
 ⟨some 29,.pure (.eqF [.int,.int,.int,.int] true),[.t 27,.t 28],some (25,true)⟩,
 yP 30 .pick [.t 25,.t 29,.c (.bool false)] 22 false,
 xP 31 .pick [.t 22,.c (.bool true),.t 30],
 xM 32 31,
 yM 33 3 32 false,
 yP 34 (.bin .neq) [.t 33,.c (.int .i64 4)] 32 false,
 yM 35 34 32 false,
 yF 9 36 1 35 true,
 yR 37 36 35 true,
 ⟨some 38,.pure (.bin .neq),[.t 37,.c (.str [])],some (35,true)⟩,
 yP 39 .pick [.t 35,.t 38,.c (.bool false)] 32 false,
 xP 40 .pick [.t 32,.c (.bool true),.t 39],
 xM 41 40,
 yM 42 3 41 false,
 yP 43 (.bin .neq) [.t 42,.c (.int .i64 5)] 41 false,
 yM 44 43 41 false,
 yF 10 45 1 44 true,
 yR 46 45 44 true,
 yP 47 .lenL [.t 46] 44 true,
 yP 48 (.bin .gtr) [.t 47,.c (.int .i64 0)] 44 true,
 yP 49 .pick [.t 44,.t 48,.c (.bool false)] 41 false,
 xP 50 .pick [.t 41,.c (.bool true),.t 49],
 xM 51 50,
 yM 52 3 51 false,
 yP 53 (.bin .neq) [.t 52,.c (.int .i64 6)] 51 false,
 yM 54 53 51 false,
 yF 11 55 1 54 true,
 yR 56 55 54 true,
 yP 57 .lenL [.t 56] 54 true,
 yP 58 (.bin .gtr) [.t 57,.c (.int .i64 0)] 54 true,
 yP 59 .pick [.t 54,.t 58,.c (.bool false)] 51 false,
 xP 60 .pick [.t 51,.c (.bool true),.t 59],
 xM 61 60,
 yM 62 3 61 false,
 yP 63 (.bin .neq) [.t 62,.c (.int .i64 7)] 61 false,
 yM 64 63 61 false,
 yF 12 65 1 64 true,
 yR 66 65 64 true,
 yP 67 .lenL [.t 66] 64 true,
 yP 68 (.bin .gtr) [.t 67,.c (.int .i64 0)] 64 true,
 yP 69 .pick [.t 64,.t 68,.c (.bool false)] 61 false,
 xP 70 .pick [.t 61,.c (.bool true),.t 69],
 xM 2 70])
 .ret))) }
/-- datakit/decimal.Valid -/
def qd8:AFn:=
 { nt:=34,res:=[.tmp 2],body:=
 (.seq (.ops [xB 3 1 0,
 xC 2 (.bool false)])
 (.seq (.seq (.ops [xF 1 3 1,
 xR 4 3,
 ⟨some 5,.pure (.bin .eql),[.t 4,.c (.str [])],none⟩])
 (.cond (.t 5)
 (.seq (.ops [xL 3 6 1,
 ⟨some 7,.pure (.build [.bool false,.str [],.int .i64 0] []),[],none⟩,
 ⟨some 8,.pure (.eqF [.bool,.str,.int] false),[.t 6,.t 7],none⟩,
 xM 2 8])
 .ret)
 .skip))
 (.seq (.ops [xF 1 9 1,
 xR 10 9,
 xK 11 149 [.t 10],
 xM 12 11,
 yF 1 13 1 12 true,
 yR 14 13 12 true,
 yP 15 .lenS [.t 14] 12 true,
 yP 16 (.bin .leq) [.t 15,.c (.int .i64 120)] 12 true,
 xP 17 .pick [.t 12,.t 16,.c (.bool false)],
 xM 18 17,
 yF 1 19 1 18 true,
 yR 20 19 18 true,
 yK 21 150 [.t 20] 18 true,
 yP 22 (.bin .eql) [.t 21,.c (.int .i64 0)] 18 true,
 xP 23 .pick [.t 18,.t 22,.c (.bool false)],
 xM 24 23,
 yF 2 25 1 24 true,
 yR 26 25 24 true,
 yP 27 (.bin .geq) [.t 26,.c (.int .i64 (-400))] 24 true,
 xP 28 .pick [.t 24,.t 27,.c (.bool false)],
 xM 29 28,
 yF 2 30 1 29 true,
 yR 31 30 29 true,
 yP 32 (.bin .leq) [.t 31,.c (.int .i64 400)] 29 true,
 xP 33 .pick [.t 29,.t 32,.c (.bool false)],
 xM 2 33])
 .ret))) }
/-- datakit/moment.Valid -/
def qgD:AFn:=
 { nt:=68,res:=[.tmp 2],body:=
 (.seq (.ops [xB 4 1 0,
 xC 2 (.bool false)])
 (.seq (.seq (.ops [xF 0 3 1,
 xR 4 3,
 xP 5 (.bin .lss) [.t 4,.c (.int .i64 1)],
 xM 6 5,
 yF 0 7 1 6 false,
 yR 8 7 6 false,
 yP 9 (.bin .gtr) [.t 8,.c (.int .i64 4)] 6 false,
 xP 10 .pick [.t 6,.c (.bool true),.t 9],
 xM 11 10,
 yF 1 12 1 11 false,
 yR 13 12 11 false,
 yP 14 (.bin .lss) [.t 13,.c (.int .i64 0)] 11 false,
 xP 15 .pick [.t 11,.c (.bool true),.t 14],
 xM 16 15,
 yF 1 17 1 16 false,
 yR 18 17 16 false,
 yP 19 (.bin .gtr) [.t 18,.c (.int .i64 3652058)] 16 false,
 xP 20 .pick [.t 16,.c (.bool true),.t 19],
 xM 21 20,
 yF 2 22 1 21 false,
 yR 23 22 21 false,
 yP 24 (.bin .lss) [.t 23,.c (.int .i64 0)] 21 false,
 xP 25 .pick [.t 21,.c (.bool true),.t 24],
 xM 26 25,
 yF 2 27 1 26 false,
 yR 28 27 26 false,
 yP 29 (.bin .gtr) [.t 28,.c (.int .i64 86399999999999)] 26 false,
 xP 30 .pick [.t 26,.c (.bool true),.t 29],
 xM 31 30,
 yF 3 32 1 31 false,
 yR 33 32 31 false,
 yP 34 (.bin .lss) [.t 33,.c (.int .i64 (-1439))] 31 false,
 xP 35 .pick [.t 31,.c (.bool true),.t 34],
 xM 36 35,
 yF 3 37 1 36 false,
 yR 38 37 36 false,
 yP 39 (.bin .gtr) [.t 38,.c (.int .i64 1439)] 36 false,
 xP 40 .pick [.t 36,.c (.bool true),.t 39]])
 (.cond (.t 40)
 (.seq (.ops [xC 2 (.bool false)])
 .ret)
 .skip))
 (.seq (.seq (.ops [xF 0 41 1,
 xR 42 41])
 (.block 0
 (.seq (.ops [xP 44 (.bin .eql) [.t 42,.c (.int .i64 2)],
 xM 43 44])
 (.cond (.t 43)
 (.seq (.ops [xF 1 45 1,
 xR 46 45,
 xP 47 (.bin .eql) [.t 46,.c (.int .i64 0)],
 xM 48 47,
 yF 3 49 1 48 true,
 yR 50 49 48 true,
 yP 51 (.bin .eql) [.t 50,.c (.int .i64 0)] 48 true,
 xP 52 .pick [.t 48,.t 51,.c (.bool false)],
 xM 2 52])
 .ret)
 (.seq (.ops [xP 54 (.bin .eql) [.t 42,.c (.int .i64 1)],
 xM 53 54])
 (.cond (.t 53)
 (.seq (.ops [xF 2 55 1,
 xR 56 55,
 xP 57 (.bin .eql) [.t 56,.c (.int .i64 0)],
 xM 58 57,
 yF 3 59 1 58 true,
 yR 60 59 58 true,
 yP 61 (.bin .eql) [.t 60,.c (.int .i64 0)] 58 true,
 xP 62 .pick [.t 58,.t 61,.c (.bool false)],
 xM 2 62])
 .ret)
 (.seq (.ops [xP 64 (.bin .eql) [.t 42,.c (.int .i64 3)],
 xM 63 64])
 (.cond (.t 63)
 (.seq (.ops [xF 3 65 1,
 xR 66 65,
 xP 67 (.bin .eql) [.t 66,.c (.int .i64 0)],
 xM 2 67])
 .ret)
 .skip))))))))
 (.seq (.ops [xC 2 (.bool true)])
 .ret)))) }
/-- datakit/value.keys -/
def qhS:AFn:=
 { nt:=28,res:=[.tmp 2],body:=
 (.seq (.ops [xC 2 (.int .i64 0)])
 (.seq (.ops [⟨some 7,.new .mkMap,[],none⟩,
 xM 3 7])
 (.seq (.seq (.ops [xM 8 0,
 xP 9 .lenL [.t 8],
 xC 10 (.int .i64 0)])
 (.block 0
 (.loop [3,8,9,10]
 (.seq (.ops [xP 11 (.bin .lss) [.t 10,.t 9]])
 (.seq (.cond (.t 11)
 .skip
 (.exit 0))
 (.seq (.block 1
 (.seq (.ops [xI 14 12 8 10,
 xL 14 13 12,
 xN 5 14 z5,
 xS 14 5 13])
 (.seq (.seq (.ops [xF 0 14 5,
 xR 15 14,
 xK 16 151 [.t 15],
 xM 6 16])
 (.seq (.ops [xM 17 6,
 xP 18 (.bin .neq) [.t 17,.c (.int .i64 0)]])
 (.cond (.t 18)
 (.seq (.ops [xM 19 6,
 xM 2 19])
 .ret)
 .skip)))
 (.seq (.seq (.ops [xM 20 3,
 xF 0 21 5,
 xR 22 21,
 ⟨some 23,.read (.lookup (.one .str) (.bool false) false),[.t 20,.t 22],none⟩])
 (.cond (.t 23)
 (.seq (.ops [xC 2 (.int .i64 8)])
 .ret)
 .skip))
 (.ops [xM 24 3,
 xF 0 25 5,
 xR 26 25,
 ⟨none,.eff (.mapSet (.one .str)),[.t 24,.t 26,.c (.bool true)],none⟩])))))
 (.ops [xP 27 (.bin .add) [.t 10,.c (.int .i64 1)],
 xM 10 27])))))))
 (.seq (.ops [xC 2 (.int .i64 0)])
 .ret)))) }
/-- strings.TrimRight -/
def qcD:AFn:=
 { nt:=37,res:=[.tmp 4],body:=
 (.seq (.ops [xC 4 (.str [])])
 (.seq (.seq (.ops [xM 7 0,
 ⟨some 8,.pure (.bin .eql),[.t 7,.c (.str [])],none⟩,
 xM 9 8,
 yM 10 1 9 false,
 ⟨some 11,.pure (.bin .eql),[.t 10,.c (.str [])],some (9,false)⟩,
 xP 12 .pick [.t 9,.c (.bool true),.t 11]])
 (.cond (.t 12)
 (.seq (.ops [xM 13 0,
 xM 4 13])
 .ret)
 .skip))
 (.seq (.seq (.ops [xM 14 1,
 xP 15 .lenS [.t 14],
 xP 16 (.bin .eql) [.t 15,.c (.int .i64 1)],
 xM 17 16,
 yM 18 1 17 true,
 yP 19 .idxStr [.t 18,.c (.int .i64 0)] 17 true,
 yP 20 (.bin .lss) [.t 19,.c (.int .u8 128)] 17 true,
 xP 21 .pick [.t 17,.t 20,.c (.bool false)]])
 (.cond (.t 21)
 (.seq (.ops [xM 22 0,
 xM 23 1,
 xP 24 .idxStr [.t 23,.c (.int .i64 0)],
 xK 25 155 [.t 22,.t 24],
 xM 4 25])
 .ret)
 .skip))
 (.seq (.seq (.ops [xM 27 1,
 ⟨some 28,.bad,[],none⟩,
 xM 26 28,
 xP 29 (.ext 0) [.t 26],
 xP 30 (.ext 1) [.t 26],
 ⟨some 5,.new (.new 1 [.bool false,.bool false,.bool false,.bool false,.bool false,.bool false,.bool false,.bool false,.bool false,.bool false,.bool false,.bool false,.bool false,.bool false,.bool false,.bool false,.bool false,.bool false,.bool false,.bool false,.bool false,.bool false,.bool false,.bool false,.bool false,.bool false,.bool false,.bool false,.bool false,.bool false,.bool false,.bool false,.bool false,.bool false,.bool false,.bool false,.bool false,.bool false,.bool false,.bool false,.bool false,.bool false,.bool false,.bool false,.bool false,.bool false,.bool false,.bool false,.bool false,.bool false,.bool false,.bool false,.bool false,.bool false,.bool false,.bool false,.bool false,.bool false,.bool false,.bool false,.bool false,.bool false,.bool false,.bool false,.bool false,.bool false,.bool false,.bool false,.bool false,.bool false,.bool false,.bool false,.bool false,.bool false,.bool false,.bool false,.bool false,.bool false,.bool false,.bool false,.bool false,.bool false,.bool false,.bool false,.bool false,.bool false,.bool false,.bool false,.bool false,.bool false,.bool false,.bool false,.bool false,.bool false,.bool false,.bool false,.bool false,.bool false,.bool false,.bool false,.bool false,.bool false,.bool false,.bool false,.bool false,.bool false,.bool false,.bool false,.bool false,.bool false,.bool false,.bool false,.bool false,.bool false,.bool false,.bool false,.bool false,.bool false,.bool false,.bool false,.bool false,.bool false,.bool false,.bool false,.bool false,.bool false,.bool false,.bool false,.bool false,.bool false,.bool false,.bool false,.bool false,.bool false,.bool false,.bool false,.bool false,.bool false,.bool false,.bool false,.bool false,.bool false,.bool false,.bool false,.bool false,.bool false,.bool false,.bool false,.bool false,.bool false,.bool false,.bool false,.bool false,.bool false,.bool false,.bool false,.bool false,.bool false,.bool false,.bool false,.bool false,.bool false,.bool false,.bool false,.bool false,.bool false,.bool false,.bool false,.bool false,.bool false,.bool false,.bool false,.bool false,.bool false,.bool false,.bool false,.bool false,.bool false,.bool false,.bool false,.bool false,.bool false,.bool false,.bool false,.bool false,.bool false,.bool false,.bool false,.bool false,.bool false,.bool false,.bool false,.bool false,.bool false,.bool false,.bool false,.bool false,.bool false,.bool false,.bool false,.bool false,.bool false,.bool false,.bool false,.bool false,.bool false,.bool false,.bool false,.bool false,.bool false,.bool false,.bool false,.bool false,.bool false,.bool false,.bool false,.bool false,.bool false,.bool false,.bool false,.bool false,.bool false,.bool false,.bool false,.bool false,.bool false,.bool false,.bool false,.bool false,.bool false,.bool false,.bool false,.bool false,.bool false,.bool false,.bool false,.bool false,.bool false,.bool false,.bool false,.bool false,.bool false,.bool false,.bool false,.bool false,.bool false,.bool false,.bool false,.bool false,.bool false,.bool false,.bool false,.bool false,.bool false,.bool false,.bool false]),[],none⟩,
 xS 256 5 29,
 xM 6 30])
 (.seq (.ops [xM 31 6])
 (.cond (.t 31)
 (.seq (.ops [xM 32 0,
 ⟨some 33,.bad,[],none⟩,
 xM 4 33])
 .ret)
 .skip)))
 (.seq (.ops [xM 34 0,
 xM 35 1,
 ⟨some 36,.bad,[],none⟩,
 xM 4 36])
 .ret))))) }
/-- datakit/digits.Valid -/
def q6u:AFn:=
 { nt:=19,res:=[.tmp 2],body:=
 (.seq (.ops [xC 2 (.bool false)])
 (.seq (.ops [xM 3 0,
 xP 4 .lenS [.t 3],
 xP 5 (.bin .leq) [.t 4,.c (.int .i64 600)],
 xM 6 5,
 yM 7 0 6 true,
 yK 8 158 [.t 7] 6 true,
 xP 9 .pick [.t 6,.t 8,.c (.bool false)],
 xM 10 9,
 yM 11 0 10 true,
 ⟨some 12,.pure (.bin .eql),[.t 11,.c (.str [])],some (10,true)⟩,
 yM 13 12 10 true,
 yM 14 0 13 false,
 yP 15 .idxStr [.t 14,.c (.int .i64 0)] 13 false,
 yP 16 (.bin .neq) [.t 15,.c (.int .u8 48)] 13 false,
 yP 17 .pick [.t 13,.c (.bool true),.t 16] 10 true,
 xP 18 .pick [.t 10,.t 17,.c (.bool false)],
 xM 2 18])
 .ret)) }
/-- datakit/digits.Zeros -/
def qgE:AFn:=
 { nt:=9,res:=[.tmp 2],body:=
 (.seq (.ops [xC 2 (.int .i64 0)])
 (.seq (.ops [xM 3 0,
 xP 4 .lenS [.t 3],
 xM 5 0,
 ⟨some 6,.pcall 148,[.t 5,.c (.str [48])],none⟩,
 xP 7 .lenS [.t 6],
 xP 8 (.bin .sub) [.t 4,.t 7],
 xM 2 8])
 .ret)) }
/-- datakit/value.key -/
def q9J:AFn:=
 { nt:=9,res:=[.tmp 2],body:=
 (.seq (.ops [xC 2 (.int .i64 0)])
 (.seq (.seq (.ops [xM 3 0,
 xK 4 46 [.t 3],
 xP 5 (.un .not) [.t 4]])
 (.cond (.t 5)
 (.seq (.ops [xC 2 (.int .i64 5)])
 .ret)
 .skip))
 (.seq (.seq (.ops [xM 6 0,
 xP 7 .lenS [.t 6],
 xP 8 (.bin .gtr) [.t 7,.c (.int .i64 1024)]])
 (.cond (.t 8)
 (.seq (.ops [xC 2 (.int .i64 10)])
 .ret)
 .skip))
 (.seq (.ops [xC 2 (.int .i64 0)])
 .ret)))) }
/-- strings.trimRightByte -/
def qkv:AFn:=
 { nt:=23,res:=[.tmp 4],body:=
 (.seq (.ops [xC 4 (.str [])])
 (.seq (.block 0
 (.loop [0,1]
 (.seq (.seq (.ops [xM 5 0,
 xP 6 .lenS [.t 5],
 xP 7 (.bin .gtr) [.t 6,.c (.int .i64 0)],
 xM 8 7,
 yM 9 0 8 true,
 yM 10 0 8 true,
 yP 11 .lenS [.t 10] 8 true,
 yP 12 (.bin .sub) [.t 11,.c (.int .i64 1)] 8 true,
 yP 13 .idxStr [.t 9,.t 12] 8 true,
 yM 14 1 8 true,
 yP 15 (.bin .eql) [.t 13,.t 14] 8 true,
 xP 16 .pick [.t 8,.t 15,.c (.bool false)]])
 (.cond (.t 16)
 .skip
 (.exit 0)))
 (.block 1
 (.ops [xM 17 0,
 xM 18 0,
 xP 19 .lenS [.t 18],
 xP 20 (.bin .sub) [.t 19,.c (.int .i64 1)],
 xP 21 (.sliceS false true) [.t 17,.t 20],
 xM 0 21])))))
 (.seq (.ops [xM 22 0,
 xM 4 22])
 .ret))) }
/-- datakit/digits.all -/
def qjV:AFn:=
 { nt:=20,res:=[.tmp 2],body:=
 (.seq (.ops [xC 2 (.bool false)])
 (.seq (.seq (.ops [xM 4 0,
 xP 5 .lenS [.t 4],
 xC 6 (.int .i64 0)])
 (.block 0
 (.loop [0,5,6]
 (.seq (.ops [xP 7 (.bin .lss) [.t 6,.t 5]])
 (.seq (.cond (.t 7)
 .skip
 (.exit 0))
 (.seq (.block 1
 (.seq (.ops [xM 8 6,
 xM 3 8])
 (.seq (.ops [xM 9 0,
 xM 10 3,
 xP 11 .idxStr [.t 9,.t 10],
 xP 12 (.bin .lss) [.t 11,.c (.int .u8 48)],
 xM 13 12,
 yM 14 0 13 false,
 yM 15 3 13 false,
 yP 16 .idxStr [.t 14,.t 15] 13 false,
 yP 17 (.bin .gtr) [.t 16,.c (.int .u8 57)] 13 false,
 xP 18 .pick [.t 13,.c (.bool true),.t 17]])
 (.cond (.t 18)
 (.seq (.ops [xC 2 (.bool false)])
 .ret)
 .skip))))
 (.ops [xP 19 (.bin .add) [.t 6,.c (.int .i64 1)],
 xM 6 19])))))))
 (.seq (.ops [xC 2 (.bool true)])
 .ret))) }
def code:Nat→Option AFn
 | 18=>some qnI
 | 19=>some qnD
 | 24=>some qoC
 | 26=>some qpb
 | 29=>some qoU
 | 38=>some qmm
 | 39=>some qi5
 | 40=>some qnQ
 | 42=>some qln
 | 45=>some qnv
 | 46=>some qn5
 | 51=>some qjt
 | 57=>some q8L
 | 58=>some qmc
 | 59=>some qlR
 | 60=>some qaL
 | 63=>some qoF
 | 75=>some qoE
 | 78=>some qol
 | 79=>some qn8
 | 80=>some qoT
 | 81=>some qnY
 | 82=>some qqd
 | 83=>some qf1
 | 84=>some q9K
 | 90=>some qpN
 | 91=>some qp4
 | 92=>some qoL
 | 93=>some qor
 | 94=>some qcx
 | 95=>some qp6
 | 96=>some qgs
 | 126=>some qhb
 | 133=>some q0N
 | 139=>some qhB
 | 140=>some qd8
 | 141=>some qgD
 | 142=>some qhS
 | 148=>some qcD
 | 149=>some q6u
 | 150=>some qgE
 | 151=>some q9J
 | 155=>some qkv
 | 158=>some qjV
 | _=>none
def clR:Nat→Option (Nat × Nat)
 | 130=>some (14,184)
 | _=>none
def clP:Nat→Option (Nat × Nat)
 | 62=>some (1,1)
 | _=>none
def C0:Ctx:=q5g code clR clP
end Ago
