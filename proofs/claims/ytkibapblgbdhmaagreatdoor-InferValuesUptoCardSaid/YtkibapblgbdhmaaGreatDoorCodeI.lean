/- The abstract code of the functions,printed by program. -/
import Derived.Test.YtkibapblgbdhmaaGreatDoorCodeN
import Derived.Test.YtkibapblgbdhmaaGreatDoorMachH
set_option linter.unusedSimpArgs false
set_option linter.unusedVariables false
set_option maxRecDepth 100000
namespace Ago
/-- datakit/datakitlaw52.InferValues -/
def qgQ:AFn:=
 { nt:=63,res:=[.tmp 2],body:=
 (.seq (.ops [xC 2 (.bool false)])
 (.seq (.seq (.ops [xM 8 0,
 xK 9 962 [.t 8],
 xP 10 (.un .not) [.t 9]])
 (.cond (.t 10)
 (.seq (.ops [xK 11 963 [],
 xM 2 11])
 .ret)
 .skip))
 (.seq (.ops [xM 13 0,
 xK 14 964 [.t 13],
 xM 12 14,
 xP 15 (.ext 0) [.t 12],
 xP 16 (.ext 1) [.t 12],
 xN 3 15 z0,
 xS 15 3 15,
 xM 4 16])
 (.seq (.ops [xM 18 0,
 xK 19 965 [.t 18],
 xM 17 19,
 xP 20 (.ext 0) [.t 17],
 xP 21 (.ext 1) [.t 17],
 xN 5 15 z0,
 xS 15 5 20,
 xM 6 21])
 (.seq (.seq (.ops [xL 15 22 3,
 xL 15 23 5,
 xK 24 461 [.t 22,.t 23],
 xP 25 (.un .not) [.t 24],
 xM 26 25,
 yM 27 4 26 false,
 yM 28 6 26 false,
 yP 29 (.bin .neq) [.t 27,.t 28] 26 false,
 xP 30 .pick [.t 26,.c (.bool true),.t 29]])
 (.cond (.t 30)
 (.seq (.ops [xC 2 (.bool false)])
 .ret)
 .skip))
 (.seq (.seq (.ops [xC 7 (.int .i64 0)])
 (.block 0
 (.loop [0,3,5,7]
 (.seq (.seq (.ops [xM 31 7,
 xM 32 0,
 xP 33 .lenL [.t 32],
 xP 34 (.bin .lss) [.t 31,.t 33]])
 (.cond (.t 34)
 .skip
 (.exit 0)))
 (.seq (.block 1
 (.seq (.ops [xM 38 0,
 xM 39 7,
 xI 13 40 38 39,
 xL 13 41 40,
 xK 42 966 [.t 41],
 xM 37 42,
 xP 43 (.ext 0) [.t 37],
 xP 44 (.ext 1) [.t 37],
 xS 15 3 43,
 xM 4 44])
 (.seq (.ops [xM 46 0,
 xM 47 7,
 xI 13 48 46 47,
 xL 13 49 48,
 xK 50 967 [.t 49],
 xM 45 50,
 xP 51 (.ext 0) [.t 45],
 xP 52 (.ext 1) [.t 45],
 xS 15 5 51,
 xM 6 52])
 (.seq (.ops [xL 15 53 3,
 xL 15 54 5,
 xK 55 461 [.t 53,.t 54],
 xP 56 (.un .not) [.t 55],
 xM 57 56,
 yM 58 4 57 false,
 yM 59 6 57 false,
 yP 60 (.bin .neq) [.t 58,.t 59] 57 false,
 xP 61 .pick [.t 57,.c (.bool true),.t 60]])
 (.cond (.t 61)
 (.seq (.ops [xC 2 (.bool false)])
 .ret)
 .skip)))))
 (.ops [xM 35 7,
 xP 36 (.bin .add) [.t 35,.c (.int .i64 1)],
 xM 7 36]))))))
 (.seq (.ops [xK 62 963 [],
 xM 2 62])
 .ret))))))) }
/-- datakit/datakitlaw52.few -/
def qkM:AFn:=
 { nt:=23,res:=[.tmp 2],body:=
 (.seq (.ops [xC 2 (.bool false)])
 (.seq (.seq (.ops [xC 3 (.int .i64 0)])
 (.block 0
 (.loop [0,3]
 (.seq (.seq (.ops [xM 4 3,
 xM 5 0,
 xP 6 .lenL [.t 5],
 xP 7 (.bin .lss) [.t 4,.t 6],
 xM 8 7,
 yM 9 3 8 true,
 yP 10 (.bin .lss) [.t 9,.c (.int .i64 7)] 8 true,
 xP 11 .pick [.t 8,.t 10,.c (.bool false)]])
 (.cond (.t 11)
 .skip
 (.exit 0)))
 (.seq (.block 1
 (.seq (.ops [xM 14 0,
 xM 15 3,
 xI 13 16 14 15,
 xL 13 17 16,
 xK 18 468 [.t 17],
 xP 19 (.un .not) [.t 18]])
 (.cond (.t 19)
 (.seq (.ops [xC 2 (.bool false)])
 .ret)
 .skip)))
 (.ops [xM 12 3,
 xP 13 (.bin .add) [.t 12,.c (.int .i64 1)],
 xM 3 13]))))))
 (.seq (.ops [xM 20 0,
 xP 21 .lenL [.t 20],
 xP 22 (.bin .leq) [.t 21,.c (.int .i64 6)],
 xM 2 22])
 .ret))) }
/-- datakit/datakitlaw52.awake -/
def qk1:AFn:=
 { nt:=145,res:=[.tmp 0],body:=
 (.seq (.ops [xC 0 (.bool false)])
 (.seq (.ops [xK 13 503 [.c (.int .i64 1)],
 xK 14 503 [.c (.int .i64 5)],
 ⟨some 15,.pcall 195,[.c (.str [97,98])],none⟩,
 ⟨some 16,.new (.buildSlice 13 [.agg [.int .i64 0,.bool false,.bool false,.str [],.int .i64 0,.int .i64 0,.int .i64 0,.int .i64 0,.int .i64 0,.str [],.snil 1,.snil 13,.snil 14],.agg [.int .i64 0,.bool false,.bool false,.str [],.int .i64 0,.int .i64 0,.int .i64 0,.int .i64 0,.int .i64 0,.str [],.snil 1,.snil 13,.snil 14],.agg [.int .i64 0,.bool false,.bool false,.str [],.int .i64 0,.int .i64 0,.int .i64 0,.int .i64 0,.int .i64 0,.str [],.snil 1,.snil 13,.snil 14]] [0,1,2]),[.t 13,.t 14,.t 15],none⟩,
 xK 17 964 [.t 16],
 xM 12 17,
 xP 18 (.ext 0) [.t 12],
 xP 19 (.ext 1) [.t 12],
 xN 1 15 z0,
 xS 15 1 18,
 xM 2 19])
 (.seq (.ops [xK 20 503 [.c (.int .i64 1)],
 ⟨some 21,.pure (.build [.str [],.int .i64 0,.bool false,.bool false,.str [],.int .i64 0,.int .i64 0,.int .i64 0,.int .i64 0,.int .i64 0,.str [],.snil 1,.snil 13,.snil 14] [(0,1),(1,13)]),[.c (.str [97]),.t 20],none⟩,
 ⟨some 22,.new (.buildSlice 14 [z5] [0]),[.t 21],none⟩,
 ⟨some 23,.pure (.build [.int .i64 0,.bool false,.bool false,.str [],.int .i64 0,.int .i64 0,.int .i64 0,.int .i64 0,.int .i64 0,.str [],.snil 1,.snil 13,.snil 14] [(0,1),(12,1)]),[.c (.int .i64 7),.t 22],none⟩,
 xN 3 13 z1,
 xS 13 3 23])
 (.seq (.ops [xK 24 503 [.c (.int .i64 2)],
 ⟨some 25,.pure (.build [.str [],.int .i64 0,.bool false,.bool false,.str [],.int .i64 0,.int .i64 0,.int .i64 0,.int .i64 0,.int .i64 0,.str [],.snil 1,.snil 13,.snil 14] [(0,1),(1,13)]),[.c (.str [97]),.t 24],none⟩,
 ⟨some 26,.pure (.build [.str [],.int .i64 0,.bool false,.bool false,.str [],.int .i64 0,.int .i64 0,.int .i64 0,.int .i64 0,.int .i64 0,.str [],.snil 1,.snil 13,.snil 14] [(0,1)]),[.c (.str [98])],none⟩,
 ⟨some 27,.new (.buildSlice 14 [.agg [.str [],.int .i64 0,.bool false,.bool false,.str [],.int .i64 0,.int .i64 0,.int .i64 0,.int .i64 0,.int .i64 0,.str [],.snil 1,.snil 13,.snil 14],.agg [.str [],.int .i64 0,.bool false,.bool false,.str [],.int .i64 0,.int .i64 0,.int .i64 0,.int .i64 0,.int .i64 0,.str [],.snil 1,.snil 13,.snil 14]] [0,1]),[.t 25,.t 26],none⟩,
 ⟨some 28,.pure (.build [.int .i64 0,.bool false,.bool false,.str [],.int .i64 0,.int .i64 0,.int .i64 0,.int .i64 0,.int .i64 0,.str [],.snil 1,.snil 13,.snil 14] [(0,1),(12,1)]),[.c (.int .i64 7),.t 27],none⟩,
 xN 4 13 z1,
 xS 13 4 28])
 (.seq (.ops [xL 13 30 3,
 xL 13 31 4,
 ⟨some 32,.new (.buildSlice 13 [.agg [.int .i64 0,.bool false,.bool false,.str [],.int .i64 0,.int .i64 0,.int .i64 0,.int .i64 0,.int .i64 0,.str [],.snil 1,.snil 13,.snil 14],.agg [.int .i64 0,.bool false,.bool false,.str [],.int .i64 0,.int .i64 0,.int .i64 0,.int .i64 0,.int .i64 0,.str [],.snil 1,.snil 13,.snil 14]] [0,1]),[.t 30,.t 31],none⟩,
 xK 33 964 [.t 32],
 xM 29 33,
 xP 34 (.ext 0) [.t 29],
 xP 35 (.ext 1) [.t 29],
 xN 5 15 z0,
 xS 15 5 34,
 xM 6 35])
 (.seq (.ops [xK 37 529 [.c (.snil 13)],
 xK 38 966 [.t 37],
 xM 36 38,
 xP 39 (.ext 0) [.t 36],
 xP 40 (.ext 1) [.t 36],
 xN 7 15 z0,
 xS 15 7 39,
 xM 8 40])
 (.seq (.ops [xK 42 964 [.c (.snil 13)],
 xM 41 42,
 xP 43 (.ext 0) [.t 41],
 xP 44 (.ext 1) [.t 41],
 xN 9 15 z0,
 xS 15 9 43,
 xM 10 44])
 (.seq (.seq (.ops [xM 45 2,
 xP 46 (.bin .neq) [.t 45,.c (.int .i64 0)],
 xM 47 46,
 yM 48 6 47 false,
 yP 49 (.bin .neq) [.t 48,.c (.int .i64 0)] 47 false,
 xP 50 .pick [.t 47,.c (.bool true),.t 49],
 xM 51 50,
 yM 52 8 51 false,
 yP 53 (.bin .neq) [.t 52,.c (.int .i64 0)] 51 false,
 xP 54 .pick [.t 51,.c (.bool true),.t 53],
 xM 55 54,
 yM 56 10 55 false,
 yP 57 (.bin .neq) [.t 56,.c (.int .i64 1)] 55 false,
 xP 58 .pick [.t 55,.c (.bool true),.t 57],
 xM 59 58,
 yF 14 60 1 59 false,
 yR 61 60 59 false,
 yP 62 .lenL [.t 61] 59 false,
 yP 63 (.bin .neq) [.t 62,.c (.int .i64 2)] 59 false,
 xP 64 .pick [.t 59,.c (.bool true),.t 63],
 xM 65 64,
 yF 14 66 5 65 false,
 yR 67 66 65 false,
 yP 68 .lenL [.t 67] 65 false,
 yP 69 (.bin .neq) [.t 68,.c (.int .i64 1)] 65 false,
 xP 70 .pick [.t 65,.c (.bool true),.t 69],
 xM 71 70,
 yF 14 72 7 71 false,
 yR 73 72 71 false,
 yP 74 .lenL [.t 73] 71 false,
 yP 75 (.bin .neq) [.t 74,.c (.int .i64 1)] 71 false,
 xP 76 .pick [.t 71,.c (.bool true),.t 75]])
 (.cond (.t 76)
 (.seq (.ops [xC 0 (.bool false)])
 .ret)
 .skip))
 (.seq (.ops [xF 14 77 5,
 xR 78 77,
 xP 79 (.iaddrS 15) [.t 78,.c (.int .i64 0)],
 xF 13 80 79,
 xR 81 80,
 xM 11 81])
 (.seq (.ops [xF 14 82 1,
 xR 83 82,
 xP 84 (.iaddrS 15) [.t 83,.c (.int .i64 0)],
 xF 5 85 84,
 xF 0 86 85,
 xR 87 86,
 xP 88 (.iaddrS 11) [.t 87,.c (.int .i64 0)],
 xF 10 89 88,
 xR 90 89,
 xP 91 (.bin .eql) [.t 90,.c (.int .i64 1)],
 xM 92 91,
 yF 14 93 1 92 true,
 yR 94 93 92 true,
 yP 95 (.iaddrS 15) [.t 94,.c (.int .i64 1)] 92 true,
 yF 2 96 95 92 true,
 yR 97 96 92 true,
 yP 98 (.bin .eql) [.t 97,.c (.int .i64 2)] 92 true,
 xP 99 .pick [.t 92,.t 98,.c (.bool false)],
 xM 100 99,
 yF 14 101 1 100 true,
 yR 102 101 100 true,
 yP 103 (.iaddrS 15) [.t 102,.c (.int .i64 1)] 100 true,
 yF 3 104 103 100 true,
 yR 105 104 100 true,
 yP 106 (.bin .eql) [.t 105,.c (.int .i64 2)] 100 true,
 xP 107 .pick [.t 100,.t 106,.c (.bool false)],
 xM 108 107,
 yM 109 11 108 true,
 yP 110 .lenL [.t 109] 108 true,
 yP 111 (.bin .eql) [.t 110,.c (.int .i64 2)] 108 true,
 xP 112 .pick [.t 108,.t 111,.c (.bool false)],
 xM 113 112,
 yM 114 11 113 true,
 yP 115 (.iaddrS 17) [.t 114,.c (.int .i64 0)] 113 true,
 yF 1 116 115 113 true,
 yR 117 116 113 true,
 xP 118 .pick [.t 113,.t 117,.c (.bool false)],
 xM 119 118,
 yM 120 11 119 true,
 yP 121 (.iaddrS 17) [.t 120,.c (.int .i64 1)] 119 true,
 yF 1 122 121 119 true,
 yR 123 122 119 true,
 yP 124 (.un .not) [.t 123] 119 true,
 xP 125 .pick [.t 119,.t 124,.c (.bool false)],
 xM 126 125,
 yF 14 127 7 126 true,
 yR 128 127 126 true,
 yP 129 (.iaddrS 15) [.t 128,.c (.int .i64 0)] 126 true,
 yF 3 130 129 126 true,
 yR 131 130 126 true,
 yP 132 (.bin .eql) [.t 131,.c (.int .i64 0)] 126 true,
 xP 133 .pick [.t 126,.t 132,.c (.bool false)],
 xM 134 133,
 yF 14 135 7 134 true,
 yR 136 135 134 true,
 yP 137 (.iaddrS 15) [.t 136,.c (.int .i64 0)] 134 true,
 yF 14 138 137 134 true,
 yR 139 138 134 true,
 yP 140 (.iaddrS 15) [.t 139,.c (.int .i64 0)] 134 true,
 yF 0 141 140 134 true,
 yR 142 141 134 true,
 yP 143 (.bin .eql) [.t 142,.c (.int .i64 2)] 134 true,
 xP 144 .pick [.t 134,.t 143,.c (.bool false)],
 xM 0 144])
 .ret)))))))))) }
/-- datakit/infer.Infer -/
def qh1:AFn:=
 { nt:=43,res:=[.cell 2 (some 15),.tmp 3],body:=
 (.seq (.ops [xN 2 15 z0,
 xC 3 (.int .i64 0)])
 (.seq (.seq (.ops [xM 10 0,
 xP 11 .lenL [.t 10],
 xP 12 (.bin .eql) [.t 11,.c (.int .i64 0)]])
 (.cond (.t 12)
 (.seq (.ops [⟨some 13,.pure (.build [.int .i64 0,.int .i64 0,.int .i64 0,.int .i64 0,.str [],.snil 11,.int .i64 0,.int .i64 0,.int .i64 0,.int .i64 0,.int .i64 0,.snil 6,.snil 13,.snil 17,.snil 15] []),[],none⟩,
 xS 15 2 13,
 xC 3 (.int .i64 1)])
 .ret)
 .skip))
 (.seq (.seq (.ops [xM 14 0,
 xP 15 .lenL [.t 14],
 xC 16 (.int .i64 0)])
 (.block 0
 (.loop [0,2,14,15,16]
 (.seq (.ops [xP 17 (.bin .lss) [.t 16,.t 15]])
 (.seq (.cond (.t 17)
 .skip
 (.exit 0))
 (.seq (.block 1
 (.seq (.ops [xI 13 18 14 16,
 xL 13 19 18,
 xN 5 13 z1,
 xS 13 5 19])
 (.seq (.ops [xL 13 20 5,
 xK 21 126 [.t 20],
 xM 6 21])
 (.seq (.ops [xM 22 6,
 xP 23 (.bin .neq) [.t 22,.c (.int .i64 0)]])
 (.cond (.t 23)
 (.seq (.ops [⟨some 24,.pure (.build [.int .i64 0,.int .i64 0,.int .i64 0,.int .i64 0,.str [],.snil 11,.int .i64 0,.int .i64 0,.int .i64 0,.int .i64 0,.int .i64 0,.snil 6,.snil 13,.snil 17,.snil 15] []),[],none⟩,
 xM 25 6,
 xS 15 2 24,
 xM 3 25])
 .ret)
 .skip)))))
 (.ops [xP 26 (.bin .add) [.t 16,.c (.int .i64 1)],
 xM 16 26])))))))
 (.seq (.ops [⟨some 27,.pure (.build [.int .i64 0,.int .i64 0,.int .i64 0,.int .i64 0,.str [],.snil 11,.int .i64 0,.int .i64 0,.int .i64 0,.int .i64 0,.int .i64 0,.snil 6,.snil 13,.snil 17,.snil 15] [(0,1)]),[.c (.int .i64 2)],none⟩,
 xN 7 15 z0,
 xS 15 7 27])
 (.seq (.seq (.ops [xM 28 0,
 xP 29 .lenL [.t 28],
 xC 30 (.int .i64 0)])
 (.block 2
 (.loop [2,7,28,29,30]
 (.seq (.ops [xP 31 (.bin .lss) [.t 30,.t 29]])
 (.seq (.cond (.t 31)
 .skip
 (.exit 2))
 (.seq (.block 3
 (.seq (.ops [xI 13 32 28 30,
 xL 13 33 32,
 xN 9 13 z1,
 xS 13 9 33])
 (.ops [xL 15 34 7,
 xL 13 35 9,
 xK 36 975 [.t 35],
 xK 37 974 [.t 34,.t 36],
 xS 15 7 37])))
 (.ops [xP 38 (.bin .add) [.t 30,.c (.int .i64 1)],
 xM 30 38])))))))
 (.seq (.ops [xL 15 39 7,
 xK 40 976 [.t 39],
 xP 41 (.ext 0) [.t 40],
 xP 42 (.ext 1) [.t 40],
 xS 15 2 41,
 xM 3 42])
 .ret)))))) }
/-- datakit/datakitref52.Infer -/
def qhp:AFn:=
 { nt:=45,res:=[.cell 2 (some 15),.tmp 3],body:=
 (.seq (.ops [xN 2 15 z0,
 xC 3 (.int .i64 0)])
 (.seq (.seq (.ops [xM 8 0,
 xP 9 .lenL [.t 8],
 xP 10 (.bin .eql) [.t 9,.c (.int .i64 0)]])
 (.cond (.t 10)
 (.seq (.ops [⟨some 11,.pure (.build [.int .i64 0,.int .i64 0,.int .i64 0,.int .i64 0,.str [],.snil 11,.int .i64 0,.int .i64 0,.int .i64 0,.int .i64 0,.int .i64 0,.snil 6,.snil 13,.snil 17,.snil 15] []),[],none⟩,
 xS 15 2 11,
 xC 3 (.int .i64 1)])
 .ret)
 .skip))
 (.seq (.seq (.ops [xC 4 (.int .i64 0)])
 (.block 0
 (.loop [0,2,4]
 (.seq (.seq (.ops [xM 12 4,
 xM 13 0,
 xP 14 .lenL [.t 13],
 xP 15 (.bin .lss) [.t 12,.t 14]])
 (.cond (.t 15)
 .skip
 (.exit 0)))
 (.seq (.block 1
 (.seq (.ops [xM 18 0,
 xM 19 4,
 xI 13 20 18 19,
 xL 13 21 20,
 xK 22 19 [.t 21],
 xM 5 22])
 (.seq (.ops [xM 23 5,
 xP 24 (.bin .neq) [.t 23,.c (.int .i64 0)]])
 (.cond (.t 24)
 (.seq (.ops [⟨some 25,.pure (.build [.int .i64 0,.int .i64 0,.int .i64 0,.int .i64 0,.str [],.snil 11,.int .i64 0,.int .i64 0,.int .i64 0,.int .i64 0,.int .i64 0,.snil 6,.snil 13,.snil 17,.snil 15] []),[],none⟩,
 xM 26 5,
 xS 15 2 25,
 xM 3 26])
 .ret)
 .skip))))
 (.ops [xM 16 4,
 xP 17 (.bin .add) [.t 16,.c (.int .i64 1)],
 xM 4 17]))))))
 (.seq (.ops [xK 27 977 [],
 xN 6 15 z0,
 xS 15 6 27])
 (.seq (.seq (.ops [xC 7 (.int .i64 0)])
 (.block 2
 (.loop [0,2,6,7]
 (.seq (.seq (.ops [xM 28 7,
 xM 29 0,
 xP 30 .lenL [.t 29],
 xP 31 (.bin .lss) [.t 28,.t 30]])
 (.cond (.t 31)
 .skip
 (.exit 2)))
 (.seq (.block 3
 (.ops [xL 15 34 6,
 xM 35 0,
 xM 36 7,
 xI 13 37 35 36,
 xL 13 38 37,
 xK 39 979 [.t 38],
 xK 40 978 [.t 34,.t 39],
 xS 15 6 40]))
 (.ops [xM 32 7,
 xP 33 (.bin .add) [.t 32,.c (.int .i64 1)],
 xM 7 33]))))))
 (.seq (.ops [xL 15 41 6,
 xK 42 980 [.t 41],
 xP 43 (.ext 0) [.t 42],
 xP 44 (.ext 1) [.t 42],
 xS 15 2 43,
 xM 3 44])
 .ret)))))) }
/-- datakit/infer.Of -/
def qiW:AFn:=
 { nt:=9,res:=[.cell 2 (some 15),.tmp 3],body:=
 (.seq (.ops [xB 13 1 0,
 xN 2 15 z0,
 xC 3 (.int .i64 0)])
 (.seq (.ops [xL 13 4 1,
 ⟨some 5,.new (.buildSlice 13 [z1] [0]),[.t 4],none⟩,
 xK 6 964 [.t 5],
 xP 7 (.ext 0) [.t 6],
 xP 8 (.ext 1) [.t 6],
 xS 15 2 7,
 xM 3 8])
 .ret)) }
/-- datakit/datakitref52.Of -/
def qjy:AFn:=
 { nt:=9,res:=[.cell 2 (some 15),.tmp 3],body:=
 (.seq (.ops [xB 13 1 0,
 xN 2 15 z0,
 xC 3 (.int .i64 0)])
 (.seq (.ops [xL 13 4 1,
 ⟨some 5,.new (.buildSlice 13 [z1] [0]),[.t 4],none⟩,
 xK 6 965 [.t 5],
 xP 7 (.ext 0) [.t 6],
 xP 8 (.ext 1) [.t 6],
 xS 15 2 7,
 xM 3 8])
 .ret)) }
/-- datakit/infer.join -/
def qbZ:AFn:=
 { nt:=70,res:=[.cell 4 (some 15)],body:=
 (.seq (.ops [xB 15 2 0,
 xB 15 3 1,
 xN 4 15 z0])
 (.seq (.seq (.ops [xF 0 11 2,
 xR 12 11,
 xP 13 (.bin .eql) [.t 12,.c (.int .i64 2)]])
 (.cond (.t 13)
 (.seq (.ops [xL 15 14 3,
 ⟨some 15,.call 985,[.t 14],none⟩,
 xS 15 4 15])
 .ret)
 .skip))
 (.seq (.seq (.ops [xF 0 16 3,
 xR 17 16,
 xP 18 (.bin .eql) [.t 17,.c (.int .i64 2)]])
 (.cond (.t 18)
 (.seq (.ops [xL 15 19 2,
 ⟨some 20,.call 985,[.t 19],none⟩,
 xS 15 4 20])
 .ret)
 .skip))
 (.seq (.ops [⟨some 21,.pure (.build [.int .i64 0,.int .i64 0,.int .i64 0,.int .i64 0,.str [],.snil 11,.int .i64 0,.int .i64 0,.int .i64 0,.int .i64 0,.int .i64 0,.snil 6,.snil 13,.snil 17,.snil 15] [(0,1)]),[.c (.int .i64 12)],none⟩,
 xN 5 15 z0,
 xS 15 5 21])
 (.seq (.seq (.ops [xC 6 (.int .i64 0)])
 (.block 0
 (.loop [2,3,4,5,6]
 (.seq (.seq (.ops [xM 22 6,
 xP 23 (.bin .leq) [.t 22,.c (.int .i64 7)]])
 (.cond (.t 23)
 .skip
 (.exit 0)))
 (.seq (.block 1
 (.seq (.ops [xL 15 27 2,
 xM 28 6,
 xK 29 986 [.t 27,.t 28],
 xM 26 29,
 xP 30 (.ext 0) [.t 26],
 xP 31 (.ext 1) [.t 26],
 xN 7 15 z0,
 xS 15 7 30,
 xM 8 31])
 (.seq (.ops [xL 15 33 3,
 xM 34 6,
 xK 35 986 [.t 33,.t 34],
 xM 32 35,
 xP 36 (.ext 0) [.t 32],
 xP 37 (.ext 1) [.t 32],
 xN 9 15 z0,
 xS 15 9 36,
 xM 10 37])
 (.block 2
 (.seq (.ops [xM 39 8,
 xM 40 39,
 yM 41 10 40 true,
 xP 42 .pick [.t 40,.t 41,.c (.bool false)],
 xM 38 42])
 (.cond (.t 38)
 (.draw 1 [[xF 14 43 5,
 xR 44 43,
 xL 15 45 7,
 xL 15 46 9,
 xK 47 987 [.t 45,.t 46],
 ⟨some 48,.newAt 0 (.buildSlice 15 [z0] [0]),[.t 47],none⟩,
 ⟨some 49,.eff (.append 15 208),[.t 44,.t 48],none⟩,
 xF 14 50 5,
 xS 1 50 49]])
 (.seq (.ops [xM 52 8,
 xM 51 52])
 (.cond (.t 51)
 (.draw 1 [[xF 14 53 5,
 xL 15 55 7,
 xR 54 53,
 ⟨some 56,.call 985,[.t 55],none⟩,
 ⟨some 57,.newAt 0 (.buildSlice 15 [z0] [0]),[.t 56],none⟩,
 ⟨some 58,.eff (.append 15 208),[.t 54,.t 57],none⟩,
 xF 14 59 5,
 xS 1 59 58],
 [xF 14 53 5,
 xL 15 55 7,
 ⟨some 56,.call 985,[.t 55],none⟩,
 xR 54 53,
 ⟨some 57,.newAt 0 (.buildSlice 15 [z0] [0]),[.t 56],none⟩,
 ⟨some 58,.eff (.append 15 208),[.t 54,.t 57],none⟩,
 xF 14 59 5,
 xS 1 59 58]])
 (.seq (.ops [xM 61 10,
 xM 60 61])
 (.cond (.t 60)
 (.draw 1 [[xF 14 62 5,
 xL 15 64 9,
 xR 63 62,
 ⟨some 65,.call 985,[.t 64],none⟩,
 ⟨some 66,.newAt 0 (.buildSlice 15 [z0] [0]),[.t 65],none⟩,
 ⟨some 67,.eff (.append 15 208),[.t 63,.t 66],none⟩,
 xF 14 68 5,
 xS 1 68 67],
 [xF 14 62 5,
 xL 15 64 9,
 ⟨some 65,.call 985,[.t 64],none⟩,
 xR 63 62,
 ⟨some 66,.newAt 0 (.buildSlice 15 [z0] [0]),[.t 65],none⟩,
 ⟨some 67,.eff (.append 15 208),[.t 63,.t 66],none⟩,
 xF 14 68 5,
 xS 1 68 67]])
 .skip))))))))))
 (.ops [xM 24 6,
 xP 25 (.bin .add) [.t 24,.c (.int .i64 1)],
 xM 6 25]))))))
 (.seq (.ops [xL 15 69 5,
 xS 15 4 69])
 .ret)))))) }
/-- datakit/infer.of -/
def q9W:AFn:=
 { nt:=101,res:=[.cell 2 (some 15)],body:=
 (.seq (.ops [xB 13 1 0,
 xN 2 15 z0])
 (.seq (.ops [xF 0 12 1,
 xR 13 12,
 ⟨some 14,.pure (.bin .shl),[.c (.int .i64 1),.t 13],none⟩,
 ⟨some 15,.pure (.build [.int .i64 0,.int .i64 0,.int .i64 0,.int .i64 0,.str [],.snil 11,.int .i64 0,.int .i64 0,.int .i64 0,.int .i64 0,.int .i64 0,.snil 6,.snil 13,.snil 17,.snil 15] [(0,1),(1,1)]),[.c (.int .i64 3),.t 14],none⟩,
 xN 3 15 z0,
 xS 15 3 15])
 (.seq (.ops [⟨some 16,.pure (.build [.int .i64 0,.int .i64 0,.int .i64 0,.int .i64 0,.str [],.snil 11,.int .i64 0,.int .i64 0,.int .i64 0,.int .i64 0,.int .i64 0,.snil 6,.snil 13,.snil 17,.snil 15] [(0,1)]),[.c (.int .i64 2)],none⟩,
 ⟨some 17,.new (.buildSlice 15 [z0] [0]),[.t 16],none⟩,
 xM 4 17])
 (.seq (.seq (.ops [xF 0 18 1,
 xR 19 18])
 (.block 0
 (.seq (.ops [xP 21 (.bin .eql) [.t 19,.c (.int .i64 2)],
 xM 20 21])
 (.cond (.t 20)
 (.seq (.ops [xF 2 22 1,
 xL 3 23 22,
 ⟨some 24,.pure (.build [.bool false,.bool false,.str [],.int .i64 0,.bool false] [(0,1),(1,3)]),[.c (.bool true),.t 23],none⟩,
 ⟨some 5,.new (.new 5 [.agg [.bool false,.bool false,.str [],.int .i64 0,.bool false]]),[],none⟩,
 xS 5 5 24])
 (.seq (.ops [xL 5 25 5,
 xL 5 26 5,
 ⟨some 27,.pure (.build [.bool false,.bool false,.str [],.int .i64 0,.bool false,.bool false,.bool false,.str [],.int .i64 0,.bool false,.int .i64 0] [(0,5),(5,5)]),[.t 25,.t 26],none⟩,
 xN 6 11 z2,
 xS 11 6 27])
 (.seq (.seq (.ops [xF 2 28 1,
 xL 3 29 28,
 xK 30 264 [.t 29]])
 (.cond (.t 30)
 (.ops [xF 10 31 6,
 ⟨none,.eff (.store 1),[.t 31,.c (.int .i64 1)],none⟩])
 .skip))
 (.ops [xL 11 32 6,
 ⟨some 33,.new (.buildSlice 11 [z2] [0]),[.t 32],none⟩,
 ⟨some 34,.pure (.build [.snil 11] [(0,1)]),[.t 33],none⟩,
 ⟨some 35,.pure (.build [.int .i64 0,.int .i64 0,.int .i64 0,.int .i64 0,.str [],.snil 11,.int .i64 0,.int .i64 0,.int .i64 0,.int .i64 0,.int .i64 0,.snil 6,.snil 13,.snil 17,.snil 15] [(0,1),(5,1)]),[.c (.int .i64 4),.t 34],none⟩,
 xS 15 3 35]))))
 (.seq (.ops [xP 37 (.bin .eql) [.t 19,.c (.int .i64 4)],
 xM 36 37])
 (.cond (.t 36)
 (.seq (.ops [xF 9 38 1,
 xR 39 38,
 xK 40 988 [.t 39],
 xM 7 40])
 (.ops [xM 41 7,
 xM 42 7,
 ⟨some 43,.pure (.build [.int .i64 0,.int .i64 0,.int .i64 0,.int .i64 0,.str [],.snil 11,.int .i64 0,.int .i64 0,.int .i64 0,.int .i64 0,.int .i64 0,.snil 6,.snil 13,.snil 17,.snil 15] [(0,1),(2,1),(3,1)]),[.c (.int .i64 5),.t 41,.t 42],none⟩,
 xS 15 3 43]))
 (.seq (.ops [xP 45 (.bin .eql) [.t 19,.c (.int .i64 6)],
 xM 44 45])
 (.cond (.t 44)
 (.seq (.ops [xF 11 46 1,
 xR 47 46,
 xP 48 .lenL [.t 47],
 xF 11 49 1,
 xR 50 49,
 xP 51 .lenL [.t 50],
 xM 52 4,
 ⟨some 53,.pure (.build [.int .i64 0,.int .i64 0,.int .i64 0,.int .i64 0,.str [],.snil 11,.int .i64 0,.int .i64 0,.int .i64 0,.int .i64 0,.int .i64 0,.snil 6,.snil 13,.snil 17,.snil 15] [(0,1),(2,1),(3,1),(14,1)]),[.c (.int .i64 9),.t 48,.t 51,.t 52],none⟩,
 xS 15 3 53])
 (.seq (.ops [xF 11 54 1,
 xR 55 54,
 xP 56 .lenL [.t 55],
 xC 57 (.int .i64 0)])
 (.block 1
 (.loop [2,3,55,56,57]
 (.seq (.ops [xP 58 (.bin .lss) [.t 57,.t 56]])
 (.seq (.cond (.t 58)
 .skip
 (.exit 1))
 (.seq (.block 2
 (.seq (.ops [xI 13 59 55 57,
 xL 13 60 59,
 xN 9 13 z1,
 xS 13 9 60])
 (.ops [xF 14 61 3,
 xR 62 61,
 xF 14 63 3,
 xR 64 63,
 xP 65 (.iaddrS 15) [.t 64,.c (.int .i64 0)],
 xL 15 66 65,
 xL 13 67 9,
 xK 68 975 [.t 67],
 xK 69 974 [.t 66,.t 68],
 xP 70 (.iaddrS 15) [.t 62,.c (.int .i64 0)],
 xS 15 70 69])))
 (.ops [xP 71 (.bin .add) [.t 57,.c (.int .i64 1)],
 xM 57 71]))))))))
 (.seq (.ops [xP 73 (.bin .eql) [.t 19,.c (.int .i64 7)],
 xM 72 73])
 (.cond (.t 72)
 (.seq (.ops [xM 74 4,
 ⟨some 75,.pure (.build [.int .i64 0,.int .i64 0,.int .i64 0,.int .i64 0,.str [],.snil 11,.int .i64 0,.int .i64 0,.int .i64 0,.int .i64 0,.int .i64 0,.snil 6,.snil 13,.snil 17,.snil 15] [(0,1),(14,1)]),[.c (.int .i64 10),.t 74],none⟩,
 xS 15 3 75])
 (.seq (.seq (.ops [xF 12 76 1,
 xR 77 76,
 xP 78 .lenL [.t 77],
 xC 79 (.int .i64 0)])
 (.block 3
 (.loop [2,3,77,78,79]
 (.seq (.ops [xP 80 (.bin .lss) [.t 79,.t 78]])
 (.seq (.cond (.t 80)
 .skip
 (.exit 3))
 (.seq (.block 4
 (.seq (.ops [xI 14 81 77 79,
 xL 14 82 81,
 xN 11 14 z5,
 xS 14 11 82])
 (.draw 1 [[xF 13 83 3,
 xR 84 83,
 xF 0 85 11,
 xR 86 85,
 xF 1 87 11,
 xL 13 88 87,
 xK 89 975 [.t 88],
 ⟨some 90,.pure (.build [.str [],.bool false,.int .i64 0,.int .i64 0,.int .i64 0,.int .i64 0,.str [],.snil 11,.int .i64 0,.int .i64 0,.int .i64 0,.int .i64 0,.int .i64 0,.snil 6,.snil 13,.snil 17,.snil 15] [(0,1),(1,1),(2,15)]),[.t 86,.c (.bool true),.t 89],none⟩,
 ⟨some 91,.newAt 0 (.buildSlice 17 [z4] [0]),[.t 90],none⟩,
 ⟨some 92,.eff (.append 17 232),[.t 84,.t 91],none⟩,
 xF 13 93 3,
 xS 1 93 92]])))
 (.ops [xP 94 (.bin .add) [.t 79,.c (.int .i64 1)],
 xM 79 94])))))))
 (.ops [xF 13 95 3,
 xR 96 95,
 ⟨some 97,.call 861,[.t 96,.c (.fn 989 [])],none⟩])))
 .skip))))))))))
 (.seq (.ops [xL 15 98 3,
 ⟨some 99,.new (.buildSlice 15 [z0] [0]),[.t 98],none⟩,
 ⟨some 100,.pure (.build [.int .i64 0,.int .i64 0,.int .i64 0,.int .i64 0,.str [],.snil 11,.int .i64 0,.int .i64 0,.int .i64 0,.int .i64 0,.int .i64 0,.snil 6,.snil 13,.snil 17,.snil 15] [(0,1),(14,1)]),[.c (.int .i64 12),.t 99],none⟩,
 xS 15 2 100])
 .ret))))) }
/-- datakit/infer.checked -/
def qgd:AFn:=
 { nt:=13,res:=[.cell 2 (some 15),.tmp 3],body:=
 (.seq (.ops [xB 15 1 0,
 xN 2 15 z0,
 xC 3 (.int .i64 0)])
 (.seq (.seq (.ops [xL 15 5 1,
 ⟨some 6,.pure (.build [.snil 16,.int .i64 0,.int .i64 0,.int .i64 0,.int .i64 0,.str [],.snil 11,.int .i64 0,.int .i64 0,.int .i64 0,.int .i64 0,.int .i64 0,.snil 6,.snil 13,.snil 17,.snil 15] [(1,15)]),[.t 5],none⟩,
 xK 7 454 [.t 6],
 xM 4 7])
 (.seq (.ops [xM 8 4,
 xP 9 (.bin .neq) [.t 8,.c (.int .i64 0)]])
 (.cond (.t 9)
 (.seq (.ops [⟨some 10,.pure (.build [.int .i64 0,.int .i64 0,.int .i64 0,.int .i64 0,.str [],.snil 11,.int .i64 0,.int .i64 0,.int .i64 0,.int .i64 0,.int .i64 0,.snil 6,.snil 13,.snil 17,.snil 15] []),[],none⟩,
 xM 11 4,
 xS 15 2 10,
 xM 3 11])
 .ret)
 .skip)))
 (.seq (.ops [xL 15 12 1,
 xS 15 2 12,
 xC 3 (.int .i64 0)])
 .ret))) }
/-- datakit/datakitref52.none -/
def qkT:AFn:=
 { nt:=2,res:=[.cell 0 (some 15)],body:=
 (.seq (.ops [xN 0 15 z0])
 (.seq (.ops [⟨some 1,.pure (.build [.int .i64 0,.int .i64 0,.int .i64 0,.int .i64 0,.str [],.snil 11,.int .i64 0,.int .i64 0,.int .i64 0,.int .i64 0,.int .i64 0,.snil 6,.snil 13,.snil 17,.snil 15] [(0,1)]),[.c (.int .i64 2)],none⟩,
 xS 15 0 1])
 .ret)) }
/-- datakit/datakitref52.join -/
def qbR:AFn:=
 { nt:=63,res:=[.cell 4 (some 15)],body:=
 (.seq (.ops [xB 15 2 0,
 xB 15 3 1,
 xN 4 15 z0])
 (.seq (.seq (.ops [xF 0 11 2,
 xR 12 11,
 xP 13 (.bin .eql) [.t 12,.c (.int .i64 2)]])
 (.cond (.t 13)
 (.seq (.ops [xL 15 14 3,
 xS 15 4 14])
 .ret)
 .skip))
 (.seq (.seq (.ops [xF 0 15 3,
 xR 16 15,
 xP 17 (.bin .eql) [.t 16,.c (.int .i64 2)]])
 (.cond (.t 17)
 (.seq (.ops [xL 15 18 2,
 xS 15 4 18])
 .ret)
 .skip))
 (.seq (.ops [⟨some 19,.pure (.build [.int .i64 0,.int .i64 0,.int .i64 0,.int .i64 0,.str [],.snil 11,.int .i64 0,.int .i64 0,.int .i64 0,.int .i64 0,.int .i64 0,.snil 6,.snil 13,.snil 17,.snil 15] [(0,1)]),[.c (.int .i64 12)],none⟩,
 xN 5 15 z0,
 xS 15 5 19])
 (.seq (.seq (.ops [xC 6 (.int .i64 0)])
 (.block 0
 (.loop [2,3,4,5,6]
 (.seq (.seq (.ops [xM 20 6,
 xP 21 (.bin .lss) [.t 20,.c (.int .i64 8)]])
 (.cond (.t 21)
 .skip
 (.exit 0)))
 (.seq (.block 1
 (.seq (.ops [xL 15 25 2,
 xM 26 6,
 xK 27 990 [.t 25,.t 26],
 xM 24 27,
 xP 28 (.ext 0) [.t 24],
 xP 29 (.ext 1) [.t 24],
 xN 7 15 z0,
 xS 15 7 28,
 xM 8 29])
 (.seq (.ops [xL 15 31 3,
 xM 32 6,
 xK 33 990 [.t 31,.t 32],
 xM 30 33,
 xP 34 (.ext 0) [.t 30],
 xP 35 (.ext 1) [.t 30],
 xN 9 15 z0,
 xS 15 9 34,
 xM 10 35])
 (.seq (.ops [xM 36 8,
 xM 37 36,
 yM 38 10 37 true,
 xP 39 .pick [.t 37,.t 38,.c (.bool false)]])
 (.cond (.t 39)
 (.draw 1 [[xF 14 40 5,
 xR 41 40,
 xL 15 42 7,
 xL 15 43 9,
 xK 44 991 [.t 42,.t 43],
 ⟨some 45,.newAt 0 (.buildSlice 15 [z0] [0]),[.t 44],none⟩,
 ⟨some 46,.eff (.append 15 208),[.t 41,.t 45],none⟩,
 xF 14 47 5,
 xS 1 47 46]])
 (.seq (.ops [xM 48 8])
 (.cond (.t 48)
 (.ops [xF 14 49 5,
 xR 50 49,
 xL 15 51 7,
 ⟨some 52,.new (.buildSlice 15 [z0] [0]),[.t 51],none⟩,
 ⟨some 53,.eff (.append 15 208),[.t 50,.t 52],none⟩,
 xF 14 54 5,
 xS 1 54 53])
 (.seq (.ops [xM 55 10])
 (.cond (.t 55)
 (.ops [xF 14 56 5,
 xR 57 56,
 xL 15 58 9,
 ⟨some 59,.new (.buildSlice 15 [z0] [0]),[.t 58],none⟩,
 ⟨some 60,.eff (.append 15 208),[.t 57,.t 59],none⟩,
 xF 14 61 5,
 xS 1 61 60])
 .skip)))))))))
 (.ops [xM 22 6,
 xP 23 (.bin .add) [.t 22,.c (.int .i64 1)],
 xM 6 23]))))))
 (.seq (.ops [xL 15 62 5,
 xS 15 4 62])
 .ret)))))) }
/-- datakit/datakitref52.of -/
def qbV:AFn:=
 { nt:=94,res:=[.cell 2 (some 15)],body:=
 (.seq (.ops [xB 13 1 0,
 xN 2 15 z0])
 (.seq (.ops [xF 0 10 1,
 xR 11 10,
 ⟨some 12,.pure (.bin .shl),[.c (.int .i64 1),.t 11],none⟩,
 ⟨some 13,.pure (.build [.int .i64 0,.int .i64 0,.int .i64 0,.int .i64 0,.str [],.snil 11,.int .i64 0,.int .i64 0,.int .i64 0,.int .i64 0,.int .i64 0,.snil 6,.snil 13,.snil 17,.snil 15] [(0,1),(1,1)]),[.c (.int .i64 3),.t 12],none⟩,
 xN 3 15 z0,
 xS 15 3 13])
 (.seq (.seq (.ops [xF 0 14 1,
 xR 15 14])
 (.block 0
 (.seq (.ops [xP 17 (.bin .eql) [.t 15,.c (.int .i64 2)],
 xM 16 17])
 (.cond (.t 16)
 (.ops [xF 2 18 1,
 xL 3 19 18,
 xK 20 992 [.t 19],
 ⟨some 21,.pure (.build [.int .i64 0,.int .i64 0,.int .i64 0,.int .i64 0,.str [],.snil 11,.int .i64 0,.int .i64 0,.int .i64 0,.int .i64 0,.int .i64 0,.snil 6,.snil 13,.snil 17,.snil 15] [(0,1),(5,1)]),[.c (.int .i64 4),.t 20],none⟩,
 xS 15 3 21])
 (.seq (.ops [xP 23 (.bin .eql) [.t 15,.c (.int .i64 4)],
 xM 22 23])
 (.cond (.t 22)
 (.seq (.ops [xF 9 25 1,
 xR 26 25,
 xK 27 586 [.t 26],
 xM 24 27,
 xP 28 (.ext 0) [.t 24],
 xP 29 (.ext 1) [.t 24],
 xM 4 28,
 xM 5 29])
 (.ops [xM 30 4,
 xM 31 4,
 ⟨some 32,.pure (.build [.int .i64 0,.int .i64 0,.int .i64 0,.int .i64 0,.str [],.snil 11,.int .i64 0,.int .i64 0,.int .i64 0,.int .i64 0,.int .i64 0,.snil 6,.snil 13,.snil 17,.snil 15] [(0,1),(2,1),(3,1)]),[.c (.int .i64 5),.t 30,.t 31],none⟩,
 xS 15 3 32]))
 (.seq (.ops [xP 34 (.bin .eql) [.t 15,.c (.int .i64 6)],
 xM 33 34])
 (.cond (.t 33)
 (.seq (.ops [xK 35 977 [],
 xN 6 15 z0,
 xS 15 6 35])
 (.seq (.seq (.ops [xC 7 (.int .i64 0)])
 (.block 1
 (.loop [1,2,3,6,7]
 (.seq (.seq (.ops [xM 36 7,
 xF 11 37 1,
 xR 38 37,
 xP 39 .lenL [.t 38],
 xP 40 (.bin .lss) [.t 36,.t 39]])
 (.cond (.t 40)
 .skip
 (.exit 1)))
 (.seq (.block 2
 (.ops [xL 15 43 6,
 xF 11 44 1,
 xR 45 44,
 xM 46 7,
 xI 13 47 45 46,
 xL 13 48 47,
 xK 49 979 [.t 48],
 xK 50 978 [.t 43,.t 49],
 xS 15 6 50]))
 (.ops [xM 41 7,
 xP 42 (.bin .add) [.t 41,.c (.int .i64 1)],
 xM 7 42]))))))
 (.ops [xF 11 51 1,
 xR 52 51,
 xP 53 .lenL [.t 52],
 xF 11 54 1,
 xR 55 54,
 xP 56 .lenL [.t 55],
 xL 15 57 6,
 ⟨some 58,.new (.buildSlice 15 [z0] [0]),[.t 57],none⟩,
 ⟨some 59,.pure (.build [.int .i64 0,.int .i64 0,.int .i64 0,.int .i64 0,.str [],.snil 11,.int .i64 0,.int .i64 0,.int .i64 0,.int .i64 0,.int .i64 0,.snil 6,.snil 13,.snil 17,.snil 15] [(0,1),(2,1),(3,1),(14,1)]),[.c (.int .i64 9),.t 53,.t 56,.t 58],none⟩,
 xS 15 3 59])))
 (.seq (.ops [xP 61 (.bin .eql) [.t 15,.c (.int .i64 7)],
 xM 60 61])
 (.cond (.t 60)
 (.seq (.ops [xK 62 977 [],
 ⟨some 63,.new (.buildSlice 15 [z0] [0]),[.t 62],none⟩,
 ⟨some 64,.pure (.build [.int .i64 0,.int .i64 0,.int .i64 0,.int .i64 0,.str [],.snil 11,.int .i64 0,.int .i64 0,.int .i64 0,.int .i64 0,.int .i64 0,.snil 6,.snil 13,.snil 17,.snil 15] [(0,1),(14,1)]),[.c (.int .i64 10),.t 63],none⟩,
 xS 15 3 64])
 (.seq (.ops [xL 13 65 1,
 xK 66 620 [.t 65],
 xP 67 (.field 12 1 false) [.t 66],
 xM 8 67])
 (.seq (.ops [xC 9 (.int .i64 0)])
 (.block 3
 (.loop [2,3,8,9]
 (.seq (.seq (.ops [xM 68 9,
 xM 69 8,
 xP 70 .lenL [.t 69],
 xP 71 (.bin .lss) [.t 68,.t 70]])
 (.cond (.t 71)
 .skip
 (.exit 3)))
 (.seq (.block 4
 (.draw 1 [[xF 13 74 3,
 xR 75 74,
 xM 76 8,
 xM 77 9,
 xI 14 78 76 77,
 xF 0 79 78,
 xR 80 79,
 xM 81 8,
 xM 82 9,
 xI 14 83 81 82,
 xF 1 84 83,
 xL 13 85 84,
 xK 86 979 [.t 85],
 ⟨some 87,.pure (.build [.str [],.bool false,.int .i64 0,.int .i64 0,.int .i64 0,.int .i64 0,.str [],.snil 11,.int .i64 0,.int .i64 0,.int .i64 0,.int .i64 0,.int .i64 0,.snil 6,.snil 13,.snil 17,.snil 15] [(0,1),(1,1),(2,15)]),[.t 80,.c (.bool true),.t 86],none⟩,
 ⟨some 88,.newAt 0 (.buildSlice 17 [z4] [0]),[.t 87],none⟩,
 ⟨some 89,.eff (.append 17 232),[.t 75,.t 88],none⟩,
 xF 13 90 3,
 xS 1 90 89]]))
 (.ops [xM 72 9,
 xP 73 (.bin .add) [.t 72,.c (.int .i64 1)],
 xM 9 73]))))))))
 .skip))))))))))
 (.seq (.ops [xL 15 91 3,
 ⟨some 92,.new (.buildSlice 15 [z0] [0]),[.t 91],none⟩,
 ⟨some 93,.pure (.build [.int .i64 0,.int .i64 0,.int .i64 0,.int .i64 0,.str [],.snil 11,.int .i64 0,.int .i64 0,.int .i64 0,.int .i64 0,.int .i64 0,.snil 6,.snil 13,.snil 17,.snil 15] [(0,1),(14,1)]),[.c (.int .i64 12),.t 92],none⟩,
 xS 15 2 93])
 .ret)))) }
/-- datakit/datakitref52.checked -/
def qf3:AFn:=
 { nt:=13,res:=[.cell 2 (some 15),.tmp 3],body:=
 (.seq (.ops [xB 15 1 0,
 xN 2 15 z0,
 xC 3 (.int .i64 0)])
 (.seq (.seq (.ops [xL 15 5 1,
 ⟨some 6,.pure (.build [.snil 16,.int .i64 0,.int .i64 0,.int .i64 0,.int .i64 0,.str [],.snil 11,.int .i64 0,.int .i64 0,.int .i64 0,.int .i64 0,.int .i64 0,.snil 6,.snil 13,.snil 17,.snil 15] [(1,15)]),[.t 5],none⟩,
 xK 7 455 [.t 6],
 xM 4 7])
 (.seq (.ops [xM 8 4,
 xP 9 (.bin .neq) [.t 8,.c (.int .i64 0)]])
 (.cond (.t 9)
 (.seq (.ops [⟨some 10,.pure (.build [.int .i64 0,.int .i64 0,.int .i64 0,.int .i64 0,.str [],.snil 11,.int .i64 0,.int .i64 0,.int .i64 0,.int .i64 0,.int .i64 0,.snil 6,.snil 13,.snil 17,.snil 15] []),[],none⟩,
 xM 11 4,
 xS 15 2 10,
 xM 3 11])
 .ret)
 .skip)))
 (.seq (.ops [xL 15 12 1,
 xS 15 2 12,
 xC 3 (.int .i64 0)])
 .ret))) }
/-- datakit/infer.find -/
def qkX:AFn:=
 { nt:=22,res:=[.cell 4 (some 15),.tmp 5],body:=
 (.seq (.ops [xB 15 2 0,
 xN 4 15 z0,
 xC 5 (.bool false)])
 (.seq (.seq (.ops [xF 14 8 2,
 xR 9 8,
 xP 10 .lenL [.t 9],
 xC 11 (.int .i64 0)])
 (.block 0
 (.loop [1,4,9,10,11]
 (.seq (.ops [xP 12 (.bin .lss) [.t 11,.t 10]])
 (.seq (.cond (.t 12)
 .skip
 (.exit 0))
 (.seq (.block 1
 (.seq (.ops [xI 15 13 9 11,
 xL 15 14 13,
 xN 7 15 z0,
 xS 15 7 14])
 (.seq (.ops [xL 15 15 7,
 xK 16 993 [.t 15],
 xM 17 1,
 xP 18 (.bin .eql) [.t 16,.t 17]])
 (.cond (.t 18)
 (.seq (.ops [xL 15 19 7,
 xS 15 4 19,
 xC 5 (.bool true)])
 .ret)
 .skip))))
 (.ops [xP 20 (.bin .add) [.t 11,.c (.int .i64 1)],
 xM 11 20])))))))
 (.seq (.ops [⟨some 21,.pure (.build [.int .i64 0,.int .i64 0,.int .i64 0,.int .i64 0,.str [],.snil 11,.int .i64 0,.int .i64 0,.int .i64 0,.int .i64 0,.int .i64 0,.snil 6,.snil 13,.snil 17,.snil 15] []),[],none⟩,
 xS 15 4 21,
 xC 5 (.bool false)])
 .ret))) }
/-- datakit/infer.both -/
def q6W:AFn:=
 { nt:=97,res:=[.cell 4 (some 15)],body:=
 (.seq (.ops [xB 15 2 0,
 xB 15 3 1,
 xN 4 15 z0])
 (.seq (.ops [xL 15 8 2,
 ⟨some 9,.call 985,[.t 8],none⟩,
 xN 5 15 z0,
 xS 15 5 9])
 (.seq (.seq (.ops [xF 0 10 2,
 xR 11 10])
 (.block 0
 (.seq (.ops [xP 13 (.bin .eql) [.t 11,.c (.int .i64 4)],
 xM 12 13])
 (.cond (.t 12)
 (.seq (.draw 1 [[xF 5 14 5,
 xF 0 15 14,
 xR 16 15,
 xP 17 (.iaddrS 11) [.t 16,.c (.int .i64 0)],
 xF 5 18 3,
 xF 0 19 18,
 xR 20 19,
 xP 21 (.iaddrS 11) [.t 20,.c (.int .i64 0)],
 xL 11 22 21,
 ⟨some 7,.newAt 0 (.new 11 [z2]),[],none⟩,
 xM 6 17,
 xS 11 7 22]])
 (.seq (.seq (.ops [xF 0 23 7,
 xF 1 24 23,
 xL 3 25 24,
 xM 26 6,
 xP 27 .chk [.t 26],
 xF 0 28 27,
 xF 1 29 28,
 xL 3 30 29,
 xK 31 263 [.t 25,.t 30],
 xP 32 (.bin .lss) [.t 31,.c (.int .i64 0)]])
 (.cond (.t 32)
 (.ops [xM 33 6,
 xF 0 34 7,
 xL 5 35 34,
 xP 36 .chk [.t 33],
 xF 0 37 36,
 xS 5 37 35])
 .skip))
 (.seq (.seq (.ops [xF 5 38 7,
 xF 1 39 38,
 xL 3 40 39,
 xM 41 6,
 xP 42 .chk [.t 41],
 xF 5 43 42,
 xF 1 44 43,
 xL 3 45 44,
 xK 46 263 [.t 40,.t 45],
 xP 47 (.bin .gtr) [.t 46,.c (.int .i64 0)]])
 (.cond (.t 47)
 (.ops [xM 48 6,
 xF 5 49 7,
 xL 5 50 49,
 xP 51 .chk [.t 48],
 xF 5 52 51,
 xS 5 52 50])
 .skip))
 (.seq (.ops [xF 10 53 7,
 xR 54 53,
 xP 55 (.bin .eql) [.t 54,.c (.int .i64 0)]])
 (.cond (.t 55)
 (.ops [xM 56 6,
 xP 57 .chk [.t 56],
 xF 10 58 57,
 ⟨none,.eff (.store 1),[.t 58,.c (.int .i64 0)],none⟩])
 .skip)))))
 (.seq (.seq (.ops [xP 60 (.bin .eql) [.t 11,.c (.int .i64 5)],
 xM 59 60])
 (.cond (.t 59)
 .skip
 (.ops [xP 61 (.bin .eql) [.t 11,.c (.int .i64 9)],
 xM 59 61])))
 (.cond (.t 59)
 (.seq (.draw 0 [[xF 2 62 2,
 xR 63 62,
 xF 2 64 3,
 xR 65 64,
 xP 66 (.minmax false) [.t 63,.t 65],
 xF 3 67 2,
 xF 3 69 3,
 xF 2 72 5,
 xR 68 67,
 xR 70 69,
 xP 71 (.minmax true) [.t 68,.t 70],
 xS 1 72 66,
 xF 3 73 5,
 xS 1 73 71],
 [xF 2 62 2,
 xR 63 62,
 xF 2 64 3,
 xR 65 64,
 xP 66 (.minmax false) [.t 63,.t 65],
 xF 3 67 2,
 xF 3 69 3,
 xF 2 72 5,
 xR 68 67,
 xS 1 72 66,
 xR 70 69,
 xP 71 (.minmax true) [.t 68,.t 70],
 xF 3 73 5,
 xS 1 73 71],
 [xF 2 62 2,
 xR 63 62,
 xF 2 64 3,
 xR 65 64,
 xP 66 (.minmax false) [.t 63,.t 65],
 xF 3 67 2,
 xF 3 69 3,
 xF 2 72 5,
 xR 70 69,
 xR 68 67,
 xP 71 (.minmax true) [.t 68,.t 70],
 xS 1 72 66,
 xF 3 73 5,
 xS 1 73 71],
 [xF 2 62 2,
 xR 63 62,
 xF 2 64 3,
 xR 65 64,
 xP 66 (.minmax false) [.t 63,.t 65],
 xF 3 67 2,
 xF 3 69 3,
 xF 2 72 5,
 xR 70 69,
 xS 1 72 66,
 xR 68 67,
 xP 71 (.minmax true) [.t 68,.t 70],
 xF 3 73 5,
 xS 1 73 71],
 [xF 2 62 2,
 xR 63 62,
 xF 2 64 3,
 xR 65 64,
 xP 66 (.minmax false) [.t 63,.t 65],
 xF 3 67 2,
 xF 3 69 3,
 xF 2 72 5,
 xS 1 72 66,
 xR 68 67,
 xR 70 69,
 xP 71 (.minmax true) [.t 68,.t 70],
 xF 3 73 5,
 xS 1 73 71]])
 (.seq (.ops [xF 0 74 2,
 xR 75 74,
 xP 76 (.bin .eql) [.t 75,.c (.int .i64 9)]])
 (.cond (.t 76)
 (.draw 1 [[xF 14 77 2,
 xR 78 77,
 xP 79 (.iaddrS 15) [.t 78,.c (.int .i64 0)],
 xL 15 80 79,
 xF 14 81 3,
 xR 82 81,
 xP 83 (.iaddrS 15) [.t 82,.c (.int .i64 0)],
 xL 15 84 83,
 xK 85 974 [.t 80,.t 84],
 ⟨some 86,.newAt 0 (.buildSlice 15 [z0] [0]),[.t 85],none⟩,
 xF 14 87 5,
 xS 1 87 86]])
 .skip)))
 (.seq (.ops [xP 89 (.bin .eql) [.t 11,.c (.int .i64 10)],
 xM 88 89])
 (.cond (.t 88)
 (.ops [xF 13 90 2,
 xR 91 90,
 xF 13 92 3,
 xR 93 92,
 xK 94 999 [.t 91,.t 93],
 xF 13 95 5,
 xS 1 95 94])
 .skip))))))))
 (.seq (.ops [xL 15 96 5,
 xS 15 4 96])
 .ret)))) }
/-- datakit/infer.of$1 -/
def qkR:AFn:=
 { nt:=10,res:=[.tmp 4],body:=
 (.seq (.ops [xB 17 2 0,
 xB 17 3 1,
 xC 4 (.int .i64 0)])
 (.seq (.ops [xF 0 5 2,
 xR 6 5,
 xF 0 7 3,
 xR 8 7,
 xK 9 51 [.t 6,.t 8],
 xM 4 9])
 .ret)) }
/-- datakit/datakitref52.find -/
def ql3:AFn:=
 { nt:=28,res:=[.cell 4 (some 15),.tmp 5],body:=
 (.seq (.ops [xB 15 2 0,
 xN 4 15 z0,
 xC 5 (.bool false)])
 (.seq (.seq (.ops [xC 6 (.int .i64 0)])
 (.block 0
 (.loop [1,2,4,6]
 (.seq (.seq (.ops [xM 7 6,
 xF 14 8 2,
 xR 9 8,
 xP 10 .lenL [.t 9],
 xP 11 (.bin .lss) [.t 7,.t 10]])
 (.cond (.t 11)
 .skip
 (.exit 0)))
 (.seq (.block 1
 (.seq (.ops [xF 14 14 2,
 xR 15 14,
 xM 16 6,
 xI 15 17 15 16,
 xL 15 18 17,
 xK 19 995 [.t 18],
 xM 20 1,
 xP 21 (.bin .eql) [.t 19,.t 20]])
 (.cond (.t 21)
 (.seq (.ops [xF 14 22 2,
 xR 23 22,
 xM 24 6,
 xI 15 25 23 24,
 xL 15 26 25,
 xS 15 4 26,
 xC 5 (.bool true)])
 .ret)
 .skip)))
 (.ops [xM 12 6,
 xP 13 (.bin .add) [.t 12,.c (.int .i64 1)],
 xM 6 13]))))))
 (.seq (.ops [⟨some 27,.pure (.build [.int .i64 0,.int .i64 0,.int .i64 0,.int .i64 0,.str [],.snil 11,.int .i64 0,.int .i64 0,.int .i64 0,.int .i64 0,.int .i64 0,.snil 6,.snil 13,.snil 17,.snil 15] []),[],none⟩,
 xS 15 4 27,
 xC 5 (.bool false)])
 .ret))) }
/-- datakit/datakitref52.both -/
def q6T:AFn:=
 { nt:=62,res:=[.cell 4 (some 15)],body:=
 (.seq (.ops [xB 15 2 0,
 xB 15 3 1,
 xN 4 15 z0])
 (.seq (.seq (.ops [xF 0 5 2,
 xR 6 5])
 (.block 0
 (.seq (.ops [xP 8 (.bin .eql) [.t 6,.c (.int .i64 4)],
 xM 7 8])
 (.cond (.t 7)
 (.seq (.ops [xF 5 9 2,
 xL 1 10 9,
 xF 5 11 3,
 xL 1 12 11,
 xK 13 1000 [.t 10,.t 12],
 ⟨some 14,.pure (.build [.int .i64 0,.int .i64 0,.int .i64 0,.int .i64 0,.str [],.snil 11,.int .i64 0,.int .i64 0,.int .i64 0,.int .i64 0,.int .i64 0,.snil 6,.snil 13,.snil 17,.snil 15] [(0,1),(5,1)]),[.c (.int .i64 4),.t 13],none⟩,
 xS 15 4 14])
 .ret)
 (.seq (.ops [xP 16 (.bin .eql) [.t 6,.c (.int .i64 5)],
 xM 15 16])
 (.cond (.t 15)
 (.seq (.ops [xF 2 17 2,
 xR 18 17,
 xF 2 19 3,
 xR 20 19,
 xP 21 (.minmax false) [.t 18,.t 20],
 xF 3 22 2,
 xR 23 22,
 xF 3 24 3,
 xR 25 24,
 xP 26 (.minmax true) [.t 23,.t 25],
 ⟨some 27,.pure (.build [.int .i64 0,.int .i64 0,.int .i64 0,.int .i64 0,.str [],.snil 11,.int .i64 0,.int .i64 0,.int .i64 0,.int .i64 0,.int .i64 0,.snil 6,.snil 13,.snil 17,.snil 15] [(0,1),(2,1),(3,1)]),[.c (.int .i64 5),.t 21,.t 26],none⟩,
 xS 15 4 27])
 .ret)
 (.seq (.ops [xP 29 (.bin .eql) [.t 6,.c (.int .i64 9)],
 xM 28 29])
 (.cond (.t 28)
 (.seq (.draw 1 [[xF 2 30 2,
 xR 31 30,
 xF 2 32 3,
 xR 33 32,
 xP 34 (.minmax false) [.t 31,.t 33],
 xF 3 35 2,
 xR 36 35,
 xF 3 37 3,
 xR 38 37,
 xP 39 (.minmax true) [.t 36,.t 38],
 xF 14 40 2,
 xR 41 40,
 xP 42 (.iaddrS 15) [.t 41,.c (.int .i64 0)],
 xL 15 43 42,
 xF 14 44 3,
 xR 45 44,
 xP 46 (.iaddrS 15) [.t 45,.c (.int .i64 0)],
 xL 15 47 46,
 xK 48 978 [.t 43,.t 47],
 ⟨some 49,.newAt 0 (.buildSlice 15 [z0] [0]),[.t 48],none⟩,
 ⟨some 50,.pure (.build [.int .i64 0,.int .i64 0,.int .i64 0,.int .i64 0,.str [],.snil 11,.int .i64 0,.int .i64 0,.int .i64 0,.int .i64 0,.int .i64 0,.snil 6,.snil 13,.snil 17,.snil 15] [(0,1),(2,1),(3,1),(14,1)]),[.c (.int .i64 9),.t 34,.t 39,.t 49],none⟩,
 xS 15 4 50]])
 .ret)
 (.seq (.ops [xP 52 (.bin .eql) [.t 6,.c (.int .i64 10)],
 xM 51 52])
 (.cond (.t 51)
 (.seq (.ops [xF 13 53 2,
 xR 54 53,
 xF 13 55 3,
 xR 56 55,
 xK 57 1001 [.t 54,.t 56],
 xK 58 977 [],
 ⟨some 59,.new (.buildSlice 15 [z0] [0]),[.t 58],none⟩,
 ⟨some 60,.pure (.build [.int .i64 0,.int .i64 0,.int .i64 0,.int .i64 0,.str [],.snil 11,.int .i64 0,.int .i64 0,.int .i64 0,.int .i64 0,.int .i64 0,.snil 6,.snil 13,.snil 17,.snil 15] [(0,1),(13,1),(14,1)]),[.c (.int .i64 10),.t 57,.t 59],none⟩,
 xS 15 4 60])
 .ret)
 .skip))))))))))
 (.seq (.ops [xL 15 61 2,
 xS 15 4 61])
 .ret))) }
/-- datakit/datakitref52.point -/
def qiI:AFn:=
 { nt:=15,res:=[.cell 2 (some 1)],body:=
 (.seq (.ops [xB 3 1 0,
 ⟨some 2,.new (.new 1 [.agg [.snil 11]]),[],none⟩])
 (.seq (.ops [xC 3 (.int .i64 0)])
 (.seq (.seq (.ops [xL 3 5 1,
 xK 6 635 [.t 5]])
 (.cond (.t 6)
 (.ops [xC 3 (.int .i64 1)])
 .skip))
 (.seq (.ops [xL 3 7 1,
 ⟨some 8,.pure (.build [.bool false,.bool false,.str [],.int .i64 0,.bool false] [(0,1),(1,3)]),[.c (.bool true),.t 7],none⟩,
 ⟨some 4,.new (.new 5 [.agg [.bool false,.bool false,.str [],.int .i64 0,.bool false]]),[],none⟩,
 xS 5 4 8])
 (.seq (.ops [xL 5 9 4,
 xL 5 10 4,
 xM 11 3,
 ⟨some 12,.pure (.build [.bool false,.bool false,.str [],.int .i64 0,.bool false,.bool false,.bool false,.str [],.int .i64 0,.bool false,.int .i64 0] [(0,5),(5,5),(10,1)]),[.t 9,.t 10,.t 11],none⟩,
 ⟨some 13,.new (.buildSlice 11 [z2] [0]),[.t 12],none⟩,
 ⟨some 14,.pure (.build [.snil 11] [(0,1)]),[.t 13],none⟩,
 xS 1 2 14])
 .ret))))) }
/-- datakit/infer.kindOf -/
def qiy:AFn:=
 { nt:=30,res:=[.tmp 2],body:=
 (.seq (.ops [xB 15 1 0,
 xC 2 (.int .i64 0)])
 (.seq (.seq (.ops [xF 0 5 1,
 xR 6 5])
 (.block 0
 (.seq (.ops [xP 8 (.bin .eql) [.t 6,.c (.int .i64 3)],
 xM 7 8])
 (.cond (.t 7)
 (.seq (.ops [⟨some 9,.new (.buildSlice 1 [.int .i64 0,.int .i64 0,.int .i64 0,.int .i64 0] [0,1,2,3]),[.c (.int .i64 0),.c (.int .i64 1),.c (.int .i64 3),.c (.int .i64 5)],none⟩,
 xP 10 .lenL [.t 9],
 xC 11 (.int .i64 0)])
 (.block 1
 (.loop [1,9,10,11]
 (.seq (.ops [xP 12 (.bin .lss) [.t 11,.t 10]])
 (.seq (.cond (.t 12)
 .skip
 (.exit 1))
 (.seq (.block 2
 (.seq (.ops [xI 1 13 9 11,
 xR 14 13,
 xM 4 14])
 (.seq (.ops [xF 1 15 1,
 xR 16 15,
 xM 17 4,
 ⟨some 18,.pure (.bin .shl),[.c (.int .i64 1),.t 17],none⟩,
 xP 19 (.bin .eql) [.t 16,.t 18]])
 (.cond (.t 19)
 (.seq (.ops [xM 20 4,
 xM 2 20])
 .ret)
 .skip))))
 (.ops [xP 21 (.bin .add) [.t 11,.c (.int .i64 1)],
 xM 11 21])))))))
 (.seq (.ops [xP 23 (.bin .eql) [.t 6,.c (.int .i64 4)],
 xM 22 23])
 (.cond (.t 22)
 (.seq (.ops [xC 2 (.int .i64 2)])
 .ret)
 (.seq (.ops [xP 25 (.bin .eql) [.t 6,.c (.int .i64 5)],
 xM 24 25])
 (.cond (.t 24)
 (.seq (.ops [xC 2 (.int .i64 4)])
 .ret)
 (.seq (.ops [xP 27 (.bin .eql) [.t 6,.c (.int .i64 9)],
 xM 26 27])
 (.cond (.t 26)
 (.seq (.ops [xC 2 (.int .i64 6)])
 .ret)
 (.seq (.ops [xP 29 (.bin .eql) [.t 6,.c (.int .i64 10)],
 xM 28 29])
 (.cond (.t 28)
 (.seq (.ops [xC 2 (.int .i64 7)])
 .ret)
 .skip))))))))))))
 (.seq (.ops [xC 2 (.int .i64 (-1))])
 .ret))) }
/-- datakit/datakitref52.Kind -/
def ql2:AFn:=
 { nt:=25,res:=[.tmp 2],body:=
 (.seq (.ops [xB 15 1 0,
 xC 2 (.int .i64 0)])
 (.seq (.seq (.ops [xF 0 3 1,
 xR 4 3])
 (.block 0
 (.seq (.ops [xP 6 (.bin .eql) [.t 4,.c (.int .i64 3)],
 xM 5 6])
 (.cond (.t 5)
 (.seq (.ops [xF 1 7 1,
 xR 8 7])
 (.block 1
 (.seq (.ops [xP 10 (.bin .eql) [.t 8,.c (.int .i64 1)],
 xM 9 10])
 (.cond (.t 9)
 (.seq (.ops [xC 2 (.int .i64 0)])
 .ret)
 (.seq (.ops [xP 12 (.bin .eql) [.t 8,.c (.int .i64 2)],
 xM 11 12])
 (.cond (.t 11)
 (.seq (.ops [xC 2 (.int .i64 1)])
 .ret)
 (.seq (.ops [xP 14 (.bin .eql) [.t 8,.c (.int .i64 8)],
 xM 13 14])
 (.cond (.t 13)
 (.seq (.ops [xC 2 (.int .i64 3)])
 .ret)
 (.seq (.ops [xP 16 (.bin .eql) [.t 8,.c (.int .i64 32)],
 xM 15 16])
 (.cond (.t 15)
 (.seq (.ops [xC 2 (.int .i64 5)])
 .ret)
 .skip))))))))))
 (.seq (.ops [xP 18 (.bin .eql) [.t 4,.c (.int .i64 4)],
 xM 17 18])
 (.cond (.t 17)
 (.seq (.ops [xC 2 (.int .i64 2)])
 .ret)
 (.seq (.ops [xP 20 (.bin .eql) [.t 4,.c (.int .i64 5)],
 xM 19 20])
 (.cond (.t 19)
 (.seq (.ops [xC 2 (.int .i64 4)])
 .ret)
 (.seq (.ops [xP 22 (.bin .eql) [.t 4,.c (.int .i64 9)],
 xM 21 22])
 (.cond (.t 21)
 (.seq (.ops [xC 2 (.int .i64 6)])
 .ret)
 (.seq (.ops [xP 24 (.bin .eql) [.t 4,.c (.int .i64 10)],
 xM 23 24])
 (.cond (.t 23)
 (.seq (.ops [xC 2 (.int .i64 7)])
 .ret)
 .skip))))))))))))
 (.seq (.ops [xC 2 (.int .i64 (-1))])
 .ret))) }
/-- datakit/infer.props -/
def qjR:AFn:=
 { nt:=99,res:=[.tmp 4],body:=
 (.seq (.ops [xC 4 (.snil 17)])
 (.seq (.ops [xC 5 (.snil 17)])
 (.seq (.block 0
 (.loop [0,1,5]
 (.seq (.seq (.ops [xM 7 0,
 xP 8 .lenL [.t 7],
 xP 9 (.bin .gtr) [.t 8,.c (.int .i64 0)],
 xM 10 9,
 yM 11 1 10 false,
 yP 12 .lenL [.t 11] 10 false,
 yP 13 (.bin .gtr) [.t 12,.c (.int .i64 0)] 10 false,
 xP 14 .pick [.t 10,.c (.bool true),.t 13]])
 (.cond (.t 14)
 .skip
 (.exit 0)))
 (.block 1
 (.seq (.ops [xC 6 (.int .i64 0)])
 (.seq (.block 2
 (.seq (.ops [xM 25 0,
 xP 26 .lenL [.t 25],
 xP 27 (.bin .eql) [.t 26,.c (.int .i64 0)],
 xM 24 27])
 (.cond (.t 24)
 (.ops [xC 6 (.int .i64 1)])
 (.seq (.ops [xM 29 1,
 xP 30 .lenL [.t 29],
 xP 31 (.bin .eql) [.t 30,.c (.int .i64 0)],
 xM 28 31])
 (.cond (.t 28)
 (.ops [xC 6 (.int .i64 (-1))])
 (.ops [xM 15 0,
 xP 16 (.iaddrS 17) [.t 15,.c (.int .i64 0)],
 xF 0 17 16,
 xR 18 17,
 xM 19 1,
 xP 20 (.iaddrS 17) [.t 19,.c (.int .i64 0)],
 xF 0 21 20,
 xR 22 21,
 xK 23 51 [.t 18,.t 22],
 xM 6 23]))))))
 (.seq (.ops [xM 32 6])
 (.block 3
 (.seq (.ops [xP 65 (.bin .eql) [.t 32,.c (.int .i64 (-1))],
 xM 64 65])
 (.cond (.t 64)
 (.seq (.draw 1 [[xM 66 5,
 xM 67 0,
 xP 68 (.iaddrS 17) [.t 67,.c (.int .i64 0)],
 xF 0 69 68,
 xM 71 0,
 xP 72 (.iaddrS 17) [.t 71,.c (.int .i64 0)],
 xF 2 73 72,
 xL 15 74 73,
 xR 70 69,
 ⟨some 75,.call 985,[.t 74],none⟩,
 ⟨some 76,.pure (.build [.str [],.bool false,.int .i64 0,.int .i64 0,.int .i64 0,.int .i64 0,.str [],.snil 11,.int .i64 0,.int .i64 0,.int .i64 0,.int .i64 0,.int .i64 0,.snil 6,.snil 13,.snil 17,.snil 15] [(0,1),(2,15)]),[.t 70,.t 75],none⟩,
 ⟨some 77,.newAt 0 (.buildSlice 17 [z4] [0]),[.t 76],none⟩,
 ⟨some 78,.eff (.append 17 232),[.t 66,.t 77],none⟩,
 xM 5 78],
 [xM 66 5,
 xM 67 0,
 xP 68 (.iaddrS 17) [.t 67,.c (.int .i64 0)],
 xF 0 69 68,
 xM 71 0,
 xP 72 (.iaddrS 17) [.t 71,.c (.int .i64 0)],
 xF 2 73 72,
 xL 15 74 73,
 ⟨some 75,.call 985,[.t 74],none⟩,
 xR 70 69,
 ⟨some 76,.pure (.build [.str [],.bool false,.int .i64 0,.int .i64 0,.int .i64 0,.int .i64 0,.str [],.snil 11,.int .i64 0,.int .i64 0,.int .i64 0,.int .i64 0,.int .i64 0,.snil 6,.snil 13,.snil 17,.snil 15] [(0,1),(2,15)]),[.t 70,.t 75],none⟩,
 ⟨some 77,.newAt 0 (.buildSlice 17 [z4] [0]),[.t 76],none⟩,
 ⟨some 78,.eff (.append 17 232),[.t 66,.t 77],none⟩,
 xM 5 78]])
 (.ops [xM 79 0,
 xP 80 (.sliceL 17 true false false) [.t 79,.c (.int .i64 1)],
 xM 0 80]))
 (.seq (.ops [xP 82 (.bin .eql) [.t 32,.c (.int .i64 1)],
 xM 81 82])
 (.cond (.t 81)
 (.seq (.draw 1 [[xM 83 5,
 xM 84 1,
 xP 85 (.iaddrS 17) [.t 84,.c (.int .i64 0)],
 xF 0 86 85,
 xM 88 1,
 xP 89 (.iaddrS 17) [.t 88,.c (.int .i64 0)],
 xF 2 90 89,
 xL 15 91 90,
 xR 87 86,
 ⟨some 92,.call 985,[.t 91],none⟩,
 ⟨some 93,.pure (.build [.str [],.bool false,.int .i64 0,.int .i64 0,.int .i64 0,.int .i64 0,.str [],.snil 11,.int .i64 0,.int .i64 0,.int .i64 0,.int .i64 0,.int .i64 0,.snil 6,.snil 13,.snil 17,.snil 15] [(0,1),(2,15)]),[.t 87,.t 92],none⟩,
 ⟨some 94,.newAt 0 (.buildSlice 17 [z4] [0]),[.t 93],none⟩,
 ⟨some 95,.eff (.append 17 232),[.t 83,.t 94],none⟩,
 xM 5 95],
 [xM 83 5,
 xM 84 1,
 xP 85 (.iaddrS 17) [.t 84,.c (.int .i64 0)],
 xF 0 86 85,
 xM 88 1,
 xP 89 (.iaddrS 17) [.t 88,.c (.int .i64 0)],
 xF 2 90 89,
 xL 15 91 90,
 ⟨some 92,.call 985,[.t 91],none⟩,
 xR 87 86,
 ⟨some 93,.pure (.build [.str [],.bool false,.int .i64 0,.int .i64 0,.int .i64 0,.int .i64 0,.str [],.snil 11,.int .i64 0,.int .i64 0,.int .i64 0,.int .i64 0,.int .i64 0,.snil 6,.snil 13,.snil 17,.snil 15] [(0,1),(2,15)]),[.t 87,.t 92],none⟩,
 ⟨some 94,.newAt 0 (.buildSlice 17 [z4] [0]),[.t 93],none⟩,
 ⟨some 95,.eff (.append 17 232),[.t 83,.t 94],none⟩,
 xM 5 95]])
 (.ops [xM 96 1,
 xP 97 (.sliceL 17 true false false) [.t 96,.c (.int .i64 1)],
 xM 1 97]))
 (.seq (.draw 1 [[xM 33 5,
 xM 34 0,
 xP 35 (.iaddrS 17) [.t 34,.c (.int .i64 0)],
 xF 0 36 35,
 xR 37 36,
 xM 38 0,
 xP 39 (.iaddrS 17) [.t 38,.c (.int .i64 0)],
 xF 1 40 39,
 xR 41 40,
 xM 42 41,
 yM 43 1 42 true,
 yP 44 (.iaddrS 17) [.t 43,.c (.int .i64 0)] 42 true,
 yF 1 45 44 42 true,
 yR 46 45 42 true,
 xP 47 .pick [.t 42,.t 46,.c (.bool false)],
 xM 48 0,
 xP 49 (.iaddrS 17) [.t 48,.c (.int .i64 0)],
 xF 2 50 49,
 xL 15 51 50,
 xM 52 1,
 xP 53 (.iaddrS 17) [.t 52,.c (.int .i64 0)],
 xF 2 54 53,
 xL 15 55 54,
 xK 56 974 [.t 51,.t 55],
 ⟨some 57,.pure (.build [.str [],.bool false,.int .i64 0,.int .i64 0,.int .i64 0,.int .i64 0,.str [],.snil 11,.int .i64 0,.int .i64 0,.int .i64 0,.int .i64 0,.int .i64 0,.snil 6,.snil 13,.snil 17,.snil 15] [(0,1),(1,1),(2,15)]),[.t 37,.t 47,.t 56],none⟩,
 ⟨some 58,.newAt 0 (.buildSlice 17 [z4] [0]),[.t 57],none⟩,
 ⟨some 59,.eff (.append 17 232),[.t 33,.t 58],none⟩,
 xM 5 59]])
 (.ops [xM 60 0,
 xP 61 (.sliceL 17 true false false) [.t 60,.c (.int .i64 1)],
 xM 62 1,
 xP 63 (.sliceL 17 true false false) [.t 62,.c (.int .i64 1)],
 xM 0 61,
 xM 1 63]))))))))))))))
 (.seq (.ops [xM 98 5,
 xM 4 98])
 .ret)))) }
/-- datakit/datakitref52.wider -/
def qe3:AFn:=
 { nt:=44,res:=[.cell 4 (some 1)],body:=
 (.seq (.ops [xB 1 2 0,
 xB 1 3 1,
 ⟨some 4,.new (.new 1 [.agg [.snil 11]]),[],none⟩])
 (.seq (.draw 2 [[xF 0 7 2,
 xR 8 7,
 xP 9 (.iaddrS 11) [.t 8,.c (.int .i64 0)],
 xL 11 10 9,
 xF 0 11 3,
 ⟨some 5,.newAt 0 (.new 11 [z2]),[],none⟩,
 ⟨some 6,.newAt 1 (.new 11 [z2]),[],none⟩,
 xR 12 11,
 xP 13 (.iaddrS 11) [.t 12,.c (.int .i64 0)],
 xL 11 14 13,
 xS 11 5 10,
 xS 11 6 14],
 [xF 0 7 2,
 xR 8 7,
 xP 9 (.iaddrS 11) [.t 8,.c (.int .i64 0)],
 xL 11 10 9,
 xF 0 11 3,
 ⟨some 5,.newAt 0 (.new 11 [z2]),[],none⟩,
 ⟨some 6,.newAt 1 (.new 11 [z2]),[],none⟩,
 xR 12 11,
 xP 13 (.iaddrS 11) [.t 12,.c (.int .i64 0)],
 xS 11 5 10,
 xL 11 14 13,
 xS 11 6 14],
 [xF 0 7 2,
 xR 8 7,
 xP 9 (.iaddrS 11) [.t 8,.c (.int .i64 0)],
 xL 11 10 9,
 xF 0 11 3,
 ⟨some 5,.newAt 0 (.new 11 [z2]),[],none⟩,
 ⟨some 6,.newAt 1 (.new 11 [z2]),[],none⟩,
 xS 11 5 10,
 xR 12 11,
 xP 13 (.iaddrS 11) [.t 12,.c (.int .i64 0)],
 xL 11 14 13,
 xS 11 6 14]])
 (.seq (.seq (.ops [xF 0 15 6,
 xF 1 16 15,
 xL 3 17 16,
 xF 0 18 5,
 xF 1 19 18,
 xL 3 20 19,
 xK 21 634 [.t 17,.t 20],
 xP 22 (.bin .lss) [.t 21,.c (.int .i64 0)]])
 (.cond (.t 22)
 (.ops [xF 0 23 6,
 xL 5 24 23,
 xF 0 25 5,
 xS 5 25 24])
 .skip))
 (.seq (.seq (.ops [xF 5 26 6,
 xF 1 27 26,
 xL 3 28 27,
 xF 5 29 5,
 xF 1 30 29,
 xL 3 31 30,
 xK 32 634 [.t 28,.t 31],
 xP 33 (.bin .gtr) [.t 32,.c (.int .i64 0)]])
 (.cond (.t 33)
 (.ops [xF 5 34 6,
 xL 5 35 34,
 xF 5 36 5,
 xS 5 36 35])
 .skip))
 (.seq (.seq (.ops [xF 10 37 6,
 xR 38 37,
 xP 39 (.bin .eql) [.t 38,.c (.int .i64 0)]])
 (.cond (.t 39)
 (.ops [xF 10 40 5,
 ⟨none,.eff (.store 1),[.t 40,.c (.int .i64 0)],none⟩])
 .skip))
 (.seq (.ops [xL 11 41 5,
 ⟨some 42,.new (.buildSlice 11 [z2] [0]),[.t 41],none⟩,
 ⟨some 43,.pure (.build [.snil 11] [(0,1)]),[.t 42],none⟩,
 xS 1 4 43])
 .ret)))))) }
/-- datakit/datakitref52.props -/
def qdK:AFn:=
 { nt:=129,res:=[.tmp 4],body:=
 (.seq (.ops [xC 4 (.snil 17)])
 (.seq (.ops [xC 5 (.snil 17)])
 (.seq (.ops [xC 6 (.int .i64 0),
 xC 7 (.int .i64 0)])
 (.seq (.block 0
 (.loop [0,1,5,6,7]
 (.seq (.seq (.ops [xM 8 6,
 xM 9 0,
 xP 10 .lenL [.t 9],
 xP 11 (.bin .lss) [.t 8,.t 10],
 xM 12 11,
 yM 13 7 12 false,
 yM 14 1 12 false,
 yP 15 .lenL [.t 14] 12 false,
 yP 16 (.bin .lss) [.t 13,.t 15] 12 false,
 xP 17 .pick [.t 12,.c (.bool true),.t 16]])
 (.cond (.t 17)
 .skip
 (.exit 0)))
 (.block 1
 (.block 2
 (.seq (.ops [xM 55 7,
 xM 56 1,
 xP 57 .lenL [.t 56],
 xP 58 (.bin .eql) [.t 55,.t 57],
 xM 59 58,
 yM 60 6 59 false,
 yM 61 0 59 false,
 yP 62 .lenL [.t 61] 59 false,
 yP 63 (.bin .lss) [.t 60,.t 62] 59 false,
 yM 64 63 59 false,
 yM 65 0 64 true,
 yM 66 6 64 true,
 yP 67 (.iaddrS 17) [.t 65,.t 66] 64 true,
 yF 0 68 67 64 true,
 yR 69 68 64 true,
 yM 70 1 64 true,
 yM 71 7 64 true,
 yP 72 (.iaddrS 17) [.t 70,.t 71] 64 true,
 yF 0 73 72 64 true,
 yR 74 73 64 true,
 yP 75 (.bin .lss) [.t 69,.t 74] 64 true,
 yP 76 .pick [.t 64,.t 75,.c (.bool false)] 59 false,
 xP 77 .pick [.t 59,.c (.bool true),.t 76],
 xM 54 77])
 (.cond (.t 54)
 (.seq (.draw 1 [[xM 78 5,
 xM 79 0,
 xM 80 6,
 xI 17 81 79 80,
 xF 0 82 81,
 xR 83 82,
 xM 84 0,
 xM 85 6,
 xI 17 86 84 85,
 xF 2 87 86,
 xL 15 88 87,
 ⟨some 89,.pure (.build [.str [],.bool false,.int .i64 0,.int .i64 0,.int .i64 0,.int .i64 0,.str [],.snil 11,.int .i64 0,.int .i64 0,.int .i64 0,.int .i64 0,.int .i64 0,.snil 6,.snil 13,.snil 17,.snil 15] [(0,1),(2,15)]),[.t 83,.t 88],none⟩,
 ⟨some 90,.newAt 0 (.buildSlice 17 [z4] [0]),[.t 89],none⟩,
 ⟨some 91,.eff (.append 17 232),[.t 78,.t 90],none⟩,
 xM 5 91]])
 (.ops [xM 92 6,
 xP 93 (.bin .add) [.t 92,.c (.int .i64 1)],
 xM 6 93]))
 (.seq (.ops [xM 95 6,
 xM 96 0,
 xP 97 .lenL [.t 96],
 xP 98 (.bin .eql) [.t 95,.t 97],
 xM 99 98,
 yM 100 1 99 false,
 yM 101 7 99 false,
 yP 102 (.iaddrS 17) [.t 100,.t 101] 99 false,
 yF 0 103 102 99 false,
 yR 104 103 99 false,
 yM 105 0 99 false,
 yM 106 6 99 false,
 yP 107 (.iaddrS 17) [.t 105,.t 106] 99 false,
 yF 0 108 107 99 false,
 yR 109 108 99 false,
 yP 110 (.bin .lss) [.t 104,.t 109] 99 false,
 xP 111 .pick [.t 99,.c (.bool true),.t 110],
 xM 94 111])
 (.cond (.t 94)
 (.seq (.draw 1 [[xM 112 5,
 xM 113 1,
 xM 114 7,
 xI 17 115 113 114,
 xF 0 116 115,
 xR 117 116,
 xM 118 1,
 xM 119 7,
 xI 17 120 118 119,
 xF 2 121 120,
 xL 15 122 121,
 ⟨some 123,.pure (.build [.str [],.bool false,.int .i64 0,.int .i64 0,.int .i64 0,.int .i64 0,.str [],.snil 11,.int .i64 0,.int .i64 0,.int .i64 0,.int .i64 0,.int .i64 0,.snil 6,.snil 13,.snil 17,.snil 15] [(0,1),(2,15)]),[.t 117,.t 122],none⟩,
 ⟨some 124,.newAt 0 (.buildSlice 17 [z4] [0]),[.t 123],none⟩,
 ⟨some 125,.eff (.append 17 232),[.t 112,.t 124],none⟩,
 xM 5 125]])
 (.ops [xM 126 7,
 xP 127 (.bin .add) [.t 126,.c (.int .i64 1)],
 xM 7 127]))
 (.seq (.draw 1 [[xM 18 5,
 xM 19 0,
 xM 20 6,
 xI 17 21 19 20,
 xF 0 22 21,
 xR 23 22,
 xM 24 0,
 xM 25 6,
 xI 17 26 24 25,
 xF 1 27 26,
 xR 28 27,
 xM 29 28,
 yM 30 1 29 true,
 yM 31 7 29 true,
 yP 32 (.iaddrS 17) [.t 30,.t 31] 29 true,
 yF 1 33 32 29 true,
 yR 34 33 29 true,
 xP 35 .pick [.t 29,.t 34,.c (.bool false)],
 xM 36 0,
 xM 37 6,
 xI 17 38 36 37,
 xF 2 39 38,
 xL 15 40 39,
 xM 41 1,
 xM 42 7,
 xI 17 43 41 42,
 xF 2 44 43,
 xL 15 45 44,
 xK 46 978 [.t 40,.t 45],
 ⟨some 47,.pure (.build [.str [],.bool false,.int .i64 0,.int .i64 0,.int .i64 0,.int .i64 0,.str [],.snil 11,.int .i64 0,.int .i64 0,.int .i64 0,.int .i64 0,.int .i64 0,.snil 6,.snil 13,.snil 17,.snil 15] [(0,1),(1,1),(2,15)]),[.t 23,.t 35,.t 46],none⟩,
 ⟨some 48,.newAt 0 (.buildSlice 17 [z4] [0]),[.t 47],none⟩,
 ⟨some 49,.eff (.append 17 232),[.t 18,.t 48],none⟩,
 xM 5 49]])
 (.seq (.ops [xM 50 6,
 xP 51 (.bin .add) [.t 50,.c (.int .i64 1)],
 xM 6 51])
 (.ops [xM 52 7,
 xP 53 (.bin .add) [.t 52,.c (.int .i64 1)],
 xM 7 53]))))))))))))
 (.seq (.ops [xM 128 5,
 xM 4 128])
 .ret))))) }
/-- datakit/infer.copied -/
def qeU:AFn:=
 { nt:=54,res:=[.cell 2 (some 15)],body:=
 (.seq (.ops [xB 15 1 0,
 xN 2 15 z0])
 (.seq (.ops [xL 15 8 1,
 xN 3 15 z0,
 xS 15 3 8])
 (.seq (.ops [xF 5 9 1,
 xF 0 10 9,
 xR 11 10,
 ⟨some 12,.call 216,[.t 11],none⟩,
 xF 5 13 3,
 xF 0 14 13,
 xS 1 14 12])
 (.seq (.ops [xF 13 15 3,
 ⟨none,.eff (.store 1),[.t 15,.c (.snil 17)],none⟩,
 xF 14 16 3,
 ⟨none,.eff (.store 1),[.t 16,.c (.snil 15)],none⟩])
 (.seq (.seq (.ops [xF 13 17 1,
 xR 18 17,
 xP 19 .lenL [.t 18],
 xC 20 (.int .i64 0)])
 (.block 0
 (.loop [1,2,3,18,19,20]
 (.seq (.ops [xP 21 (.bin .lss) [.t 20,.t 19]])
 (.seq (.cond (.t 21)
 .skip
 (.exit 0))
 (.seq (.block 1
 (.seq (.ops [xI 17 22 18 20,
 xL 17 23 22,
 xN 5 17 z4,
 xS 17 5 23])
 (.draw 1 [[xF 13 24 3,
 xR 25 24,
 xF 0 26 5,
 xR 27 26,
 xF 1 28 5,
 xR 29 28,
 xF 2 30 5,
 xL 15 31 30,
 xK 32 985 [.t 31],
 ⟨some 33,.pure (.build [.str [],.bool false,.int .i64 0,.int .i64 0,.int .i64 0,.int .i64 0,.str [],.snil 11,.int .i64 0,.int .i64 0,.int .i64 0,.int .i64 0,.int .i64 0,.snil 6,.snil 13,.snil 17,.snil 15] [(0,1),(1,1),(2,15)]),[.t 27,.t 29,.t 32],none⟩,
 ⟨some 34,.newAt 0 (.buildSlice 17 [z4] [0]),[.t 33],none⟩,
 ⟨some 35,.eff (.append 17 232),[.t 25,.t 34],none⟩,
 xF 13 36 3,
 xS 1 36 35]])))
 (.ops [xP 37 (.bin .add) [.t 20,.c (.int .i64 1)],
 xM 20 37])))))))
 (.seq (.seq (.ops [xF 14 38 1,
 xR 39 38,
 xP 40 .lenL [.t 39],
 xC 41 (.int .i64 0)])
 (.block 2
 (.loop [2,3,39,40,41]
 (.seq (.ops [xP 42 (.bin .lss) [.t 41,.t 40]])
 (.seq (.cond (.t 42)
 .skip
 (.exit 2))
 (.seq (.block 3
 (.seq (.ops [xI 15 43 39 41,
 xL 15 44 43,
 xN 7 15 z0,
 xS 15 7 44])
 (.draw 1 [[xF 14 45 3,
 xR 46 45,
 xL 15 47 7,
 xK 48 985 [.t 47],
 ⟨some 49,.newAt 0 (.buildSlice 15 [z0] [0]),[.t 48],none⟩,
 ⟨some 50,.eff (.append 15 208),[.t 46,.t 49],none⟩,
 xF 14 51 3,
 xS 1 51 50]])))
 (.ops [xP 52 (.bin .add) [.t 41,.c (.int .i64 1)],
 xM 41 52])))))))
 (.seq (.ops [xL 15 53 3,
 xS 15 2 53])
 .ret))))))) }
def qeQ (f:Nat):Option AFn:=match q8H f with
 | some a=>some a
 | none=>qcU f
def qp0:Nat→Option AFn
 | 957=>some qgQ
 | 962=>some qkM
 | 963=>some qk1
 | 964=>some qh1
 | 965=>some qhp
 | 966=>some qiW
 | 967=>some qjy
 | 974=>some qbZ
 | 975=>some q9W
 | 976=>some qgd
 | 977=>some qkT
 | 978=>some qbR
 | 979=>some qbV
 | 980=>some qf3
 | 986=>some qkX
 | 987=>some q6W
 | 989=>some qkR
 | 990=>some ql3
 | 991=>some q6T
 | 992=>some qiI
 | 993=>some qiy
 | 995=>some ql2
 | 999=>some qjR
 | 1000=>some qe3
 | 1001=>some qdK
 | _=>none
def q8S (f:Nat):Option AFn:=match qeQ f with
 | some a=>some a
 | none=>qp0 f
def qaY:Nat→Option AFn
 | 985=>some qeU
 | _=>none
def CC:Ctx:=q5c (q5g qaY qd3 qdJ) csQ lnQ ssQ
def qkL:List AV→Bool
 | [.agg (.int _ 4::_)]=>true
 | _=>false
/-- What a call of copied does: the copy of a member of numbers that both makes is one in the heap,any other one is a tree. -/
def cpL (a:List AV) (H:Heap) (v:AV) (H':Heap):Prop:=
 ((qkL a && H.length == 3)=true∧q1M CC 985 a H v H')∨((qkL a && H.length == 3)=false∧q0f CC 985 a v∧q1v (frz H 6) a=some a∧H'=q0t H a v)
def noI (_:Nat):Bool:=false
def lnI (f:Nat):Bool:=f == 551 || f == 988
def soI:Nat→Option Nat
 | 861=>some 17
 | _=>none
def CI0:Ctx:=q9t (q5c (q5g q8S qd3 qdJ) noI lnI ssQ) ppN
def CI:Ctx:=qbN (q4f CI0 soI) 985 cpL
end Ago
