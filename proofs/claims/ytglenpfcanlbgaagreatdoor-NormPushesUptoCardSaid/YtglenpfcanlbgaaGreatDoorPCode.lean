/- The abstract code of the functions,printed by program. -/
import Derived.Test.YtglenpfcanlbgaaGreatDoorPCodeZ
import Derived.Test.YtglenpfcanlbgaaGreatDoorPMachH
set_option linter.unusedSimpArgs false
set_option linter.unusedVariables false
set_option maxRecDepth 100000
namespace Ago
/-- datakit/datakitref15.Valid -/
def ac340:AFn:=
 { nt:=10,res:=[.tmp 2],body:=
 (.seq (.ops [xB 6 1 0,
 xC 2 (.bool false)])
 (.seq (.ops [xL 6 3 1,
 xK 4 360 [.t 3,.c (.int .i64 48)],
 xM 5 4,
 yL 6 6 1 5 true,
 yK 7 357 [.t 6] 5 true,
 yP 8 (.bin .leq) [.t 7,.c (.int .i64 512)] 5 true,
 xP 9 .pick [.t 5,.t 8,.c (.bool false)],
 xM 2 9])
 .ret)) }
/-- datakit/datakitref15.Size -/
def ac357:AFn:=
 { nt:=5,res:=[.tmp 2],body:=
 (.seq (.ops [xB 6 1 0,
 xC 2 (.int .i64 0)])
 (.seq (.ops [xL 6 3 1,
 xK 4 376 [.t 3,.c (.int .i64 48)],
 xM 2 4])
 .ret)) }
/-- datakit/datakitref15.nodes -/
def ac360:AFn:=
 { nt:=29,res:=[.tmp 4],body:=
 (.seq (.ops [xB 6 2 0,
 xC 4 (.bool false)])
 (.seq (.seq (.ops [xM 6 1,
 xP 7 (.bin .lss) [.t 6,.c (.int .i64 1)],
 xM 8 7,
 yL 6 9 2 8 false,
 yK 10 384 [.t 9] 8 false,
 yP 11 (.un .not) [.t 10] 8 false,
 xP 12 .pick [.t 8,.c (.bool true),.t 11]])
 (.cond (.t 12)
 (.seq (.ops [xC 4 (.bool false)])
 .ret)
 .skip))
 (.seq (.seq (.ops [xC 5 (.int .i64 0)])
 (.block 0
 (.loop [1,2,5]
 (.seq (.seq (.ops [xM 13 5,
 xF 5 14 2,
 xR 15 14,
 xP 16 .lenL [.t 15],
 xP 17 (.bin .lss) [.t 13,.t 16]])
 (.cond (.t 17)
 .skip
 (.exit 0)))
 (.seq (.block 1
 (.seq (.ops [xF 5 20 2,
 xR 21 20,
 xM 22 5,
 xI 6 23 21 22,
 xL 6 24 23,
 xM 25 1,
 xP 26 (.bin .sub) [.t 25,.c (.int .i64 1)],
 xK 27 360 [.t 24,.t 26],
 xP 28 (.un .not) [.t 27]])
 (.cond (.t 28)
 (.seq (.ops [xC 4 (.bool false)])
 .ret)
 .skip)))
 (.ops [xM 18 5,
 xP 19 (.bin .add) [.t 18,.c (.int .i64 1)],
 xM 5 19]))))))
 (.seq (.ops [xC 4 (.bool true)])
 .ret)))) }
/-- datakit/datakitref15.count -/
def ac376:AFn:=
 { nt:=27,res:=[.tmp 4],body:=
 (.seq (.ops [xB 6 2 0,
 xC 4 (.int .i64 0)])
 (.seq (.seq (.ops [xM 7 1,
 xP 8 (.bin .lss) [.t 7,.c (.int .i64 1)]])
 (.cond (.t 8)
 (.seq (.ops [xC 4 (.int .i64 0)])
 .ret)
 .skip))
 (.seq (.ops [xC 5 (.int .i64 1)])
 (.seq (.seq (.ops [xC 6 (.int .i64 0)])
 (.block 0
 (.loop [1,2,5,6]
 (.seq (.seq (.ops [xM 9 6,
 xF 5 10 2,
 xR 11 10,
 xP 12 .lenL [.t 11],
 xP 13 (.bin .lss) [.t 9,.t 12]])
 (.cond (.t 13)
 .skip
 (.exit 0)))
 (.seq (.block 1
 (.ops [xM 16 5,
 xF 5 17 2,
 xR 18 17,
 xM 19 6,
 xI 6 20 18 19,
 xL 6 21 20,
 xM 22 1,
 xP 23 (.bin .sub) [.t 22,.c (.int .i64 1)],
 xK 24 376 [.t 21,.t 23],
 xP 25 (.bin .add) [.t 16,.t 24],
 xM 5 25]))
 (.ops [xM 14 6,
 xP 15 (.bin .add) [.t 14,.c (.int .i64 1)],
 xM 6 15]))))))
 (.seq (.ops [xM 26 5,
 xM 4 26])
 .ret))))) }
/-- datakit/datakitref15.node -/
def ac384:AFn:=
 { nt:=156,res:=[.tmp 2],body:=
 (.seq (.ops [xB 6 1 0,
 xC 2 (.bool false)])
 (.seq (.ops [xF 5 4 1,
 xR 5 4,
 xP 6 .lenL [.t 5],
 xM 3 6])
 (.seq (.seq (.ops [xF 0 7 1,
 xR 8 7])
 (.block 0
 (.seq (.seq (.ops [xP 10 (.bin .eql) [.t 8,.c (.int .i64 0)],
 xM 9 10])
 (.cond (.t 9)
 .skip
 (.ops [xP 11 (.bin .eql) [.t 8,.c (.int .i64 1)],
 xM 9 11])))
 (.cond (.t 9)
 (.seq (.ops [xM 12 3,
 xP 13 (.bin .eql) [.t 12,.c (.int .i64 0)],
 xM 14 13,
 yF 1 15 1 14 true,
 yR 16 15 14 true,
 yP 17 (.bin .eql) [.t 16,.c (.int .i64 0)] 14 true,
 xP 18 .pick [.t 14,.t 17,.c (.bool false)],
 xM 19 18,
 yF 2 20 1 19 true,
 yR 21 20 19 true,
 yP 22 (.bin .eql) [.t 21,.c (.int .i64 0)] 19 true,
 xP 23 .pick [.t 19,.t 22,.c (.bool false)],
 xM 24 23,
 yF 3 25 1 24 true,
 yR 26 25 24 true,
 yP 27 (.bin .eql) [.t 26,.c (.int .i64 0)] 24 true,
 xP 28 .pick [.t 24,.t 27,.c (.bool false)],
 xM 29 28,
 yF 4 30 1 29 true,
 yR 31 30 29 true,
 yP 32 (.bin .eql) [.t 31,.c (.int .i64 0)] 29 true,
 xP 33 .pick [.t 29,.t 32,.c (.bool false)],
 xM 2 33])
 .ret)
 (.seq (.ops [xP 35 (.bin .eql) [.t 8,.c (.int .i64 2)],
 xM 34 35])
 (.cond (.t 34)
 (.seq (.ops [xM 36 3,
 xP 37 (.bin .eql) [.t 36,.c (.int .i64 0)],
 xM 38 37,
 yF 1 39 1 38 true,
 yR 40 39 38 true,
 yP 41 (.bin .geq) [.t 40,.c (.int .i64 0)] 38 true,
 xP 42 .pick [.t 38,.t 41,.c (.bool false)],
 xM 43 42,
 yF 1 44 1 43 true,
 yR 45 44 43 true,
 yF 2 46 1 43 true,
 yR 47 46 43 true,
 yP 48 (.bin .leq) [.t 45,.t 47] 43 true,
 xP 49 .pick [.t 43,.t 48,.c (.bool false)],
 xM 50 49,
 yF 2 51 1 50 true,
 yR 52 51 50 true,
 yP 53 (.bin .leq) [.t 52,.c (.int .i64 255)] 50 true,
 xP 54 .pick [.t 50,.t 53,.c (.bool false)],
 xM 55 54,
 yF 3 56 1 55 true,
 yR 57 56 55 true,
 yP 58 (.bin .eql) [.t 57,.c (.int .i64 0)] 55 true,
 xP 59 .pick [.t 55,.t 58,.c (.bool false)],
 xM 60 59,
 yF 4 61 1 60 true,
 yR 62 61 60 true,
 yP 63 (.bin .eql) [.t 62,.c (.int .i64 0)] 60 true,
 xP 64 .pick [.t 60,.t 63,.c (.bool false)],
 xM 2 64])
 .ret)
 (.seq (.seq (.ops [xP 66 (.bin .eql) [.t 8,.c (.int .i64 3)],
 xM 65 66])
 (.cond (.t 65)
 .skip
 (.seq (.ops [xP 67 (.bin .eql) [.t 8,.c (.int .i64 4)],
 xM 65 67])
 (.cond (.t 65)
 .skip
 (.ops [xP 68 (.bin .eql) [.t 8,.c (.int .i64 6)],
 xM 65 68])))))
 (.cond (.t 65)
 (.seq (.ops [xM 69 3,
 xP 70 (.bin .geq) [.t 69,.c (.int .i64 2)],
 xM 71 70,
 yF 1 72 1 71 true,
 yR 73 72 71 true,
 yP 74 (.bin .eql) [.t 73,.c (.int .i64 0)] 71 true,
 xP 75 .pick [.t 71,.t 74,.c (.bool false)],
 xM 76 75,
 yF 2 77 1 76 true,
 yR 78 77 76 true,
 yP 79 (.bin .eql) [.t 78,.c (.int .i64 0)] 76 true,
 xP 80 .pick [.t 76,.t 79,.c (.bool false)],
 xM 81 80,
 yF 3 82 1 81 true,
 yR 83 82 81 true,
 yP 84 (.bin .eql) [.t 83,.c (.int .i64 0)] 81 true,
 xP 85 .pick [.t 81,.t 84,.c (.bool false)],
 xM 86 85,
 yF 4 87 1 86 true,
 yR 88 87 86 true,
 yP 89 (.bin .eql) [.t 88,.c (.int .i64 0)] 86 true,
 xP 90 .pick [.t 86,.t 89,.c (.bool false)],
 xM 2 90])
 .ret)
 (.seq (.ops [xP 92 (.bin .eql) [.t 8,.c (.int .i64 5)],
 xM 91 92])
 (.cond (.t 91)
 (.seq (.ops [xM 93 3,
 xP 94 (.bin .eql) [.t 93,.c (.int .i64 1)],
 xM 95 94,
 yF 1 96 1 95 true,
 yR 97 96 95 true,
 yP 98 (.bin .eql) [.t 97,.c (.int .i64 0)] 95 true,
 xP 99 .pick [.t 95,.t 98,.c (.bool false)],
 xM 100 99,
 yF 2 101 1 100 true,
 yR 102 101 100 true,
 yP 103 (.bin .eql) [.t 102,.c (.int .i64 0)] 100 true,
 xP 104 .pick [.t 100,.t 103,.c (.bool false)],
 xM 105 104,
 yF 3 106 1 105 true,
 yR 107 106 105 true,
 yP 108 (.bin .geq) [.t 107,.c (.int .i64 0)] 105 true,
 xP 109 .pick [.t 105,.t 108,.c (.bool false)],
 xM 110 109,
 yF 3 111 1 110 true,
 yR 112 111 110 true,
 yP 113 (.bin .leq) [.t 112,.c (.int .i64 64)] 110 true,
 xP 114 .pick [.t 110,.t 113,.c (.bool false)],
 xM 115 114,
 yF 4 116 1 115 true,
 yR 117 116 115 true,
 yP 118 (.bin .eql) [.t 117,.c (.int .i64 (-1))] 115 true,
 yM 119 118 115 true,
 yF 4 120 1 119 false,
 yR 121 120 119 false,
 yF 3 122 1 119 false,
 yR 123 122 119 false,
 yP 124 (.bin .geq) [.t 121,.t 123] 119 false,
 yM 125 124 119 false,
 yF 4 126 1 125 true,
 yR 127 126 125 true,
 yP 128 (.bin .leq) [.t 127,.c (.int .i64 64)] 125 true,
 yP 129 .pick [.t 125,.t 128,.c (.bool false)] 119 false,
 yP 130 .pick [.t 119,.c (.bool true),.t 129] 115 true,
 xP 131 .pick [.t 115,.t 130,.c (.bool false)],
 xM 2 131])
 .ret)
 (.seq (.ops [xP 133 (.bin .eql) [.t 8,.c (.int .i64 7)],
 xM 132 133])
 (.cond (.t 132)
 (.seq (.ops [xM 134 3,
 xP 135 (.bin .eql) [.t 134,.c (.int .i64 1)],
 xM 136 135,
 yF 1 137 1 136 true,
 yR 138 137 136 true,
 yP 139 (.bin .eql) [.t 138,.c (.int .i64 0)] 136 true,
 xP 140 .pick [.t 136,.t 139,.c (.bool false)],
 xM 141 140,
 yF 2 142 1 141 true,
 yR 143 142 141 true,
 yP 144 (.bin .eql) [.t 143,.c (.int .i64 0)] 141 true,
 xP 145 .pick [.t 141,.t 144,.c (.bool false)],
 xM 146 145,
 yF 3 147 1 146 true,
 yR 148 147 146 true,
 yP 149 (.bin .eql) [.t 148,.c (.int .i64 0)] 146 true,
 xP 150 .pick [.t 146,.t 149,.c (.bool false)],
 xM 151 150,
 yF 4 152 1 151 true,
 yR 153 152 151 true,
 yP 154 (.bin .eql) [.t 153,.c (.int .i64 0)] 151 true,
 xP 155 .pick [.t 151,.t 154,.c (.bool false)],
 xM 2 155])
 .ret)
 .skip))))))))))))
 (.seq (.ops [xC 2 (.bool false)])
 .ret)))) }
/-- datakit/datakitlaw45.SmallAll -/
def ac453:AFn:=
 { nt:=44,res:=[.tmp 2],body:=
 (.seq (.ops [xB 16 1 0,
 xC 2 (.bool false)])
 (.seq (.seq (.ops [xF 0 5 1,
 xR 6 5,
 xP 7 .lenL [.t 6],
 xP 8 (.bin .gtr) [.t 7,.c (.int .i64 70)],
 xM 9 8,
 yF 1 10 1 9 false,
 yL 15 11 10 9 false,
 yK 12 480 [.t 11] 9 false,
 yP 13 (.un .not) [.t 12] 9 false,
 xP 14 .pick [.t 9,.c (.bool true),.t 13]])
 (.cond (.t 14)
 (.seq (.ops [xC 2 (.bool false)])
 .ret)
 .skip))
 (.seq (.ops [xF 1 15 1,
 xL 15 16 15,
 xK 17 474 [.t 16],
 xM 3 17])
 (.seq (.seq (.ops [xC 4 (.int .i64 0)])
 (.block 0
 (.loop [1,3,4]
 (.seq (.seq (.ops [xM 18 4,
 xF 0 19 1,
 xR 20 19,
 xP 21 .lenL [.t 20],
 xP 22 (.bin .lss) [.t 18,.t 21]])
 (.cond (.t 22)
 .skip
 (.exit 0)))
 (.seq (.block 1
 (.seq (.seq (.ops [xF 0 25 1,
 xR 26 25,
 xM 27 4,
 xI 16 28 26 27,
 xF 1 29 28,
 xL 15 30 29,
 xK 31 480 [.t 30],
 xP 32 (.un .not) [.t 31]])
 (.cond (.t 32)
 (.seq (.ops [xC 2 (.bool false)])
 .ret)
 .skip))
 (.ops [xM 33 3,
 xF 0 34 1,
 xR 35 34,
 xM 36 4,
 xI 16 37 35 36,
 xF 1 38 37,
 xL 15 39 38,
 xK 40 474 [.t 39],
 xP 41 (.bin .add) [.t 33,.t 40],
 xM 3 41])))
 (.ops [xM 23 4,
 xP 24 (.bin .add) [.t 23,.c (.int .i64 1)],
 xM 4 24]))))))
 (.seq (.ops [xM 42 3,
 xP 43 (.bin .leq) [.t 42,.c (.int .i64 2200)],
 xM 2 43])
 .ret))))) }
/-- datakit/datakitref45.Check -/
def ac455:AFn:=
 { nt:=101,res:=[.tmp 2],body:=
 (.seq (.ops [xB 16 1 0,
 xC 2 (.int .i64 0)])
 (.seq (.ops [xF 1 12 1,
 xL 15 13 12,
 xK 14 474 [.t 13],
 xM 3 14])
 (.seq (.ops [xF 1 15 1,
 xL 15 16 15,
 xK 17 487 [.t 16,.c (.int .i64 48)],
 xM 4 17])
 (.seq (.seq (.ops [xC 5 (.int .i64 0)])
 (.block 0
 (.loop [1,3,4,5]
 (.seq (.seq (.ops [xM 18 5,
 xF 0 19 1,
 xR 20 19,
 xP 21 .lenL [.t 20],
 xP 22 (.bin .lss) [.t 18,.t 21]])
 (.cond (.t 22)
 .skip
 (.exit 0)))
 (.seq (.block 1
 (.seq (.ops [xF 0 25 1,
 xR 26 25,
 xM 27 5,
 xI 16 28 26 27,
 xL 16 29 28,
 ⟨some 6,.new (.new 16 [.agg [.str [],.int .i64 0,.int .i64 0,.int .i64 0,.int .i64 0,.str [],.snil 11,.int .i64 0,.int .i64 0,.int .i64 0,.int .i64 0,.int .i64 0,.snil 6,.snil 13,.snil 17,.snil 15]]),[],none⟩,
 xS 16 6 29])
 (.seq (.seq (.ops [xF 0 30 6,
 xR 31 30,
 xP 32 .lenS [.t 31],
 xP 33 (.bin .lss) [.t 32,.c (.int .i64 1)],
 xM 34 33,
 yF 0 35 6 34 false,
 yR 36 35 34 false,
 yP 37 .lenS [.t 36] 34 false,
 yP 38 (.bin .gtr) [.t 37,.c (.int .i64 64)] 34 false,
 xP 39 .pick [.t 34,.c (.bool true),.t 38],
 xM 40 39,
 yF 0 41 6 40 false,
 yR 42 41 40 false,
 yK 43 24 [.t 42] 40 false,
 yP 44 (.un .not) [.t 43] 40 false,
 xP 45 .pick [.t 40,.c (.bool true),.t 44]])
 (.cond (.t 45)
 (.seq (.ops [xC 2 (.int .i64 1)])
 .ret)
 .skip))
 (.seq (.seq (.ops [xC 7 (.int .i64 0)])
 (.block 2
 (.loop [1,3,4,5,6,7]
 (.seq (.seq (.ops [xM 46 7,
 xM 47 5,
 xP 48 (.bin .lss) [.t 46,.t 47]])
 (.cond (.t 48)
 .skip
 (.exit 2)))
 (.seq (.block 3
 (.seq (.ops [xF 0 51 1,
 xR 52 51,
 xM 53 7,
 xI 16 54 52 53,
 xF 0 55 54,
 xR 56 55,
 xF 0 57 6,
 xR 58 57,
 xP 59 (.bin .eql) [.t 56,.t 58]])
 (.cond (.t 59)
 (.seq (.ops [xC 2 (.int .i64 8)])
 .ret)
 .skip)))
 (.ops [xM 49 7,
 xP 50 (.bin .add) [.t 49,.c (.int .i64 1)],
 xM 7 50]))))))
 (.seq (.seq (.ops [xL 16 60 1,
 xF 1 61 6,
 xL 15 62 61,
 xK 63 488 [.t 60,.t 62,.c (.int .i64 48)],
 xM 8 63])
 (.seq (.ops [xM 64 8,
 xP 65 (.bin .neq) [.t 64,.c (.int .i64 0)]])
 (.cond (.t 65)
 (.seq (.ops [xM 66 8,
 xM 2 66])
 .ret)
 .skip)))
 (.seq (.ops [xM 67 3,
 xF 1 68 6,
 xL 15 69 68,
 xK 70 474 [.t 69],
 xP 71 (.bin .add) [.t 67,.t 70],
 xM 3 71])
 (.ops [xM 72 4,
 xM 73 72,
 yF 1 74 6 73 false,
 yL 15 75 74 73 false,
 yK 76 487 [.t 75,.c (.int .i64 48)] 73 false,
 xP 77 .pick [.t 73,.c (.bool true),.t 76],
 xM 4 77])))))))
 (.ops [xM 23 5,
 xP 24 (.bin .add) [.t 23,.c (.int .i64 1)],
 xM 5 24]))))))
 (.seq (.seq (.ops [xL 16 78 1,
 xF 1 79 1,
 xL 15 80 79,
 xK 81 488 [.t 78,.t 80,.c (.int .i64 48)],
 xM 9 81])
 (.seq (.ops [xM 82 9,
 xP 83 (.bin .neq) [.t 82,.c (.int .i64 0)]])
 (.cond (.t 83)
 (.seq (.ops [xM 84 9,
 xM 2 84])
 .ret)
 .skip)))
 (.seq (.seq (.ops [xM 85 4])
 (.cond (.t 85)
 (.seq (.ops [xC 2 (.int .i64 9)])
 .ret)
 .skip))
 (.seq (.seq (.ops [xM 86 3,
 xP 87 (.bin .gtr) [.t 86,.c (.int .i64 1024)],
 xM 88 87,
 yF 0 89 1 88 false,
 yR 90 89 88 false,
 yP 91 .lenL [.t 90] 88 false,
 yP 92 (.bin .gtr) [.t 91,.c (.int .i64 64)] 88 false,
 xP 93 .pick [.t 88,.c (.bool true),.t 92]])
 (.cond (.t 93)
 (.seq (.ops [xC 2 (.int .i64 10)])
 .ret)
 .skip))
 (.seq (.seq (.ops [xL 16 95 1,
 xK 96 460 [.t 95],
 xM 94 96,
 xP 97 (.ext 0) [.t 94],
 xP 98 (.ext 1) [.t 94],
 xM 10 97,
 xM 11 98])
 (.seq (.ops [xM 99 11,
 xP 100 (.un .not) [.t 99]])
 (.cond (.t 100)
 (.seq (.ops [xC 2 (.int .i64 23)])
 .ret)
 .skip)))
 (.seq (.ops [xC 2 (.int .i64 0)])
 .ret))))))))) }
/-- datakit/datakitref45.Lookup -/
def ac458:AFn:=
 { nt:=29,res:=[.cell 4 (some 15),.tmp 5],body:=
 (.seq (.ops [xB 16 2 0,
 xN 4 15 z0,
 xC 5 (.bool false)])
 (.seq (.seq (.ops [xC 6 (.int .i64 0)])
 (.block 0
 (.loop [1,2,4,6]
 (.seq (.seq (.ops [xM 7 6,
 xF 0 8 2,
 xR 9 8,
 xP 10 .lenL [.t 9],
 xP 11 (.bin .lss) [.t 7,.t 10]])
 (.cond (.t 11)
 .skip
 (.exit 0)))
 (.seq (.block 1
 (.seq (.ops [xF 0 14 2,
 xR 15 14,
 xM 16 6,
 xI 16 17 15 16,
 xF 0 18 17,
 xR 19 18,
 xM 20 1,
 xP 21 (.bin .eql) [.t 19,.t 20]])
 (.cond (.t 21)
 (.seq (.ops [xF 0 22 2,
 xR 23 22,
 xM 24 6,
 xI 16 25 23 24,
 xF 1 26 25,
 xL 15 27 26,
 xS 15 4 27,
 xC 5 (.bool true)])
 .ret)
 .skip)))
 (.ops [xM 12 6,
 xP 13 (.bin .add) [.t 12,.c (.int .i64 1)],
 xM 6 13]))))))
 (.seq (.ops [⟨some 28,.pure (.build [.int .i64 0,.int .i64 0,.int .i64 0,.int .i64 0,.str [],.snil 11,.int .i64 0,.int .i64 0,.int .i64 0,.int .i64 0,.int .i64 0,.snil 6,.snil 13,.snil 17,.snil 15] []),[],none⟩,
 xS 15 4 28,
 xC 5 (.bool false)])
 .ret))) }
/-- datakit/datakitref45.Guarded -/
def ac460:AFn:=
 { nt:=41,res:=[.tmp 2,.tmp 3],body:=
 (.seq (.ops [xB 16 1 0,
 xC 2 (.str []),
 xC 3 (.bool false)])
 (.seq (.seq (.ops [xC 4 (.int .i64 0)])
 (.block 0
 (.loop [1,4]
 (.seq (.seq (.ops [xM 7 4,
 xF 0 8 1,
 xR 9 8,
 xP 10 .lenL [.t 9],
 xP 11 (.bin .lss) [.t 7,.t 10]])
 (.cond (.t 11)
 .skip
 (.exit 0)))
 (.seq (.block 1
 (.seq (.draw 1 [[xL 16 15 1,
 xF 0 16 1,
 xR 17 16,
 xM 18 4,
 xI 16 19 17 18,
 xF 0 20 19,
 xR 21 20,
 xK 22 458 [.t 15,.t 21],
 xM 14 22,
 xP 23 (.ext 0) [.t 14],
 xP 24 (.ext 1) [.t 14],
 ⟨some 5,.newAt 0 (.new 15 [z0]),[],none⟩,
 xS 15 5 23,
 xM 6 24]])
 (.seq (.ops [xL 16 25 1,
 xL 15 26 5,
 xK 27 493 [.t 25,.t 26],
 xF 0 28 1,
 xR 29 28,
 xM 30 4,
 xI 16 31 29 30,
 xF 0 32 31,
 xR 33 32,
 xK 34 492 [.t 27,.t 33]])
 (.cond (.t 34)
 (.seq (.ops [xF 0 35 1,
 xR 36 35,
 xM 37 4,
 xI 16 38 36 37,
 xF 0 39 38,
 xR 40 39,
 xM 2 40,
 xC 3 (.bool false)])
 .ret)
 .skip))))
 (.ops [xM 12 4,
 xP 13 (.bin .add) [.t 12,.c (.int .i64 1)],
 xM 4 13]))))))
 (.seq (.ops [xC 2 (.str []),
 xC 3 (.bool true)])
 .ret))) }
/-- datakit/datakitref45.Same -/
def ac461:AFn:=
 { nt:=8,res:=[.tmp 4],body:=
 (.seq (.ops [xB 15 2 0,
 xB 15 3 1,
 xC 4 (.bool false)])
 (.seq (.ops [xL 15 5 2,
 xL 15 6 3,
 xK 7 494 [.t 5,.t 6,.c (.int .i64 48)],
 xM 4 7])
 .ret)) }
/-- datakit/datakitlaw46.Light -/
def ac467:AFn:=
 { nt:=9,res:=[.tmp 2],body:=
 (.seq (.ops [xB 16 1 0,
 xC 2 (.bool false)])
 (.seq (.ops [xL 16 3 1,
 xK 4 453 [.t 3],
 xM 5 4,
 yL 16 6 1 5 true,
 yK 7 500 [.t 6] 5 true,
 xP 8 .pick [.t 5,.t 7,.c (.bool false)],
 xM 2 8])
 .ret)) }
/-- datakit/datakitref45.Size -/
def ac474:AFn:=
 { nt:=5,res:=[.tmp 2],body:=
 (.seq (.ops [xB 15 1 0,
 xC 2 (.int .i64 0)])
 (.seq (.ops [xL 15 3 1,
 xK 4 507 [.t 3,.c (.int .i64 48)],
 xM 2 4])
 .ret)) }
/-- datakit/datakitlaw45.Small -/
def ac480:AFn:=
 { nt:=10,res:=[.tmp 2],body:=
 (.seq (.ops [xB 15 1 0,
 xC 2 (.bool false)])
 (.seq (.ops [xL 15 3 1,
 xK 4 508 [.t 3,.c (.int .i64 50)],
 xM 5 4,
 yL 15 6 1 5 true,
 yK 7 474 [.t 6] 5 true,
 yP 8 (.bin .leq) [.t 7,.c (.int .i64 1100)] 5 true,
 xP 9 .pick [.t 5,.t 8,.c (.bool false)],
 xM 2 9])
 .ret)) }
/-- datakit/datakitref45.deeper -/
def ac487:AFn:=
 { nt:=24,res:=[.tmp 4],body:=
 (.seq (.ops [xB 15 2 0,
 xC 4 (.bool false)])
 (.seq (.seq (.ops [xM 7 1,
 xP 8 (.bin .lss) [.t 7,.c (.int .i64 1)]])
 (.cond (.t 8)
 (.seq (.ops [xC 4 (.bool true)])
 .ret)
 .skip))
 (.seq (.ops [xL 15 9 2,
 xK 10 515 [.t 9],
 xM 5 10])
 (.seq (.seq (.ops [xC 6 (.int .i64 0)])
 (.block 0
 (.loop [1,5,6]
 (.seq (.seq (.ops [xM 11 6,
 xM 12 5,
 xP 13 .lenL [.t 12],
 xP 14 (.bin .lss) [.t 11,.t 13]])
 (.cond (.t 14)
 .skip
 (.exit 0)))
 (.seq (.block 1
 (.seq (.ops [xM 17 5,
 xM 18 6,
 xI 15 19 17 18,
 xL 15 20 19,
 xM 21 1,
 xP 22 (.bin .sub) [.t 21,.c (.int .i64 1)],
 xK 23 487 [.t 20,.t 22]])
 (.cond (.t 23)
 (.seq (.ops [xC 4 (.bool true)])
 .ret)
 .skip)))
 (.ops [xM 15 6,
 xP 16 (.bin .add) [.t 15,.c (.int .i64 1)],
 xM 6 16]))))))
 (.seq (.ops [xC 4 (.bool false)])
 .ret))))) }
/-- datakit/datakitref45.nodes -/
def ac488:AFn:=
 { nt:=38,res:=[.tmp 6],body:=
 (.seq (.ops [xB 16 3 0,
 xB 15 4 1,
 xC 6 (.int .i64 0)])
 (.seq (.seq (.ops [xM 11 2,
 xP 12 (.bin .lss) [.t 11,.c (.int .i64 1)]])
 (.cond (.t 12)
 (.seq (.ops [xC 6 (.int .i64 0)])
 .ret)
 .skip))
 (.seq (.seq (.ops [xL 16 13 3,
 xL 15 14 4,
 xK 15 516 [.t 13,.t 14],
 xM 7 15])
 (.seq (.ops [xM 16 7,
 xP 17 (.bin .neq) [.t 16,.c (.int .i64 0)]])
 (.cond (.t 17)
 (.seq (.ops [xM 18 7,
 xM 6 18])
 .ret)
 .skip)))
 (.seq (.ops [xL 15 19 4,
 xK 20 515 [.t 19],
 xM 8 20])
 (.seq (.seq (.ops [xC 9 (.int .i64 0)])
 (.block 0
 (.loop [2,3,8,9]
 (.seq (.seq (.ops [xM 21 9,
 xM 22 8,
 xP 23 .lenL [.t 22],
 xP 24 (.bin .lss) [.t 21,.t 23]])
 (.cond (.t 24)
 .skip
 (.exit 0)))
 (.seq (.block 1
 (.seq (.ops [xL 16 27 3,
 xM 28 8,
 xM 29 9,
 xI 15 30 28 29,
 xL 15 31 30,
 xM 32 2,
 xP 33 (.bin .sub) [.t 32,.c (.int .i64 1)],
 xK 34 488 [.t 27,.t 31,.t 33],
 xM 10 34])
 (.seq (.ops [xM 35 10,
 xP 36 (.bin .neq) [.t 35,.c (.int .i64 0)]])
 (.cond (.t 36)
 (.seq (.ops [xM 37 10,
 xM 6 37])
 .ret)
 .skip))))
 (.ops [xM 25 9,
 xP 26 (.bin .add) [.t 25,.c (.int .i64 1)],
 xM 9 26]))))))
 (.seq (.ops [xC 6 (.int .i64 0)])
 .ret)))))) }
/-- datakit/datakitref45.has -/
def ac492:AFn:=
 { nt:=18,res:=[.tmp 4],body:=
 (.seq (.ops [xC 4 (.bool false)])
 (.seq (.seq (.ops [xC 5 (.int .i64 0)])
 (.block 0
 (.loop [0,1,5]
 (.seq (.seq (.ops [xM 6 5,
 xM 7 0,
 xP 8 .lenL [.t 7],
 xP 9 (.bin .lss) [.t 6,.t 8]])
 (.cond (.t 9)
 .skip
 (.exit 0)))
 (.seq (.block 1
 (.seq (.ops [xM 12 0,
 xM 13 5,
 xI 1 14 12 13,
 xR 15 14,
 xM 16 1,
 xP 17 (.bin .eql) [.t 15,.t 16]])
 (.cond (.t 17)
 (.seq (.ops [xC 4 (.bool true)])
 .ret)
 .skip)))
 (.ops [xM 10 5,
 xP 11 (.bin .add) [.t 10,.c (.int .i64 1)],
 xM 5 11]))))))
 (.seq (.ops [xC 4 (.bool false)])
 .ret))) }
/-- datakit/datakitref45.reached -/
def ac493:AFn:=
 { nt:=56,res:=[.tmp 4],body:=
 (.seq (.ops [xB 16 2 0,
 xB 15 3 1,
 xC 4 (.snil 1)])
 (.seq (.ops [xL 15 13 3,
 xK 14 512 [.t 13,.c (.int .i64 48),.c (.bool true)],
 xM 5 14])
 (.seq (.seq (.ops [xC 6 (.int .i64 0)])
 (.block 0
 (.loop [2,5,6]
 (.seq (.seq (.ops [xM 15 6,
 xF 0 16 2,
 xR 17 16,
 xP 18 .lenL [.t 17],
 xP 19 (.bin .leq) [.t 15,.t 18]])
 (.cond (.t 19)
 .skip
 (.exit 0)))
 (.seq (.block 1
 (.seq (.ops [xM 22 5,
 xM 7 22])
 (.seq (.seq (.ops [xC 8 (.int .i64 0)])
 (.block 2
 (.loop [2,5,6,7,8]
 (.seq (.seq (.ops [xM 23 8,
 xM 24 5,
 xP 25 .lenL [.t 24],
 xP 26 (.bin .lss) [.t 23,.t 25]])
 (.cond (.t 26)
 .skip
 (.exit 2)))
 (.seq (.block 3
 (.seq (.draw 1 [[xL 16 30 2,
 xM 31 5,
 xM 32 8,
 xI 1 33 31 32,
 xR 34 33,
 xK 35 458 [.t 30,.t 34],
 xM 29 35,
 xP 36 (.ext 0) [.t 29],
 xP 37 (.ext 1) [.t 29],
 ⟨some 9,.newAt 0 (.new 15 [z0]),[],none⟩,
 xS 15 9 36,
 xM 10 37]])
 (.seq (.seq (.ops [xM 38 10,
 xP 39 (.un .not) [.t 38]])
 (.cond (.t 39)
 (.exit 3)
 .skip))
 (.seq (.ops [xL 15 40 9,
 xK 41 512 [.t 40,.c (.int .i64 48),.c (.bool true)],
 xM 11 41])
 (.seq (.ops [xC 12 (.int .i64 0)])
 (.block 4
 (.loop [2,5,6,7,8,11,12]
 (.seq (.seq (.ops [xM 42 12,
 xM 43 11,
 xP 44 .lenL [.t 43],
 xP 45 (.bin .lss) [.t 42,.t 44]])
 (.cond (.t 45)
 .skip
 (.exit 4)))
 (.seq (.block 5
 (.ops [xM 48 7,
 xM 49 11,
 xM 50 12,
 xI 1 51 49 50,
 xR 52 51,
 xK 53 521 [.t 48,.t 52],
 xM 7 53]))
 (.ops [xM 46 12,
 xP 47 (.bin .add) [.t 46,.c (.int .i64 1)],
 xM 12 47]))))))))))
 (.ops [xM 27 8,
 xP 28 (.bin .add) [.t 27,.c (.int .i64 1)],
 xM 8 28]))))))
 (.ops [xM 54 7,
 xM 5 54]))))
 (.ops [xM 20 6,
 xP 21 (.bin .add) [.t 20,.c (.int .i64 1)],
 xM 6 21]))))))
 (.seq (.ops [xM 55 5,
 xM 4 55])
 .ret)))) }
/-- datakit/datakitref45.same -/
def ac494:AFn:=
 { nt:=145,res:=[.tmp 6],body:=
 (.seq (.ops [xB 15 3 0,
 xB 15 4 1,
 xC 6 (.bool false)])
 (.seq (.seq (.ops [xM 11 2,
 xP 12 (.bin .lss) [.t 11,.c (.int .i64 1)],
 xM 13 12,
 yF 0 14 3 13 false,
 yR 15 14 13 false,
 yF 0 16 4 13 false,
 yR 17 16 13 false,
 yP 18 (.bin .neq) [.t 15,.t 17] 13 false,
 xP 19 .pick [.t 13,.c (.bool true),.t 18],
 xM 20 19,
 yF 1 21 3 20 false,
 yR 22 21 20 false,
 yF 1 23 4 20 false,
 yR 24 23 20 false,
 yP 25 (.bin .neq) [.t 22,.t 24] 20 false,
 xP 26 .pick [.t 20,.c (.bool true),.t 25],
 xM 27 26,
 yF 2 28 3 27 false,
 yR 29 28 27 false,
 yF 2 30 4 27 false,
 yR 31 30 27 false,
 yP 32 (.bin .neq) [.t 29,.t 31] 27 false,
 xP 33 .pick [.t 27,.c (.bool true),.t 32],
 xM 34 33,
 yF 3 35 3 34 false,
 yR 36 35 34 false,
 yF 3 37 4 34 false,
 yR 38 37 34 false,
 yP 39 (.bin .neq) [.t 36,.t 38] 34 false,
 xP 40 .pick [.t 34,.c (.bool true),.t 39],
 xM 41 40,
 yF 4 42 3 41 false,
 yR 43 42 41 false,
 yF 4 44 4 41 false,
 yR 45 44 41 false,
 yP 46 (.bin .neq) [.t 43,.t 45] 41 false,
 xP 47 .pick [.t 41,.c (.bool true),.t 46],
 xM 48 47,
 yF 13 49 3 48 false,
 yR 50 49 48 false,
 yP 51 .lenL [.t 50] 48 false,
 yF 13 52 4 48 false,
 yR 53 52 48 false,
 yP 54 .lenL [.t 53] 48 false,
 yP 55 (.bin .neq) [.t 51,.t 54] 48 false,
 xP 56 .pick [.t 48,.c (.bool true),.t 55],
 xM 57 56,
 yF 14 58 3 57 false,
 yR 59 58 57 false,
 yP 60 .lenL [.t 59] 57 false,
 yF 14 61 4 57 false,
 yR 62 61 57 false,
 yP 63 .lenL [.t 62] 57 false,
 yP 64 (.bin .neq) [.t 60,.t 63] 57 false,
 xP 65 .pick [.t 57,.c (.bool true),.t 64]])
 (.cond (.t 65)
 (.seq (.ops [xC 6 (.bool false)])
 .ret)
 .skip))
 (.seq (.seq (.ops [xF 5 66 3,
 xL 1 67 66,
 xF 5 68 4,
 xL 1 69 68,
 xK 70 522 [.t 67,.t 69],
 xP 71 (.un .not) [.t 70],
 xM 72 71,
 yF 6 73 3 72 false,
 yL 6 74 73 72 false,
 yF 6 75 4 72 false,
 yL 6 76 75 72 false,
 yK 77 523 [.t 74,.t 76] 72 false,
 yP 78 (.un .not) [.t 77] 72 false,
 xP 79 .pick [.t 72,.c (.bool true),.t 78],
 xM 80 79,
 yF 12 81 3 80 false,
 yR 82 81 80 false,
 yF 12 83 4 80 false,
 yR 84 83 80 false,
 yK 85 524 [.t 82,.t 84] 80 false,
 yP 86 (.un .not) [.t 85] 80 false,
 xP 87 .pick [.t 80,.c (.bool true),.t 86]])
 (.cond (.t 87)
 (.seq (.ops [xC 6 (.bool false)])
 .ret)
 .skip))
 (.seq (.seq (.ops [xC 7 (.int .i64 0)])
 (.block 0
 (.loop [2,3,4,7]
 (.seq (.seq (.ops [xM 88 7,
 xF 13 89 3,
 xR 90 89,
 xP 91 .lenL [.t 90],
 xP 92 (.bin .lss) [.t 88,.t 91]])
 (.cond (.t 92)
 .skip
 (.exit 0)))
 (.seq (.block 1
 (.seq (.ops [xF 13 95 3,
 xR 96 95,
 xM 97 7,
 xI 17 98 96 97,
 xF 0 99 98,
 xR 100 99,
 xF 13 101 4,
 xR 102 101,
 xM 103 7,
 xI 17 104 102 103,
 xF 0 105 104,
 xR 106 105,
 xP 107 (.bin .neq) [.t 100,.t 106],
 xM 108 107,
 yF 13 109 3 108 false,
 yR 110 109 108 false,
 yM 111 7 108 false,
 yP 112 (.iaddrS 17) [.t 110,.t 111] 108 false,
 yF 1 113 112 108 false,
 yR 114 113 108 false,
 yF 13 115 4 108 false,
 yR 116 115 108 false,
 yM 117 7 108 false,
 yP 118 (.iaddrS 17) [.t 116,.t 117] 108 false,
 yF 1 119 118 108 false,
 yR 120 119 108 false,
 yP 121 (.eqB true) [.t 114,.t 120] 108 false,
 xP 122 .pick [.t 108,.c (.bool true),.t 121]])
 (.cond (.t 122)
 (.seq (.ops [xC 6 (.bool false)])
 .ret)
 .skip)))
 (.ops [xM 93 7,
 xP 94 (.bin .add) [.t 93,.c (.int .i64 1)],
 xM 7 94]))))))
 (.seq (.ops [xL 15 123 3,
 xK 124 515 [.t 123],
 xL 15 125 4,
 xK 126 515 [.t 125],
 xM 8 124,
 xM 9 126])
 (.seq (.seq (.ops [xC 10 (.int .i64 0)])
 (.block 2
 (.loop [2,8,9,10]
 (.seq (.seq (.ops [xM 127 10,
 xM 128 8,
 xP 129 .lenL [.t 128],
 xP 130 (.bin .lss) [.t 127,.t 129]])
 (.cond (.t 130)
 .skip
 (.exit 2)))
 (.seq (.block 3
 (.seq (.ops [xM 133 8,
 xM 134 10,
 xI 15 135 133 134,
 xL 15 136 135,
 xM 137 9,
 xM 138 10,
 xI 15 139 137 138,
 xL 15 140 139,
 xM 141 2,
 xP 142 (.bin .sub) [.t 141,.c (.int .i64 1)],
 xK 143 494 [.t 136,.t 140,.t 142],
 xP 144 (.un .not) [.t 143]])
 (.cond (.t 144)
 (.seq (.ops [xC 6 (.bool false)])
 .ret)
 .skip)))
 (.ops [xM 131 10,
 xP 132 (.bin .add) [.t 131,.c (.int .i64 1)],
 xM 10 132]))))))
 (.seq (.ops [xC 6 (.bool true)])
 .ret))))))) }
/-- datakit/datakitref46.Light -/
def ac500:AFn:=
 { nt:=61,res:=[.tmp 2],body:=
 (.seq (.ops [xB 16 1 0,
 xC 2 (.bool false)])
 (.seq (.seq (.ops [xF 0 5 1,
 xR 6 5,
 xP 7 .lenL [.t 6],
 xP 8 (.bin .gtr) [.t 7,.c (.int .i64 6)],
 xM 9 8,
 yL 16 10 1 9 false,
 yF 1 11 1 9 false,
 yL 15 12 11 9 false,
 yK 13 545 [.t 10,.t 12,.c (.int .i64 8),.c (.int .i64 20000)] 9 false,
 yP 14 (.bin .lss) [.t 13,.c (.int .i64 0)] 9 false,
 xP 15 .pick [.t 9,.c (.bool true),.t 14]])
 (.cond (.t 15)
 (.seq (.ops [xC 2 (.bool false)])
 .ret)
 .skip))
 (.seq (.ops [xF 1 16 1,
 xL 15 17 16,
 xK 18 474 [.t 17],
 xM 3 18])
 (.seq (.seq (.ops [xC 4 (.int .i64 0)])
 (.block 0
 (.loop [1,3,4]
 (.seq (.seq (.ops [xM 19 4,
 xF 0 20 1,
 xR 21 20,
 xP 22 .lenL [.t 21],
 xP 23 (.bin .lss) [.t 19,.t 22]])
 (.cond (.t 23)
 .skip
 (.exit 0)))
 (.seq (.block 1
 (.seq (.seq (.ops [xF 0 26 1,
 xR 27 26,
 xM 28 4,
 xI 16 29 27 28,
 xF 1 30 29,
 xL 15 31 30,
 xK 32 546 [.t 31,.c (.int .i64 10)],
 xP 33 (.un .not) [.t 32],
 xM 34 33,
 yL 16 35 1 34 false,
 yF 0 36 1 34 false,
 yR 37 36 34 false,
 yM 38 4 34 false,
 yP 39 (.iaddrS 16) [.t 37,.t 38] 34 false,
 yF 1 40 39 34 false,
 yL 15 41 40 34 false,
 yK 42 545 [.t 35,.t 41,.c (.int .i64 8),.c (.int .i64 20000)] 34 false,
 yP 43 (.bin .lss) [.t 42,.c (.int .i64 0)] 34 false,
 xP 44 .pick [.t 34,.c (.bool true),.t 43]])
 (.cond (.t 44)
 (.seq (.ops [xC 2 (.bool false)])
 .ret)
 .skip))
 (.ops [xM 45 3,
 xF 0 46 1,
 xR 47 46,
 xM 48 4,
 xI 16 49 47 48,
 xF 1 50 49,
 xL 15 51 50,
 xK 52 474 [.t 51],
 xP 53 (.bin .add) [.t 45,.t 52],
 xM 3 53])))
 (.ops [xM 24 4,
 xP 25 (.bin .add) [.t 24,.c (.int .i64 1)],
 xM 4 25]))))))
 (.seq (.ops [xM 54 3,
 xP 55 (.bin .leq) [.t 54,.c (.int .i64 60)],
 xM 56 55,
 yF 1 57 1 56 true,
 yL 15 58 57 56 true,
 yK 59 546 [.t 58,.c (.int .i64 10)] 56 true,
 xP 60 .pick [.t 56,.t 59,.c (.bool false)],
 xM 2 60])
 .ret))))) }
/-- datakit/datakitref45.count -/
def ac507:AFn:=
 { nt:=28,res:=[.tmp 4],body:=
 (.seq (.ops [xB 15 2 0,
 xC 4 (.int .i64 0)])
 (.seq (.seq (.ops [xM 8 1,
 xP 9 (.bin .lss) [.t 8,.c (.int .i64 1)]])
 (.cond (.t 9)
 (.seq (.ops [xC 4 (.int .i64 0)])
 .ret)
 .skip))
 (.seq (.ops [xC 5 (.int .i64 1)])
 (.seq (.ops [xL 15 10 2,
 xK 11 515 [.t 10],
 xM 6 11])
 (.seq (.seq (.ops [xC 7 (.int .i64 0)])
 (.block 0
 (.loop [1,5,6,7]
 (.seq (.seq (.ops [xM 12 7,
 xM 13 6,
 xP 14 .lenL [.t 13],
 xP 15 (.bin .lss) [.t 12,.t 14]])
 (.cond (.t 15)
 .skip
 (.exit 0)))
 (.seq (.block 1
 (.ops [xM 18 5,
 xM 19 6,
 xM 20 7,
 xI 15 21 19 20,
 xL 15 22 21,
 xM 23 1,
 xP 24 (.bin .sub) [.t 23,.c (.int .i64 1)],
 xK 25 507 [.t 22,.t 24],
 xP 26 (.bin .add) [.t 18,.t 25],
 xM 5 26]))
 (.ops [xM 16 7,
 xP 17 (.bin .add) [.t 16,.c (.int .i64 1)],
 xM 7 17]))))))
 (.seq (.ops [xM 27 5,
 xM 4 27])
 .ret)))))) }
/-- datakit/datakitlaw45.few -/
def ac508:AFn:=
 { nt:=30,res:=[.tmp 4],body:=
 (.seq (.ops [xB 15 2 0,
 xC 4 (.bool false)])
 (.seq (.seq (.ops [xL 15 7 2,
 xK 8 560 [.t 7],
 xP 9 (.un .not) [.t 8]])
 (.cond (.t 9)
 (.seq (.ops [xC 4 (.bool false)])
 .ret)
 .skip))
 (.seq (.ops [xL 15 10 2,
 xK 11 515 [.t 10],
 xM 5 11])
 (.seq (.seq (.ops [xC 6 (.int .i64 0)])
 (.block 0
 (.loop [1,5,6]
 (.seq (.seq (.ops [xM 12 6,
 xM 13 5,
 xP 14 .lenL [.t 13],
 xP 15 (.bin .lss) [.t 12,.t 14],
 xM 16 15,
 yM 17 1 16 true,
 yP 18 (.bin .gtr) [.t 17,.c (.int .i64 1)] 16 true,
 xP 19 .pick [.t 16,.t 18,.c (.bool false)]])
 (.cond (.t 19)
 .skip
 (.exit 0)))
 (.seq (.block 1
 (.seq (.ops [xM 22 5,
 xM 23 6,
 xI 15 24 22 23,
 xL 15 25 24,
 xM 26 1,
 xP 27 (.bin .sub) [.t 26,.c (.int .i64 1)],
 xK 28 508 [.t 25,.t 27],
 xP 29 (.un .not) [.t 28]])
 (.cond (.t 29)
 (.seq (.ops [xC 4 (.bool false)])
 .ret)
 .skip)))
 (.ops [xM 20 6,
 xP 21 (.bin .add) [.t 20,.c (.int .i64 1)],
 xM 6 21]))))))
 (.seq (.ops [xC 4 (.bool true)])
 .ret))))) }
/-- datakit/datakitref45.names -/
def ac512:AFn:=
 { nt:=63,res:=[.tmp 6],body:=
 (.seq (.ops [xB 15 3 0,
 xC 6 (.snil 1)])
 (.seq (.ops [xC 7 (.snil 1)])
 (.seq (.seq (.ops [xM 12 1,
 xP 13 (.bin .lss) [.t 12,.c (.int .i64 1)]])
 (.cond (.t 13)
 (.seq (.ops [xM 14 7,
 xM 6 14])
 .ret)
 .skip))
 (.seq (.seq (.ops [xF 0 15 3,
 xR 16 15,
 xP 17 (.bin .eql) [.t 16,.c (.int .i64 14)]])
 (.cond (.t 17)
 (.ops [xM 18 7,
 xF 4 19 3,
 xR 20 19,
 xK 21 521 [.t 18,.t 20],
 xM 7 21])
 .skip))
 (.seq (.seq (.ops [xM 22 2,
 xM 23 22,
 yF 0 24 3 23 true,
 yR 25 24 23 true,
 yP 26 (.bin .eql) [.t 25,.c (.int .i64 9)] 23 true,
 yM 27 26 23 true,
 yF 0 28 3 27 false,
 yR 29 28 27 false,
 yP 30 (.bin .eql) [.t 29,.c (.int .i64 10)] 27 false,
 yP 31 .pick [.t 27,.c (.bool true),.t 30] 23 true,
 xP 32 .pick [.t 23,.t 31,.c (.bool false)]])
 (.cond (.t 32)
 (.seq (.ops [xM 33 7,
 xM 6 33])
 .ret)
 .skip))
 (.seq (.ops [xL 15 34 3,
 xK 35 515 [.t 34],
 xM 8 35])
 (.seq (.seq (.ops [xC 9 (.int .i64 0)])
 (.block 0
 (.loop [1,2,7,8,9]
 (.seq (.seq (.ops [xM 36 9,
 xM 37 8,
 xP 38 .lenL [.t 37],
 xP 39 (.bin .lss) [.t 36,.t 38]])
 (.cond (.t 39)
 .skip
 (.exit 0)))
 (.seq (.block 1
 (.seq (.ops [xM 42 8,
 xM 43 9,
 xI 15 44 42 43,
 xL 15 45 44,
 xM 46 1,
 xP 47 (.bin .sub) [.t 46,.c (.int .i64 1)],
 xM 48 2,
 xK 49 512 [.t 45,.t 47,.t 48],
 xM 10 49])
 (.seq (.ops [xC 11 (.int .i64 0)])
 (.block 2
 (.loop [1,2,7,8,9,10,11]
 (.seq (.seq (.ops [xM 50 11,
 xM 51 10,
 xP 52 .lenL [.t 51],
 xP 53 (.bin .lss) [.t 50,.t 52]])
 (.cond (.t 53)
 .skip
 (.exit 2)))
 (.seq (.block 3
 (.ops [xM 56 7,
 xM 57 10,
 xM 58 11,
 xI 1 59 57 58,
 xR 60 59,
 xK 61 521 [.t 56,.t 60],
 xM 7 61]))
 (.ops [xM 54 11,
 xP 55 (.bin .add) [.t 54,.c (.int .i64 1)],
 xM 11 55]))))))))
 (.ops [xM 40 9,
 xP 41 (.bin .add) [.t 40,.c (.int .i64 1)],
 xM 9 41]))))))
 (.seq (.ops [xM 62 7,
 xM 6 62])
 .ret)))))))) }
/-- datakit/datakitref45.Parts -/
def ac515:AFn:=
 { nt:=25,res:=[.tmp 2],body:=
 (.seq (.ops [xB 15 1 0,
 xC 2 (.snil 15)])
 (.seq (.ops [xC 3 (.snil 15)])
 (.seq (.seq (.ops [xC 4 (.int .i64 0)])
 (.block 0
 (.loop [1,3,4]
 (.seq (.seq (.ops [xM 5 4,
 xF 13 6 1,
 xR 7 6,
 xP 8 .lenL [.t 7],
 xP 9 (.bin .lss) [.t 5,.t 8]])
 (.cond (.t 9)
 .skip
 (.exit 0)))
 (.seq (.block 1
 (.ops [xM 12 3,
 xF 13 13 1,
 xR 14 13,
 xM 15 4,
 xI 17 16 14 15,
 xF 2 17 16,
 xL 15 18 17,
 ⟨some 19,.new (.buildSlice 15 [z0] [0]),[.t 18],none⟩,
 ⟨some 20,.eff (.append 15 208),[.t 12,.t 19],none⟩,
 xM 3 20]))
 (.ops [xM 10 4,
 xP 11 (.bin .add) [.t 10,.c (.int .i64 1)],
 xM 4 11]))))))
 (.seq (.ops [xM 21 3,
 xF 14 22 1,
 xR 23 22,
 ⟨some 24,.eff (.append 15 208),[.t 21,.t 23],none⟩,
 xM 2 24])
 .ret)))) }
/-- datakit/datakitref45.node -/
def ac516:AFn:=
 { nt:=57,res:=[.tmp 4],body:=
 (.seq (.ops [xB 16 2 0,
 xB 15 3 1,
 xC 4 (.int .i64 0)])
 (.seq (.seq (.ops [xL 15 9 3,
 xK 10 564 [.t 9],
 xP 11 (.un .not) [.t 10]])
 (.cond (.t 11)
 (.seq (.ops [xC 4 (.int .i64 1)])
 .ret)
 .skip))
 (.seq (.seq (.ops [xF 0 12 3,
 xR 13 12,
 xP 14 (.bin .eql) [.t 13,.c (.int .i64 7)],
 xM 15 14,
 yF 4 16 3 15 true,
 yR 17 16 15 true,
 yK 18 565 [.t 17] 15 true,
 yP 19 (.un .not) [.t 18] 15 true,
 xP 20 .pick [.t 15,.t 19,.c (.bool false)]])
 (.cond (.t 20)
 (.seq (.ops [xC 4 (.int .i64 7)])
 .ret)
 .skip))
 (.seq (.seq (.ops [xF 0 21 3,
 xR 22 21,
 xP 23 (.bin .eql) [.t 22,.c (.int .i64 14)]])
 (.cond (.t 23)
 (.seq (.ops [xL 16 25 2,
 xF 4 26 3,
 xR 27 26,
 xK 28 458 [.t 25,.t 27],
 xM 24 28,
 xP 29 (.ext 0) [.t 24],
 xP 30 (.ext 1) [.t 24],
 xN 5 15 z0,
 xS 15 5 29,
 xM 6 30])
 (.seq (.ops [xM 31 6,
 xP 32 (.un .not) [.t 31]])
 (.cond (.t 32)
 (.seq (.ops [xC 4 (.int .i64 7)])
 .ret)
 .skip)))
 .skip))
 (.seq (.ops [xC 7 (.snil 1)])
 (.seq (.seq (.ops [xC 8 (.int .i64 0)])
 (.block 0
 (.loop [3,7,8]
 (.seq (.seq (.ops [xM 33 8,
 xF 13 34 3,
 xR 35 34,
 xP 36 .lenL [.t 35],
 xP 37 (.bin .lss) [.t 33,.t 36]])
 (.cond (.t 37)
 .skip
 (.exit 0)))
 (.seq (.block 1
 (.seq (.seq (.ops [xM 40 7,
 xF 13 41 3,
 xR 42 41,
 xM 43 8,
 xI 17 44 42 43,
 xF 0 45 44,
 xR 46 45,
 xK 47 492 [.t 40,.t 46]])
 (.cond (.t 47)
 (.seq (.ops [xC 4 (.int .i64 8)])
 .ret)
 .skip))
 (.ops [xM 48 7,
 xF 13 49 3,
 xR 50 49,
 xM 51 8,
 xI 17 52 50 51,
 xF 0 53 52,
 xR 54 53,
 ⟨some 55,.new (.buildSlice 1 [.str []] [0]),[.t 54],none⟩,
 ⟨some 56,.eff (.append 1 16),[.t 48,.t 55],none⟩,
 xM 7 56])))
 (.ops [xM 38 8,
 xP 39 (.bin .add) [.t 38,.c (.int .i64 1)],
 xM 8 39]))))))
 (.seq (.ops [xC 4 (.int .i64 0)])
 .ret))))))) }
/-- datakit/datakitref45.with -/
def ac521:AFn:=
 { nt:=52,res:=[.tmp 4],body:=
 (.seq (.ops [xC 4 (.snil 1)])
 (.seq (.ops [xC 5 (.snil 1)])
 (.seq (.ops [xC 6 (.int .i64 0)])
 (.seq (.block 0
 (.loop [0,1,5,6]
 (.seq (.seq (.ops [xM 7 6,
 xM 8 0,
 xP 9 .lenL [.t 8],
 xP 10 (.bin .lss) [.t 7,.t 9],
 xM 11 10,
 yM 12 0 11 true,
 yM 13 6 11 true,
 yP 14 (.iaddrS 1) [.t 12,.t 13] 11 true,
 yR 15 14 11 true,
 yM 16 1 11 true,
 yP 17 (.bin .lss) [.t 15,.t 16] 11 true,
 xP 18 .pick [.t 11,.t 17,.c (.bool false)]])
 (.cond (.t 18)
 .skip
 (.exit 0)))
 (.block 1
 (.seq (.ops [xM 19 5,
 xM 20 0,
 xM 21 6,
 xI 1 22 20 21,
 xR 23 22,
 ⟨some 24,.new (.buildSlice 1 [.str []] [0]),[.t 23],none⟩,
 ⟨some 25,.eff (.append 1 16),[.t 19,.t 24],none⟩,
 xM 5 25])
 (.ops [xM 26 6,
 xP 27 (.bin .add) [.t 26,.c (.int .i64 1)],
 xM 6 27]))))))
 (.seq (.ops [xM 28 5,
 xM 29 1,
 ⟨some 30,.new (.buildSlice 1 [.str []] [0]),[.t 29],none⟩,
 ⟨some 31,.eff (.append 1 16),[.t 28,.t 30],none⟩,
 xM 5 31])
 (.seq (.block 2
 (.loop [0,1,5,6]
 (.seq (.seq (.ops [xM 32 6,
 xM 33 0,
 xP 34 .lenL [.t 33],
 xP 35 (.bin .lss) [.t 32,.t 34]])
 (.cond (.t 35)
 .skip
 (.exit 2)))
 (.seq (.block 3
 (.seq (.ops [xM 38 0,
 xM 39 6,
 xI 1 40 38 39,
 xR 41 40,
 xM 42 1,
 xP 43 (.bin .neq) [.t 41,.t 42]])
 (.cond (.t 43)
 (.ops [xM 44 5,
 xM 45 0,
 xM 46 6,
 xI 1 47 45 46,
 xR 48 47,
 ⟨some 49,.new (.buildSlice 1 [.str []] [0]),[.t 48],none⟩,
 ⟨some 50,.eff (.append 1 16),[.t 44,.t 49],none⟩,
 xM 5 50])
 .skip)))
 (.ops [xM 36 6,
 xP 37 (.bin .add) [.t 36,.c (.int .i64 1)],
 xM 6 37])))))
 (.seq (.ops [xM 51 5,
 xM 4 51])
 .ret))))))) }
/-- datakit/datakitref18.Same -/
def ac522:AFn:=
 { nt:=31,res:=[.tmp 4],body:=
 (.seq (.ops [xB 1 2 0,
 xB 1 3 1,
 xC 4 (.bool false)])
 (.seq (.seq (.ops [xF 0 6 2,
 xR 7 6,
 xP 8 .lenL [.t 7],
 xF 0 9 3,
 xR 10 9,
 xP 11 .lenL [.t 10],
 xP 12 (.bin .neq) [.t 8,.t 11]])
 (.cond (.t 12)
 (.seq (.ops [xC 4 (.bool false)])
 .ret)
 .skip))
 (.seq (.seq (.ops [xC 5 (.int .i64 0)])
 (.block 0
 (.loop [2,3,5]
 (.seq (.seq (.ops [xM 13 5,
 xF 0 14 2,
 xR 15 14,
 xP 16 .lenL [.t 15],
 xP 17 (.bin .lss) [.t 13,.t 16]])
 (.cond (.t 17)
 .skip
 (.exit 0)))
 (.seq (.block 1
 (.seq (.ops [xF 0 20 2,
 xR 21 20,
 xM 22 5,
 xI 11 23 21 22,
 xL 11 24 23,
 xF 0 25 3,
 xR 26 25,
 xM 27 5,
 xI 11 28 26 27,
 xL 11 29 28,
 ⟨some 30,.pure (.eqF [.bool,.bool,.str,.int,.bool,.bool,.bool,.str,.int,.bool,.int] true),[.t 24,.t 29],none⟩])
 (.cond (.t 30)
 (.seq (.ops [xC 4 (.bool false)])
 .ret)
 .skip)))
 (.ops [xM 18 5,
 xP 19 (.bin .add) [.t 18,.c (.int .i64 1)],
 xM 5 19]))))))
 (.seq (.ops [xC 4 (.bool true)])
 .ret)))) }
/-- datakit/datakitref15.Same -/
def ac523:AFn:=
 { nt:=8,res:=[.tmp 4],body:=
 (.seq (.ops [xB 6 2 0,
 xB 6 3 1,
 xC 4 (.bool false)])
 (.seq (.ops [xL 6 5 2,
 xL 6 6 3,
 xK 7 567 [.t 5,.t 6,.c (.int .i64 48)],
 xM 4 7])
 .ret)) }
/-- datakit/datakitref07.SameAll -/
def ac524:AFn:=
 { nt:=10,res:=[.tmp 4],body:=
 (.seq (.ops [xC 4 (.bool false)])
 (.seq (.ops [xM 5 0,
 xK 6 529 [.t 5],
 xM 7 1,
 xK 8 529 [.t 7],
 xK 9 29 [.t 6,.t 8],
 xM 4 9])
 .ret)) }
/-- datakit/datakitref07.List -/
def ac529:AFn:=
 { nt:=5,res:=[.cell 2 (some 13)],body:=
 (.seq (.ops [⟨some 2,.new (.new 13 [.agg [.int .i64 0,.bool false,.bool false,.str [],.int .i64 0,.int .i64 0,.int .i64 0,.int .i64 0,.int .i64 0,.str [],.snil 1,.snil 13,.snil 14]]),[],none⟩])
 (.seq (.ops [xM 3 0,
 ⟨some 4,.pure (.build [.int .i64 0,.bool false,.bool false,.str [],.int .i64 0,.int .i64 0,.int .i64 0,.int .i64 0,.int .i64 0,.str [],.snil 1,.snil 13,.snil 14] [(0,1),(11,1)]),[.c (.int .i64 6),.t 3],none⟩,
 xS 13 2 4])
 .ret)) }
/-- datakit/datakitref46.unrolled -/
def ac545:AFn:=
 { nt:=70,res:=[.tmp 8],body:=
 (.seq (.ops [xB 16 4 0,
 xB 15 5 1,
 xC 8 (.int .i64 0)])
 (.seq (.ops [xM 13 3,
 xP 14 (.bin .sub) [.t 13,.c (.int .i64 1)],
 xM 3 14])
 (.seq (.seq (.ops [xM 15 3,
 xP 16 (.bin .lss) [.t 15,.c (.int .i64 0)],
 xM 17 16,
 yM 18 2 17 false,
 yP 19 (.bin .lss) [.t 18,.c (.int .i64 1)] 17 false,
 xP 20 .pick [.t 17,.c (.bool true),.t 19]])
 (.cond (.t 20)
 (.seq (.ops [xM 21 3,
 xM 8 21])
 .ret)
 .skip))
 (.seq (.seq (.ops [xF 0 22 5,
 xR 23 22,
 xP 24 (.bin .eql) [.t 23,.c (.int .i64 14)]])
 (.cond (.t 24)
 (.seq (.seq (.ops [xL 16 26 4,
 xF 4 27 5,
 xR 28 27,
 xK 29 458 [.t 26,.t 28],
 xM 25 29,
 xP 30 (.ext 0) [.t 25],
 xP 31 (.ext 1) [.t 25],
 xN 9 15 z0,
 xS 15 9 30,
 xM 10 31])
 (.seq (.ops [xM 32 10])
 (.cond (.t 32)
 (.seq (.ops [xL 16 33 4,
 xL 15 34 9,
 xM 35 2,
 xM 36 3,
 xK 37 545 [.t 33,.t 34,.t 35,.t 36],
 xM 8 37])
 .ret)
 .skip)))
 (.seq (.ops [xM 38 3,
 xM 8 38])
 .ret))
 .skip))
 (.seq (.seq (.ops [xF 0 39 5,
 xR 40 39,
 xP 41 (.bin .eql) [.t 40,.c (.int .i64 9)],
 xM 42 41,
 yF 0 43 5 42 false,
 yR 44 43 42 false,
 yP 45 (.bin .eql) [.t 44,.c (.int .i64 10)] 42 false,
 xP 46 .pick [.t 42,.c (.bool true),.t 45]])
 (.cond (.t 46)
 (.ops [xM 47 2,
 xP 48 (.bin .sub) [.t 47,.c (.int .i64 1)],
 xM 2 48])
 .skip))
 (.seq (.ops [xL 15 49 5,
 xK 50 515 [.t 49],
 xM 11 50])
 (.seq (.seq (.ops [xC 12 (.int .i64 0)])
 (.block 0
 (.loop [2,3,4,11,12]
 (.seq (.seq (.ops [xM 51 12,
 xM 52 11,
 xP 53 .lenL [.t 52],
 xP 54 (.bin .lss) [.t 51,.t 53],
 xM 55 54,
 yM 56 3 55 true,
 yP 57 (.bin .geq) [.t 56,.c (.int .i64 0)] 55 true,
 xP 58 .pick [.t 55,.t 57,.c (.bool false)]])
 (.cond (.t 58)
 .skip
 (.exit 0)))
 (.seq (.block 1
 (.ops [xL 16 61 4,
 xM 62 11,
 xM 63 12,
 xI 15 64 62 63,
 xL 15 65 64,
 xM 66 2,
 xM 67 3,
 xK 68 545 [.t 61,.t 65,.t 66,.t 67],
 xM 3 68]))
 (.ops [xM 59 12,
 xP 60 (.bin .add) [.t 59,.c (.int .i64 1)],
 xM 12 60]))))))
 (.seq (.ops [xM 69 3,
 xM 8 69])
 .ret)))))))) }
/-- datakit/datakitref46.light -/
def ac546:AFn:=
 { nt:=37,res:=[.tmp 4],body:=
 (.seq (.ops [xB 15 2 0,
 xC 4 (.bool false)])
 (.seq (.seq (.ops [xF 6 7 2,
 xL 6 8 7,
 xK 9 357 [.t 8],
 xP 10 (.bin .gtr) [.t 9,.c (.int .i64 30)],
 xM 11 10,
 yM 12 1 11 false,
 yP 13 (.bin .lss) [.t 12,.c (.int .i64 1)] 11 false,
 xP 14 .pick [.t 11,.c (.bool true),.t 13],
 xM 15 14,
 yF 6 16 2 15 false,
 yL 6 17 16 15 false,
 yK 18 578 [.t 17] 15 false,
 yP 19 (.un .not) [.t 18] 15 false,
 xP 20 .pick [.t 15,.c (.bool true),.t 19]])
 (.cond (.t 20)
 (.seq (.ops [xC 4 (.bool false)])
 .ret)
 .skip))
 (.seq (.ops [xL 15 21 2,
 xK 22 515 [.t 21],
 xM 5 22])
 (.seq (.seq (.ops [xC 6 (.int .i64 0)])
 (.block 0
 (.loop [1,5,6]
 (.seq (.seq (.ops [xM 23 6,
 xM 24 5,
 xP 25 .lenL [.t 24],
 xP 26 (.bin .lss) [.t 23,.t 25]])
 (.cond (.t 26)
 .skip
 (.exit 0)))
 (.seq (.block 1
 (.seq (.ops [xM 29 5,
 xM 30 6,
 xI 15 31 29 30,
 xL 15 32 31,
 xM 33 1,
 xP 34 (.bin .sub) [.t 33,.c (.int .i64 1)],
 xK 35 546 [.t 32,.t 34],
 xP 36 (.un .not) [.t 35]])
 (.cond (.t 36)
 (.seq (.ops [xC 4 (.bool false)])
 .ret)
 .skip)))
 (.ops [xM 27 6,
 xP 28 (.bin .add) [.t 27,.c (.int .i64 1)],
 xM 6 28]))))))
 (.seq (.ops [xC 4 (.bool true)])
 .ret))))) }
/-- datakit/datakitlaw45.node -/
def ac560:AFn:=
 { nt:=47,res:=[.tmp 2],body:=
 (.seq (.ops [xB 15 1 0,
 xC 2 (.bool false)])
 (.seq (.seq (.ops [xF 12 4 1,
 xR 5 4,
 xP 6 .lenL [.t 5],
 xP 7 (.bin .gtr) [.t 6,.c (.int .i64 300)],
 xM 8 7,
 yF 13 9 1 8 false,
 yR 10 9 8 false,
 yP 11 .lenL [.t 10] 8 false,
 yP 12 (.bin .gtr) [.t 11,.c (.int .i64 300)] 8 false,
 xP 13 .pick [.t 8,.c (.bool true),.t 12],
 xM 14 13,
 yF 14 15 1 14 false,
 yR 16 15 14 false,
 yP 17 .lenL [.t 16] 14 false,
 yP 18 (.bin .gtr) [.t 17,.c (.int .i64 300)] 14 false,
 xP 19 .pick [.t 14,.c (.bool true),.t 18],
 xM 20 19,
 yF 5 21 1 20 false,
 yF 0 22 21 20 false,
 yR 23 22 20 false,
 yP 24 .lenL [.t 23] 20 false,
 yP 25 (.bin .gtr) [.t 24,.c (.int .i64 300)] 20 false,
 xP 26 .pick [.t 20,.c (.bool true),.t 25],
 xM 27 26,
 yF 6 28 1 27 false,
 yL 6 29 28 27 false,
 yK 30 357 [.t 29] 27 false,
 yP 31 (.bin .gtr) [.t 30,.c (.int .i64 600)] 27 false,
 xP 32 .pick [.t 27,.c (.bool true),.t 31]])
 (.cond (.t 32)
 (.seq (.ops [xC 2 (.bool false)])
 .ret)
 .skip))
 (.seq (.seq (.ops [xC 3 (.int .i64 0)])
 (.block 0
 (.loop [1,3]
 (.seq (.seq (.ops [xM 33 3,
 xF 12 34 1,
 xR 35 34,
 xP 36 .lenL [.t 35],
 xP 37 (.bin .lss) [.t 33,.t 36]])
 (.cond (.t 37)
 .skip
 (.exit 0)))
 (.seq (.block 1
 (.seq (.ops [xF 12 40 1,
 xR 41 40,
 xM 42 3,
 xI 13 43 41 42,
 xL 13 44 43,
 xK 45 18 [.t 44,.c (.int .i64 20),.c (.int .i64 5)],
 xP 46 (.un .not) [.t 45]])
 (.cond (.t 46)
 (.seq (.ops [xC 2 (.bool false)])
 .ret)
 .skip)))
 (.ops [xM 38 3,
 xP 39 (.bin .add) [.t 38,.c (.int .i64 1)],
 xM 3 39]))))))
 (.seq (.ops [xC 2 (.bool true)])
 .ret)))) }
/-- datakit/datakitref45.form -/
def ac564:AFn:=
 { nt:=94,res:=[.tmp 2],body:=
 (.seq (.ops [xB 15 1 0,
 xC 2 (.bool false)])
 (.seq (.seq (.ops [xF 0 5 1,
 xR 6 5,
 xP 7 (.bin .lss) [.t 6,.c (.int .i64 1)],
 xM 8 7,
 yF 0 9 1 8 false,
 yR 10 9 8 false,
 yP 11 (.bin .geq) [.t 10,.c (.int .i64 15)] 8 false,
 xP 12 .pick [.t 8,.c (.bool true),.t 11],
 xM 13 12,
 yL 15 14 1 13 false,
 yK 15 599 [.t 14] 13 false,
 yP 16 (.un .not) [.t 15] 13 false,
 xP 17 .pick [.t 13,.c (.bool true),.t 16]])
 (.cond (.t 17)
 (.seq (.ops [xC 2 (.bool false)])
 .ret)
 .skip))
 (.seq (.seq (.ops [xF 0 18 1,
 xR 19 18])
 (.block 0
 (.seq (.ops [xP 21 (.bin .eql) [.t 19,.c (.int .i64 3)],
 xM 20 21])
 (.cond (.t 20)
 (.seq (.ops [xF 1 22 1,
 xR 23 22,
 xP 24 (.bin .geq) [.t 23,.c (.int .i64 0)],
 xM 25 24,
 yF 1 26 1 25 true,
 yR 27 26 25 true,
 yP 28 (.bin .leq) [.t 27,.c (.int .i64 255)] 25 true,
 xP 29 .pick [.t 25,.t 28,.c (.bool false)],
 xM 2 29])
 .ret)
 (.seq (.ops [xP 31 (.bin .eql) [.t 19,.c (.int .i64 4)],
 xM 30 31])
 (.cond (.t 30)
 (.seq (.ops [xF 5 32 1,
 xL 1 33 32,
 xK 34 600 [.t 33],
 xM 2 34])
 .ret)
 (.seq (.ops [xP 36 (.bin .eql) [.t 19,.c (.int .i64 5)],
 xM 35 36])
 (.cond (.t 35)
 (.seq (.ops [xL 15 37 1,
 xK 38 601 [.t 37,.c (.int .i64 65536)],
 xM 2 38])
 .ret)
 (.seq (.ops [xP 40 (.bin .eql) [.t 19,.c (.int .i64 6)],
 xM 39 40])
 (.cond (.t 39)
 (.seq (.ops [xF 6 41 1,
 xL 6 42 41,
 xK 43 340 [.t 42],
 xM 2 43])
 .ret)
 (.seq (.ops [xP 45 (.bin .eql) [.t 19,.c (.int .i64 8)],
 xM 44 45])
 (.cond (.t 44)
 (.seq (.seq (.ops [xC 3 (.int .i64 0)])
 (.block 1
 (.loop [1,3]
 (.seq (.seq (.ops [xM 46 3,
 xF 12 47 1,
 xR 48 47,
 xP 49 .lenL [.t 48],
 xP 50 (.bin .lss) [.t 46,.t 49]])
 (.cond (.t 50)
 .skip
 (.exit 1)))
 (.seq (.block 2
 (.seq (.ops [xF 12 53 1,
 xR 54 53,
 xM 55 3,
 xI 13 56 54 55,
 xL 13 57 56,
 xK 58 602 [.t 57],
 xP 59 (.un .not) [.t 58],
 xM 60 59,
 yF 12 61 1 60 false,
 yR 62 61 60 false,
 yM 63 3 60 false,
 yP 64 (.iaddrS 13) [.t 62,.t 63] 60 false,
 yL 13 65 64 60 false,
 yK 66 19 [.t 65] 60 false,
 yP 67 (.bin .neq) [.t 66,.c (.int .i64 0)] 60 false,
 xP 68 .pick [.t 60,.c (.bool true),.t 67]])
 (.cond (.t 68)
 (.seq (.ops [xC 2 (.bool false)])
 .ret)
 .skip)))
 (.ops [xM 51 3,
 xP 52 (.bin .add) [.t 51,.c (.int .i64 1)],
 xM 3 52]))))))
 (.seq (.ops [xF 12 69 1,
 xR 70 69,
 xP 71 .lenL [.t 70],
 xP 72 (.bin .leq) [.t 71,.c (.int .i64 256)],
 xM 2 72])
 .ret))
 (.seq (.ops [xP 74 (.bin .eql) [.t 19,.c (.int .i64 9)],
 xM 73 74])
 (.cond (.t 73)
 (.seq (.ops [xL 15 75 1,
 xK 76 601 [.t 75,.c (.int .i64 65536)],
 xM 2 76])
 .ret)
 (.seq (.ops [xP 78 (.bin .eql) [.t 19,.c (.int .i64 10)],
 xM 77 78])
 (.cond (.t 77)
 (.seq (.ops [xC 4 (.int .i64 0)])
 (.block 3
 (.loop [1,4]
 (.seq (.seq (.ops [xM 79 4,
 xF 13 80 1,
 xR 81 80,
 xP 82 .lenL [.t 81],
 xP 83 (.bin .lss) [.t 79,.t 82]])
 (.cond (.t 83)
 .skip
 (.exit 3)))
 (.seq (.block 4
 (.seq (.ops [xF 13 86 1,
 xR 87 86,
 xM 88 4,
 xI 17 89 87 88,
 xF 0 90 89,
 xR 91 90,
 xK 92 603 [.t 91],
 xP 93 (.un .not) [.t 92]])
 (.cond (.t 93)
 (.seq (.ops [xC 2 (.bool false)])
 .ret)
 .skip)))
 (.ops [xM 84 4,
 xP 85 (.bin .add) [.t 84,.c (.int .i64 1)],
 xM 4 85]))))))
 .skip))))))))))))))))
 (.seq (.ops [xC 2 (.bool true)])
 .ret)))) }
/-- datakit/datakitref17.Known -/
def ac565:AFn:=
 { nt:=6,res:=[.tmp 2],body:=
 (.seq (.ops [xC 2 (.bool false)])
 (.seq (.ops [xM 3 0,
 xK 4 604 [.t 3],
 ⟨some 5,.pure (.bin .neq),[.t 4,.c (.str [])],none⟩,
 xM 2 5])
 .ret)) }
/-- datakit/datakitref15.same -/
def ac567:AFn:=
 { nt:=75,res:=[.tmp 6],body:=
 (.seq (.ops [xB 6 3 0,
 xB 6 4 1,
 xC 6 (.bool false)])
 (.seq (.seq (.ops [xM 8 2,
 xP 9 (.bin .lss) [.t 8,.c (.int .i64 1)],
 xM 10 9,
 yF 0 11 3 10 false,
 yR 12 11 10 false,
 yF 0 13 4 10 false,
 yR 14 13 10 false,
 yP 15 (.bin .neq) [.t 12,.t 14] 10 false,
 xP 16 .pick [.t 10,.c (.bool true),.t 15],
 xM 17 16,
 yF 1 18 3 17 false,
 yR 19 18 17 false,
 yF 1 20 4 17 false,
 yR 21 20 17 false,
 yP 22 (.bin .neq) [.t 19,.t 21] 17 false,
 xP 23 .pick [.t 17,.c (.bool true),.t 22],
 xM 24 23,
 yF 2 25 3 24 false,
 yR 26 25 24 false,
 yF 2 27 4 24 false,
 yR 28 27 24 false,
 yP 29 (.bin .neq) [.t 26,.t 28] 24 false,
 xP 30 .pick [.t 24,.c (.bool true),.t 29],
 xM 31 30,
 yF 3 32 3 31 false,
 yR 33 32 31 false,
 yF 3 34 4 31 false,
 yR 35 34 31 false,
 yP 36 (.bin .neq) [.t 33,.t 35] 31 false,
 xP 37 .pick [.t 31,.c (.bool true),.t 36],
 xM 38 37,
 yF 4 39 3 38 false,
 yR 40 39 38 false,
 yF 4 41 4 38 false,
 yR 42 41 38 false,
 yP 43 (.bin .neq) [.t 40,.t 42] 38 false,
 xP 44 .pick [.t 38,.c (.bool true),.t 43],
 xM 45 44,
 yF 5 46 3 45 false,
 yR 47 46 45 false,
 yP 48 .lenL [.t 47] 45 false,
 yF 5 49 4 45 false,
 yR 50 49 45 false,
 yP 51 .lenL [.t 50] 45 false,
 yP 52 (.bin .neq) [.t 48,.t 51] 45 false,
 xP 53 .pick [.t 45,.c (.bool true),.t 52]])
 (.cond (.t 53)
 (.seq (.ops [xC 6 (.bool false)])
 .ret)
 .skip))
 (.seq (.seq (.ops [xC 7 (.int .i64 0)])
 (.block 0
 (.loop [2,3,4,7]
 (.seq (.seq (.ops [xM 54 7,
 xF 5 55 3,
 xR 56 55,
 xP 57 .lenL [.t 56],
 xP 58 (.bin .lss) [.t 54,.t 57]])
 (.cond (.t 58)
 .skip
 (.exit 0)))
 (.seq (.block 1
 (.seq (.ops [xF 5 61 3,
 xR 62 61,
 xM 63 7,
 xI 6 64 62 63,
 xL 6 65 64,
 xF 5 66 4,
 xR 67 66,
 xM 68 7,
 xI 6 69 67 68,
 xL 6 70 69,
 xM 71 2,
 xP 72 (.bin .sub) [.t 71,.c (.int .i64 1)],
 xK 73 567 [.t 65,.t 70,.t 72],
 xP 74 (.un .not) [.t 73]])
 (.cond (.t 74)
 (.seq (.ops [xC 6 (.bool false)])
 .ret)
 .skip)))
 (.ops [xM 59 7,
 xP 60 (.bin .add) [.t 59,.c (.int .i64 1)],
 xM 7 60]))))))
 (.seq (.ops [xC 6 (.bool true)])
 .ret)))) }
/-- datakit/datakitref46.patterns -/
def ac578:AFn:=
 { nt:=31,res:=[.tmp 2],body:=
 (.seq (.ops [xB 6 1 0,
 xC 2 (.bool false)])
 (.seq (.seq (.ops [xF 0 4 1,
 xR 5 4,
 xP 6 (.bin .eql) [.t 5,.c (.int .i64 5)],
 xM 7 6,
 yF 3 8 1 7 true,
 yR 9 8 7 true,
 yP 10 (.bin .gtr) [.t 9,.c (.int .i64 8)] 7 true,
 yM 11 10 7 true,
 yF 4 12 1 11 false,
 yR 13 12 11 false,
 yP 14 (.bin .gtr) [.t 13,.c (.int .i64 8)] 11 false,
 yP 15 .pick [.t 11,.c (.bool true),.t 14] 7 true,
 xP 16 .pick [.t 7,.t 15,.c (.bool false)]])
 (.cond (.t 16)
 (.seq (.ops [xC 2 (.bool false)])
 .ret)
 .skip))
 (.seq (.seq (.ops [xC 3 (.int .i64 0)])
 (.block 0
 (.loop [1,3]
 (.seq (.seq (.ops [xM 17 3,
 xF 5 18 1,
 xR 19 18,
 xP 20 .lenL [.t 19],
 xP 21 (.bin .lss) [.t 17,.t 20]])
 (.cond (.t 21)
 .skip
 (.exit 0)))
 (.seq (.block 1
 (.seq (.ops [xF 5 24 1,
 xR 25 24,
 xM 26 3,
 xI 6 27 25 26,
 xL 6 28 27,
 xK 29 578 [.t 28],
 xP 30 (.un .not) [.t 29]])
 (.cond (.t 30)
 (.seq (.ops [xC 2 (.bool false)])
 .ret)
 .skip)))
 (.ops [xM 22 3,
 xP 23 (.bin .add) [.t 22,.c (.int .i64 1)],
 xM 3 23]))))))
 (.seq (.ops [xC 2 (.bool true)])
 .ret)))) }
/-- datakit/datakitref45.unused -/
def ac599:AFn:=
 { nt:=100,res:=[.tmp 2],body:=
 (.seq (.ops [xB 15 1 0,
 xC 2 (.bool false)])
 (.seq (.ops [xF 0 4 1,
 xR 5 4,
 xM 3 5])
 (.seq (.seq (.ops [xM 6 3,
 xP 7 (.bin .neq) [.t 6,.c (.int .i64 3)],
 xM 8 7,
 yF 1 9 1 8 true,
 yR 10 9 8 true,
 yP 11 (.bin .neq) [.t 10,.c (.int .i64 0)] 8 true,
 xP 12 .pick [.t 8,.t 11,.c (.bool false)]])
 (.cond (.t 12)
 (.seq (.ops [xC 2 (.bool false)])
 .ret)
 .skip))
 (.seq (.seq (.ops [xM 13 3,
 xP 14 (.bin .neq) [.t 13,.c (.int .i64 5)],
 xM 15 14,
 yM 16 3 15 true,
 yP 17 (.bin .neq) [.t 16,.c (.int .i64 9)] 15 true,
 xP 18 .pick [.t 15,.t 17,.c (.bool false)],
 xM 19 18,
 yF 2 20 1 19 true,
 yR 21 20 19 true,
 yP 22 (.bin .neq) [.t 21,.c (.int .i64 0)] 19 true,
 yM 23 22 19 true,
 yF 3 24 1 23 false,
 yR 25 24 23 false,
 yP 26 (.bin .neq) [.t 25,.c (.int .i64 0)] 23 false,
 yP 27 .pick [.t 23,.c (.bool true),.t 26] 19 true,
 xP 28 .pick [.t 19,.t 27,.c (.bool false)]])
 (.cond (.t 28)
 (.seq (.ops [xC 2 (.bool false)])
 .ret)
 .skip))
 (.seq (.seq (.ops [xM 29 3,
 xP 30 (.bin .neq) [.t 29,.c (.int .i64 7)],
 xM 31 30,
 yM 32 3 31 true,
 yP 33 (.bin .neq) [.t 32,.c (.int .i64 14)] 31 true,
 xP 34 .pick [.t 31,.t 33,.c (.bool false)],
 xM 35 34,
 yF 4 36 1 35 true,
 yR 37 36 35 true,
 ⟨some 38,.pure (.bin .neq),[.t 37,.c (.str [])],some (35,true)⟩,
 xP 39 .pick [.t 35,.t 38,.c (.bool false)]])
 (.cond (.t 39)
 (.seq (.ops [xC 2 (.bool false)])
 .ret)
 .skip))
 (.seq (.seq (.ops [xM 40 3,
 xP 41 (.bin .neq) [.t 40,.c (.int .i64 4)],
 xM 42 41,
 yF 5 43 1 42 true,
 yF 0 44 43 42 true,
 yR 45 44 42 true,
 yP 46 .lenL [.t 45] 42 true,
 yP 47 (.bin .gtr) [.t 46,.c (.int .i64 0)] 42 true,
 xP 48 .pick [.t 42,.t 47,.c (.bool false)],
 xM 49 48,
 yM 50 3 49 false,
 yP 51 (.bin .neq) [.t 50,.c (.int .i64 6)] 49 false,
 yM 52 51 49 false,
 yF 6 53 1 52 true,
 yL 6 54 53 52 true,
 ⟨some 55,.pure (.build [.int .i64 0,.int .i64 0,.int .i64 0,.int .i64 0,.int .i64 0,.snil 6] []),[],some (52,true)⟩,
 yK 56 523 [.t 54,.t 55] 52 true,
 yP 57 (.un .not) [.t 56] 52 true,
 yP 58 .pick [.t 52,.t 57,.c (.bool false)] 49 false,
 xP 59 .pick [.t 49,.c (.bool true),.t 58],
 xM 60 59,
 yM 61 3 60 false,
 yP 62 (.bin .neq) [.t 61,.c (.int .i64 8)] 60 false,
 yM 63 62 60 false,
 yF 12 64 1 63 true,
 yR 65 64 63 true,
 yP 66 .lenL [.t 65] 63 true,
 yP 67 (.bin .gtr) [.t 66,.c (.int .i64 0)] 63 true,
 yP 68 .pick [.t 63,.t 67,.c (.bool false)] 60 false,
 xP 69 .pick [.t 60,.c (.bool true),.t 68],
 xM 70 69,
 yM 71 3 70 false,
 yP 72 (.bin .neq) [.t 71,.c (.int .i64 10)] 70 false,
 yM 73 72 70 false,
 yF 13 74 1 73 true,
 yR 75 74 73 true,
 yP 76 .lenL [.t 75] 73 true,
 yP 77 (.bin .gtr) [.t 76,.c (.int .i64 0)] 73 true,
 yP 78 .pick [.t 73,.t 77,.c (.bool false)] 70 false,
 xP 79 .pick [.t 70,.c (.bool true),.t 78]])
 (.cond (.t 79)
 (.seq (.ops [xC 2 (.bool false)])
 .ret)
 .skip))
 (.seq (.seq (.ops [xM 80 3])
 (.block 0
 (.seq (.seq (.ops [xP 82 (.bin .eql) [.t 80,.c (.int .i64 9)],
 xM 81 82])
 (.cond (.t 81)
 .skip
 (.seq (.ops [xP 83 (.bin .eql) [.t 80,.c (.int .i64 10)],
 xM 81 83])
 (.cond (.t 81)
 .skip
 (.ops [xP 84 (.bin .eql) [.t 80,.c (.int .i64 13)],
 xM 81 84])))))
 (.cond (.t 81)
 (.seq (.ops [xF 14 85 1,
 xR 86 85,
 xP 87 .lenL [.t 86],
 xP 88 (.bin .eql) [.t 87,.c (.int .i64 1)],
 xM 2 88])
 .ret)
 (.seq (.seq (.ops [xP 90 (.bin .eql) [.t 80,.c (.int .i64 11)],
 xM 89 90])
 (.cond (.t 89)
 .skip
 (.ops [xP 91 (.bin .eql) [.t 80,.c (.int .i64 12)],
 xM 89 91])))
 (.cond (.t 89)
 (.seq (.ops [xF 14 92 1,
 xR 93 92,
 xP 94 .lenL [.t 93],
 xP 95 (.bin .geq) [.t 94,.c (.int .i64 1)],
 xM 2 95])
 .ret)
 .skip))))))
 (.seq (.ops [xF 14 96 1,
 xR 97 96,
 xP 98 .lenL [.t 97],
 xP 99 (.bin .eql) [.t 98,.c (.int .i64 0)],
 xM 2 99])
 .ret)))))))) }
/-- datakit/datakitref18.Valid -/
def ac600:AFn:=
 { nt:=22,res:=[.tmp 2],body:=
 (.seq (.ops [xB 1 1 0,
 xC 2 (.bool false)])
 (.seq (.seq (.ops [xC 3 (.int .i64 0)])
 (.block 0
 (.loop [1,3]
 (.seq (.seq (.ops [xM 4 3,
 xF 0 5 1,
 xR 6 5,
 xP 7 .lenL [.t 6],
 xP 8 (.bin .lss) [.t 4,.t 7]])
 (.cond (.t 8)
 .skip
 (.exit 0)))
 (.seq (.block 1
 (.seq (.ops [xF 0 11 1,
 xR 12 11,
 xM 13 3,
 xI 11 14 12 13,
 xL 11 15 14,
 xK 16 625 [.t 15],
 xP 17 (.un .not) [.t 16]])
 (.cond (.t 17)
 (.seq (.ops [xC 2 (.bool false)])
 .ret)
 .skip)))
 (.ops [xM 9 3,
 xP 10 (.bin .add) [.t 9,.c (.int .i64 1)],
 xM 3 10]))))))
 (.seq (.ops [xF 0 18 1,
 xR 19 18,
 xP 20 .lenL [.t 19],
 xP 21 (.bin .leq) [.t 20,.c (.int .i64 256)],
 xM 2 21])
 .ret))) }
/-- datakit/datakitref45.bounds -/
def ac601:AFn:=
 { nt:=32,res:=[.tmp 4],body:=
 (.seq (.ops [xB 15 2 0,
 xC 4 (.bool false)])
 (.seq (.ops [xF 2 5 2,
 xR 6 5,
 xP 7 (.bin .geq) [.t 6,.c (.int .i64 0)],
 xM 8 7,
 yF 2 9 2 8 true,
 yR 10 9 8 true,
 yM 11 1 8 true,
 yP 12 (.bin .leq) [.t 10,.t 11] 8 true,
 xP 13 .pick [.t 8,.t 12,.c (.bool false)],
 xM 14 13,
 yF 3 15 2 14 true,
 yR 16 15 14 true,
 yP 17 (.bin .eql) [.t 16,.c (.int .i64 (-1))] 14 true,
 yM 18 17 14 true,
 yF 3 19 2 18 false,
 yR 20 19 18 false,
 yF 2 21 2 18 false,
 yR 22 21 18 false,
 yP 23 (.bin .geq) [.t 20,.t 22] 18 false,
 yM 24 23 18 false,
 yF 3 25 2 24 true,
 yR 26 25 24 true,
 yM 27 1 24 true,
 yP 28 (.bin .leq) [.t 26,.t 27] 24 true,
 yP 29 .pick [.t 24,.t 28,.c (.bool false)] 18 false,
 yP 30 .pick [.t 18,.c (.bool true),.t 29] 14 true,
 xP 31 .pick [.t 14,.t 30,.c (.bool false)],
 xM 4 31])
 .ret)) }
/-- datakit/datakitref07.Scalar -/
def ac602:AFn:=
 { nt:=6,res:=[.tmp 2],body:=
 (.seq (.ops [xB 13 1 0,
 xC 2 (.bool false)])
 (.seq (.ops [xF 0 3 1,
 xR 4 3,
 xP 5 (.bin .lss) [.t 4,.c (.int .i64 6)],
 xM 2 5])
 .ret)) }
/-- datakit/datakitref45.Key -/
def ac603:AFn:=
 { nt:=10,res:=[.tmp 2],body:=
 (.seq (.ops [xC 2 (.bool false)])
 (.seq (.ops [xM 3 0,
 xP 4 .lenS [.t 3],
 xP 5 (.bin .leq) [.t 4,.c (.int .i64 1024)],
 xM 6 5,
 yM 7 0 6 true,
 yK 8 24 [.t 7] 6 true,
 xP 9 .pick [.t 6,.t 8,.c (.bool false)],
 xM 2 9])
 .ret)) }
/-- datakit/datakitref17.Source -/
def ac604:AFn:=
 { nt:=28,res:=[.tmp 2],body:=
 (.seq (.ops [xC 2 (.str [])])
 (.seq (.seq (.ops [xM 3 0])
 (.block 0
 (.seq (.ops [⟨some 5,.pure (.bin .eql),[.t 3,.c (.str [98,97,115,101,54,52])],none⟩,
 xM 4 5])
 (.cond (.t 4)
 (.seq (.ops [xC 2 (.str [40,91,65,45,90,93,124,91,97,45,122,93,124,91,48,45,57,93,124,92,120,50,98,124,47,41,123,52,44,52,125,42,40,40,91,65,45,90,93,124,91,97,45,122,93,124,91,48,45,57,93,124,92,120,50,98,124,47,41,123,50,44,50,125,61,61,124,40,91,65,45,90,93,124,91,97,45,122,93,124,91,48,45,57,93,124,92,120,50,98,124,47,41,123,51,44,51,125,61,41,63])])
 .ret)
 (.seq (.ops [⟨some 7,.pure (.bin .eql),[.t 3,.c (.str [100,97,116,101])],none⟩,
 xM 6 7])
 (.cond (.t 6)
 (.seq (.ops [xC 2 (.str [91,48,45,57,93,123,52,44,52,125,45,40,48,91,49,45,57,93,124,49,91,48,45,50,93,41,45,40,48,91,49,45,57,93,124,91,49,45,50,93,91,48,45,57,93,124,51,91,48,45,49,93,41])])
 .ret)
 (.seq (.ops [⟨some 9,.pure (.bin .eql),[.t 3,.c (.str [100,97,116,101,116,105,109,101])],none⟩,
 xM 8 9])
 (.cond (.t 8)
 (.seq (.ops [xC 2 (.str [91,48,45,57,93,123,52,44,52,125,45,40,48,91,49,45,57,93,124,49,91,48,45,50,93,41,45,40,48,91,49,45,57,93,124,91,49,45,50,93,91,48,45,57,93,124,51,91,48,45,49,93,41,84,40,91,48,45,49,93,91,48,45,57,93,124,50,91,48,45,51,93,41,58,91,48,45,53,93,91,48,45,57,93,58,91,48,45,53,93,91,48,45,57,93,40,92,120,50,101,91,48,45,57,93,123,49,44,57,125,41,63])])
 .ret)
 (.seq (.ops [⟨some 11,.pure (.bin .eql),[.t 3,.c (.str [104,101,120])],none⟩,
 xM 10 11])
 (.cond (.t 10)
 (.seq (.ops [xC 2 (.str [40,91,48,45,57,93,124,91,97,45,102,93,41,123,50,44,50,125,43])])
 .ret)
 (.seq (.ops [⟨some 13,.pure (.bin .eql),[.t 3,.c (.str [105,110,115,116,97,110,116])],none⟩,
 xM 12 13])
 (.cond (.t 12)
 (.seq (.ops [xC 2 (.str [91,48,45,57,93,123,52,44,52,125,45,40,48,91,49,45,57,93,124,49,91,48,45,50,93,41,45,40,48,91,49,45,57,93,124,91,49,45,50,93,91,48,45,57,93,124,51,91,48,45,49,93,41,84,40,91,48,45,49,93,91,48,45,57,93,124,50,91,48,45,51,93,41,58,91,48,45,53,93,91,48,45,57,93,58,91,48,45,53,93,91,48,45,57,93,40,92,120,50,101,91,48,45,57,93,123,49,44,57,125,41,63,40,90,124,40,92,120,50,98,124,45,41,40,91,48,45,49,93,91,48,45,57,93,124,50,91,48,45,51,93,41,58,91,48,45,53,93,91,48,45,57,93,41])])
 .ret)
 (.seq (.ops [⟨some 15,.pure (.bin .eql),[.t 3,.c (.str [105,110,116,101,103,101,114])],none⟩,
 xM 14 15])
 (.cond (.t 14)
 (.seq (.ops [xC 2 (.str [48,124,45,63,91,49,45,57,93,91,48,45,57,93,42])])
 .ret)
 (.seq (.ops [⟨some 17,.pure (.bin .eql),[.t 3,.c (.str [105,112,118,52])],none⟩,
 xM 16 17])
 (.cond (.t 16)
 (.seq (.ops [xC 2 (.str [40,91,48,45,57,93,124,91,49,45,57,93,91,48,45,57,93,124,49,91,48,45,57,93,91,48,45,57,93,124,50,91,48,45,52,93,91,48,45,57,93,124,50,53,91,48,45,53,93,41,40,92,120,50,101,40,91,48,45,57,93,124,91,49,45,57,93,91,48,45,57,93,124,49,91,48,45,57,93,91,48,45,57,93,124,50,91,48,45,52,93,91,48,45,57,93,124,50,53,91,48,45,53,93,41,41,123,51,44,51,125])])
 .ret)
 (.seq (.ops [⟨some 19,.pure (.bin .eql),[.t 3,.c (.str [110,97,109,101])],none⟩,
 xM 18 19])
 (.cond (.t 18)
 (.seq (.ops [xC 2 (.str [40,91,65,45,90,93,124,91,97,45,122,93,124,95,41,40,91,65,45,90,93,124,91,97,45,122,93,124,91,48,45,57,93,124,95,41,42])])
 .ret)
 (.seq (.ops [⟨some 21,.pure (.bin .eql),[.t 3,.c (.str [110,117,109,98,101,114])],none⟩,
 xM 20 21])
 (.cond (.t 20)
 (.seq (.ops [xC 2 (.str [45,63,40,48,124,91,49,45,57,93,91,48,45,57,93,42,41,40,92,120,50,101,91,48,45,57,93,43,41,63,40,40,101,124,69,41,40,92,120,50,98,124,45,41,63,91,48,45,57,93,43,41,63])])
 .ret)
 (.seq (.ops [⟨some 23,.pure (.bin .eql),[.t 3,.c (.str [112,97,116,104])],none⟩,
 xM 22 23])
 (.cond (.t 22)
 (.seq (.ops [xC 2 (.str [40,47,40,91,65,45,90,93,124,91,97,45,122,93,124,91,48,45,57,93,124,95,124,45,124,92,120,50,101,41,42,41,43])])
 .ret)
 (.seq (.ops [⟨some 25,.pure (.bin .eql),[.t 3,.c (.str [116,105,109,101])],none⟩,
 xM 24 25])
 (.cond (.t 24)
 (.seq (.ops [xC 2 (.str [40,91,48,45,49,93,91,48,45,57,93,124,50,91,48,45,51,93,41,58,91,48,45,53,93,91,48,45,57,93,58,91,48,45,53,93,91,48,45,57,93,40,92,120,50,101,91,48,45,57,93,123,49,44,57,125,41,63])])
 .ret)
 (.seq (.ops [⟨some 27,.pure (.bin .eql),[.t 3,.c (.str [117,117,105,100])],none⟩,
 xM 26 27])
 (.cond (.t 26)
 (.seq (.ops [xC 2 (.str [40,91,48,45,57,93,124,91,97,45,102,93,41,123,56,44,56,125,45,40,91,48,45,57,93,124,91,97,45,102,93,41,123,52,44,52,125,45,40,91,48,45,57,93,124,91,97,45,102,93,41,123,52,44,52,125,45,40,91,48,45,57,93,124,91,97,45,102,93,41,123,52,44,52,125,45,40,91,48,45,57,93,124,91,97,45,102,93,41,123,49,50,44,49,50,125])])
 .ret)
 .skip))))))))))))))))))))))))))
 (.seq (.ops [xC 2 (.str [])])
 .ret))) }
/-- datakit/datakitref18.Part -/
def ac625:AFn:=
 { nt:=21,res:=[.tmp 2],body:=
 (.seq (.ops [xB 11 1 0,
 xC 2 (.bool false)])
 (.seq (.ops [xF 0 3 1,
 xL 5 4 3,
 xK 5 638 [.t 4],
 xM 6 5,
 yF 5 7 1 6 true,
 yL 5 8 7 6 true,
 yK 9 638 [.t 8] 6 true,
 xP 10 .pick [.t 6,.t 9,.c (.bool false)],
 xM 11 10,
 yF 10 12 1 11 true,
 yR 13 12 11 true,
 yP 14 (.bin .geq) [.t 13,.c (.int .i64 0)] 11 true,
 xP 15 .pick [.t 11,.t 14,.c (.bool false)],
 xM 16 15,
 yF 10 17 1 16 true,
 yR 18 17 16 true,
 yP 19 (.bin .leq) [.t 18,.c (.int .i64 2)] 16 true,
 xP 20 .pick [.t 16,.t 19,.c (.bool false)],
 xM 2 20])
 .ret)) }
/-- datakit/datakitref18.bound -/
def ac638:AFn:=
 { nt:=12,res:=[.tmp 2],body:=
 (.seq (.ops [xB 5 1 0,
 xC 2 (.bool false)])
 (.seq (.seq (.ops [xF 0 3 1,
 xR 4 3,
 xP 5 (.un .not) [.t 4]])
 (.cond (.t 5)
 (.seq (.ops [xL 5 6 1,
 ⟨some 7,.pure (.build [.bool false,.bool false,.str [],.int .i64 0,.bool false] []),[],none⟩,
 ⟨some 8,.pure (.eqF [.bool,.bool,.str,.int,.bool] false),[.t 6,.t 7],none⟩,
 xM 2 8])
 .ret)
 .skip))
 (.seq (.ops [xF 1 9 1,
 xL 3 10 9,
 xK 11 79 [.t 10],
 xM 2 11])
 .ret))) }
def codeS1:Nat→Option AFn
 | 340=>some ac340
 | 357=>some ac357
 | 360=>some ac360
 | 376=>some ac376
 | 384=>some ac384
 | 453=>some ac453
 | 455=>some ac455
 | 458=>some ac458
 | 460=>some ac460
 | 461=>some ac461
 | 467=>some ac467
 | 474=>some ac474
 | 480=>some ac480
 | 487=>some ac487
 | 488=>some ac488
 | 492=>some ac492
 | 493=>some ac493
 | 494=>some ac494
 | 500=>some ac500
 | 507=>some ac507
 | 508=>some ac508
 | 512=>some ac512
 | 515=>some ac515
 | 516=>some ac516
 | 521=>some ac521
 | 522=>some ac522
 | 523=>some ac523
 | 524=>some ac524
 | 529=>some ac529
 | 545=>some ac545
 | 546=>some ac546
 | 560=>some ac560
 | 564=>some ac564
 | 565=>some ac565
 | 567=>some ac567
 | 578=>some ac578
 | 599=>some ac599
 | 600=>some ac600
 | 601=>some ac601
 | 602=>some ac602
 | 603=>some ac603
 | 604=>some ac604
 | 625=>some ac625
 | 638=>some ac638
 | _=>none
def codeS (f:Nat):Option AFn:=match code f with
 | some a=>some a
 | none=>codeS1 f
def clRS:Nat→Option (Nat × Nat)
 | 216=>some (11,104)
 | 518=>some (13,168)
 | 519=>some (17,232)
 | 520=>some (15,208)
 | 566=>some (6,64)
 | 214=>some (1,16)
 | 130=>some (14,184)
 | 948=>some (16,216)
 | _=>none
def clPS:Nat→Option (Nat × Nat)
 | 62=>some (1,1)
 | _=>none
def csQ (f:Nat):Bool:=f == 272
def lnQ (f:Nat):Bool:=f == 551
def ssQ (f:Nat):Bool:=false
def CS:Ctx:=extCtx (mkCtx codeS clRS clPS) csQ lnQ ssQ
end Ago
