/- The abstract code of the functions,printed by program. -/
import Derived.Test.YtglenpfcanlbgaaGreatDoorPCode
set_option linter.unusedSimpArgs false
set_option linter.unusedVariables false
set_option maxRecDepth 100000
namespace Ago
/-- datakit/datakitlaw50.NormPushes -/
def ac903:AFn:=
 { nt:=26,res:=[.tmp 4],body:=
 (.seq (.ops [xB 16 2 0,
 xB 15 3 1,
 xC 4 (.bool false)])
 (.seq (.seq (.ops [xL 16 6 2,
 xL 15 7 3,
 xK 8 909 [.t 6,.t 7],
 xP 9 (.un .not) [.t 8]])
 (.cond (.t 9)
 (.seq (.ops [xK 10 910 [],
 xM 4 10])
 .ret)
 .skip))
 (.seq (.ops [xL 15 11 3,
 xK 12 911 [.t 11],
 xN 5 15 z0,
 xS 15 5 12])
 (.seq (.ops [xL 15 13 5,
 xL 15 14 3,
 xK 15 912 [.t 14],
 xK 16 461 [.t 13,.t 15],
 xM 17 16,
 yL 15 18 5 17 true,
 yK 19 911 [.t 18] 17 true,
 yL 15 20 5 17 true,
 yK 21 461 [.t 19,.t 20] 17 true,
 xP 22 .pick [.t 17,.t 21,.c (.bool false)],
 xM 23 22,
 yK 24 910 [] 23 true,
 xP 25 .pick [.t 23,.t 24,.c (.bool false)],
 xM 4 25])
 .ret)))) }
/-- datakit/datakitlaw50.right -/
def ac909:AFn:=
 { nt:=21,res:=[.tmp 4],body:=
 (.seq (.ops [xB 16 2 0,
 xB 15 3 1,
 xC 4 (.bool false)])
 (.seq (.ops [xF 0 6 2,
 xR 7 6,
 xL 15 8 3,
 ⟨some 9,.pure (.build [.snil 16,.int .i64 0,.int .i64 0,.int .i64 0,.int .i64 0,.str [],.snil 11,.int .i64 0,.int .i64 0,.int .i64 0,.int .i64 0,.int .i64 0,.snil 6,.snil 13,.snil 17,.snil 15] [(0,1),(1,15)]),[.t 7,.t 8],none⟩,
 ⟨some 5,.new (.new 16 [.agg [.snil 16,.int .i64 0,.int .i64 0,.int .i64 0,.int .i64 0,.str [],.snil 11,.int .i64 0,.int .i64 0,.int .i64 0,.int .i64 0,.int .i64 0,.snil 6,.snil 13,.snil 17,.snil 15]]),[],none⟩,
 xS 16 5 9])
 (.seq (.ops [xL 16 10 2,
 xK 11 467 [.t 10],
 xM 12 11,
 yL 16 13 5 12 true,
 yK 14 467 [.t 13] 12 true,
 xP 15 .pick [.t 12,.t 14,.c (.bool false)],
 xM 16 15,
 yL 16 17 5 16 true,
 yK 18 455 [.t 17] 16 true,
 yP 19 (.bin .eql) [.t 18,.c (.int .i64 0)] 16 true,
 xP 20 .pick [.t 16,.t 19,.c (.bool false)],
 xM 4 20])
 .ret))) }
/-- datakit/norm.Push -/
def ac911:AFn:=
 { nt:=70,res:=[.cell 2 (some 15)],body:=
 (.seq (.ops [xB 15 1 0,
 xN 2 15 z0])
 (.seq (.seq (.ops [xF 0 7 1,
 xR 8 7,
 xP 9 (.bin .neq) [.t 8,.c (.int .i64 13)],
 xM 10 9,
 yF 14 11 1 10 false,
 yR 12 11 10 false,
 yP 13 .lenL [.t 12] 10 false,
 yP 14 (.bin .neq) [.t 13,.c (.int .i64 1)] 10 false,
 xP 15 .pick [.t 10,.c (.bool true),.t 14]])
 (.cond (.t 15)
 (.seq (.ops [xL 15 16 1,
 ⟨some 17,.pcall 926,[.t 16,.c (.fn 911 [])],none⟩,
 xS 15 2 17])
 .ret)
 .skip))
 (.seq (.ops [xF 14 18 1,
 xR 19 18,
 xP 20 (.iaddrS 15) [.t 19,.c (.int .i64 0)],
 xL 15 21 20,
 xN 3 15 z0,
 xS 15 3 21])
 (.seq (.seq (.ops [xF 0 22 3,
 xR 23 22])
 (.block 0
 (.seq (.ops [xP 25 (.bin .eql) [.t 23,.c (.int .i64 13)],
 xM 24 25])
 (.cond (.t 24)
 (.seq (.ops [xF 14 26 3,
 xR 27 26,
 xP 28 .lenL [.t 27],
 xP 29 (.bin .eql) [.t 28,.c (.int .i64 1)]])
 (.cond (.t 29)
 (.seq (.ops [xF 14 30 3,
 xR 31 30,
 xP 32 (.iaddrS 15) [.t 31,.c (.int .i64 0)],
 xL 15 33 32,
 xK 34 911 [.t 33],
 xS 15 2 34])
 .ret)
 .skip))
 (.seq (.ops [xP 36 (.bin .eql) [.t 23,.c (.int .i64 1)],
 xM 35 36])
 (.cond (.t 35)
 (.seq (.ops [⟨some 37,.call 927,[.c (.int .i64 2),.c (.snil 15)],none⟩,
 xS 15 2 37])
 .ret)
 (.seq (.ops [xP 39 (.bin .eql) [.t 23,.c (.int .i64 2)],
 xM 38 39])
 (.cond (.t 38)
 (.seq (.ops [⟨some 40,.call 927,[.c (.int .i64 1),.c (.snil 15)],none⟩,
 xS 15 2 40])
 .ret)
 (.seq (.seq (.ops [xP 42 (.bin .eql) [.t 23,.c (.int .i64 11)],
 xM 41 42])
 (.cond (.t 41)
 .skip
 (.ops [xP 43 (.bin .eql) [.t 23,.c (.int .i64 12)],
 xM 41 43])))
 (.cond (.t 41)
 (.seq (.ops [xF 0 44 3,
 xR 45 44,
 xP 46 (.bin .sub) [.c (.int .i64 23),.t 45],
 ⟨some 47,.call 927,[.t 46,.c (.snil 15)],none⟩,
 xN 4 15 z0,
 xS 15 4 47])
 (.seq (.seq (.ops [xF 14 48 3,
 xR 49 48,
 xP 50 .lenL [.t 49],
 xC 51 (.int .i64 0)])
 (.block 1
 (.loop [2,4,49,50,51]
 (.seq (.ops [xP 52 (.bin .lss) [.t 51,.t 50]])
 (.seq (.cond (.t 52)
 .skip
 (.exit 1))
 (.seq (.block 2
 (.seq (.ops [xI 15 53 49 51,
 xL 15 54 53,
 xN 6 15 z0,
 xS 15 6 54])
 (.draw 2 [[xF 14 55 4,
 xL 15 57 6,
 ⟨some 58,.newAt 0 (.buildSlice 15 [z0] [0]),[.t 57],none⟩,
 xR 56 55,
 ⟨some 59,.call 927,[.c (.int .i64 13),.t 58],none⟩,
 xK 60 911 [.t 59],
 ⟨some 61,.newAt 1 (.buildSlice 15 [z0] [0]),[.t 60],none⟩,
 ⟨some 62,.eff (.append 15 208),[.t 56,.t 61],none⟩,
 xF 14 63 4,
 xS 1 63 62],
 [xF 14 55 4,
 xL 15 57 6,
 ⟨some 58,.newAt 0 (.buildSlice 15 [z0] [0]),[.t 57],none⟩,
 ⟨some 59,.call 927,[.c (.int .i64 13),.t 58],none⟩,
 xR 56 55,
 xK 60 911 [.t 59],
 ⟨some 61,.newAt 1 (.buildSlice 15 [z0] [0]),[.t 60],none⟩,
 ⟨some 62,.eff (.append 15 208),[.t 56,.t 61],none⟩,
 xF 14 63 4,
 xS 1 63 62]])))
 (.ops [xP 64 (.bin .add) [.t 51,.c (.int .i64 1)],
 xM 51 64])))))))
 (.seq (.ops [xL 15 65 4,
 xS 15 2 65])
 .ret)))
 .skip))))))))))
 (.seq (.ops [xL 15 66 3,
 xK 67 911 [.t 66],
 ⟨some 68,.new (.buildSlice 15 [z0] [0]),[.t 67],none⟩,
 ⟨some 69,.call 927,[.c (.int .i64 13),.t 68],none⟩,
 xS 15 2 69])
 .ret))))) }
/-- datakit/datakitref50.Push -/
def ac912:AFn:=
 { nt:=5,res:=[.cell 2 (some 15)],body:=
 (.seq (.ops [xB 15 1 0,
 xN 2 15 z0])
 (.seq (.ops [xL 15 3 1,
 xK 4 928 [.t 3,.c (.bool false)],
 xS 15 2 4])
 .ret)) }
/-- datakit/norm.each -/
def ac926:AFn:=
 { nt:=85,res:=[.cell 4 (some 15)],body:=
 (.seq (.ops [xB 15 2 0,
 xN 4 15 z0])
 (.seq (.ops [xL 15 12 2,
 xN 5 15 z0,
 xS 15 5 12])
 (.seq (.ops [xF 5 13 2,
 xF 0 14 13,
 xR 15 14,
 ⟨some 16,.call 216,[.t 15],none⟩,
 xF 5 17 5,
 xF 0 18 17,
 xS 1 18 16])
 (.seq (.ops [xF 6 19 2,
 xL 6 20 19,
 xK 21 938 [.t 20],
 xF 6 22 5,
 xS 6 22 21])
 (.seq (.ops [xF 12 23 2,
 xR 24 23,
 ⟨some 25,.call 518,[.t 24],none⟩,
 xF 12 26 5,
 xS 1 26 25])
 (.seq (.seq (.ops [xF 12 27 5,
 xR 28 27,
 xP 29 .lenL [.t 28],
 xC 30 (.int .i64 0)])
 (.block 0
 (.loop [1,2,4,5,28,29,30]
 (.seq (.ops [xP 31 (.bin .lss) [.t 30,.t 29]])
 (.seq (.cond (.t 31)
 .skip
 (.exit 0))
 (.seq (.block 1
 (.seq (.ops [xM 32 30,
 xI 13 33 28 30,
 xL 13 34 33,
 ⟨some 7,.new (.new 13 [.agg [.int .i64 0,.bool false,.bool false,.str [],.int .i64 0,.int .i64 0,.int .i64 0,.int .i64 0,.int .i64 0,.str [],.snil 1,.snil 13,.snil 14]]),[],none⟩,
 xM 6 32,
 xS 13 7 34])
 (.ops [xF 12 35 5,
 xR 36 35,
 xM 37 6,
 xF 10 38 7,
 xR 39 38,
 xK 40 62 [.t 39],
 xI 13 41 36 37,
 xF 10 42 41,
 xS 1 42 40])))
 (.ops [xP 43 (.bin .add) [.t 30,.c (.int .i64 1)],
 xM 30 43])))))))
 (.seq (.ops [xF 13 44 5,
 ⟨none,.eff (.store 1),[.t 44,.c (.snil 17)],none⟩,
 xF 14 45 5,
 ⟨none,.eff (.store 1),[.t 45,.c (.snil 15)],none⟩])
 (.seq (.seq (.ops [xF 13 46 2,
 xR 47 46,
 xP 48 .lenL [.t 47],
 xC 49 (.int .i64 0)])
 (.block 2
 (.loop [1,2,4,5,47,48,49]
 (.seq (.ops [xP 50 (.bin .lss) [.t 49,.t 48]])
 (.seq (.cond (.t 50)
 .skip
 (.exit 2))
 (.seq (.block 3
 (.seq (.ops [xI 17 51 47 49,
 xL 17 52 51,
 xN 9 17 z1,
 xS 17 9 52])
 (.draw 1 [[xF 13 53 5,
 xF 0 55 9,
 xF 1 57 9,
 xM 59 1,
 xF 2 60 9,
 xL 15 61 60,
 xR 54 53,
 xR 56 55,
 xR 58 57,
 ⟨some 62,.callv,[.t 59,.t 61],none⟩,
 ⟨some 63,.pure (.build [.str [],.bool false,.int .i64 0,.int .i64 0,.int .i64 0,.int .i64 0,.str [],.snil 11,.int .i64 0,.int .i64 0,.int .i64 0,.int .i64 0,.int .i64 0,.snil 6,.snil 13,.snil 17,.snil 15] [(0,1),(1,1),(2,15)]),[.t 56,.t 58,.t 62],none⟩,
 ⟨some 64,.newAt 0 (.buildSlice 17 [z1] [0]),[.t 63],none⟩,
 ⟨some 65,.eff (.append 17 232),[.t 54,.t 64],none⟩,
 xF 13 66 5,
 xS 1 66 65],
 [xF 13 53 5,
 xF 0 55 9,
 xF 1 57 9,
 xM 59 1,
 xF 2 60 9,
 xL 15 61 60,
 xR 54 53,
 xR 56 55,
 ⟨some 62,.callv,[.t 59,.t 61],none⟩,
 xR 58 57,
 ⟨some 63,.pure (.build [.str [],.bool false,.int .i64 0,.int .i64 0,.int .i64 0,.int .i64 0,.str [],.snil 11,.int .i64 0,.int .i64 0,.int .i64 0,.int .i64 0,.int .i64 0,.snil 6,.snil 13,.snil 17,.snil 15] [(0,1),(1,1),(2,15)]),[.t 56,.t 58,.t 62],none⟩,
 ⟨some 64,.newAt 0 (.buildSlice 17 [z1] [0]),[.t 63],none⟩,
 ⟨some 65,.eff (.append 17 232),[.t 54,.t 64],none⟩,
 xF 13 66 5,
 xS 1 66 65],
 [xF 13 53 5,
 xF 0 55 9,
 xF 1 57 9,
 xM 59 1,
 xF 2 60 9,
 xL 15 61 60,
 xR 54 53,
 xR 58 57,
 xR 56 55,
 ⟨some 62,.callv,[.t 59,.t 61],none⟩,
 ⟨some 63,.pure (.build [.str [],.bool false,.int .i64 0,.int .i64 0,.int .i64 0,.int .i64 0,.str [],.snil 11,.int .i64 0,.int .i64 0,.int .i64 0,.int .i64 0,.int .i64 0,.snil 6,.snil 13,.snil 17,.snil 15] [(0,1),(1,1),(2,15)]),[.t 56,.t 58,.t 62],none⟩,
 ⟨some 64,.newAt 0 (.buildSlice 17 [z1] [0]),[.t 63],none⟩,
 ⟨some 65,.eff (.append 17 232),[.t 54,.t 64],none⟩,
 xF 13 66 5,
 xS 1 66 65],
 [xF 13 53 5,
 xF 0 55 9,
 xF 1 57 9,
 xM 59 1,
 xF 2 60 9,
 xL 15 61 60,
 xR 54 53,
 xR 58 57,
 ⟨some 62,.callv,[.t 59,.t 61],none⟩,
 xR 56 55,
 ⟨some 63,.pure (.build [.str [],.bool false,.int .i64 0,.int .i64 0,.int .i64 0,.int .i64 0,.str [],.snil 11,.int .i64 0,.int .i64 0,.int .i64 0,.int .i64 0,.int .i64 0,.snil 6,.snil 13,.snil 17,.snil 15] [(0,1),(1,1),(2,15)]),[.t 56,.t 58,.t 62],none⟩,
 ⟨some 64,.newAt 0 (.buildSlice 17 [z1] [0]),[.t 63],none⟩,
 ⟨some 65,.eff (.append 17 232),[.t 54,.t 64],none⟩,
 xF 13 66 5,
 xS 1 66 65],
 [xF 13 53 5,
 xF 0 55 9,
 xF 1 57 9,
 xM 59 1,
 xF 2 60 9,
 xL 15 61 60,
 xR 54 53,
 ⟨some 62,.callv,[.t 59,.t 61],none⟩,
 xR 56 55,
 xR 58 57,
 ⟨some 63,.pure (.build [.str [],.bool false,.int .i64 0,.int .i64 0,.int .i64 0,.int .i64 0,.str [],.snil 11,.int .i64 0,.int .i64 0,.int .i64 0,.int .i64 0,.int .i64 0,.snil 6,.snil 13,.snil 17,.snil 15] [(0,1),(1,1),(2,15)]),[.t 56,.t 58,.t 62],none⟩,
 ⟨some 64,.newAt 0 (.buildSlice 17 [z1] [0]),[.t 63],none⟩,
 ⟨some 65,.eff (.append 17 232),[.t 54,.t 64],none⟩,
 xF 13 66 5,
 xS 1 66 65],
 [xF 13 53 5,
 xF 0 55 9,
 xF 1 57 9,
 xM 59 1,
 xF 2 60 9,
 xL 15 61 60,
 xR 56 55,
 xR 54 53,
 xR 58 57,
 ⟨some 62,.callv,[.t 59,.t 61],none⟩,
 ⟨some 63,.pure (.build [.str [],.bool false,.int .i64 0,.int .i64 0,.int .i64 0,.int .i64 0,.str [],.snil 11,.int .i64 0,.int .i64 0,.int .i64 0,.int .i64 0,.int .i64 0,.snil 6,.snil 13,.snil 17,.snil 15] [(0,1),(1,1),(2,15)]),[.t 56,.t 58,.t 62],none⟩,
 ⟨some 64,.newAt 0 (.buildSlice 17 [z1] [0]),[.t 63],none⟩,
 ⟨some 65,.eff (.append 17 232),[.t 54,.t 64],none⟩,
 xF 13 66 5,
 xS 1 66 65],
 [xF 13 53 5,
 xF 0 55 9,
 xF 1 57 9,
 xM 59 1,
 xF 2 60 9,
 xL 15 61 60,
 xR 56 55,
 xR 54 53,
 ⟨some 62,.callv,[.t 59,.t 61],none⟩,
 xR 58 57,
 ⟨some 63,.pure (.build [.str [],.bool false,.int .i64 0,.int .i64 0,.int .i64 0,.int .i64 0,.str [],.snil 11,.int .i64 0,.int .i64 0,.int .i64 0,.int .i64 0,.int .i64 0,.snil 6,.snil 13,.snil 17,.snil 15] [(0,1),(1,1),(2,15)]),[.t 56,.t 58,.t 62],none⟩,
 ⟨some 64,.newAt 0 (.buildSlice 17 [z1] [0]),[.t 63],none⟩,
 ⟨some 65,.eff (.append 17 232),[.t 54,.t 64],none⟩,
 xF 13 66 5,
 xS 1 66 65],
 [xF 13 53 5,
 xF 0 55 9,
 xF 1 57 9,
 xM 59 1,
 xF 2 60 9,
 xL 15 61 60,
 xR 56 55,
 xR 58 57,
 xR 54 53,
 ⟨some 62,.callv,[.t 59,.t 61],none⟩,
 ⟨some 63,.pure (.build [.str [],.bool false,.int .i64 0,.int .i64 0,.int .i64 0,.int .i64 0,.str [],.snil 11,.int .i64 0,.int .i64 0,.int .i64 0,.int .i64 0,.int .i64 0,.snil 6,.snil 13,.snil 17,.snil 15] [(0,1),(1,1),(2,15)]),[.t 56,.t 58,.t 62],none⟩,
 ⟨some 64,.newAt 0 (.buildSlice 17 [z1] [0]),[.t 63],none⟩,
 ⟨some 65,.eff (.append 17 232),[.t 54,.t 64],none⟩,
 xF 13 66 5,
 xS 1 66 65],
 [xF 13 53 5,
 xF 0 55 9,
 xF 1 57 9,
 xM 59 1,
 xF 2 60 9,
 xL 15 61 60,
 xR 56 55,
 xR 58 57,
 ⟨some 62,.callv,[.t 59,.t 61],none⟩,
 xR 54 53,
 ⟨some 63,.pure (.build [.str [],.bool false,.int .i64 0,.int .i64 0,.int .i64 0,.int .i64 0,.str [],.snil 11,.int .i64 0,.int .i64 0,.int .i64 0,.int .i64 0,.int .i64 0,.snil 6,.snil 13,.snil 17,.snil 15] [(0,1),(1,1),(2,15)]),[.t 56,.t 58,.t 62],none⟩,
 ⟨some 64,.newAt 0 (.buildSlice 17 [z1] [0]),[.t 63],none⟩,
 ⟨some 65,.eff (.append 17 232),[.t 54,.t 64],none⟩,
 xF 13 66 5,
 xS 1 66 65],
 [xF 13 53 5,
 xF 0 55 9,
 xF 1 57 9,
 xM 59 1,
 xF 2 60 9,
 xL 15 61 60,
 xR 56 55,
 ⟨some 62,.callv,[.t 59,.t 61],none⟩,
 xR 54 53,
 xR 58 57,
 ⟨some 63,.pure (.build [.str [],.bool false,.int .i64 0,.int .i64 0,.int .i64 0,.int .i64 0,.str [],.snil 11,.int .i64 0,.int .i64 0,.int .i64 0,.int .i64 0,.int .i64 0,.snil 6,.snil 13,.snil 17,.snil 15] [(0,1),(1,1),(2,15)]),[.t 56,.t 58,.t 62],none⟩,
 ⟨some 64,.newAt 0 (.buildSlice 17 [z1] [0]),[.t 63],none⟩,
 ⟨some 65,.eff (.append 17 232),[.t 54,.t 64],none⟩,
 xF 13 66 5,
 xS 1 66 65],
 [xF 13 53 5,
 xF 0 55 9,
 xF 1 57 9,
 xM 59 1,
 xF 2 60 9,
 xL 15 61 60,
 xR 58 57,
 xR 54 53,
 xR 56 55,
 ⟨some 62,.callv,[.t 59,.t 61],none⟩,
 ⟨some 63,.pure (.build [.str [],.bool false,.int .i64 0,.int .i64 0,.int .i64 0,.int .i64 0,.str [],.snil 11,.int .i64 0,.int .i64 0,.int .i64 0,.int .i64 0,.int .i64 0,.snil 6,.snil 13,.snil 17,.snil 15] [(0,1),(1,1),(2,15)]),[.t 56,.t 58,.t 62],none⟩,
 ⟨some 64,.newAt 0 (.buildSlice 17 [z1] [0]),[.t 63],none⟩,
 ⟨some 65,.eff (.append 17 232),[.t 54,.t 64],none⟩,
 xF 13 66 5,
 xS 1 66 65],
 [xF 13 53 5,
 xF 0 55 9,
 xF 1 57 9,
 xM 59 1,
 xF 2 60 9,
 xL 15 61 60,
 xR 58 57,
 xR 54 53,
 ⟨some 62,.callv,[.t 59,.t 61],none⟩,
 xR 56 55,
 ⟨some 63,.pure (.build [.str [],.bool false,.int .i64 0,.int .i64 0,.int .i64 0,.int .i64 0,.str [],.snil 11,.int .i64 0,.int .i64 0,.int .i64 0,.int .i64 0,.int .i64 0,.snil 6,.snil 13,.snil 17,.snil 15] [(0,1),(1,1),(2,15)]),[.t 56,.t 58,.t 62],none⟩,
 ⟨some 64,.newAt 0 (.buildSlice 17 [z1] [0]),[.t 63],none⟩,
 ⟨some 65,.eff (.append 17 232),[.t 54,.t 64],none⟩,
 xF 13 66 5,
 xS 1 66 65],
 [xF 13 53 5,
 xF 0 55 9,
 xF 1 57 9,
 xM 59 1,
 xF 2 60 9,
 xL 15 61 60,
 xR 58 57,
 xR 56 55,
 xR 54 53,
 ⟨some 62,.callv,[.t 59,.t 61],none⟩,
 ⟨some 63,.pure (.build [.str [],.bool false,.int .i64 0,.int .i64 0,.int .i64 0,.int .i64 0,.str [],.snil 11,.int .i64 0,.int .i64 0,.int .i64 0,.int .i64 0,.int .i64 0,.snil 6,.snil 13,.snil 17,.snil 15] [(0,1),(1,1),(2,15)]),[.t 56,.t 58,.t 62],none⟩,
 ⟨some 64,.newAt 0 (.buildSlice 17 [z1] [0]),[.t 63],none⟩,
 ⟨some 65,.eff (.append 17 232),[.t 54,.t 64],none⟩,
 xF 13 66 5,
 xS 1 66 65],
 [xF 13 53 5,
 xF 0 55 9,
 xF 1 57 9,
 xM 59 1,
 xF 2 60 9,
 xL 15 61 60,
 xR 58 57,
 xR 56 55,
 ⟨some 62,.callv,[.t 59,.t 61],none⟩,
 xR 54 53,
 ⟨some 63,.pure (.build [.str [],.bool false,.int .i64 0,.int .i64 0,.int .i64 0,.int .i64 0,.str [],.snil 11,.int .i64 0,.int .i64 0,.int .i64 0,.int .i64 0,.int .i64 0,.snil 6,.snil 13,.snil 17,.snil 15] [(0,1),(1,1),(2,15)]),[.t 56,.t 58,.t 62],none⟩,
 ⟨some 64,.newAt 0 (.buildSlice 17 [z1] [0]),[.t 63],none⟩,
 ⟨some 65,.eff (.append 17 232),[.t 54,.t 64],none⟩,
 xF 13 66 5,
 xS 1 66 65],
 [xF 13 53 5,
 xF 0 55 9,
 xF 1 57 9,
 xM 59 1,
 xF 2 60 9,
 xL 15 61 60,
 xR 58 57,
 ⟨some 62,.callv,[.t 59,.t 61],none⟩,
 xR 54 53,
 xR 56 55,
 ⟨some 63,.pure (.build [.str [],.bool false,.int .i64 0,.int .i64 0,.int .i64 0,.int .i64 0,.str [],.snil 11,.int .i64 0,.int .i64 0,.int .i64 0,.int .i64 0,.int .i64 0,.snil 6,.snil 13,.snil 17,.snil 15] [(0,1),(1,1),(2,15)]),[.t 56,.t 58,.t 62],none⟩,
 ⟨some 64,.newAt 0 (.buildSlice 17 [z1] [0]),[.t 63],none⟩,
 ⟨some 65,.eff (.append 17 232),[.t 54,.t 64],none⟩,
 xF 13 66 5,
 xS 1 66 65],
 [xF 13 53 5,
 xF 0 55 9,
 xF 1 57 9,
 xM 59 1,
 xF 2 60 9,
 xL 15 61 60,
 ⟨some 62,.callv,[.t 59,.t 61],none⟩,
 xR 54 53,
 xR 56 55,
 xR 58 57,
 ⟨some 63,.pure (.build [.str [],.bool false,.int .i64 0,.int .i64 0,.int .i64 0,.int .i64 0,.str [],.snil 11,.int .i64 0,.int .i64 0,.int .i64 0,.int .i64 0,.int .i64 0,.snil 6,.snil 13,.snil 17,.snil 15] [(0,1),(1,1),(2,15)]),[.t 56,.t 58,.t 62],none⟩,
 ⟨some 64,.newAt 0 (.buildSlice 17 [z1] [0]),[.t 63],none⟩,
 ⟨some 65,.eff (.append 17 232),[.t 54,.t 64],none⟩,
 xF 13 66 5,
 xS 1 66 65]])))
 (.ops [xP 67 (.bin .add) [.t 49,.c (.int .i64 1)],
 xM 49 67])))))))
 (.seq (.seq (.ops [xF 14 68 2,
 xR 69 68,
 xP 70 .lenL [.t 69],
 xC 71 (.int .i64 0)])
 (.block 4
 (.loop [1,4,5,69,70,71]
 (.seq (.ops [xP 72 (.bin .lss) [.t 71,.t 70]])
 (.seq (.cond (.t 72)
 .skip
 (.exit 4))
 (.seq (.block 5
 (.seq (.ops [xI 15 73 69 71,
 xL 15 74 73,
 xN 11 15 z0,
 xS 15 11 74])
 (.draw 1 [[xF 14 75 5,
 xM 77 1,
 xL 15 78 11,
 xR 76 75,
 ⟨some 79,.callv,[.t 77,.t 78],none⟩,
 ⟨some 80,.newAt 0 (.buildSlice 15 [z0] [0]),[.t 79],none⟩,
 ⟨some 81,.eff (.append 15 208),[.t 76,.t 80],none⟩,
 xF 14 82 5,
 xS 1 82 81],
 [xF 14 75 5,
 xM 77 1,
 xL 15 78 11,
 ⟨some 79,.callv,[.t 77,.t 78],none⟩,
 xR 76 75,
 ⟨some 80,.newAt 0 (.buildSlice 15 [z0] [0]),[.t 79],none⟩,
 ⟨some 81,.eff (.append 15 208),[.t 76,.t 80],none⟩,
 xF 14 82 5,
 xS 1 82 81]])))
 (.ops [xP 83 (.bin .add) [.t 71,.c (.int .i64 1)],
 xM 71 83])))))))
 (.seq (.ops [xL 15 84 5,
 xS 15 4 84])
 .ret)))))))))) }
/-- datakit/norm.with -/
def ac927:AFn:=
 { nt:=8,res:=[.cell 4 (some 15)],body:=
 (.seq (.ops [xN 4 15 z0])
 (.seq (.ops [xM 5 0,
 xM 6 1,
 ⟨some 7,.pure (.build [.int .i64 0,.int .i64 0,.int .i64 0,.int .i64 0,.str [],.snil 11,.int .i64 0,.int .i64 0,.int .i64 0,.int .i64 0,.int .i64 0,.snil 6,.snil 13,.snil 17,.snil 15] [(0,1),(14,1)]),[.t 5,.t 6],none⟩,
 xS 15 4 7])
 .ret)) }
/-- datakit/datakitref50.push -/
def ac928:AFn:=
 { nt:=80,res:=[.cell 4 (some 15)],body:=
 (.seq (.ops [xB 15 2 0,
 xN 4 15 z0])
 (.seq (.seq (.ops [xF 0 9 2,
 xR 10 9])
 (.block 0
 (.seq (.ops [xP 12 (.bin .eql) [.t 10,.c (.int .i64 13)],
 xM 11 12])
 (.cond (.t 11)
 (.seq (.ops [xF 14 13 2,
 xR 14 13,
 xP 15 (.iaddrS 15) [.t 14,.c (.int .i64 0)],
 xL 15 16 15,
 xM 17 1,
 xP 18 (.un .not) [.t 17],
 xK 19 928 [.t 16,.t 18],
 xS 15 4 19])
 .ret)
 (.seq (.seq (.ops [xP 21 (.bin .eql) [.t 10,.c (.int .i64 11)],
 xM 20 21])
 (.cond (.t 20)
 .skip
 (.ops [xP 22 (.bin .eql) [.t 10,.c (.int .i64 12)],
 xM 20 22])))
 (.cond (.t 20)
 (.seq (.ops [xF 0 23 2,
 xR 24 23,
 xM 5 24])
 (.seq (.seq (.ops [xM 25 1])
 (.cond (.t 25)
 (.ops [xF 0 26 2,
 xR 27 26,
 xP 28 (.bin .sub) [.c (.int .i64 23),.t 27],
 xM 5 28])
 .skip))
 (.seq (.ops [xM 29 5,
 xF 14 30 2,
 xR 31 30,
 xM 32 1,
 xK 33 939 [.t 31,.t 32],
 ⟨some 34,.pure (.build [.int .i64 0,.int .i64 0,.int .i64 0,.int .i64 0,.str [],.snil 11,.int .i64 0,.int .i64 0,.int .i64 0,.int .i64 0,.int .i64 0,.snil 6,.snil 13,.snil 17,.snil 15] [(0,1),(14,1)]),[.t 29,.t 33],none⟩,
 xS 15 4 34])
 .ret)))
 (.seq (.seq (.ops [xP 36 (.bin .eql) [.t 10,.c (.int .i64 1)],
 xM 35 36])
 (.cond (.t 35)
 .skip
 (.ops [xP 37 (.bin .eql) [.t 10,.c (.int .i64 2)],
 xM 35 37])))
 (.cond (.t 35)
 (.seq (.seq (.ops [xM 38 1])
 (.cond (.t 38)
 (.seq (.ops [xF 0 39 2,
 xR 40 39,
 xP 41 (.bin .sub) [.c (.int .i64 3),.t 40],
 ⟨some 42,.pure (.build [.int .i64 0,.int .i64 0,.int .i64 0,.int .i64 0,.str [],.snil 11,.int .i64 0,.int .i64 0,.int .i64 0,.int .i64 0,.int .i64 0,.snil 6,.snil 13,.snil 17,.snil 15] [(0,1)]),[.t 41],none⟩,
 xS 15 4 42])
 .ret)
 .skip))
 (.seq (.ops [xL 15 43 2,
 xS 15 4 43])
 .ret))
 .skip))))))))
 (.seq (.ops [xL 15 44 2,
 xN 6 15 z0,
 xS 15 6 44])
 (.seq (.ops [xF 13 45 6,
 ⟨none,.eff (.store 1),[.t 45,.c (.snil 17)],none⟩])
 (.seq (.ops [xF 14 46 2,
 xR 47 46,
 xK 48 939 [.t 47,.c (.bool false)],
 xF 14 49 6,
 xS 1 49 48])
 (.seq (.seq (.ops [xC 7 (.int .i64 0)])
 (.block 1
 (.loop [1,2,4,6,7]
 (.seq (.seq (.ops [xM 50 7,
 xF 13 51 2,
 xR 52 51,
 xP 53 .lenL [.t 52],
 xP 54 (.bin .lss) [.t 50,.t 53]])
 (.cond (.t 54)
 .skip
 (.exit 1)))
 (.seq (.block 2
 (.seq (.ops [xF 13 57 2,
 xR 58 57,
 xM 59 7,
 xI 17 60 58 59,
 xL 17 61 60,
 xN 8 17 z1,
 xS 17 8 61])
 (.draw 1 [[xF 13 62 6,
 xR 63 62,
 xF 0 64 8,
 xR 65 64,
 xF 1 66 8,
 xR 67 66,
 xF 2 68 8,
 xL 15 69 68,
 xK 70 928 [.t 69,.c (.bool false)],
 ⟨some 71,.pure (.build [.str [],.bool false,.int .i64 0,.int .i64 0,.int .i64 0,.int .i64 0,.str [],.snil 11,.int .i64 0,.int .i64 0,.int .i64 0,.int .i64 0,.int .i64 0,.snil 6,.snil 13,.snil 17,.snil 15] [(0,1),(1,1),(2,15)]),[.t 65,.t 67,.t 70],none⟩,
 ⟨some 72,.newAt 0 (.buildSlice 17 [z1] [0]),[.t 71],none⟩,
 ⟨some 73,.eff (.append 17 232),[.t 63,.t 72],none⟩,
 xF 13 74 6,
 xS 1 74 73]])))
 (.ops [xM 55 7,
 xP 56 (.bin .add) [.t 55,.c (.int .i64 1)],
 xM 7 56]))))))
 (.seq (.seq (.ops [xM 75 1])
 (.cond (.t 75)
 (.seq (.ops [xL 15 76 6,
 ⟨some 77,.new (.buildSlice 15 [z0] [0]),[.t 76],none⟩,
 ⟨some 78,.pure (.build [.int .i64 0,.int .i64 0,.int .i64 0,.int .i64 0,.str [],.snil 11,.int .i64 0,.int .i64 0,.int .i64 0,.int .i64 0,.int .i64 0,.snil 6,.snil 13,.snil 17,.snil 15] [(0,1),(14,1)]),[.c (.int .i64 13),.t 77],none⟩,
 xS 15 4 78])
 .ret)
 .skip))
 (.seq (.ops [xL 15 79 6,
 xS 15 4 79])
 .ret)))))))) }
/-- datakit/norm.pattern -/
def ac938:AFn:=
 { nt:=24,res:=[.cell 2 (some 6)],body:=
 (.seq (.ops [xB 6 1 0,
 ⟨some 2,.new (.new 6 [.agg [.int .i64 0,.int .i64 0,.int .i64 0,.int .i64 0,.int .i64 0,.snil 6]]),[],none⟩])
 (.seq (.ops [xL 6 6 1,
 ⟨some 3,.new (.new 6 [.agg [.int .i64 0,.int .i64 0,.int .i64 0,.int .i64 0,.int .i64 0,.snil 6]]),[],none⟩,
 xS 6 3 6])
 (.seq (.ops [xF 5 7 3,
 ⟨none,.eff (.store 1),[.t 7,.c (.snil 6)],none⟩])
 (.seq (.seq (.ops [xF 5 8 1,
 xR 9 8,
 xP 10 .lenL [.t 9],
 xC 11 (.int .i64 0)])
 (.block 0
 (.loop [2,3,9,10,11]
 (.seq (.ops [xP 12 (.bin .lss) [.t 11,.t 10]])
 (.seq (.cond (.t 12)
 .skip
 (.exit 0))
 (.seq (.block 1
 (.seq (.ops [xI 6 13 9 11,
 xL 6 14 13,
 ⟨some 5,.new (.new 6 [.agg [.int .i64 0,.int .i64 0,.int .i64 0,.int .i64 0,.int .i64 0,.snil 6]]),[],none⟩,
 xS 6 5 14])
 (.draw 1 [[xF 5 15 3,
 xR 16 15,
 xL 6 17 5,
 xK 18 938 [.t 17],
 ⟨some 19,.newAt 0 (.buildSlice 6 [.agg [.int .i64 0,.int .i64 0,.int .i64 0,.int .i64 0,.int .i64 0,.snil 6]] [0]),[.t 18],none⟩,
 ⟨some 20,.eff (.append 6 64),[.t 16,.t 19],none⟩,
 xF 5 21 3,
 xS 1 21 20]])))
 (.ops [xP 22 (.bin .add) [.t 11,.c (.int .i64 1)],
 xM 11 22])))))))
 (.seq (.ops [xL 6 23 3,
 xS 6 2 23])
 .ret))))) }
/-- datakit/datakitref50.all -/
def ac939:AFn:=
 { nt:=23,res:=[.tmp 4],body:=
 (.seq (.ops [xC 4 (.snil 15)])
 (.seq (.ops [xC 5 (.snil 15)])
 (.seq (.seq (.ops [xC 6 (.int .i64 0)])
 (.block 0
 (.loop [0,1,5,6]
 (.seq (.seq (.ops [xM 7 6,
 xM 8 0,
 xP 9 .lenL [.t 8],
 xP 10 (.bin .lss) [.t 7,.t 9]])
 (.cond (.t 10)
 .skip
 (.exit 0)))
 (.seq (.block 1
 (.ops [xM 13 5,
 xM 14 0,
 xM 15 6,
 xI 15 16 14 15,
 xL 15 17 16,
 xM 18 1,
 xK 19 928 [.t 17,.t 18],
 ⟨some 20,.new (.buildSlice 15 [z0] [0]),[.t 19],none⟩,
 ⟨some 21,.eff (.append 15 208),[.t 13,.t 20],none⟩,
 xM 5 21]))
 (.ops [xM 11 6,
 xP 12 (.bin .add) [.t 11,.c (.int .i64 1)],
 xM 6 12]))))))
 (.seq (.ops [xM 22 5,
 xM 4 22])
 .ret)))) }
def codeU1:Nat→Option AFn
 | 903=>some ac903
 | 909=>some ac909
 | 911=>some ac911
 | 912=>some ac912
 | 926=>some ac926
 | 927=>some ac927
 | 928=>some ac928
 | 938=>some ac938
 | 939=>some ac939
 | _=>none
def codeU (f:Nat):Option AFn:=match codeS f with
 | some a=>some a
 | none=>codeU1 f
def CU:Ctx:=extCtx (mkCtx codeU clRS clPS) csQ lnQ ssQ
end Ago
