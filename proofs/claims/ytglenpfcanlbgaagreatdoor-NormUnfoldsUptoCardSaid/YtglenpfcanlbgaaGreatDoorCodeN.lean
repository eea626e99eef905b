/- The abstract code of the functions,printed by program. -/
import Derived.Test.YtglenpfcanlbgaaGreatDoorCode
set_option linter.unusedSimpArgs false
set_option linter.unusedVariables false
set_option maxRecDepth 100000
namespace Ago
/-- datakit/datakitlaw50.NormUnfolds -/
def ac906:AFn:=
 { nt:=44,res:=[.tmp 4],body:=
 (.seq (.ops [xB 16 2 0,
 xB 15 3 1,
 xC 4 (.bool false)])
 (.seq (.seq (.ops [xL 16 9 2,
 xK 10 467 [.t 9],
 xP 11 (.un .not) [.t 10],
 xM 12 11,
 yF 0 13 2 12 false,
 yR 14 13 12 false,
 yL 15 15 3 12 false,
 ⟨some 16,.pure (.build [.snil 16,.int .i64 0,.int .i64 0,.int .i64 0,.int .i64 0,.str [],.snil 11,.int .i64 0,.int .i64 0,.int .i64 0,.int .i64 0,.int .i64 0,.snil 6,.snil 13,.snil 17,.snil 15] [(0,1),(1,15)]),[.t 14,.t 15],some (12,false)⟩,
 yK 17 467 [.t 16] 12 false,
 yP 18 (.un .not) [.t 17] 12 false,
 xP 19 .pick [.t 12,.c (.bool true),.t 18]])
 (.cond (.t 19)
 (.seq (.ops [xK 20 910 [],
 xM 4 20])
 .ret)
 .skip))
 (.seq (.ops [xL 16 22 2,
 xL 15 23 3,
 xK 24 920 [.t 22,.t 23],
 xM 21 24,
 xP 25 (.ext 0) [.t 21],
 xP 26 (.ext 1) [.t 21],
 xN 5 15 z0,
 xS 15 5 25,
 xM 6 26])
 (.seq (.ops [xL 16 28 2,
 xL 15 29 3,
 xK 30 921 [.t 28,.t 29],
 xM 27 30,
 xP 31 (.ext 0) [.t 27],
 xP 32 (.ext 1) [.t 27],
 xN 7 15 z0,
 xS 15 7 31,
 xM 8 32])
 (.seq (.ops [xL 15 33 5,
 xL 15 34 7,
 xK 35 461 [.t 33,.t 34],
 xM 36 35,
 yM 37 6 36 true,
 yM 38 8 36 true,
 yP 39 (.bin .eql) [.t 37,.t 38] 36 true,
 xP 40 .pick [.t 36,.t 39,.c (.bool false)],
 xM 41 40,
 yK 42 910 [] 41 true,
 xP 43 .pick [.t 41,.t 42,.c (.bool false)],
 xM 4 43])
 .ret))))) }
/-- datakit/norm.Unfold -/
def ac920:AFn:=
 { nt:=26,res:=[.cell 4 (some 15),.tmp 5],body:=
 (.seq (.ops [xB 16 2 0,
 xB 15 3 1,
 xN 4 15 z0,
 xC 5 (.int .i64 0)])
 (.seq (.seq (.ops [xL 16 7 2,
 xL 15 8 3,
 xK 9 929 [.t 7,.t 8],
 xM 6 9])
 (.seq (.ops [xM 10 6,
 xP 11 (.bin .neq) [.t 10,.c (.int .i64 0)]])
 (.cond (.t 11)
 (.seq (.ops [⟨some 12,.pure (.build [.int .i64 0,.int .i64 0,.int .i64 0,.int .i64 0,.str [],.snil 11,.int .i64 0,.int .i64 0,.int .i64 0,.int .i64 0,.int .i64 0,.snil 6,.snil 13,.snil 17,.snil 15] []),[],none⟩,
 xM 13 6,
 xS 15 4 12,
 xM 5 13])
 .ret)
 .skip)))
 (.seq (.block 0
 (.loop [2,3,4]
 (.seq (.seq (.ops [xF 0 14 3,
 xR 15 14,
 xP 16 (.bin .eql) [.t 15,.c (.int .i64 14)]])
 (.cond (.t 16)
 .skip
 (.exit 0)))
 (.block 1
 (.ops [xL 16 18 2,
 xF 4 19 3,
 xR 20 19,
 xK 21 457 [.t 18,.t 20],
 xM 17 21,
 xP 22 (.ext 0) [.t 17],
 xP 23 (.ext 1) [.t 17],
 xS 15 3 22])))))
 (.seq (.ops [xL 15 24 3,
 xK 25 934 [.t 24],
 xS 15 4 25,
 xC 5 (.int .i64 0)])
 .ret)))) }
/-- datakit/datakitref50.Unfold -/
def ac921:AFn:=
 { nt:=27,res:=[.cell 4 (some 15),.tmp 5],body:=
 (.seq (.ops [xB 16 2 0,
 xB 15 3 1,
 xN 4 15 z0,
 xC 5 (.int .i64 0)])
 (.seq (.seq (.ops [xF 0 7 2,
 xR 8 7,
 xL 15 9 3,
 ⟨some 10,.pure (.build [.snil 16,.int .i64 0,.int .i64 0,.int .i64 0,.int .i64 0,.str [],.snil 11,.int .i64 0,.int .i64 0,.int .i64 0,.int .i64 0,.int .i64 0,.snil 6,.snil 13,.snil 17,.snil 15] [(0,1),(1,15)]),[.t 8,.t 9],none⟩,
 xK 11 455 [.t 10],
 xM 6 11])
 (.seq (.ops [xM 12 6,
 xP 13 (.bin .neq) [.t 12,.c (.int .i64 0)]])
 (.cond (.t 13)
 (.seq (.ops [⟨some 14,.pure (.build [.int .i64 0,.int .i64 0,.int .i64 0,.int .i64 0,.str [],.snil 11,.int .i64 0,.int .i64 0,.int .i64 0,.int .i64 0,.int .i64 0,.snil 6,.snil 13,.snil 17,.snil 15] []),[],none⟩,
 xM 15 6,
 xS 15 4 14,
 xM 5 15])
 .ret)
 .skip)))
 (.seq (.block 0
 (.loop [2,3,4]
 (.seq (.seq (.ops [xF 0 16 3,
 xR 17 16,
 xP 18 (.bin .eql) [.t 17,.c (.int .i64 14)]])
 (.cond (.t 18)
 .skip
 (.exit 0)))
 (.block 1
 (.ops [xL 16 20 2,
 xF 4 21 3,
 xR 22 21,
 xK 23 458 [.t 20,.t 22],
 xM 19 23,
 xP 24 (.ext 0) [.t 19],
 xP 25 (.ext 1) [.t 19],
 xS 15 3 24])))))
 (.seq (.ops [xL 15 26 3,
 xS 15 4 26,
 xC 5 (.int .i64 0)])
 .ret)))) }
/-- datakit/norm.each -/
def ac926:AFn:=
 { nt:=85,res:=[.cell 4 (some 15)],body:=
 (.seq (.ops [xB 15 2 0,
 xN 4 15 z0])
 (.seq (.ops [xL 15 12 2,
 xN 5 15 z0,
 xS 15 5 12])
 (.seq (.ops [xF 5 13 2,
 xF 0 14 13,
 xR 15 14,
 ⟨some 16,.call 216,[.t 15],none⟩,
 xF 5 17 5,
 xF 0 18 17,
 xS 1 18 16])
 (.seq (.ops [xF 6 19 2,
 xL 6 20 19,
 xK 21 938 [.t 20],
 xF 6 22 5,
 xS 6 22 21])
 (.seq (.ops [xF 12 23 2,
 xR 24 23,
 ⟨some 25,.call 518,[.t 24],none⟩,
 xF 12 26 5,
 xS 1 26 25])
 (.seq (.seq (.ops [xF 12 27 5,
 xR 28 27,
 xP 29 .lenL [.t 28],
 xC 30 (.int .i64 0)])
 (.block 0
 (.loop [1,2,4,5,28,29,30]
 (.seq (.ops [xP 31 (.bin .lss) [.t 30,.t 29]])
 (.seq (.cond (.t 31)
 .skip
 (.exit 0))
 (.seq (.block 1
 (.seq (.ops [xM 32 30,
 xI 13 33 28 30,
 xL 13 34 33,
 xN 7 13 z2,
 xM 6 32,
 xS 13 7 34])
 (.ops [xF 12 35 5,
 xR 36 35,
 xM 37 6,
 xF 10 38 7,
 xR 39 38,
 xK 40 62 [.t 39],
 xI 13 41 36 37,
 xF 10 42 41,
 xS 1 42 40])))
 (.ops [xP 43 (.bin .add) [.t 30,.c (.int .i64 1)],
 xM 30 43])))))))
 (.seq (.ops [xF 13 44 5,
 ⟨none,.eff (.store 1),[.t 44,.c (.snil 17)],none⟩,
 xF 14 45 5,
 ⟨none,.eff (.store 1),[.t 45,.c (.snil 15)],none⟩])
 (.seq (.seq (.ops [xF 13 46 2,
 xR 47 46,
 xP 48 .lenL [.t 47],
 xC 49 (.int .i64 0)])
 (.block 2
 (.loop [1,2,4,5,47,48,49]
 (.seq (.ops [xP 50 (.bin .lss) [.t 49,.t 48]])
 (.seq (.cond (.t 50)
 .skip
 (.exit 2))
 (.seq (.block 3
 (.seq (.ops [xI 17 51 47 49,
 xL 17 52 51,
 xN 9 17 z3,
 xS 17 9 52])
 (.draw 1 [[xF 13 53 5,
 xF 0 55 9,
 xF 1 57 9,
 xM 59 1,
 xF 2 60 9,
 xL 15 61 60,
 xR 54 53,
 xR 56 55,
 xR 58 57,
 ⟨some 62,.callv,[.t 59,.t 61],none⟩,
 ⟨some 63,.pure (.build [.str [],.bool false,.int .i64 0,.int .i64 0,.int .i64 0,.int .i64 0,.str [],.snil 11,.int .i64 0,.int .i64 0,.int .i64 0,.int .i64 0,.int .i64 0,.snil 6,.snil 13,.snil 17,.snil 15] [(0,1),(1,1),(2,15)]),[.t 56,.t 58,.t 62],none⟩,
 ⟨some 64,.newAt 0 (.buildSlice 17 [z3] [0]),[.t 63],none⟩,
 ⟨some 65,.eff (.append 17 232),[.t 54,.t 64],none⟩,
 xF 13 66 5,
 xS 1 66 65],
 [xF 13 53 5,
 xF 0 55 9,
 xF 1 57 9,
 xM 59 1,
 xF 2 60 9,
 xL 15 61 60,
 xR 54 53,
 xR 56 55,
 ⟨some 62,.callv,[.t 59,.t 61],none⟩,
 xR 58 57,
 ⟨some 63,.pure (.build [.str [],.bool false,.int .i64 0,.int .i64 0,.int .i64 0,.int .i64 0,.str [],.snil 11,.int .i64 0,.int .i64 0,.int .i64 0,.int .i64 0,.int .i64 0,.snil 6,.snil 13,.snil 17,.snil 15] [(0,1),(1,1),(2,15)]),[.t 56,.t 58,.t 62],none⟩,
 ⟨some 64,.newAt 0 (.buildSlice 17 [z3] [0]),[.t 63],none⟩,
 ⟨some 65,.eff (.append 17 232),[.t 54,.t 64],none⟩,
 xF 13 66 5,
 xS 1 66 65],
 [xF 13 53 5,
 xF 0 55 9,
 xF 1 57 9,
 xM 59 1,
 xF 2 60 9,
 xL 15 61 60,
 xR 54 53,
 xR 58 57,
 xR 56 55,
 ⟨some 62,.callv,[.t 59,.t 61],none⟩,
 ⟨some 63,.pure (.build [.str [],.bool false,.int .i64 0,.int .i64 0,.int .i64 0,.int .i64 0,.str [],.snil 11,.int .i64 0,.int .i64 0,.int .i64 0,.int .i64 0,.int .i64 0,.snil 6,.snil 13,.snil 17,.snil 15] [(0,1),(1,1),(2,15)]),[.t 56,.t 58,.t 62],none⟩,
 ⟨some 64,.newAt 0 (.buildSlice 17 [z3] [0]),[.t 63],none⟩,
 ⟨some 65,.eff (.append 17 232),[.t 54,.t 64],none⟩,
 xF 13 66 5,
 xS 1 66 65],
 [xF 13 53 5,
 xF 0 55 9,
 xF 1 57 9,
 xM 59 1,
 xF 2 60 9,
 xL 15 61 60,
 xR 54 53,
 xR 58 57,
 ⟨some 62,.callv,[.t 59,.t 61],none⟩,
 xR 56 55,
 ⟨some 63,.pure (.build [.str [],.bool false,.int .i64 0,.int .i64 0,.int .i64 0,.int .i64 0,.str [],.snil 11,.int .i64 0,.int .i64 0,.int .i64 0,.int .i64 0,.int .i64 0,.snil 6,.snil 13,.snil 17,.snil 15] [(0,1),(1,1),(2,15)]),[.t 56,.t 58,.t 62],none⟩,
 ⟨some 64,.newAt 0 (.buildSlice 17 [z3] [0]),[.t 63],none⟩,
 ⟨some 65,.eff (.append 17 232),[.t 54,.t 64],none⟩,
 xF 13 66 5,
 xS 1 66 65],
 [xF 13 53 5,
 xF 0 55 9,
 xF 1 57 9,
 xM 59 1,
 xF 2 60 9,
 xL 15 61 60,
 xR 54 53,
 ⟨some 62,.callv,[.t 59,.t 61],none⟩,
 xR 56 55,
 xR 58 57,
 ⟨some 63,.pure (.build [.str [],.bool false,.int .i64 0,.int .i64 0,.int .i64 0,.int .i64 0,.str [],.snil 11,.int .i64 0,.int .i64 0,.int .i64 0,.int .i64 0,.int .i64 0,.snil 6,.snil 13,.snil 17,.snil 15] [(0,1),(1,1),(2,15)]),[.t 56,.t 58,.t 62],none⟩,
 ⟨some 64,.newAt 0 (.buildSlice 17 [z3] [0]),[.t 63],none⟩,
 ⟨some 65,.eff (.append 17 232),[.t 54,.t 64],none⟩,
 xF 13 66 5,
 xS 1 66 65],
 [xF 13 53 5,
 xF 0 55 9,
 xF 1 57 9,
 xM 59 1,
 xF 2 60 9,
 xL 15 61 60,
 xR 56 55,
 xR 54 53,
 xR 58 57,
 ⟨some 62,.callv,[.t 59,.t 61],none⟩,
 ⟨some 63,.pure (.build [.str [],.bool false,.int .i64 0,.int .i64 0,.int .i64 0,.int .i64 0,.str [],.snil 11,.int .i64 0,.int .i64 0,.int .i64 0,.int .i64 0,.int .i64 0,.snil 6,.snil 13,.snil 17,.snil 15] [(0,1),(1,1),(2,15)]),[.t 56,.t 58,.t 62],none⟩,
 ⟨some 64,.newAt 0 (.buildSlice 17 [z3] [0]),[.t 63],none⟩,
 ⟨some 65,.eff (.append 17 232),[.t 54,.t 64],none⟩,
 xF 13 66 5,
 xS 1 66 65],
 [xF 13 53 5,
 xF 0 55 9,
 xF 1 57 9,
 xM 59 1,
 xF 2 60 9,
 xL 15 61 60,
 xR 56 55,
 xR 54 53,
 ⟨some 62,.callv,[.t 59,.t 61],none⟩,
 xR 58 57,
 ⟨some 63,.pure (.build [.str [],.bool false,.int .i64 0,.int .i64 0,.int .i64 0,.int .i64 0,.str [],.snil 11,.int .i64 0,.int .i64 0,.int .i64 0,.int .i64 0,.int .i64 0,.snil 6,.snil 13,.snil 17,.snil 15] [(0,1),(1,1),(2,15)]),[.t 56,.t 58,.t 62],none⟩,
 ⟨some 64,.newAt 0 (.buildSlice 17 [z3] [0]),[.t 63],none⟩,
 ⟨some 65,.eff (.append 17 232),[.t 54,.t 64],none⟩,
 xF 13 66 5,
 xS 1 66 65],
 [xF 13 53 5,
 xF 0 55 9,
 xF 1 57 9,
 xM 59 1,
 xF 2 60 9,
 xL 15 61 60,
 xR 56 55,
 xR 58 57,
 xR 54 53,
 ⟨some 62,.callv,[.t 59,.t 61],none⟩,
 ⟨some 63,.pure (.build [.str [],.bool false,.int .i64 0,.int .i64 0,.int .i64 0,.int .i64 0,.str [],.snil 11,.int .i64 0,.int .i64 0,.int .i64 0,.int .i64 0,.int .i64 0,.snil 6,.snil 13,.snil 17,.snil 15] [(0,1),(1,1),(2,15)]),[.t 56,.t 58,.t 62],none⟩,
 ⟨some 64,.newAt 0 (.buildSlice 17 [z3] [0]),[.t 63],none⟩,
 ⟨some 65,.eff (.append 17 232),[.t 54,.t 64],none⟩,
 xF 13 66 5,
 xS 1 66 65],
 [xF 13 53 5,
 xF 0 55 9,
 xF 1 57 9,
 xM 59 1,
 xF 2 60 9,
 xL 15 61 60,
 xR 56 55,
 xR 58 57,
 ⟨some 62,.callv,[.t 59,.t 61],none⟩,
 xR 54 53,
 ⟨some 63,.pure (.build [.str [],.bool false,.int .i64 0,.int .i64 0,.int .i64 0,.int .i64 0,.str [],.snil 11,.int .i64 0,.int .i64 0,.int .i64 0,.int .i64 0,.int .i64 0,.snil 6,.snil 13,.snil 17,.snil 15] [(0,1),(1,1),(2,15)]),[.t 56,.t 58,.t 62],none⟩,
 ⟨some 64,.newAt 0 (.buildSlice 17 [z3] [0]),[.t 63],none⟩,
 ⟨some 65,.eff (.append 17 232),[.t 54,.t 64],none⟩,
 xF 13 66 5,
 xS 1 66 65],
 [xF 13 53 5,
 xF 0 55 9,
 xF 1 57 9,
 xM 59 1,
 xF 2 60 9,
 xL 15 61 60,
 xR 56 55,
 ⟨some 62,.callv,[.t 59,.t 61],none⟩,
 xR 54 53,
 xR 58 57,
 ⟨some 63,.pure (.build [.str [],.bool false,.int .i64 0,.int .i64 0,.int .i64 0,.int .i64 0,.str [],.snil 11,.int .i64 0,.int .i64 0,.int .i64 0,.int .i64 0,.int .i64 0,.snil 6,.snil 13,.snil 17,.snil 15] [(0,1),(1,1),(2,15)]),[.t 56,.t 58,.t 62],none⟩,
 ⟨some 64,.newAt 0 (.buildSlice 17 [z3] [0]),[.t 63],none⟩,
 ⟨some 65,.eff (.append 17 232),[.t 54,.t 64],none⟩,
 xF 13 66 5,
 xS 1 66 65],
 [xF 13 53 5,
 xF 0 55 9,
 xF 1 57 9,
 xM 59 1,
 xF 2 60 9,
 xL 15 61 60,
 xR 58 57,
 xR 54 53,
 xR 56 55,
 ⟨some 62,.callv,[.t 59,.t 61],none⟩,
 ⟨some 63,.pure (.build [.str [],.bool false,.int .i64 0,.int .i64 0,.int .i64 0,.int .i64 0,.str [],.snil 11,.int .i64 0,.int .i64 0,.int .i64 0,.int .i64 0,.int .i64 0,.snil 6,.snil 13,.snil 17,.snil 15] [(0,1),(1,1),(2,15)]),[.t 56,.t 58,.t 62],none⟩,
 ⟨some 64,.newAt 0 (.buildSlice 17 [z3] [0]),[.t 63],none⟩,
 ⟨some 65,.eff (.append 17 232),[.t 54,.t 64],none⟩,
 xF 13 66 5,
 xS 1 66 65],
 [xF 13 53 5,
 xF 0 55 9,
 xF 1 57 9,
 xM 59 1,
 xF 2 60 9,
 xL 15 61 60,
 xR 58 57,
 xR 54 53,
 ⟨some 62,.callv,[.t 59,.t 61],none⟩,
 xR 56 55,
 ⟨some 63,.pure (.build [.str [],.bool false,.int .i64 0,.int .i64 0,.int .i64 0,.int .i64 0,.str [],.snil 11,.int .i64 0,.int .i64 0,.int .i64 0,.int .i64 0,.int .i64 0,.snil 6,.snil 13,.snil 17,.snil 15] [(0,1),(1,1),(2,15)]),[.t 56,.t 58,.t 62],none⟩,
 ⟨some 64,.newAt 0 (.buildSlice 17 [z3] [0]),[.t 63],none⟩,
 ⟨some 65,.eff (.append 17 232),[.t 54,.t 64],none⟩,
 xF 13 66 5,
 xS 1 66 65],
 [xF 13 53 5,
 xF 0 55 9,
 xF 1 57 9,
 xM 59 1,
 xF 2 60 9,
 xL 15 61 60,
 xR 58 57,
 xR 56 55,
 xR 54 53,
 ⟨some 62,.callv,[.t 59,.t 61],none⟩,
 ⟨some 63,.pure (.build [.str [],.bool false,.int .i64 0,.int .i64 0,.int .i64 0,.int .i64 0,.str [],.snil 11,.int .i64 0,.int .i64 0,.int .i64 0,.int .i64 0,.int .i64 0,.snil 6,.snil 13,.snil 17,.snil 15] [(0,1),(1,1),(2,15)]),[.t 56,.t 58,.t 62],none⟩,
 ⟨some 64,.newAt 0 (.buildSlice 17 [z3] [0]),[.t 63],none⟩,
 ⟨some 65,.eff (.append 17 232),[.t 54,.t 64],none⟩,
 xF 13 66 5,
 xS 1 66 65],
 [xF 13 53 5,
 xF 0 55 9,
 xF 1 57 9,
 xM 59 1,
 xF 2 60 9,
 xL 15 61 60,
 xR 58 57,
 xR 56 55,
 ⟨some 62,.callv,[.t 59,.t 61],none⟩,
 xR 54 53,
 ⟨some 63,.pure (.build [.str [],.bool false,.int .i64 0,.int .i64 0,.int .i64 0,.int .i64 0,.str [],.snil 11,.int .i64 0,.int .i64 0,.int .i64 0,.int .i64 0,.int .i64 0,.snil 6,.snil 13,.snil 17,.snil 15] [(0,1),(1,1),(2,15)]),[.t 56,.t 58,.t 62],none⟩,
 ⟨some 64,.newAt 0 (.buildSlice 17 [z3] [0]),[.t 63],none⟩,
 ⟨some 65,.eff (.append 17 232),[.t 54,.t 64],none⟩,
 xF 13 66 5,
 xS 1 66 65],
 [xF 13 53 5,
 xF 0 55 9,
 xF 1 57 9,
 xM 59 1,
 xF 2 60 9,
 xL 15 61 60,
 xR 58 57,
 ⟨some 62,.callv,[.t 59,.t 61],none⟩,
 xR 54 53,
 xR 56 55,
 ⟨some 63,.pure (.build [.str [],.bool false,.int .i64 0,.int .i64 0,.int .i64 0,.int .i64 0,.str [],.snil 11,.int .i64 0,.int .i64 0,.int .i64 0,.int .i64 0,.int .i64 0,.snil 6,.snil 13,.snil 17,.snil 15] [(0,1),(1,1),(2,15)]),[.t 56,.t 58,.t 62],none⟩,
 ⟨some 64,.newAt 0 (.buildSlice 17 [z3] [0]),[.t 63],none⟩,
 ⟨some 65,.eff (.append 17 232),[.t 54,.t 64],none⟩,
 xF 13 66 5,
 xS 1 66 65],
 [xF 13 53 5,
 xF 0 55 9,
 xF 1 57 9,
 xM 59 1,
 xF 2 60 9,
 xL 15 61 60,
 ⟨some 62,.callv,[.t 59,.t 61],none⟩,
 xR 54 53,
 xR 56 55,
 xR 58 57,
 ⟨some 63,.pure (.build [.str [],.bool false,.int .i64 0,.int .i64 0,.int .i64 0,.int .i64 0,.str [],.snil 11,.int .i64 0,.int .i64 0,.int .i64 0,.int .i64 0,.int .i64 0,.snil 6,.snil 13,.snil 17,.snil 15] [(0,1),(1,1),(2,15)]),[.t 56,.t 58,.t 62],none⟩,
 ⟨some 64,.newAt 0 (.buildSlice 17 [z3] [0]),[.t 63],none⟩,
 ⟨some 65,.eff (.append 17 232),[.t 54,.t 64],none⟩,
 xF 13 66 5,
 xS 1 66 65]])))
 (.ops [xP 67 (.bin .add) [.t 49,.c (.int .i64 1)],
 xM 49 67])))))))
 (.seq (.seq (.ops [xF 14 68 2,
 xR 69 68,
 xP 70 .lenL [.t 69],
 xC 71 (.int .i64 0)])
 (.block 4
 (.loop [1,4,5,69,70,71]
 (.seq (.ops [xP 72 (.bin .lss) [.t 71,.t 70]])
 (.seq (.cond (.t 72)
 .skip
 (.exit 4))
 (.seq (.block 5
 (.seq (.ops [xI 15 73 69 71,
 xL 15 74 73,
 xN 11 15 z0,
 xS 15 11 74])
 (.draw 1 [[xF 14 75 5,
 xM 77 1,
 xL 15 78 11,
 xR 76 75,
 ⟨some 79,.callv,[.t 77,.t 78],none⟩,
 ⟨some 80,.newAt 0 (.buildSlice 15 [z0] [0]),[.t 79],none⟩,
 ⟨some 81,.eff (.append 15 208),[.t 76,.t 80],none⟩,
 xF 14 82 5,
 xS 1 82 81],
 [xF 14 75 5,
 xM 77 1,
 xL 15 78 11,
 ⟨some 79,.callv,[.t 77,.t 78],none⟩,
 xR 76 75,
 ⟨some 80,.newAt 0 (.buildSlice 15 [z0] [0]),[.t 79],none⟩,
 ⟨some 81,.eff (.append 15 208),[.t 76,.t 80],none⟩,
 xF 14 82 5,
 xS 1 82 81]])))
 (.ops [xP 83 (.bin .add) [.t 71,.c (.int .i64 1)],
 xM 71 83])))))))
 (.seq (.ops [xL 15 84 5,
 xS 15 4 84])
 .ret)))))))))) }
/-- datakit/norm.root -/
def ac929:AFn:=
 { nt:=10,res:=[.tmp 4],body:=
 (.seq (.ops [xB 16 2 0,
 xB 15 3 1,
 xC 4 (.int .i64 0)])
 (.seq (.ops [xF 0 5 2,
 xR 6 5,
 xL 15 7 3,
 ⟨some 8,.pure (.build [.snil 16,.int .i64 0,.int .i64 0,.int .i64 0,.int .i64 0,.str [],.snil 11,.int .i64 0,.int .i64 0,.int .i64 0,.int .i64 0,.int .i64 0,.snil 6,.snil 13,.snil 17,.snil 15] [(0,1),(1,15)]),[.t 6,.t 7],none⟩,
 xK 9 454 [.t 8],
 xM 4 9])
 .ret)) }
/-- datakit/norm.clone -/
def ac934:AFn:=
 { nt:=5,res:=[.cell 2 (some 15)],body:=
 (.seq (.ops [xB 15 1 0,
 xN 2 15 z0])
 (.seq (.ops [xL 15 3 1,
 ⟨some 4,.pcall 926,[.t 3,.c (.fn 934 [])],none⟩,
 xS 15 2 4])
 .ret)) }
/-- datakit/norm.pattern -/
def ac938:AFn:=
 { nt:=24,res:=[.cell 2 (some 6)],body:=
 (.seq (.ops [xB 6 1 0,
 xN 2 6 z4])
 (.seq (.ops [xL 6 6 1,
 xN 3 6 z4,
 xS 6 3 6])
 (.seq (.ops [xF 5 7 3,
 ⟨none,.eff (.store 1),[.t 7,.c (.snil 6)],none⟩])
 (.seq (.seq (.ops [xF 5 8 1,
 xR 9 8,
 xP 10 .lenL [.t 9],
 xC 11 (.int .i64 0)])
 (.block 0
 (.loop [2,3,9,10,11]
 (.seq (.ops [xP 12 (.bin .lss) [.t 11,.t 10]])
 (.seq (.cond (.t 12)
 .skip
 (.exit 0))
 (.seq (.block 1
 (.seq (.ops [xI 6 13 9 11,
 xL 6 14 13,
 xN 5 6 z4,
 xS 6 5 14])
 (.draw 1 [[xF 5 15 3,
 xR 16 15,
 xL 6 17 5,
 xK 18 938 [.t 17],
 ⟨some 19,.newAt 0 (.buildSlice 6 [z4] [0]),[.t 18],none⟩,
 ⟨some 20,.eff (.append 6 64),[.t 16,.t 19],none⟩,
 xF 5 21 3,
 xS 1 21 20]])))
 (.ops [xP 22 (.bin .add) [.t 11,.c (.int .i64 1)],
 xM 11 22])))))))
 (.seq (.ops [xL 6 23 3,
 xS 6 2 23])
 .ret))))) }
def codeU1:Nat→Option AFn
 | 906=>some ac906
 | 920=>some ac920
 | 921=>some ac921
 | 926=>some ac926
 | 929=>some ac929
 | 934=>some ac934
 | 938=>some ac938
 | _=>none
def codeU (f:Nat):Option AFn:=match codeS f with
 | some a=>some a
 | none=>codeU1 f
def CU:Ctx:=extCtx (mkCtx codeU clRS clPS) csQ lnQ ssQ
end Ago
