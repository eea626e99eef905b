/- The abstract code of the functions,printed by program. -/
import Derived.Test.YtnifalngeimpnaaGreatDoorCode
import Derived.Test.YtnifalngeimpnaaGreatDoorMachJ
set_option linter.unusedSimpArgs false
set_option linter.unusedVariables false
set_option maxRecDepth 100000
namespace Ago
/-- math/bits.Len -/
def ac49:AFn:=
 { nt:=8,res:=[.tmp 2],body:=
 (.seq (.ops [⟨some 2,.pure .move,[.c (.int .i64 0)],none⟩])
 (.seq (.cond (.c (.bool false))
 (.seq (.ops [⟨some 3,.pure .move,[.t 0],none⟩,
 ⟨some 4,.pure (.conv .u32),[.t 3],none⟩,
 ⟨some 5,.pcall 72,[.t 4],none⟩,
 ⟨some 2,.pure .move,[.t 5],none⟩])
 .ret)
 .skip)
 (.seq (.ops [⟨some 6,.pure .move,[.t 0],none⟩,
 ⟨some 7,.pcall 73,[.t 6],none⟩,
 ⟨some 2,.pure .move,[.t 7],none⟩])
 .ret))) }
/-- math/bits.Len32 -/
def ac72:AFn:=
 { nt:=19,res:=[.tmp 2],body:=
 (.seq (.ops [⟨some 2,.pure .move,[.c (.int .i64 0)],none⟩])
 (.seq (.seq (.ops [⟨some 3,.pure .move,[.t 0],none⟩,
 ⟨some 4,.pure (.bin .geq),[.t 3,.c (.int .u32 65536)],none⟩])
 (.cond (.t 4)
 (.seq (.ops [⟨some 5,.pure .move,[.t 0],none⟩,
 ⟨some 6,.pure (.bin .shr),[.t 5,.c (.int .u64 16)],none⟩,
 ⟨some 0,.pure .move,[.t 6],none⟩])
 (.ops [⟨some 2,.pure .move,[.c (.int .i64 16)],none⟩]))
 .skip))
 (.seq (.seq (.ops [⟨some 7,.pure .move,[.t 0],none⟩,
 ⟨some 8,.pure (.bin .geq),[.t 7,.c (.int .u32 256)],none⟩])
 (.cond (.t 8)
 (.seq (.ops [⟨some 9,.pure .move,[.t 0],none⟩,
 ⟨some 10,.pure (.bin .shr),[.t 9,.c (.int .u64 8)],none⟩,
 ⟨some 0,.pure .move,[.t 10],none⟩])
 (.ops [⟨some 11,.pure .move,[.t 2],none⟩,
 ⟨some 12,.pure (.bin .add),[.t 11,.c (.int .i64 8)],none⟩,
 ⟨some 2,.pure .move,[.t 12],none⟩]))
 .skip))
 (.seq (.ops [⟨some 13,.pure .move,[.t 2],none⟩,
 ⟨some 14,.pure .move,[.t 0],none⟩,
 ⟨some 15,.pure (.conv .u8),[.t 14],none⟩,
 ⟨some 16,.pure .idxStr,[.c (.str [0,1,2,2,3,3,3,3,4,4,4,4,4,4,4,4,5,5,5,5,5,5,5,5,5,5,5,5,5,5,5,5,6,6,6,6,6,6,6,6,6,6,6,6,6,6,6,6,6,6,6,6,6,6,6,6,6,6,6,6,6,6,6,6,7,7,7,7,7,7,7,7,7,7,7,7,7,7,7,7,7,7,7,7,7,7,7,7,7,7,7,7,7,7,7,7,7,7,7,7,7,7,7,7,7,7,7,7,7,7,7,7,7,7,7,7,7,7,7,7,7,7,7,7,7,7,7,7,8,8,8,8,8,8,8,8,8,8,8,8,8,8,8,8,8,8,8,8,8,8,8,8,8,8,8,8,8,8,8,8,8,8,8,8,8,8,8,8,8,8,8,8,8,8,8,8,8,8,8,8,8,8,8,8,8,8,8,8,8,8,8,8,8,8,8,8,8,8,8,8,8,8,8,8,8,8,8,8,8,8,8,8,8,8,8,8,8,8,8,8,8,8,8,8,8,8,8,8,8,8,8,8,8,8,8,8,8,8,8,8,8,8,8,8,8,8,8,8,8,8,8,8,8,8,8,8]),.t 15],none⟩,
 ⟨some 17,.pure (.conv .i64),[.t 16],none⟩,
 ⟨some 18,.pure (.bin .add),[.t 13,.t 17],none⟩,
 ⟨some 2,.pure .move,[.t 18],none⟩])
 .ret)))) }
/-- math/bits.Len64 -/
def ac73:AFn:=
 { nt:=25,res:=[.tmp 2],body:=
 (.seq (.ops [⟨some 2,.pure .move,[.c (.int .i64 0)],none⟩])
 (.seq (.seq (.ops [⟨some 3,.pure .move,[.t 0],none⟩,
 ⟨some 4,.pure (.bin .geq),[.t 3,.c (.int .u64 4294967296)],none⟩])
 (.cond (.t 4)
 (.seq (.ops [⟨some 5,.pure .move,[.t 0],none⟩,
 ⟨some 6,.pure (.bin .shr),[.t 5,.c (.int .u64 32)],none⟩,
 ⟨some 0,.pure .move,[.t 6],none⟩])
 (.ops [⟨some 2,.pure .move,[.c (.int .i64 32)],none⟩]))
 .skip))
 (.seq (.seq (.ops [⟨some 7,.pure .move,[.t 0],none⟩,
 ⟨some 8,.pure (.bin .geq),[.t 7,.c (.int .u64 65536)],none⟩])
 (.cond (.t 8)
 (.seq (.ops [⟨some 9,.pure .move,[.t 0],none⟩,
 ⟨some 10,.pure (.bin .shr),[.t 9,.c (.int .u64 16)],none⟩,
 ⟨some 0,.pure .move,[.t 10],none⟩])
 (.ops [⟨some 11,.pure .move,[.t 2],none⟩,
 ⟨some 12,.pure (.bin .add),[.t 11,.c (.int .i64 16)],none⟩,
 ⟨some 2,.pure .move,[.t 12],none⟩]))
 .skip))
 (.seq (.seq (.ops [⟨some 13,.pure .move,[.t 0],none⟩,
 ⟨some 14,.pure (.bin .geq),[.t 13,.c (.int .u64 256)],none⟩])
 (.cond (.t 14)
 (.seq (.ops [⟨some 15,.pure .move,[.t 0],none⟩,
 ⟨some 16,.pure (.bin .shr),[.t 15,.c (.int .u64 8)],none⟩,
 ⟨some 0,.pure .move,[.t 16],none⟩])
 (.ops [⟨some 17,.pure .move,[.t 2],none⟩,
 ⟨some 18,.pure (.bin .add),[.t 17,.c (.int .i64 8)],none⟩,
 ⟨some 2,.pure .move,[.t 18],none⟩]))
 .skip))
 (.seq (.ops [⟨some 19,.pure .move,[.t 2],none⟩,
 ⟨some 20,.pure .move,[.t 0],none⟩,
 ⟨some 21,.pure (.conv .u8),[.t 20],none⟩,
 ⟨some 22,.pure .idxStr,[.c (.str [0,1,2,2,3,3,3,3,4,4,4,4,4,4,4,4,5,5,5,5,5,5,5,5,5,5,5,5,5,5,5,5,6,6,6,6,6,6,6,6,6,6,6,6,6,6,6,6,6,6,6,6,6,6,6,6,6,6,6,6,6,6,6,6,7,7,7,7,7,7,7,7,7,7,7,7,7,7,7,7,7,7,7,7,7,7,7,7,7,7,7,7,7,7,7,7,7,7,7,7,7,7,7,7,7,7,7,7,7,7,7,7,7,7,7,7,7,7,7,7,7,7,7,7,7,7,7,7,8,8,8,8,8,8,8,8,8,8,8,8,8,8,8,8,8,8,8,8,8,8,8,8,8,8,8,8,8,8,8,8,8,8,8,8,8,8,8,8,8,8,8,8,8,8,8,8,8,8,8,8,8,8,8,8,8,8,8,8,8,8,8,8,8,8,8,8,8,8,8,8,8,8,8,8,8,8,8,8,8,8,8,8,8,8,8,8,8,8,8,8,8,8,8,8,8,8,8,8,8,8,8,8,8,8,8,8,8,8,8,8,8,8,8,8,8,8,8,8,8,8,8,8,8,8,8,8]),.t 21],none⟩,
 ⟨some 23,.pure (.conv .i64),[.t 22],none⟩,
 ⟨some 24,.pure (.bin .add),[.t 19,.t 23],none⟩,
 ⟨some 2,.pure .move,[.t 24],none⟩])
 .ret))))) }
/-- slices.nextPowerOfTwo -/
def ac86:AFn:=
 { nt:=7,res:=[.tmp 2],body:=
 (.seq (.ops [⟨some 2,.pure .move,[.c (.int .u64 0)],none⟩])
 (.seq (.ops [⟨some 3,.pure .move,[.t 0],none⟩,
 ⟨some 4,.pure (.conv .u64),[.t 3],none⟩,
 ⟨some 5,.pcall 49,[.t 4],none⟩,
 ⟨some 6,.pure (.bin .shl),[.c (.int .u64 1),.t 5],none⟩,
 ⟨some 2,.pure .move,[.t 6],none⟩])
 .ret)) }
/-- (*slices.xorshift).Next -/
def ac87:AFn:=
 { nt:=33,res:=[.tmp 2],body:=
 (.seq (.ops [⟨some 2,.pure .move,[.c (.int .u64 0)],none⟩])
 (.seq (.ops [⟨some 3,.pure .move,[.t 0],none⟩,
 ⟨some 4,.pure .chk,[.t 3],none⟩,
 ⟨some 5,.read (.load none),[.t 4],none⟩,
 ⟨some 6,.pure .move,[.t 0],none⟩,
 ⟨some 7,.pure .chk,[.t 6],none⟩,
 ⟨some 8,.read (.load none),[.t 7],none⟩,
 ⟨some 9,.pure (.bin .shl),[.t 8,.c (.int .u64 13)],none⟩,
 ⟨some 10,.pure (.bin .xor),[.t 5,.t 9],none⟩,
 ⟨some 11,.pure .chk,[.t 3],none⟩,
 ⟨none,.eff (.store 1),[.t 11,.t 10],none⟩])
 (.seq (.ops [⟨some 12,.pure .move,[.t 0],none⟩,
 ⟨some 13,.pure .chk,[.t 12],none⟩,
 ⟨some 14,.read (.load none),[.t 13],none⟩,
 ⟨some 15,.pure .move,[.t 0],none⟩,
 ⟨some 16,.pure .chk,[.t 15],none⟩,
 ⟨some 17,.read (.load none),[.t 16],none⟩,
 ⟨some 18,.pure (.bin .shr),[.t 17,.c (.int .u64 7)],none⟩,
 ⟨some 19,.pure (.bin .xor),[.t 14,.t 18],none⟩,
 ⟨some 20,.pure .chk,[.t 12],none⟩,
 ⟨none,.eff (.store 1),[.t 20,.t 19],none⟩])
 (.seq (.ops [⟨some 21,.pure .move,[.t 0],none⟩,
 ⟨some 22,.pure .chk,[.t 21],none⟩,
 ⟨some 23,.read (.load none),[.t 22],none⟩,
 ⟨some 24,.pure .move,[.t 0],none⟩,
 ⟨some 25,.pure .chk,[.t 24],none⟩,
 ⟨some 26,.read (.load none),[.t 25],none⟩,
 ⟨some 27,.pure (.bin .shl),[.t 26,.c (.int .u64 17)],none⟩,
 ⟨some 28,.pure (.bin .xor),[.t 23,.t 27],none⟩,
 ⟨some 29,.pure .chk,[.t 21],none⟩,
 ⟨none,.eff (.store 1),[.t 29,.t 28],none⟩])
 (.seq (.ops [⟨some 30,.pure .move,[.t 0],none⟩,
 ⟨some 31,.pure .chk,[.t 30],none⟩,
 ⟨some 32,.read (.load none),[.t 31],none⟩,
 ⟨some 2,.pure .move,[.t 32],none⟩])
 .ret))))) }
/-- datakit/datakitref01.Zeros -/
def ac90:AFn:=
 { nt:=21,res:=[.tmp 2],body:=
 (.seq (.ops [⟨some 2,.pure .move,[.c (.int .i64 0)],none⟩])
 (.seq (.ops [⟨some 3,.pure .move,[.c (.int .i64 0)],none⟩])
 (.seq (.block 0
 (.loop [0,3]
 (.seq (.seq (.ops [⟨some 4,.pure .move,[.t 3],none⟩,
 ⟨some 5,.pure .move,[.t 0],none⟩,
 ⟨some 6,.pure .lenS,[.t 5],none⟩,
 ⟨some 7,.pure (.bin .lss),[.t 4,.t 6],none⟩,
 ⟨some 8,.pure .move,[.t 7],none⟩,
 ⟨some 9,.pure .move,[.t 0],some (8,true)⟩,
 ⟨some 10,.pure .move,[.t 0],some (8,true)⟩,
 ⟨some 11,.pure .lenS,[.t 10],some (8,true)⟩,
 ⟨some 12,.pure (.bin .sub),[.t 11,.c (.int .i64 1)],some (8,true)⟩,
 ⟨some 13,.pure .move,[.t 3],some (8,true)⟩,
 ⟨some 14,.pure (.bin .sub),[.t 12,.t 13],some (8,true)⟩,
 ⟨some 15,.pure .idxStr,[.t 9,.t 14],some (8,true)⟩,
 ⟨some 16,.pure (.bin .eql),[.t 15,.c (.int .u8 48)],some (8,true)⟩,
 ⟨some 17,.pure .pick,[.t 8,.t 16,.c (.bool false)],none⟩])
 (.cond (.t 17)
 .skip
 (.exit 0)))
 (.block 1
 (.ops [⟨some 18,.pure .move,[.t 3],none⟩,
 ⟨some 19,.pure (.bin .add),[.t 18,.c (.int .i64 1)],none⟩,
 ⟨some 3,.pure .move,[.t 19],none⟩])))))
 (.seq (.ops [⟨some 20,.pure .move,[.t 3],none⟩,
 ⟨some 2,.pure .move,[.t 20],none⟩])
 .ret)))) }
/-- datakit/datakitref02.FromInt -/
def ac549:AFn:=
 { nt:=23,res:=[.cell 2 (some 3)],body:=
 (.seq (.ops [⟨some 2,.new (.new 3 [.agg [.bool false,.str [],.int .i64 0]]),[],none⟩])
 (.seq (.ops [⟨some 6,.pure .move,[.t 0],none⟩,
 ⟨some 7,.pcall 579,[.t 6],none⟩,
 ⟨some 3,.pure .move,[.t 7],none⟩])
 (.seq (.seq (.ops [⟨some 8,.pure .move,[.t 0],none⟩,
 ⟨some 9,.pure (.bin .lss),[.t 8,.c (.int .i64 0)],none⟩])
 (.cond (.t 9)
 (.ops [⟨some 10,.pure .move,[.t 0],none⟩,
 ⟨some 11,.pure (.bin .add),[.t 10,.c (.int .i64 1)],none⟩,
 ⟨some 12,.pure (.un .neg),[.t 11],none⟩,
 ⟨some 13,.pcall 579,[.t 12],none⟩,
 ⟨some 14,.pcall 580,[.t 13,.c (.str [49])],none⟩,
 ⟨some 3,.pure .move,[.t 14],none⟩])
 .skip))
 (.seq (.ops [⟨some 16,.pure .move,[.t 0],none⟩,
 ⟨some 17,.pure (.bin .lss),[.t 16,.c (.int .i64 0)],none⟩,
 ⟨some 18,.pure .move,[.t 3],none⟩,
 ⟨some 19,.pcall 581,[.t 17,.t 18,.c (.int .i64 0)],none⟩,
 ⟨some 15,.pure .move,[.t 19],none⟩,
 ⟨some 20,.pure (.ext 0),[.t 15],none⟩,
 ⟨some 21,.pure (.ext 1),[.t 15],none⟩,
 ⟨some 4,.new (.new 3 [.agg [.bool false,.str [],.int .i64 0]]),[],none⟩,
 ⟨none,.eff (.store 3),[.t 4,.t 20],none⟩,
 ⟨some 5,.pure .move,[.t 21],none⟩])
 (.seq (.ops [⟨some 22,.read (.load (some 3)),[.t 4],none⟩,
 ⟨none,.eff (.store 3),[.t 2,.t 22],none⟩])
 .ret))))) }
/-- datakit/datakitref01.FromInt -/
def ac579:AFn:=
 { nt:=17,res:=[.tmp 2],body:=
 (.seq (.ops [⟨some 2,.pure .move,[.c (.str [])],none⟩])
 (.seq (.ops [⟨some 3,.pure .move,[.c (.str [])],none⟩])
 (.seq (.block 0
 (.loop [0,3]
 (.seq (.seq (.ops [⟨some 4,.pure .move,[.t 0],none⟩,
 ⟨some 5,.pure (.bin .gtr),[.t 4,.c (.int .i64 0)],none⟩])
 (.cond (.t 5)
 .skip
 (.exit 0)))
 (.block 1
 (.seq (.ops [⟨some 6,.pure .move,[.t 0],none⟩,
 ⟨some 7,.pure (.bin .rem),[.t 6,.c (.int .i64 10)],none⟩,
 ⟨some 8,.pure (.bin .add),[.c (.int .i64 48),.t 7],none⟩,
 ⟨some 9,.pure (.conv .u8),[.t 8],none⟩,
 ⟨some 10,.new (.buildSlice 1 [.int .u8 0] [0]),[.t 9],none⟩,
 ⟨some 11,.read .bytesStr,[.t 10],none⟩,
 ⟨some 12,.pure .move,[.t 3],none⟩,
 ⟨some 13,.pure (.bin .add),[.t 11,.t 12],none⟩,
 ⟨some 3,.pure .move,[.t 13],none⟩])
 (.ops [⟨some 14,.pure .move,[.t 0],none⟩,
 ⟨some 15,.pure (.bin .quo),[.t 14,.c (.int .i64 10)],none⟩,
 ⟨some 0,.pure .move,[.t 15],none⟩]))))))
 (.seq (.ops [⟨some 16,.pure .move,[.t 3],none⟩,
 ⟨some 2,.pure .move,[.t 16],none⟩])
 .ret)))) }
/-- datakit/datakitref01.Sum -/
def ac580:AFn:=
 { nt:=44,res:=[.tmp 4],body:=
 (.seq (.ops [⟨some 4,.pure .move,[.c (.str [])],none⟩])
 (.seq (.ops [⟨some 10,.pure .move,[.t 0],none⟩,
 ⟨some 11,.pure .lenS,[.t 10],none⟩,
 ⟨some 5,.pure .move,[.t 11],none⟩])
 (.seq (.seq (.ops [⟨some 12,.pure .move,[.t 1],none⟩,
 ⟨some 13,.pure .lenS,[.t 12],none⟩,
 ⟨some 14,.pure .move,[.t 5],none⟩,
 ⟨some 15,.pure (.bin .gtr),[.t 13,.t 14],none⟩])
 (.cond (.t 15)
 (.ops [⟨some 16,.pure .move,[.t 1],none⟩,
 ⟨some 17,.pure .lenS,[.t 16],none⟩,
 ⟨some 5,.pure .move,[.t 17],none⟩])
 .skip))
 (.seq (.ops [⟨some 18,.pure .move,[.t 5],none⟩,
 ⟨some 19,.pure (.bin .add),[.t 18,.c (.int .i64 1)],none⟩,
 ⟨some 20,.new (.mkSlice 1 8 (.int .i64 0)),[.t 19,.t 19],none⟩,
 ⟨some 6,.pure .move,[.t 20],none⟩])
 (.seq (.ops [⟨some 7,.pure .move,[.c (.int .i64 0)],none⟩])
 (.seq (.seq (.ops [⟨some 8,.pure .move,[.c (.int .i64 0)],none⟩])
 (.block 0
 (.loop [0,1,5,6,7,8]
 (.seq (.seq (.ops [⟨some 21,.pure .move,[.t 8],none⟩,
 ⟨some 22,.pure .move,[.t 5],none⟩,
 ⟨some 23,.pure (.bin .leq),[.t 21,.t 22],none⟩])
 (.cond (.t 23)
 .skip
 (.exit 0)))
 (.seq (.block 1
 (.seq (.ops [⟨some 26,.pure .move,[.t 0],none⟩,
 ⟨some 27,.pure .move,[.t 8],none⟩,
 ⟨some 28,.pcall 610,[.t 26,.t 27],none⟩,
 ⟨some 29,.pure .move,[.t 1],none⟩,
 ⟨some 30,.pure .move,[.t 8],none⟩,
 ⟨some 31,.pcall 610,[.t 29,.t 30],none⟩,
 ⟨some 32,.pure (.bin .add),[.t 28,.t 31],none⟩,
 ⟨some 33,.pure .move,[.t 7],none⟩,
 ⟨some 34,.pure (.bin .add),[.t 32,.t 33],none⟩,
 ⟨some 9,.pure .move,[.t 34],none⟩])
 (.seq (.ops [⟨some 35,.pure .move,[.t 6],none⟩,
 ⟨some 36,.pure .move,[.t 8],none⟩,
 ⟨some 37,.pure .move,[.t 9],none⟩,
 ⟨some 38,.pure (.bin .rem),[.t 37,.c (.int .i64 10)],none⟩,
 ⟨some 39,.pure (.iaddrS 1),[.t 35,.t 36],none⟩,
 ⟨none,.eff (.store 1),[.t 39,.t 38],none⟩])
 (.ops [⟨some 40,.pure .move,[.t 9],none⟩,
 ⟨some 41,.pure (.bin .quo),[.t 40,.c (.int .i64 10)],none⟩,
 ⟨some 7,.pure .move,[.t 41],none⟩]))))
 (.ops [⟨some 24,.pure .move,[.t 8],none⟩,
 ⟨some 25,.pure (.bin .add),[.t 24,.c (.int .i64 1)],none⟩,
 ⟨some 8,.pure .move,[.t 25],none⟩]))))))
 (.seq (.ops [⟨some 42,.pure .move,[.t 6],none⟩,
 ⟨some 43,.pcall 611,[.t 42],none⟩,
 ⟨some 4,.pure .move,[.t 43],none⟩])
 .ret))))))) }
/-- datakit/datakitref02.normal -/
def ac581:AFn:=
 { nt:=48,res:=[.cell 6 (some 3),.tmp 7],body:=
 (.seq (.ops [⟨some 6,.new (.new 3 [.agg [.bool false,.str [],.int .i64 0]]),[],none⟩,
 ⟨some 7,.pure .move,[.c (.int .i64 0)],none⟩])
 (.seq (.ops [⟨some 9,.pure .move,[.t 1],none⟩,
 ⟨some 10,.pcall 612,[.t 9],none⟩,
 ⟨some 1,.pure .move,[.t 10],none⟩])
 (.seq (.seq (.ops [⟨some 11,.pure .move,[.t 1],none⟩,
 ⟨some 12,.pure (.bin .eql),[.t 11,.c (.str [])],none⟩])
 (.cond (.t 12)
 (.seq (.ops [⟨some 13,.pure (.build [.bool false,.str [],.int .i64 0] []),[],none⟩,
 ⟨none,.eff (.store 3),[.t 6,.t 13],none⟩,
 ⟨some 7,.pure .move,[.c (.int .i64 0)],none⟩])
 .ret)
 .skip))
 (.seq (.ops [⟨some 14,.pure .move,[.t 1],none⟩,
 ⟨some 15,.pcall 90,[.t 14],none⟩,
 ⟨some 8,.pure .move,[.t 15],none⟩])
 (.seq (.ops [⟨some 16,.pure .move,[.t 1],none⟩,
 ⟨some 17,.pure .move,[.t 1],none⟩,
 ⟨some 18,.pure .lenS,[.t 17],none⟩,
 ⟨some 19,.pure .move,[.t 8],none⟩,
 ⟨some 20,.pure (.bin .sub),[.t 18,.t 19],none⟩,
 ⟨some 21,.pure (.sliceS false true),[.t 16,.t 20],none⟩,
 ⟨some 1,.pure .move,[.t 21],none⟩])
 (.seq (.seq (.ops [⟨some 22,.pure .move,[.t 1],none⟩,
 ⟨some 23,.pure .lenS,[.t 22],none⟩,
 ⟨some 24,.pure (.bin .gtr),[.t 23,.c (.int .i64 120)],none⟩,
 ⟨some 25,.pure .move,[.t 24],none⟩,
 ⟨some 26,.pure .move,[.t 2],some (25,false)⟩,
 ⟨some 27,.pure (.bin .gtr),[.t 26,.c (.int .i64 400)],some (25,false)⟩,
 ⟨some 28,.pure .pick,[.t 25,.c (.bool true),.t 27],none⟩,
 ⟨some 29,.pure .move,[.t 28],none⟩,
 ⟨some 30,.pure .move,[.t 2],some (29,false)⟩,
 ⟨some 31,.pure .move,[.t 8],some (29,false)⟩,
 ⟨some 32,.pure (.bin .add),[.t 30,.t 31],some (29,false)⟩,
 ⟨some 33,.pure (.bin .gtr),[.t 32,.c (.int .i64 400)],some (29,false)⟩,
 ⟨some 34,.pure .pick,[.t 29,.c (.bool true),.t 33],none⟩,
 ⟨some 35,.pure .move,[.t 34],none⟩,
 ⟨some 36,.pure .move,[.t 2],some (35,false)⟩,
 ⟨some 37,.pure .move,[.t 8],some (35,false)⟩,
 ⟨some 38,.pure (.bin .add),[.t 36,.t 37],some (35,false)⟩,
 ⟨some 39,.pure (.bin .lss),[.t 38,.c (.int .i64 (-400))],some (35,false)⟩,
 ⟨some 40,.pure .pick,[.t 35,.c (.bool true),.t 39],none⟩])
 (.cond (.t 40)
 (.seq (.ops [⟨some 41,.pure (.build [.bool false,.str [],.int .i64 0] []),[],none⟩,
 ⟨none,.eff (.store 3),[.t 6,.t 41],none⟩,
 ⟨some 7,.pure .move,[.c (.int .i64 2)],none⟩])
 .ret)
 .skip))
 (.seq (.ops [⟨some 42,.pure .move,[.t 0],none⟩,
 ⟨some 43,.pure .move,[.t 1],none⟩,
 ⟨some 44,.pure .move,[.t 2],none⟩,
 ⟨some 45,.pure .move,[.t 8],none⟩,
 ⟨some 46,.pure (.bin .add),[.t 44,.t 45],none⟩,
 ⟨some 47,.pure (.build [.bool false,.str [],.int .i64 0] [(0,1),(1,1),(2,1)]),[.t 42,.t 43,.t 46],none⟩,
 ⟨none,.eff (.store 3),[.t 6,.t 47],none⟩,
 ⟨some 7,.pure .move,[.c (.int .i64 0)],none⟩])
 .ret))))))) }
/-- datakit/datakitref01.at -/
def ac610:AFn:=
 { nt:=18,res:=[.tmp 4],body:=
 (.seq (.ops [⟨some 4,.pure .move,[.c (.int .i64 0)],none⟩])
 (.seq (.seq (.ops [⟨some 5,.pure .move,[.t 1],none⟩,
 ⟨some 6,.pure .move,[.t 0],none⟩,
 ⟨some 7,.pure .lenS,[.t 6],none⟩,
 ⟨some 8,.pure (.bin .geq),[.t 5,.t 7],none⟩])
 (.cond (.t 8)
 (.seq (.ops [⟨some 4,.pure .move,[.c (.int .i64 0)],none⟩])
 .ret)
 .skip))
 (.seq (.ops [⟨some 9,.pure .move,[.t 0],none⟩,
 ⟨some 10,.pure .move,[.t 0],none⟩,
 ⟨some 11,.pure .lenS,[.t 10],none⟩,
 ⟨some 12,.pure (.bin .sub),[.t 11,.c (.int .i64 1)],none⟩,
 ⟨some 13,.pure .move,[.t 1],none⟩,
 ⟨some 14,.pure (.bin .sub),[.t 12,.t 13],none⟩,
 ⟨some 15,.pure .idxStr,[.t 9,.t 14],none⟩,
 ⟨some 16,.pure (.conv .i64),[.t 15],none⟩,
 ⟨some 17,.pure (.bin .sub),[.t 16,.c (.int .i64 48)],none⟩,
 ⟨some 4,.pure .move,[.t 17],none⟩])
 .ret))) }
/-- datakit/datakitref01.text -/
def ac611:AFn:=
 { nt:=30,res:=[.tmp 2],body:=
 (.seq (.ops [⟨some 2,.pure .move,[.c (.str [])],none⟩])
 (.seq (.ops [⟨some 5,.pure .move,[.t 0],none⟩,
 ⟨some 6,.pure .lenL,[.t 5],none⟩,
 ⟨some 7,.new (.mkSlice 1 1 (.int .u8 0)),[.t 6,.t 6],none⟩,
 ⟨some 3,.pure .move,[.t 7],none⟩])
 (.seq (.seq (.ops [⟨some 4,.pure .move,[.c (.int .i64 0)],none⟩])
 (.block 0
 (.loop [0,3,4]
 (.seq (.seq (.ops [⟨some 8,.pure .move,[.t 4],none⟩,
 ⟨some 9,.pure .move,[.t 0],none⟩,
 ⟨some 10,.pure .lenL,[.t 9],none⟩,
 ⟨some 11,.pure (.bin .lss),[.t 8,.t 10],none⟩])
 (.cond (.t 11)
 .skip
 (.exit 0)))
 (.seq (.block 1
 (.ops [⟨some 14,.pure .move,[.t 3],none⟩,
 ⟨some 15,.pure .move,[.t 0],none⟩,
 ⟨some 16,.pure .lenL,[.t 15],none⟩,
 ⟨some 17,.pure (.bin .sub),[.t 16,.c (.int .i64 1)],none⟩,
 ⟨some 18,.pure .move,[.t 4],none⟩,
 ⟨some 19,.pure (.bin .sub),[.t 17,.t 18],none⟩,
 ⟨some 20,.pure .move,[.t 0],none⟩,
 ⟨some 21,.pure .move,[.t 4],none⟩,
 ⟨some 22,.pure (.iaddrS 1),[.t 20,.t 21],none⟩,
 ⟨some 23,.read (.load none),[.t 22],none⟩,
 ⟨some 24,.pure (.bin .add),[.c (.int .i64 48),.t 23],none⟩,
 ⟨some 25,.pure (.conv .u8),[.t 24],none⟩,
 ⟨some 26,.pure (.iaddrS 1),[.t 14,.t 19],none⟩,
 ⟨none,.eff (.store 1),[.t 26,.t 25],none⟩]))
 (.ops [⟨some 12,.pure .move,[.t 4],none⟩,
 ⟨some 13,.pure (.bin .add),[.t 12,.c (.int .i64 1)],none⟩,
 ⟨some 4,.pure .move,[.t 13],none⟩]))))))
 (.seq (.ops [⟨some 27,.pure .move,[.t 3],none⟩,
 ⟨some 28,.read .bytesStr,[.t 27],none⟩,
 ⟨some 29,.pcall 612,[.t 28],none⟩,
 ⟨some 2,.pure .move,[.t 29],none⟩])
 .ret)))) }
/-- datakit/datakitref01.Strip -/
def ac612:AFn:=
 { nt:=19,res:=[.tmp 2],body:=
 (.seq (.ops [⟨some 2,.pure .move,[.c (.str [])],none⟩])
 (.seq (.ops [⟨some 3,.pure .move,[.c (.int .i64 0)],none⟩])
 (.seq (.block 0
 (.loop [0,3]
 (.seq (.seq (.ops [⟨some 4,.pure .move,[.t 3],none⟩,
 ⟨some 5,.pure .move,[.t 0],none⟩,
 ⟨some 6,.pure .lenS,[.t 5],none⟩,
 ⟨some 7,.pure (.bin .lss),[.t 4,.t 6],none⟩,
 ⟨some 8,.pure .move,[.t 7],none⟩,
 ⟨some 9,.pure .move,[.t 0],some (8,true)⟩,
 ⟨some 10,.pure .move,[.t 3],some (8,true)⟩,
 ⟨some 11,.pure .idxStr,[.t 9,.t 10],some (8,true)⟩,
 ⟨some 12,.pure (.bin .eql),[.t 11,.c (.int .u8 48)],some (8,true)⟩,
 ⟨some 13,.pure .pick,[.t 8,.t 12,.c (.bool false)],none⟩])
 (.cond (.t 13)
 .skip
 (.exit 0)))
 (.block 1
 (.ops [⟨some 14,.pure .move,[.t 3],none⟩,
 ⟨some 15,.pure (.bin .add),[.t 14,.c (.int .i64 1)],none⟩,
 ⟨some 3,.pure .move,[.t 15],none⟩])))))
 (.seq (.ops [⟨some 16,.pure .move,[.t 0],none⟩,
 ⟨some 17,.pure .move,[.t 3],none⟩,
 ⟨some 18,.pure (.sliceS true false),[.t 16,.t 17],none⟩,
 ⟨some 2,.pure .move,[.t 18],none⟩])
 .ret)))) }
/-- datakit/datakitlaw18.awake -/
def ac671:AFn:=
 { nt:=92,res:=[.tmp 0],body:=
 (.seq (.ops [⟨some 0,.pure .move,[.c (.bool false)],none⟩])
 (.seq (.ops [⟨some 13,.pcall 689,[.c (.int .i64 0),.c (.bool true)],none⟩,
 ⟨some 14,.pcall 689,[.c (.int .i64 2),.c (.bool false)],none⟩,
 ⟨some 15,.pcall 679,[.t 13,.t 14,.c (.int .i64 1)],none⟩,
 ⟨some 12,.pure .move,[.t 15],none⟩,
 ⟨some 16,.pure (.ext 0),[.t 12],none⟩,
 ⟨some 17,.pure (.ext 1),[.t 12],none⟩,
 ⟨some 1,.new (.new 1 [.agg [.snil 11]]),[],none⟩,
 ⟨none,.eff (.store 1),[.t 1,.t 16],none⟩,
 ⟨some 2,.pure .move,[.t 17],none⟩])
 (.seq (.ops [⟨some 19,.read (.load (some 1)),[.t 1],none⟩,
 ⟨some 20,.pcall 672,[.t 19],none⟩,
 ⟨some 18,.pure .move,[.t 20],none⟩,
 ⟨some 21,.pure (.ext 0),[.t 18],none⟩,
 ⟨some 22,.pure (.ext 1),[.t 18],none⟩,
 ⟨some 3,.new (.new 1 [.agg [.snil 11]]),[],none⟩,
 ⟨none,.eff (.store 1),[.t 3,.t 21],none⟩,
 ⟨some 4,.pure .move,[.t 22],none⟩])
 (.seq (.ops [⟨some 24,.pcall 689,[.c (.int .i64 0),.c (.bool true)],none⟩,
 ⟨some 25,.pcall 689,[.c (.int .i64 1),.c (.bool true)],none⟩,
 ⟨some 26,.pcall 679,[.t 24,.t 25,.c (.int .i64 1)],none⟩,
 ⟨some 23,.pure .move,[.t 26],none⟩,
 ⟨some 27,.pure (.ext 0),[.t 23],none⟩,
 ⟨some 28,.pure (.ext 1),[.t 23],none⟩,
 ⟨some 5,.new (.new 1 [.agg [.snil 11]]),[],none⟩,
 ⟨none,.eff (.store 1),[.t 5,.t 27],none⟩,
 ⟨some 6,.pure .move,[.t 28],none⟩])
 (.seq (.ops [⟨some 30,.pure (.build [.bool false,.str [],.int .i64 0] [(1,1),(2,1)]),[.c (.str [49]),.c (.int .i64 130)],none⟩,
 ⟨some 31,.pure (.build [.bool false,.bool false,.str [],.int .i64 0,.bool false] [(0,1),(1,3),(4,1)]),[.c (.bool true),.t 30,.c (.bool true)],none⟩,
 ⟨some 32,.pure (.build [.bool false,.bool false,.str [],.int .i64 0,.bool false] []),[],none⟩,
 ⟨some 33,.pcall 679,[.t 31,.t 32,.c (.int .i64 1)],none⟩,
 ⟨some 29,.pure .move,[.t 33],none⟩,
 ⟨some 34,.pure (.ext 0),[.t 29],none⟩,
 ⟨some 35,.pure (.ext 1),[.t 29],none⟩,
 ⟨some 7,.new (.new 1 [.agg [.snil 11]]),[],none⟩,
 ⟨none,.eff (.store 1),[.t 7,.t 34],none⟩,
 ⟨some 8,.pure .move,[.t 35],none⟩])
 (.seq (.ops [⟨some 37,.read (.load (some 1)),[.t 7],none⟩,
 ⟨some 38,.pcall 673,[.t 37],none⟩,
 ⟨some 36,.pure .move,[.t 38],none⟩,
 ⟨some 39,.pure (.ext 0),[.t 36],none⟩,
 ⟨some 40,.pure (.ext 1),[.t 36],none⟩,
 ⟨some 9,.new (.new 3 [.agg [.bool false,.str [],.int .i64 0]]),[],none⟩,
 ⟨none,.eff (.store 3),[.t 9,.t 39],none⟩,
 ⟨some 10,.pure .move,[.t 40],none⟩])
 (.seq (.ops [⟨some 41,.pure (.build [.bool false,.str [],.int .i64 0] [(1,1),(2,1)]),[.c (.str [49,53]),.c (.int .i64 (-1))],none⟩,
 ⟨some 11,.new (.new 3 [.agg [.bool false,.str [],.int .i64 0]]),[],none⟩,
 ⟨none,.eff (.store 3),[.t 11,.t 41],none⟩])
 (.seq (.seq (.ops [⟨some 42,.pure .move,[.t 2],none⟩,
 ⟨some 43,.pure (.bin .neq),[.t 42,.c (.int .i64 0)],none⟩,
 ⟨some 44,.pure .move,[.t 43],none⟩,
 ⟨some 45,.pure .move,[.t 4],some (44,false)⟩,
 ⟨some 46,.pure (.bin .neq),[.t 45,.c (.int .i64 0)],some (44,false)⟩,
 ⟨some 47,.pure .pick,[.t 44,.c (.bool true),.t 46],none⟩,
 ⟨some 48,.pure .move,[.t 47],none⟩,
 ⟨some 49,.pure .move,[.t 6],some (48,false)⟩,
 ⟨some 50,.pure (.bin .neq),[.t 49,.c (.int .i64 0)],some (48,false)⟩,
 ⟨some 51,.pure .pick,[.t 48,.c (.bool true),.t 50],none⟩,
 ⟨some 52,.pure .move,[.t 51],none⟩,
 ⟨some 53,.pure .move,[.t 8],some (52,false)⟩,
 ⟨some 54,.pure (.bin .neq),[.t 53,.c (.int .i64 0)],some (52,false)⟩,
 ⟨some 55,.pure .pick,[.t 52,.c (.bool true),.t 54],none⟩])
 (.cond (.t 55)
 (.seq (.ops [⟨some 0,.pure .move,[.c (.bool false)],none⟩])
 .ret)
 .skip))
 (.seq (.ops [⟨some 56,.read (.load (some 1)),[.t 1],none⟩,
 ⟨some 57,.pcall 549,[.c (.int .i64 1)],none⟩,
 ⟨some 58,.pcall 235,[.t 56,.t 57],none⟩,
 ⟨some 59,.pure .move,[.t 58],none⟩,
 ⟨some 60,.read (.load (some 1)),[.t 1],some (59,true)⟩,
 ⟨some 61,.pcall 549,[.c (.int .i64 2)],some (59,true)⟩,
 ⟨some 62,.pcall 235,[.t 60,.t 61],some (59,true)⟩,
 ⟨some 63,.pure .pick,[.t 59,.t 62,.c (.bool false)],none⟩,
 ⟨some 64,.pure .move,[.t 63],none⟩,
 ⟨some 65,.read (.load (some 1)),[.t 1],some (64,true)⟩,
 ⟨some 66,.pcall 549,[.c (.int .i64 0)],some (64,true)⟩,
 ⟨some 67,.pcall 235,[.t 65,.t 66],some (64,true)⟩,
 ⟨some 68,.pure (.un .not),[.t 67],some (64,true)⟩,
 ⟨some 69,.pure .pick,[.t 64,.t 68,.c (.bool false)],none⟩,
 ⟨some 70,.pure .move,[.t 69],none⟩,
 ⟨some 71,.read (.load (some 1)),[.t 3],some (70,true)⟩,
 ⟨some 72,.pcall 549,[.c (.int .i64 0)],some (70,true)⟩,
 ⟨some 73,.pcall 235,[.t 71,.t 72],some (70,true)⟩,
 ⟨some 74,.pure .pick,[.t 70,.t 73,.c (.bool false)],none⟩,
 ⟨some 75,.pure .move,[.t 74],none⟩,
 ⟨some 76,.read (.load (some 1)),[.t 3],some (75,true)⟩,
 ⟨some 77,.read (.load (some 3)),[.t 11],some (75,true)⟩,
 ⟨some 78,.pcall 235,[.t 76,.t 77],some (75,true)⟩,
 ⟨some 79,.pure .pick,[.t 75,.t 78,.c (.bool false)],none⟩,
 ⟨some 80,.pure .move,[.t 79],none⟩,
 ⟨some 81,.read (.load (some 1)),[.t 5],some (80,true)⟩,
 ⟨some 82,.pcall 674,[.t 81],some (80,true)⟩,
 ⟨some 83,.pure .pick,[.t 80,.t 82,.c (.bool false)],none⟩,
 ⟨some 84,.pure .move,[.t 83],none⟩,
 ⟨some 85,.read (.load (some 1)),[.t 7],some (84,true)⟩,
 ⟨some 86,.pcall 674,[.t 85],some (84,true)⟩,
 ⟨some 87,.pure (.un .not),[.t 86],some (84,true)⟩,
 ⟨some 88,.pure .pick,[.t 84,.t 87,.c (.bool false)],none⟩,
 ⟨some 89,.pure .move,[.t 88],none⟩,
 ⟨some 90,.pure .move,[.t 10],some (89,true)⟩,
 ⟨some 91,.pure .pick,[.t 89,.t 90,.c (.bool false)],none⟩,
 ⟨some 0,.pure .move,[.t 91],none⟩])
 .ret))))))))) }
/-- datakit/numset.Of -/
def ac679:AFn:=
 { nt:=20,res:=[.cell 6 (some 1),.tmp 7],body:=
 (.seq (.ops [⟨some 3,.new (.box 5),[.t 0],none⟩,
 ⟨some 4,.new (.box 5),[.t 1],none⟩,
 ⟨some 6,.new (.new 1 [.agg [.snil 11]]),[],none⟩,
 ⟨some 7,.pure .move,[.c (.int .i64 0)],none⟩])
 (.seq (.ops [⟨some 9,.read (.load (some 5)),[.t 3],none⟩,
 ⟨some 10,.read (.load (some 5)),[.t 4],none⟩,
 ⟨some 11,.pure .move,[.t 2],none⟩,
 ⟨some 12,.pure (.build [.bool false,.bool false,.str [],.int .i64 0,.bool false,.bool false,.bool false,.str [],.int .i64 0,.bool false,.int .i64 0] [(0,5),(5,5),(10,1)]),[.t 9,.t 10,.t 11],none⟩,
 ⟨some 8,.new (.new 11 [.agg [.bool false,.bool false,.str [],.int .i64 0,.bool false,.bool false,.bool false,.str [],.int .i64 0,.bool false,.int .i64 0]]),[],none⟩,
 ⟨none,.eff (.store 11),[.t 8,.t 12],none⟩])
 (.seq (.seq (.ops [⟨some 13,.read (.load (some 11)),[.t 8],none⟩,
 ⟨some 14,.pcall 250,[.t 13],none⟩,
 ⟨some 15,.pure (.un .not),[.t 14],none⟩])
 (.cond (.t 15)
 (.seq (.ops [⟨some 16,.pure (.build [.snil 11] []),[],none⟩,
 ⟨none,.eff (.store 1),[.t 6,.t 16],none⟩,
 ⟨some 7,.pure .move,[.c (.int .i64 1)],none⟩])
 .ret)
 .skip))
 (.seq (.ops [⟨some 17,.read (.load (some 11)),[.t 8],none⟩,
 ⟨some 18,.new (.buildSlice 11 [.agg [.bool false,.bool false,.str [],.int .i64 0,.bool false,.bool false,.bool false,.str [],.int .i64 0,.bool false,.int .i64 0]] [0]),[.t 17],none⟩,
 ⟨some 19,.pure (.build [.snil 11] [(0,1)]),[.t 18],none⟩,
 ⟨none,.eff (.store 1),[.t 6,.t 19],none⟩,
 ⟨some 7,.pure .move,[.c (.int .i64 0)],none⟩])
 .ret)))) }
/-- datakit/datakitlaw18.at -/
def ac689:AFn:=
 { nt:=9,res:=[.cell 4 (some 5)],body:=
 (.seq (.ops [⟨some 4,.new (.new 5 [.agg [.bool false,.bool false,.str [],.int .i64 0,.bool false]]),[],none⟩])
 (.seq (.ops [⟨some 5,.pure .move,[.t 0],none⟩,
 ⟨some 6,.pcall 549,[.t 5],none⟩,
 ⟨some 7,.pure .move,[.t 1],none⟩,
 ⟨some 8,.pure (.build [.bool false,.bool false,.str [],.int .i64 0,.bool false] [(0,1),(1,3),(4,1)]),[.c (.bool true),.t 6,.t 7],none⟩,
 ⟨none,.eff (.store 5),[.t 4,.t 8],none⟩])
 .ret)) }
/-- slices.SortFunc[[]datakit/numset.cut,datakit/numset.cut] -/
def ac713:AFn:=
 { nt:=14,res:=[],body:=
 (.seq (.ops [⟨some 5,.pure .move,[.t 0],none⟩,
 ⟨some 6,.pure .lenL,[.t 5],none⟩,
 ⟨some 4,.pure .move,[.t 6],none⟩])
 (.ops [⟨some 7,.pure .move,[.t 0],none⟩,
 ⟨some 8,.pure .move,[.t 4],none⟩,
 ⟨some 9,.pure .move,[.t 4],none⟩,
 ⟨some 10,.pure (.conv .u64),[.t 9],none⟩,
 ⟨some 11,.pcall 49,[.t 10],none⟩,
 ⟨some 12,.pure .move,[.t 1],none⟩,
 ⟨some 13,.call 719,[.t 7,.c (.int .i64 0),.t 8,.t 11,.t 12],none⟩])) }
/-- slices.pdqsortCmpFunc[datakit/numset.cut] -/
def ac719:AFn:=
 { nt:=148,res:=[],body:=
 (.seq (.ops [⟨some 10,.pure .move,[.c (.bool true)],none⟩])
 (.seq (.ops [⟨some 11,.pure .move,[.c (.bool true)],none⟩])
 (.block 0
 (.loop [0,1,2,3,4,10,11]
 (.block 1
 (.seq (.ops [⟨some 21,.pure .move,[.t 2],none⟩,
 ⟨some 22,.pure .move,[.t 1],none⟩,
 ⟨some 23,.pure (.bin .sub),[.t 21,.t 22],none⟩,
 ⟨some 12,.pure .move,[.t 23],none⟩])
 (.seq (.seq (.ops [⟨some 24,.pure .move,[.t 12],none⟩,
 ⟨some 25,.pure (.bin .leq),[.t 24,.c (.int .i64 12)],none⟩])
 (.cond (.t 25)
 (.seq (.ops [⟨some 26,.pure .move,[.t 0],none⟩,
 ⟨some 27,.pure .move,[.t 1],none⟩,
 ⟨some 28,.pure .move,[.t 2],none⟩,
 ⟨some 29,.pure .move,[.t 4],none⟩,
 ⟨some 30,.call 723,[.t 26,.t 27,.t 28,.t 29],none⟩])
 .ret)
 .skip))
 (.seq (.seq (.ops [⟨some 31,.pure .move,[.t 3],none⟩,
 ⟨some 32,.pure (.bin .eql),[.t 31,.c (.int .i64 0)],none⟩])
 (.cond (.t 32)
 (.seq (.ops [⟨some 33,.pure .move,[.t 0],none⟩,
 ⟨some 34,.pure .move,[.t 1],none⟩,
 ⟨some 35,.pure .move,[.t 2],none⟩,
 ⟨some 36,.pure .move,[.t 4],none⟩,
 ⟨some 37,.call 724,[.t 33,.t 34,.t 35,.t 36],none⟩])
 .ret)
 .skip))
 (.seq (.seq (.ops [⟨some 38,.pure .move,[.t 10],none⟩,
 ⟨some 39,.pure (.un .not),[.t 38],none⟩])
 (.cond (.t 39)
 (.seq (.ops [⟨some 40,.pure .move,[.t 0],none⟩,
 ⟨some 41,.pure .move,[.t 1],none⟩,
 ⟨some 42,.pure .move,[.t 2],none⟩,
 ⟨some 43,.pure .move,[.t 4],none⟩,
 ⟨some 44,.call 725,[.t 40,.t 41,.t 42,.t 43],none⟩])
 (.ops [⟨some 45,.pure .move,[.t 3],none⟩,
 ⟨some 46,.pure (.bin .sub),[.t 45,.c (.int .i64 1)],none⟩,
 ⟨some 3,.pure .move,[.t 46],none⟩]))
 .skip))
 (.seq (.ops [⟨some 48,.pure .move,[.t 0],none⟩,
 ⟨some 49,.pure .move,[.t 1],none⟩,
 ⟨some 50,.pure .move,[.t 2],none⟩,
 ⟨some 51,.pure .move,[.t 4],none⟩,
 ⟨some 52,.call 726,[.t 48,.t 49,.t 50,.t 51],none⟩,
 ⟨some 47,.pure .move,[.t 52],none⟩,
 ⟨some 53,.pure (.ext 0),[.t 47],none⟩,
 ⟨some 54,.pure (.ext 1),[.t 47],none⟩,
 ⟨some 13,.pure .move,[.t 53],none⟩,
 ⟨some 14,.pure .move,[.t 54],none⟩])
 (.seq (.seq (.ops [⟨some 55,.pure .move,[.t 14],none⟩,
 ⟨some 56,.pure (.bin .eql),[.t 55,.c (.int .i64 2)],none⟩])
 (.cond (.t 56)
 (.seq (.ops [⟨some 57,.pure .move,[.t 0],none⟩,
 ⟨some 58,.pure .move,[.t 1],none⟩,
 ⟨some 59,.pure .move,[.t 2],none⟩,
 ⟨some 60,.pure .move,[.t 4],none⟩,
 ⟨some 61,.call 727,[.t 57,.t 58,.t 59,.t 60],none⟩])
 (.seq (.ops [⟨some 62,.pure .move,[.t 2],none⟩,
 ⟨some 63,.pure (.bin .sub),[.t 62,.c (.int .i64 1)],none⟩,
 ⟨some 64,.pure .move,[.t 13],none⟩,
 ⟨some 65,.pure .move,[.t 1],none⟩,
 ⟨some 66,.pure (.bin .sub),[.t 64,.t 65],none⟩,
 ⟨some 67,.pure (.bin .sub),[.t 63,.t 66],none⟩,
 ⟨some 13,.pure .move,[.t 67],none⟩])
 (.ops [⟨some 14,.pure .move,[.c (.int .i64 1)],none⟩])))
 .skip))
 (.seq (.seq (.ops [⟨some 68,.pure .move,[.t 10],none⟩,
 ⟨some 69,.pure .move,[.t 68],none⟩,
 ⟨some 70,.pure .move,[.t 11],some (69,true)⟩,
 ⟨some 71,.pure .pick,[.t 69,.t 70,.c (.bool false)],none⟩,
 ⟨some 72,.pure .move,[.t 71],none⟩,
 ⟨some 73,.pure .move,[.t 14],some (72,true)⟩,
 ⟨some 74,.pure (.bin .eql),[.t 73,.c (.int .i64 1)],some (72,true)⟩,
 ⟨some 75,.pure .pick,[.t 72,.t 74,.c (.bool false)],none⟩])
 (.cond (.t 75)
 (.seq (.ops [⟨some 76,.pure .move,[.t 0],none⟩,
 ⟨some 77,.pure .move,[.t 1],none⟩,
 ⟨some 78,.pure .move,[.t 2],none⟩,
 ⟨some 79,.pure .move,[.t 4],none⟩,
 ⟨some 80,.call 728,[.t 76,.t 77,.t 78,.t 79],none⟩])
 (.cond (.t 80)
 .ret
 .skip))
 .skip))
 (.seq (.seq (.ops [⟨some 81,.pure .move,[.t 1],none⟩,
 ⟨some 82,.pure (.bin .gtr),[.t 81,.c (.int .i64 0)],none⟩,
 ⟨some 83,.pure .move,[.t 82],none⟩,
 ⟨some 84,.pure .move,[.t 4],some (83,true)⟩,
 ⟨some 85,.pure .move,[.t 0],some (83,true)⟩,
 ⟨some 86,.pure .move,[.t 1],some (83,true)⟩,
 ⟨some 87,.pure (.bin .sub),[.t 86,.c (.int .i64 1)],some (83,true)⟩,
 ⟨some 88,.pure (.iaddrS 5),[.t 85,.t 87],some (83,true)⟩,
 ⟨some 89,.read (.load (some 5)),[.t 88],some (83,true)⟩,
 ⟨some 90,.pure .move,[.t 0],some (83,true)⟩,
 ⟨some 91,.pure .move,[.t 13],some (83,true)⟩,
 ⟨some 92,.pure (.iaddrS 5),[.t 90,.t 91],some (83,true)⟩,
 ⟨some 93,.read (.load (some 5)),[.t 92],some (83,true)⟩,
 ⟨some 94,.callv,[.t 84,.t 89,.t 93],some (83,true)⟩,
 ⟨some 95,.pure (.bin .lss),[.t 94,.c (.int .i64 0)],some (83,true)⟩,
 ⟨some 96,.pure (.un .not),[.t 95],some (83,true)⟩,
 ⟨some 97,.pure .pick,[.t 83,.t 96,.c (.bool false)],none⟩])
 (.cond (.t 97)
 (.seq (.ops [⟨some 98,.pure .move,[.t 0],none⟩,
 ⟨some 99,.pure .move,[.t 1],none⟩,
 ⟨some 100,.pure .move,[.t 2],none⟩,
 ⟨some 101,.pure .move,[.t 13],none⟩,
 ⟨some 102,.pure .move,[.t 4],none⟩,
 ⟨some 103,.call 729,[.t 98,.t 99,.t 100,.t 101,.t 102],none⟩,
 ⟨some 15,.pure .move,[.t 103],none⟩])
 (.seq (.ops [⟨some 104,.pure .move,[.t 15],none⟩,
 ⟨some 1,.pure .move,[.t 104],none⟩])
 (.exit 1)))
 .skip))
 (.seq (.ops [⟨some 106,.pure .move,[.t 0],none⟩,
 ⟨some 107,.pure .move,[.t 1],none⟩,
 ⟨some 108,.pure .move,[.t 2],none⟩,
 ⟨some 109,.pure .move,[.t 13],none⟩,
 ⟨some 110,.pure .move,[.t 4],none⟩,
 ⟨some 111,.call 730,[.t 106,.t 107,.t 108,.t 109,.t 110],none⟩,
 ⟨some 105,.pure .move,[.t 111],none⟩,
 ⟨some 112,.pure (.ext 0),[.t 105],none⟩,
 ⟨some 113,.pure (.ext 1),[.t 105],none⟩,
 ⟨some 16,.pure .move,[.t 112],none⟩,
 ⟨some 17,.pure .move,[.t 113],none⟩])
 (.seq (.ops [⟨some 114,.pure .move,[.t 17],none⟩,
 ⟨some 11,.pure .move,[.t 114],none⟩])
 (.seq (.ops [⟨some 115,.pure .move,[.t 16],none⟩,
 ⟨some 116,.pure .move,[.t 1],none⟩,
 ⟨some 117,.pure (.bin .sub),[.t 115,.t 116],none⟩,
 ⟨some 118,.pure .move,[.t 2],none⟩,
 ⟨some 119,.pure .move,[.t 16],none⟩,
 ⟨some 120,.pure (.bin .sub),[.t 118,.t 119],none⟩,
 ⟨some 18,.pure .move,[.t 117],none⟩,
 ⟨some 19,.pure .move,[.t 120],none⟩])
 (.seq (.ops [⟨some 121,.pure .move,[.t 12],none⟩,
 ⟨some 122,.pure (.bin .quo),[.t 121,.c (.int .i64 8)],none⟩,
 ⟨some 20,.pure .move,[.t 122],none⟩])
 (.seq (.ops [⟨some 123,.pure .move,[.t 18],none⟩,
 ⟨some 124,.pure .move,[.t 19],none⟩,
 ⟨some 125,.pure (.bin .lss),[.t 123,.t 124],none⟩])
 (.cond (.t 125)
 (.seq (.ops [⟨some 126,.pure .move,[.t 18],none⟩,
 ⟨some 127,.pure .move,[.t 20],none⟩,
 ⟨some 128,.pure (.bin .geq),[.t 126,.t 127],none⟩,
 ⟨some 10,.pure .move,[.t 128],none⟩])
 (.seq (.ops [⟨some 129,.pure .move,[.t 0],none⟩,
 ⟨some 130,.pure .move,[.t 1],none⟩,
 ⟨some 131,.pure .move,[.t 16],none⟩,
 ⟨some 132,.pure .move,[.t 3],none⟩,
 ⟨some 133,.pure .move,[.t 4],none⟩,
 ⟨some 134,.call 719,[.t 129,.t 130,.t 131,.t 132,.t 133],none⟩])
 (.ops [⟨some 135,.pure .move,[.t 16],none⟩,
 ⟨some 136,.pure (.bin .add),[.t 135,.c (.int .i64 1)],none⟩,
 ⟨some 1,.pure .move,[.t 136],none⟩])))
 (.seq (.ops [⟨some 137,.pure .move,[.t 19],none⟩,
 ⟨some 138,.pure .move,[.t 20],none⟩,
 ⟨some 139,.pure (.bin .geq),[.t 137,.t 138],none⟩,
 ⟨some 10,.pure .move,[.t 139],none⟩])
 (.seq (.ops [⟨some 140,.pure .move,[.t 0],none⟩,
 ⟨some 141,.pure .move,[.t 16],none⟩,
 ⟨some 142,.pure (.bin .add),[.t 141,.c (.int .i64 1)],none⟩,
 ⟨some 143,.pure .move,[.t 2],none⟩,
 ⟨some 144,.pure .move,[.t 3],none⟩,
 ⟨some 145,.pure .move,[.t 4],none⟩,
 ⟨some 146,.call 719,[.t 140,.t 142,.t 143,.t 144,.t 145],none⟩])
 (.ops [⟨some 147,.pure .move,[.t 16],none⟩,
 ⟨some 2,.pure .move,[.t 147],none⟩])))))))))))))))))))))) }
/-- slices.insertionSortCmpFunc[datakit/numset.cut] -/
def ac723:AFn:=
 { nt:=53,res:=[],body:=
 (.seq (.ops [⟨some 10,.pure .move,[.t 1],none⟩,
 ⟨some 11,.pure (.bin .add),[.t 10,.c (.int .i64 1)],none⟩,
 ⟨some 8,.pure .move,[.t 11],none⟩])
 (.block 0
 (.loop [0,1,2,3,8]
 (.seq (.seq (.ops [⟨some 12,.pure .move,[.t 8],none⟩,
 ⟨some 13,.pure .move,[.t 2],none⟩,
 ⟨some 14,.pure (.bin .lss),[.t 12,.t 13],none⟩])
 (.cond (.t 14)
 .skip
 (.exit 0)))
 (.seq (.block 1
 (.seq (.ops [⟨some 17,.pure .move,[.t 8],none⟩,
 ⟨some 9,.pure .move,[.t 17],none⟩])
 (.block 2
 (.loop [0,1,2,3,8,9]
 (.seq (.seq (.ops [⟨some 18,.pure .move,[.t 9],none⟩,
 ⟨some 19,.pure .move,[.t 1],none⟩,
 ⟨some 20,.pure (.bin .gtr),[.t 18,.t 19],none⟩,
 ⟨some 21,.pure .move,[.t 20],none⟩,
 ⟨some 22,.pure .move,[.t 3],some (21,true)⟩,
 ⟨some 23,.pure .move,[.t 0],some (21,true)⟩,
 ⟨some 24,.pure .move,[.t 9],some (21,true)⟩,
 ⟨some 25,.pure (.iaddrS 5),[.t 23,.t 24],some (21,true)⟩,
 ⟨some 26,.read (.load (some 5)),[.t 25],some (21,true)⟩,
 ⟨some 27,.pure .move,[.t 0],some (21,true)⟩,
 ⟨some 28,.pure .move,[.t 9],some (21,true)⟩,
 ⟨some 29,.pure (.bin .sub),[.t 28,.c (.int .i64 1)],some (21,true)⟩,
 ⟨some 30,.pure (.iaddrS 5),[.t 27,.t 29],some (21,true)⟩,
 ⟨some 31,.read (.load (some 5)),[.t 30],some (21,true)⟩,
 ⟨some 32,.callv,[.t 22,.t 26,.t 31],some (21,true)⟩,
 ⟨some 33,.pure (.bin .lss),[.t 32,.c (.int .i64 0)],some (21,true)⟩,
 ⟨some 34,.pure .pick,[.t 21,.t 33,.c (.bool false)],none⟩])
 (.cond (.t 34)
 .skip
 (.exit 2)))
 (.seq (.block 3
 (.ops [⟨some 37,.pure .move,[.t 0],none⟩,
 ⟨some 38,.pure .move,[.t 9],none⟩,
 ⟨some 39,.pure .move,[.t 0],none⟩,
 ⟨some 40,.pure .move,[.t 9],none⟩,
 ⟨some 41,.pure (.bin .sub),[.t 40,.c (.int .i64 1)],none⟩,
 ⟨some 42,.pure .move,[.t 0],none⟩,
 ⟨some 43,.pure .move,[.t 9],none⟩,
 ⟨some 44,.pure (.bin .sub),[.t 43,.c (.int .i64 1)],none⟩,
 ⟨some 45,.pure (.iaddrS 5),[.t 42,.t 44],none⟩,
 ⟨some 46,.read (.load (some 5)),[.t 45],none⟩,
 ⟨some 47,.pure .move,[.t 0],none⟩,
 ⟨some 48,.pure .move,[.t 9],none⟩,
 ⟨some 49,.pure (.iaddrS 5),[.t 47,.t 48],none⟩,
 ⟨some 50,.read (.load (some 5)),[.t 49],none⟩,
 ⟨some 51,.pure (.iaddrS 5),[.t 37,.t 38],none⟩,
 ⟨none,.eff (.store 5),[.t 51,.t 46],none⟩,
 ⟨some 52,.pure (.iaddrS 5),[.t 39,.t 41],none⟩,
 ⟨none,.eff (.store 5),[.t 52,.t 50],none⟩]))
 (.ops [⟨some 35,.pure .move,[.t 9],none⟩,
 ⟨some 36,.pure (.bin .sub),[.t 35,.c (.int .i64 1)],none⟩,
 ⟨some 9,.pure .move,[.t 36],none⟩])))))))
 (.ops [⟨some 15,.pure .move,[.t 8],none⟩,
 ⟨some 16,.pure (.bin .add),[.t 15,.c (.int .i64 1)],none⟩,
 ⟨some 8,.pure .move,[.t 16],none⟩])))))) }
/-- slices.heapSortCmpFunc[datakit/numset.cut] -/
def ac724:AFn:=
 { nt:=60,res:=[],body:=
 (.seq (.ops [⟨some 13,.pure .move,[.t 1],none⟩,
 ⟨some 8,.pure .move,[.t 13],none⟩])
 (.seq (.ops [⟨some 9,.pure .move,[.c (.int .i64 0)],none⟩])
 (.seq (.ops [⟨some 14,.pure .move,[.t 2],none⟩,
 ⟨some 15,.pure .move,[.t 1],none⟩,
 ⟨some 16,.pure (.bin .sub),[.t 14,.t 15],none⟩,
 ⟨some 10,.pure .move,[.t 16],none⟩])
 (.seq (.seq (.ops [⟨some 17,.pure .move,[.t 10],none⟩,
 ⟨some 18,.pure (.bin .sub),[.t 17,.c (.int .i64 1)],none⟩,
 ⟨some 19,.pure (.bin .quo),[.t 18,.c (.int .i64 2)],none⟩,
 ⟨some 11,.pure .move,[.t 19],none⟩])
 (.block 0
 (.loop [0,3,8,9,10,11]
 (.seq (.seq (.ops [⟨some 20,.pure .move,[.t 11],none⟩,
 ⟨some 21,.pure (.bin .geq),[.t 20,.c (.int .i64 0)],none⟩])
 (.cond (.t 21)
 .skip
 (.exit 0)))
 (.seq (.block 1
 (.ops [⟨some 24,.pure .move,[.t 0],none⟩,
 ⟨some 25,.pure .move,[.t 11],none⟩,
 ⟨some 26,.pure .move,[.t 10],none⟩,
 ⟨some 27,.pure .move,[.t 8],none⟩,
 ⟨some 28,.pure .move,[.t 3],none⟩,
 ⟨some 29,.call 734,[.t 24,.t 25,.t 26,.t 27,.t 28],none⟩]))
 (.ops [⟨some 22,.pure .move,[.t 11],none⟩,
 ⟨some 23,.pure (.bin .sub),[.t 22,.c (.int .i64 1)],none⟩,
 ⟨some 11,.pure .move,[.t 23],none⟩]))))))
 (.seq (.ops [⟨some 30,.pure .move,[.t 10],none⟩,
 ⟨some 31,.pure (.bin .sub),[.t 30,.c (.int .i64 1)],none⟩,
 ⟨some 12,.pure .move,[.t 31],none⟩])
 (.block 2
 (.loop [0,3,8,9,12]
 (.seq (.seq (.ops [⟨some 32,.pure .move,[.t 12],none⟩,
 ⟨some 33,.pure (.bin .geq),[.t 32,.c (.int .i64 0)],none⟩])
 (.cond (.t 33)
 .skip
 (.exit 2)))
 (.seq (.block 3
 (.seq (.ops [⟨some 36,.pure .move,[.t 0],none⟩,
 ⟨some 37,.pure .move,[.t 8],none⟩,
 ⟨some 38,.pure .move,[.t 0],none⟩,
 ⟨some 39,.pure .move,[.t 8],none⟩,
 ⟨some 40,.pure .move,[.t 12],none⟩,
 ⟨some 41,.pure (.bin .add),[.t 39,.t 40],none⟩,
 ⟨some 42,.pure .move,[.t 0],none⟩,
 ⟨some 43,.pure .move,[.t 8],none⟩,
 ⟨some 44,.pure .move,[.t 12],none⟩,
 ⟨some 45,.pure (.bin .add),[.t 43,.t 44],none⟩,
 ⟨some 46,.pure (.iaddrS 5),[.t 42,.t 45],none⟩,
 ⟨some 47,.read (.load (some 5)),[.t 46],none⟩,
 ⟨some 48,.pure .move,[.t 0],none⟩,
 ⟨some 49,.pure .move,[.t 8],none⟩,
 ⟨some 50,.pure (.iaddrS 5),[.t 48,.t 49],none⟩,
 ⟨some 51,.read (.load (some 5)),[.t 50],none⟩,
 ⟨some 52,.pure (.iaddrS 5),[.t 36,.t 37],none⟩,
 ⟨none,.eff (.store 5),[.t 52,.t 47],none⟩,
 ⟨some 53,.pure (.iaddrS 5),[.t 38,.t 41],none⟩,
 ⟨none,.eff (.store 5),[.t 53,.t 51],none⟩])
 (.ops [⟨some 54,.pure .move,[.t 0],none⟩,
 ⟨some 55,.pure .move,[.t 9],none⟩,
 ⟨some 56,.pure .move,[.t 12],none⟩,
 ⟨some 57,.pure .move,[.t 8],none⟩,
 ⟨some 58,.pure .move,[.t 3],none⟩,
 ⟨some 59,.call 734,[.t 54,.t 55,.t 56,.t 57,.t 58],none⟩])))
 (.ops [⟨some 34,.pure .move,[.t 12],none⟩,
 ⟨some 35,.pure (.bin .sub),[.t 34,.c (.int .i64 1)],none⟩,
 ⟨some 12,.pure .move,[.t 35],none⟩])))))))))) }
/-- slices.breakPatternsCmpFunc[datakit/numset.cut] -/
def ac725:AFn:=
 { nt:=67,res:=[],body:=
 (.seq (.ops [⟨some 13,.pure .move,[.t 2],none⟩,
 ⟨some 14,.pure .move,[.t 1],none⟩,
 ⟨some 15,.pure (.bin .sub),[.t 13,.t 14],none⟩,
 ⟨some 8,.pure .move,[.t 15],none⟩])
 (.seq (.ops [⟨some 16,.pure .move,[.t 8],none⟩,
 ⟨some 17,.pure (.bin .geq),[.t 16,.c (.int .i64 8)],none⟩])
 (.cond (.t 17)
 (.seq (.ops [⟨some 18,.pure .move,[.t 8],none⟩,
 ⟨some 19,.pure (.conv .u64),[.t 18],none⟩,
 ⟨some 9,.new (.new 1 [.int .u64 0]),[],none⟩,
 ⟨none,.eff (.store 1),[.t 9,.t 19],none⟩])
 (.seq (.ops [⟨some 20,.pure .move,[.t 8],none⟩,
 ⟨some 21,.call 86,[.t 20],none⟩,
 ⟨some 10,.pure .move,[.t 21],none⟩])
 (.seq (.ops [⟨some 22,.pure .move,[.t 1],none⟩,
 ⟨some 23,.pure .move,[.t 8],none⟩,
 ⟨some 24,.pure (.bin .quo),[.t 23,.c (.int .i64 4)],none⟩,
 ⟨some 25,.pure (.bin .mul),[.t 24,.c (.int .i64 2)],none⟩,
 ⟨some 26,.pure (.bin .add),[.t 22,.t 25],none⟩,
 ⟨some 27,.pure (.bin .sub),[.t 26,.c (.int .i64 1)],none⟩,
 ⟨some 11,.pure .move,[.t 27],none⟩])
 (.block 0
 (.loop [0,1,8,9,10,11]
 (.seq (.seq (.ops [⟨some 28,.pure .move,[.t 11],none⟩,
 ⟨some 29,.pure .move,[.t 1],none⟩,
 ⟨some 30,.pure .move,[.t 8],none⟩,
 ⟨some 31,.pure (.bin .quo),[.t 30,.c (.int .i64 4)],none⟩,
 ⟨some 32,.pure (.bin .mul),[.t 31,.c (.int .i64 2)],none⟩,
 ⟨some 33,.pure (.bin .add),[.t 29,.t 32],none⟩,
 ⟨some 34,.pure (.bin .add),[.t 33,.c (.int .i64 1)],none⟩,
 ⟨some 35,.pure (.bin .leq),[.t 28,.t 34],none⟩])
 (.cond (.t 35)
 .skip
 (.exit 0)))
 (.seq (.block 1
 (.seq (.ops [⟨some 38,.call 87,[.t 9],none⟩,
 ⟨some 39,.pure .move,[.t 10],none⟩,
 ⟨some 40,.pure (.bin .sub),[.t 39,.c (.int .u64 1)],none⟩,
 ⟨some 41,.pure (.bin .and),[.t 38,.t 40],none⟩,
 ⟨some 42,.pure (.conv .i64),[.t 41],none⟩,
 ⟨some 12,.pure .move,[.t 42],none⟩])
 (.seq (.seq (.ops [⟨some 43,.pure .move,[.t 12],none⟩,
 ⟨some 44,.pure .move,[.t 8],none⟩,
 ⟨some 45,.pure (.bin .geq),[.t 43,.t 44],none⟩])
 (.cond (.t 45)
 (.ops [⟨some 46,.pure .move,[.t 12],none⟩,
 ⟨some 47,.pure .move,[.t 8],none⟩,
 ⟨some 48,.pure (.bin .sub),[.t 46,.t 47],none⟩,
 ⟨some 12,.pure .move,[.t 48],none⟩])
 .skip))
 (.ops [⟨some 49,.pure .move,[.t 0],none⟩,
 ⟨some 50,.pure .move,[.t 11],none⟩,
 ⟨some 51,.pure .move,[.t 0],none⟩,
 ⟨some 52,.pure .move,[.t 1],none⟩,
 ⟨some 53,.pure .move,[.t 12],none⟩,
 ⟨some 54,.pure (.bin .add),[.t 52,.t 53],none⟩,
 ⟨some 55,.pure .move,[.t 0],none⟩,
 ⟨some 56,.pure .move,[.t 1],none⟩,
 ⟨some 57,.pure .move,[.t 12],none⟩,
 ⟨some 58,.pure (.bin .add),[.t 56,.t 57],none⟩,
 ⟨some 59,.pure (.iaddrS 5),[.t 55,.t 58],none⟩,
 ⟨some 60,.read (.load (some 5)),[.t 59],none⟩,
 ⟨some 61,.pure .move,[.t 0],none⟩,
 ⟨some 62,.pure .move,[.t 11],none⟩,
 ⟨some 63,.pure (.iaddrS 5),[.t 61,.t 62],none⟩,
 ⟨some 64,.read (.load (some 5)),[.t 63],none⟩,
 ⟨some 65,.pure (.iaddrS 5),[.t 49,.t 50],none⟩,
 ⟨none,.eff (.store 5),[.t 65,.t 60],none⟩,
 ⟨some 66,.pure (.iaddrS 5),[.t 51,.t 54],none⟩,
 ⟨none,.eff (.store 5),[.t 66,.t 64],none⟩]))))
 (.ops [⟨some 36,.pure .move,[.t 11],none⟩,
 ⟨some 37,.pure (.bin .add),[.t 36,.c (.int .i64 1)],none⟩,
 ⟨some 11,.pure .move,[.t 37],none⟩]))))))))
 .skip))) }
/-- slices.choosePivotCmpFunc[datakit/numset.cut] -/
def ac726:AFn:=
 { nt:=63,res:=[.tmp 8,.tmp 9],body:=
 (.seq (.ops [⟨some 8,.pure .move,[.c (.int .i64 0)],none⟩,
 ⟨some 9,.pure .move,[.c (.int .i64 0)],none⟩])
 (.seq (.ops [⟨some 15,.pure .move,[.t 2],none⟩,
 ⟨some 16,.pure .move,[.t 1],none⟩,
 ⟨some 17,.pure (.bin .sub),[.t 15,.t 16],none⟩,
 ⟨some 10,.pure .move,[.t 17],none⟩])
 (.seq (.ops [⟨some 11,.new (.new 1 [.int .i64 0]),[],none⟩])
 (.seq (.ops [⟨some 18,.pure .move,[.t 1],none⟩,
 ⟨some 19,.pure .move,[.t 10],none⟩,
 ⟨some 20,.pure (.bin .quo),[.t 19,.c (.int .i64 4)],none⟩,
 ⟨some 21,.pure (.bin .mul),[.t 20,.c (.int .i64 1)],none⟩,
 ⟨some 22,.pure (.bin .add),[.t 18,.t 21],none⟩,
 ⟨some 12,.pure .move,[.t 22],none⟩])
 (.seq (.ops [⟨some 23,.pure .move,[.t 1],none⟩,
 ⟨some 24,.pure .move,[.t 10],none⟩,
 ⟨some 25,.pure (.bin .quo),[.t 24,.c (.int .i64 4)],none⟩,
 ⟨some 26,.pure (.bin .mul),[.t 25,.c (.int .i64 2)],none⟩,
 ⟨some 27,.pure (.bin .add),[.t 23,.t 26],none⟩,
 ⟨some 13,.pure .move,[.t 27],none⟩])
 (.seq (.ops [⟨some 28,.pure .move,[.t 1],none⟩,
 ⟨some 29,.pure .move,[.t 10],none⟩,
 ⟨some 30,.pure (.bin .quo),[.t 29,.c (.int .i64 4)],none⟩,
 ⟨some 31,.pure (.bin .mul),[.t 30,.c (.int .i64 3)],none⟩,
 ⟨some 32,.pure (.bin .add),[.t 28,.t 31],none⟩,
 ⟨some 14,.pure .move,[.t 32],none⟩])
 (.seq (.seq (.ops [⟨some 33,.pure .move,[.t 10],none⟩,
 ⟨some 34,.pure (.bin .geq),[.t 33,.c (.int .i64 8)],none⟩])
 (.cond (.t 34)
 (.seq (.seq (.ops [⟨some 35,.pure .move,[.t 10],none⟩,
 ⟨some 36,.pure (.bin .geq),[.t 35,.c (.int .i64 50)],none⟩])
 (.cond (.t 36)
 (.seq (.ops [⟨some 37,.pure .move,[.t 0],none⟩,
 ⟨some 38,.pure .move,[.t 12],none⟩,
 ⟨some 39,.pure .move,[.t 3],none⟩,
 ⟨some 40,.call 735,[.t 37,.t 38,.t 11,.t 39],none⟩,
 ⟨some 12,.pure .move,[.t 40],none⟩])
 (.seq (.ops [⟨some 41,.pure .move,[.t 0],none⟩,
 ⟨some 42,.pure .move,[.t 13],none⟩,
 ⟨some 43,.pure .move,[.t 3],none⟩,
 ⟨some 44,.call 735,[.t 41,.t 42,.t 11,.t 43],none⟩,
 ⟨some 13,.pure .move,[.t 44],none⟩])
 (.ops [⟨some 45,.pure .move,[.t 0],none⟩,
 ⟨some 46,.pure .move,[.t 14],none⟩,
 ⟨some 47,.pure .move,[.t 3],none⟩,
 ⟨some 48,.call 735,[.t 45,.t 46,.t 11,.t 47],none⟩,
 ⟨some 14,.pure .move,[.t 48],none⟩])))
 .skip))
 (.ops [⟨some 49,.pure .move,[.t 0],none⟩,
 ⟨some 50,.pure .move,[.t 12],none⟩,
 ⟨some 51,.pure .move,[.t 13],none⟩,
 ⟨some 52,.pure .move,[.t 14],none⟩,
 ⟨some 53,.pure .move,[.t 3],none⟩,
 ⟨some 54,.call 736,[.t 49,.t 50,.t 51,.t 52,.t 11,.t 53],none⟩,
 ⟨some 13,.pure .move,[.t 54],none⟩]))
 .skip))
 (.seq (.ops [⟨some 55,.read (.load none),[.t 11],none⟩])
 (.block 0
 (.seq (.ops [⟨some 58,.pure (.bin .eql),[.t 55,.c (.int .i64 0)],none⟩,
 ⟨some 57,.pure .move,[.t 58],none⟩])
 (.cond (.t 57)
 (.seq (.ops [⟨some 59,.pure .move,[.t 13],none⟩,
 ⟨some 8,.pure .move,[.t 59],none⟩,
 ⟨some 9,.pure .move,[.c (.int .i64 1)],none⟩])
 .ret)
 (.seq (.ops [⟨some 61,.pure (.bin .eql),[.t 55,.c (.int .i64 12)],none⟩,
 ⟨some 60,.pure .move,[.t 61],none⟩])
 (.cond (.t 60)
 (.seq (.ops [⟨some 62,.pure .move,[.t 13],none⟩,
 ⟨some 8,.pure .move,[.t 62],none⟩,
 ⟨some 9,.pure .move,[.c (.int .i64 2)],none⟩])
 .ret)
 (.seq (.ops [⟨some 56,.pure .move,[.t 13],none⟩,
 ⟨some 8,.pure .move,[.t 56],none⟩,
 ⟨some 9,.pure .move,[.c (.int .i64 0)],none⟩])
 .ret)))))))))))))) }
/-- slices.reverseRangeCmpFunc[datakit/numset.cut] -/
def ac727:AFn:=
 { nt:=34,res:=[],body:=
 (.seq (.ops [⟨some 10,.pure .move,[.t 1],none⟩,
 ⟨some 8,.pure .move,[.t 10],none⟩])
 (.seq (.ops [⟨some 11,.pure .move,[.t 2],none⟩,
 ⟨some 12,.pure (.bin .sub),[.t 11,.c (.int .i64 1)],none⟩,
 ⟨some 9,.pure .move,[.t 12],none⟩])
 (.block 0
 (.loop [0,8,9]
 (.seq (.seq (.ops [⟨some 13,.pure .move,[.t 8],none⟩,
 ⟨some 14,.pure .move,[.t 9],none⟩,
 ⟨some 15,.pure (.bin .lss),[.t 13,.t 14],none⟩])
 (.cond (.t 15)
 .skip
 (.exit 0)))
 (.block 1
 (.seq (.ops [⟨some 16,.pure .move,[.t 0],none⟩,
 ⟨some 17,.pure .move,[.t 8],none⟩,
 ⟨some 18,.pure .move,[.t 0],none⟩,
 ⟨some 19,.pure .move,[.t 9],none⟩,
 ⟨some 20,.pure .move,[.t 0],none⟩,
 ⟨some 21,.pure .move,[.t 9],none⟩,
 ⟨some 22,.pure (.iaddrS 5),[.t 20,.t 21],none⟩,
 ⟨some 23,.read (.load (some 5)),[.t 22],none⟩,
 ⟨some 24,.pure .move,[.t 0],none⟩,
 ⟨some 25,.pure .move,[.t 8],none⟩,
 ⟨some 26,.pure (.iaddrS 5),[.t 24,.t 25],none⟩,
 ⟨some 27,.read (.load (some 5)),[.t 26],none⟩,
 ⟨some 28,.pure (.iaddrS 5),[.t 16,.t 17],none⟩,
 ⟨none,.eff (.store 5),[.t 28,.t 23],none⟩,
 ⟨some 29,.pure (.iaddrS 5),[.t 18,.t 19],none⟩,
 ⟨none,.eff (.store 5),[.t 29,.t 27],none⟩])
 (.seq (.ops [⟨some 30,.pure .move,[.t 8],none⟩,
 ⟨some 31,.pure (.bin .add),[.t 30,.c (.int .i64 1)],none⟩,
 ⟨some 8,.pure .move,[.t 31],none⟩])
 (.ops [⟨some 32,.pure .move,[.t 9],none⟩,
 ⟨some 33,.pure (.bin .sub),[.t 32,.c (.int .i64 1)],none⟩,
 ⟨some 9,.pure .move,[.t 33],none⟩]))))))))) }
/-- slices.partialInsertionSortCmpFunc[datakit/numset.cut] -/
def ac728:AFn:=
 { nt:=141,res:=[.tmp 8],body:=
 (.seq (.ops [⟨some 8,.pure .move,[.c (.bool false)],none⟩])
 (.seq (.ops [⟨some 13,.pure .move,[.t 1],none⟩,
 ⟨some 14,.pure (.bin .add),[.t 13,.c (.int .i64 1)],none⟩,
 ⟨some 9,.pure .move,[.t 14],none⟩])
 (.seq (.seq (.ops [⟨some 10,.pure .move,[.c (.int .i64 0)],none⟩])
 (.block 0
 (.loop [0,1,2,3,9,10]
 (.seq (.seq (.ops [⟨some 15,.pure .move,[.t 10],none⟩,
 ⟨some 16,.pure (.bin .lss),[.t 15,.c (.int .i64 5)],none⟩])
 (.cond (.t 16)
 .skip
 (.exit 0)))
 (.seq (.block 1
 (.seq (.block 2
 (.loop [0,1,2,3,9,10]
 (.seq (.seq (.ops [⟨some 19,.pure .move,[.t 9],none⟩,
 ⟨some 20,.pure .move,[.t 2],none⟩,
 ⟨some 21,.pure (.bin .lss),[.t 19,.t 20],none⟩,
 ⟨some 22,.pure .move,[.t 21],none⟩,
 ⟨some 23,.pure .move,[.t 3],some (22,true)⟩,
 ⟨some 24,.pure .move,[.t 0],some (22,true)⟩,
 ⟨some 25,.pure .move,[.t 9],some (22,true)⟩,
 ⟨some 26,.pure (.iaddrS 5),[.t 24,.t 25],some (22,true)⟩,
 ⟨some 27,.read (.load (some 5)),[.t 26],some (22,true)⟩,
 ⟨some 28,.pure .move,[.t 0],some (22,true)⟩,
 ⟨some 29,.pure .move,[.t 9],some (22,true)⟩,
 ⟨some 30,.pure (.bin .sub),[.t 29,.c (.int .i64 1)],some (22,true)⟩,
 ⟨some 31,.pure (.iaddrS 5),[.t 28,.t 30],some (22,true)⟩,
 ⟨some 32,.read (.load (some 5)),[.t 31],some (22,true)⟩,
 ⟨some 33,.callv,[.t 23,.t 27,.t 32],some (22,true)⟩,
 ⟨some 34,.pure (.bin .lss),[.t 33,.c (.int .i64 0)],some (22,true)⟩,
 ⟨some 35,.pure (.un .not),[.t 34],some (22,true)⟩,
 ⟨some 36,.pure .pick,[.t 22,.t 35,.c (.bool false)],none⟩])
 (.cond (.t 36)
 .skip
 (.exit 2)))
 (.block 3
 (.ops [⟨some 37,.pure .move,[.t 9],none⟩,
 ⟨some 38,.pure (.bin .add),[.t 37,.c (.int .i64 1)],none⟩,
 ⟨some 9,.pure .move,[.t 38],none⟩])))))
 (.seq (.seq (.ops [⟨some 39,.pure .move,[.t 9],none⟩,
 ⟨some 40,.pure .move,[.t 2],none⟩,
 ⟨some 41,.pure (.bin .eql),[.t 39,.t 40],none⟩])
 (.cond (.t 41)
 (.seq (.ops [⟨some 8,.pure .move,[.c (.bool true)],none⟩])
 .ret)
 .skip))
 (.seq (.seq (.ops [⟨some 42,.pure .move,[.t 2],none⟩,
 ⟨some 43,.pure .move,[.t 1],none⟩,
 ⟨some 44,.pure (.bin .sub),[.t 42,.t 43],none⟩,
 ⟨some 45,.pure (.bin .lss),[.t 44,.c (.int .i64 50)],none⟩])
 (.cond (.t 45)
 (.seq (.ops [⟨some 8,.pure .move,[.c (.bool false)],none⟩])
 .ret)
 .skip))
 (.seq (.ops [⟨some 46,.pure .move,[.t 0],none⟩,
 ⟨some 47,.pure .move,[.t 9],none⟩,
 ⟨some 48,.pure .move,[.t 0],none⟩,
 ⟨some 49,.pure .move,[.t 9],none⟩,
 ⟨some 50,.pure (.bin .sub),[.t 49,.c (.int .i64 1)],none⟩,
 ⟨some 51,.pure .move,[.t 0],none⟩,
 ⟨some 52,.pure .move,[.t 9],none⟩,
 ⟨some 53,.pure (.bin .sub),[.t 52,.c (.int .i64 1)],none⟩,
 ⟨some 54,.pure (.iaddrS 5),[.t 51,.t 53],none⟩,
 ⟨some 55,.read (.load (some 5)),[.t 54],none⟩,
 ⟨some 56,.pure .move,[.t 0],none⟩,
 ⟨some 57,.pure .move,[.t 9],none⟩,
 ⟨some 58,.pure (.iaddrS 5),[.t 56,.t 57],none⟩,
 ⟨some 59,.read (.load (some 5)),[.t 58],none⟩,
 ⟨some 60,.pure (.iaddrS 5),[.t 46,.t 47],none⟩,
 ⟨none,.eff (.store 5),[.t 60,.t 55],none⟩,
 ⟨some 61,.pure (.iaddrS 5),[.t 48,.t 50],none⟩,
 ⟨none,.eff (.store 5),[.t 61,.t 59],none⟩])
 (.seq (.seq (.ops [⟨some 62,.pure .move,[.t 9],none⟩,
 ⟨some 63,.pure .move,[.t 1],none⟩,
 ⟨some 64,.pure (.bin .sub),[.t 62,.t 63],none⟩,
 ⟨some 65,.pure (.bin .geq),[.t 64,.c (.int .i64 2)],none⟩])
 (.cond (.t 65)
 (.seq (.ops [⟨some 66,.pure .move,[.t 9],none⟩,
 ⟨some 67,.pure (.bin .sub),[.t 66,.c (.int .i64 1)],none⟩,
 ⟨some 11,.pure .move,[.t 67],none⟩])
 (.block 4
 (.loop [0,1,2,3,9,10,11]
 (.seq (.seq (.ops [⟨some 68,.pure .move,[.t 11],none⟩,
 ⟨some 69,.pure (.bin .geq),[.t 68,.c (.int .i64 1)],none⟩])
 (.cond (.t 69)
 .skip
 (.exit 4)))
 (.seq (.block 5
 (.seq (.seq (.ops [⟨some 72,.pure .move,[.t 3],none⟩,
 ⟨some 73,.pure .move,[.t 0],none⟩,
 ⟨some 74,.pure .move,[.t 11],none⟩,
 ⟨some 75,.pure (.iaddrS 5),[.t 73,.t 74],none⟩,
 ⟨some 76,.read (.load (some 5)),[.t 75],none⟩,
 ⟨some 77,.pure .move,[.t 0],none⟩,
 ⟨some 78,.pure .move,[.t 11],none⟩,
 ⟨some 79,.pure (.bin .sub),[.t 78,.c (.int .i64 1)],none⟩,
 ⟨some 80,.pure (.iaddrS 5),[.t 77,.t 79],none⟩,
 ⟨some 81,.read (.load (some 5)),[.t 80],none⟩,
 ⟨some 82,.callv,[.t 72,.t 76,.t 81],none⟩,
 ⟨some 83,.pure (.bin .lss),[.t 82,.c (.int .i64 0)],none⟩,
 ⟨some 84,.pure (.un .not),[.t 83],none⟩])
 (.cond (.t 84)
 (.exit 4)
 .skip))
 (.ops [⟨some 85,.pure .move,[.t 0],none⟩,
 ⟨some 86,.pure .move,[.t 11],none⟩,
 ⟨some 87,.pure .move,[.t 0],none⟩,
 ⟨some 88,.pure .move,[.t 11],none⟩,
 ⟨some 89,.pure (.bin .sub),[.t 88,.c (.int .i64 1)],none⟩,
 ⟨some 90,.pure .move,[.t 0],none⟩,
 ⟨some 91,.pure .move,[.t 11],none⟩,
 ⟨some 92,.pure (.bin .sub),[.t 91,.c (.int .i64 1)],none⟩,
 ⟨some 93,.pure (.iaddrS 5),[.t 90,.t 92],none⟩,
 ⟨some 94,.read (.load (some 5)),[.t 93],none⟩,
 ⟨some 95,.pure .move,[.t 0],none⟩,
 ⟨some 96,.pure .move,[.t 11],none⟩,
 ⟨some 97,.pure (.iaddrS 5),[.t 95,.t 96],none⟩,
 ⟨some 98,.read (.load (some 5)),[.t 97],none⟩,
 ⟨some 99,.pure (.iaddrS 5),[.t 85,.t 86],none⟩,
 ⟨none,.eff (.store 5),[.t 99,.t 94],none⟩,
 ⟨some 100,.pure (.iaddrS 5),[.t 87,.t 89],none⟩,
 ⟨none,.eff (.store 5),[.t 100,.t 98],none⟩])))
 (.ops [⟨some 70,.pure .move,[.t 11],none⟩,
 ⟨some 71,.pure (.bin .sub),[.t 70,.c (.int .i64 1)],none⟩,
 ⟨some 11,.pure .move,[.t 71],none⟩]))))))
 .skip))
 (.seq (.ops [⟨some 101,.pure .move,[.t 2],none⟩,
 ⟨some 102,.pure .move,[.t 9],none⟩,
 ⟨some 103,.pure (.bin .sub),[.t 101,.t 102],none⟩,
 ⟨some 104,.pure (.bin .geq),[.t 103,.c (.int .i64 2)],none⟩])
 (.cond (.t 104)
 (.seq (.ops [⟨some 105,.pure .move,[.t 9],none⟩,
 ⟨some 106,.pure (.bin .add),[.t 105,.c (.int .i64 1)],none⟩,
 ⟨some 12,.pure .move,[.t 106],none⟩])
 (.block 6
 (.loop [0,1,2,3,9,10,12]
 (.seq (.seq (.ops [⟨some 107,.pure .move,[.t 12],none⟩,
 ⟨some 108,.pure .move,[.t 2],none⟩,
 ⟨some 109,.pure (.bin .lss),[.t 107,.t 108],none⟩])
 (.cond (.t 109)
 .skip
 (.exit 6)))
 (.seq (.block 7
 (.seq (.seq (.ops [⟨some 112,.pure .move,[.t 3],none⟩,
 ⟨some 113,.pure .move,[.t 0],none⟩,
 ⟨some 114,.pure .move,[.t 12],none⟩,
 ⟨some 115,.pure (.iaddrS 5),[.t 113,.t 114],none⟩,
 ⟨some 116,.read (.load (some 5)),[.t 115],none⟩,
 ⟨some 117,.pure .move,[.t 0],none⟩,
 ⟨some 118,.pure .move,[.t 12],none⟩,
 ⟨some 119,.pure (.bin .sub),[.t 118,.c (.int .i64 1)],none⟩,
 ⟨some 120,.pure (.iaddrS 5),[.t 117,.t 119],none⟩,
 ⟨some 121,.read (.load (some 5)),[.t 120],none⟩,
 ⟨some 122,.callv,[.t 112,.t 116,.t 121],none⟩,
 ⟨some 123,.pure (.bin .lss),[.t 122,.c (.int .i64 0)],none⟩,
 ⟨some 124,.pure (.un .not),[.t 123],none⟩])
 (.cond (.t 124)
 (.exit 6)
 .skip))
 (.ops [⟨some 125,.pure .move,[.t 0],none⟩,
 ⟨some 126,.pure .move,[.t 12],none⟩,
 ⟨some 127,.pure .move,[.t 0],none⟩,
 ⟨some 128,.pure .move,[.t 12],none⟩,
 ⟨some 129,.pure (.bin .sub),[.t 128,.c (.int .i64 1)],none⟩,
 ⟨some 130,.pure .move,[.t 0],none⟩,
 ⟨some 131,.pure .move,[.t 12],none⟩,
 ⟨some 132,.pure (.bin .sub),[.t 131,.c (.int .i64 1)],none⟩,
 ⟨some 133,.pure (.iaddrS 5),[.t 130,.t 132],none⟩,
 ⟨some 134,.read (.load (some 5)),[.t 133],none⟩,
 ⟨some 135,.pure .move,[.t 0],none⟩,
 ⟨some 136,.pure .move,[.t 12],none⟩,
 ⟨some 137,.pure (.iaddrS 5),[.t 135,.t 136],none⟩,
 ⟨some 138,.read (.load (some 5)),[.t 137],none⟩,
 ⟨some 139,.pure (.iaddrS 5),[.t 125,.t 126],none⟩,
 ⟨none,.eff (.store 5),[.t 139,.t 134],none⟩,
 ⟨some 140,.pure (.iaddrS 5),[.t 127,.t 129],none⟩,
 ⟨none,.eff (.store 5),[.t 140,.t 138],none⟩])))
 (.ops [⟨some 110,.pure .move,[.t 12],none⟩,
 ⟨some 111,.pure (.bin .add),[.t 110,.c (.int .i64 1)],none⟩,
 ⟨some 12,.pure .move,[.t 111],none⟩]))))))
 .skip))))))))
 (.ops [⟨some 17,.pure .move,[.t 10],none⟩,
 ⟨some 18,.pure (.bin .add),[.t 17,.c (.int .i64 1)],none⟩,
 ⟨some 10,.pure .move,[.t 18],none⟩]))))))
 (.seq (.ops [⟨some 8,.pure .move,[.c (.bool false)],none⟩])
 .ret)))) }
/-- slices.partitionEqualCmpFunc[datakit/numset.cut] -/
def ac729:AFn:=
 { nt:=90,res:=[.tmp 10],body:=
 (.seq (.ops [⟨some 10,.pure .move,[.c (.int .i64 0)],none⟩])
 (.seq (.ops [⟨some 13,.pure .move,[.t 0],none⟩,
 ⟨some 14,.pure .move,[.t 1],none⟩,
 ⟨some 15,.pure .move,[.t 0],none⟩,
 ⟨some 16,.pure .move,[.t 3],none⟩,
 ⟨some 17,.pure .move,[.t 0],none⟩,
 ⟨some 18,.pure .move,[.t 3],none⟩,
 ⟨some 19,.pure (.iaddrS 5),[.t 17,.t 18],none⟩,
 ⟨some 20,.read (.load (some 5)),[.t 19],none⟩,
 ⟨some 21,.pure .move,[.t 0],none⟩,
 ⟨some 22,.pure .move,[.t 1],none⟩,
 ⟨some 23,.pure (.iaddrS 5),[.t 21,.t 22],none⟩,
 ⟨some 24,.read (.load (some 5)),[.t 23],none⟩,
 ⟨some 25,.pure (.iaddrS 5),[.t 13,.t 14],none⟩,
 ⟨none,.eff (.store 5),[.t 25,.t 20],none⟩,
 ⟨some 26,.pure (.iaddrS 5),[.t 15,.t 16],none⟩,
 ⟨none,.eff (.store 5),[.t 26,.t 24],none⟩])
 (.seq (.ops [⟨some 27,.pure .move,[.t 1],none⟩,
 ⟨some 28,.pure (.bin .add),[.t 27,.c (.int .i64 1)],none⟩,
 ⟨some 29,.pure .move,[.t 2],none⟩,
 ⟨some 30,.pure (.bin .sub),[.t 29,.c (.int .i64 1)],none⟩,
 ⟨some 11,.pure .move,[.t 28],none⟩,
 ⟨some 12,.pure .move,[.t 30],none⟩])
 (.seq (.block 0
 (.loop [0,1,4,11,12]
 (.block 1
 (.seq (.block 2
 (.loop [0,1,4,11,12]
 (.seq (.seq (.ops [⟨some 31,.pure .move,[.t 11],none⟩,
 ⟨some 32,.pure .move,[.t 12],none⟩,
 ⟨some 33,.pure (.bin .leq),[.t 31,.t 32],none⟩,
 ⟨some 34,.pure .move,[.t 33],none⟩,
 ⟨some 35,.pure .move,[.t 4],some (34,true)⟩,
 ⟨some 36,.pure .move,[.t 0],some (34,true)⟩,
 ⟨some 37,.pure .move,[.t 1],some (34,true)⟩,
 ⟨some 38,.pure (.iaddrS 5),[.t 36,.t 37],some (34,true)⟩,
 ⟨some 39,.read (.load (some 5)),[.t 38],some (34,true)⟩,
 ⟨some 40,.pure .move,[.t 0],some (34,true)⟩,
 ⟨some 41,.pure .move,[.t 11],some (34,true)⟩,
 ⟨some 42,.pure (.iaddrS 5),[.t 40,.t 41],some (34,true)⟩,
 ⟨some 43,.read (.load (some 5)),[.t 42],some (34,true)⟩,
 ⟨some 44,.callv,[.t 35,.t 39,.t 43],some (34,true)⟩,
 ⟨some 45,.pure (.bin .lss),[.t 44,.c (.int .i64 0)],some (34,true)⟩,
 ⟨some 46,.pure (.un .not),[.t 45],some (34,true)⟩,
 ⟨some 47,.pure .pick,[.t 34,.t 46,.c (.bool false)],none⟩])
 (.cond (.t 47)
 .skip
 (.exit 2)))
 (.block 3
 (.ops [⟨some 48,.pure .move,[.t 11],none⟩,
 ⟨some 49,.pure (.bin .add),[.t 48,.c (.int .i64 1)],none⟩,
 ⟨some 11,.pure .move,[.t 49],none⟩])))))
 (.seq (.block 4
 (.loop [0,1,4,11,12]
 (.seq (.seq (.ops [⟨some 50,.pure .move,[.t 11],none⟩,
 ⟨some 51,.pure .move,[.t 12],none⟩,
 ⟨some 52,.pure (.bin .leq),[.t 50,.t 51],none⟩,
 ⟨some 53,.pure .move,[.t 52],none⟩,
 ⟨some 54,.pure .move,[.t 4],some (53,true)⟩,
 ⟨some 55,.pure .move,[.t 0],some (53,true)⟩,
 ⟨some 56,.pure .move,[.t 1],some (53,true)⟩,
 ⟨some 57,.pure (.iaddrS 5),[.t 55,.t 56],some (53,true)⟩,
 ⟨some 58,.read (.load (some 5)),[.t 57],some (53,true)⟩,
 ⟨some 59,.pure .move,[.t 0],some (53,true)⟩,
 ⟨some 60,.pure .move,[.t 12],some (53,true)⟩,
 ⟨some 61,.pure (.iaddrS 5),[.t 59,.t 60],some (53,true)⟩,
 ⟨some 62,.read (.load (some 5)),[.t 61],some (53,true)⟩,
 ⟨some 63,.callv,[.t 54,.t 58,.t 62],some (53,true)⟩,
 ⟨some 64,.pure (.bin .lss),[.t 63,.c (.int .i64 0)],some (53,true)⟩,
 ⟨some 65,.pure .pick,[.t 53,.t 64,.c (.bool false)],none⟩])
 (.cond (.t 65)
 .skip
 (.exit 4)))
 (.block 5
 (.ops [⟨some 66,.pure .move,[.t 12],none⟩,
 ⟨some 67,.pure (.bin .sub),[.t 66,.c (.int .i64 1)],none⟩,
 ⟨some 12,.pure .move,[.t 67],none⟩])))))
 (.seq (.seq (.ops [⟨some 68,.pure .move,[.t 11],none⟩,
 ⟨some 69,.pure .move,[.t 12],none⟩,
 ⟨some 70,.pure (.bin .gtr),[.t 68,.t 69],none⟩])
 (.cond (.t 70)
 (.exit 0)
 .skip))
 (.seq (.ops [⟨some 71,.pure .move,[.t 0],none⟩,
 ⟨some 72,.pure .move,[.t 11],none⟩,
 ⟨some 73,.pure .move,[.t 0],none⟩,
 ⟨some 74,.pure .move,[.t 12],none⟩,
 ⟨some 75,.pure .move,[.t 0],none⟩,
 ⟨some 76,.pure .move,[.t 12],none⟩,
 ⟨some 77,.pure (.iaddrS 5),[.t 75,.t 76],none⟩,
 ⟨some 78,.read (.load (some 5)),[.t 77],none⟩,
 ⟨some 79,.pure .move,[.t 0],none⟩,
 ⟨some 80,.pure .move,[.t 11],none⟩,
 ⟨some 81,.pure (.iaddrS 5),[.t 79,.t 80],none⟩,
 ⟨some 82,.read (.load (some 5)),[.t 81],none⟩,
 ⟨some 83,.pure (.iaddrS 5),[.t 71,.t 72],none⟩,
 ⟨none,.eff (.store 5),[.t 83,.t 78],none⟩,
 ⟨some 84,.pure (.iaddrS 5),[.t 73,.t 74],none⟩,
 ⟨none,.eff (.store 5),[.t 84,.t 82],none⟩])
 (.seq (.ops [⟨some 85,.pure .move,[.t 11],none⟩,
 ⟨some 86,.pure (.bin .add),[.t 85,.c (.int .i64 1)],none⟩,
 ⟨some 11,.pure .move,[.t 86],none⟩])
 (.ops [⟨some 87,.pure .move,[.t 12],none⟩,
 ⟨some 88,.pure (.bin .sub),[.t 87,.c (.int .i64 1)],none⟩,
 ⟨some 12,.pure .move,[.t 88],none⟩])))))))))
 (.seq (.ops [⟨some 89,.pure .move,[.t 11],none⟩,
 ⟨some 10,.pure .move,[.t 89],none⟩])
 .ret))))) }
/-- slices.partitionCmpFunc[datakit/numset.cut] -/
def ac730:AFn:=
 { nt:=178,res:=[.tmp 10,.tmp 11],body:=
 (.seq (.ops [⟨some 10,.pure .move,[.c (.int .i64 0)],none⟩,
 ⟨some 11,.pure .move,[.c (.bool false)],none⟩])
 (.seq (.ops [⟨some 14,.pure .move,[.t 0],none⟩,
 ⟨some 15,.pure .move,[.t 1],none⟩,
 ⟨some 16,.pure .move,[.t 0],none⟩,
 ⟨some 17,.pure .move,[.t 3],none⟩,
 ⟨some 18,.pure .move,[.t 0],none⟩,
 ⟨some 19,.pure .move,[.t 3],none⟩,
 ⟨some 20,.pure (.iaddrS 5),[.t 18,.t 19],none⟩,
 ⟨some 21,.read (.load (some 5)),[.t 20],none⟩,
 ⟨some 22,.pure .move,[.t 0],none⟩,
 ⟨some 23,.pure .move,[.t 1],none⟩,
 ⟨some 24,.pure (.iaddrS 5),[.t 22,.t 23],none⟩,
 ⟨some 25,.read (.load (some 5)),[.t 24],none⟩,
 ⟨some 26,.pure (.iaddrS 5),[.t 14,.t 15],none⟩,
 ⟨none,.eff (.store 5),[.t 26,.t 21],none⟩,
 ⟨some 27,.pure (.iaddrS 5),[.t 16,.t 17],none⟩,
 ⟨none,.eff (.store 5),[.t 27,.t 25],none⟩])
 (.seq (.ops [⟨some 28,.pure .move,[.t 1],none⟩,
 ⟨some 29,.pure (.bin .add),[.t 28,.c (.int .i64 1)],none⟩,
 ⟨some 30,.pure .move,[.t 2],none⟩,
 ⟨some 31,.pure (.bin .sub),[.t 30,.c (.int .i64 1)],none⟩,
 ⟨some 12,.pure .move,[.t 29],none⟩,
 ⟨some 13,.pure .move,[.t 31],none⟩])
 (.seq (.block 0
 (.loop [0,1,4,12,13]
 (.seq (.seq (.ops [⟨some 32,.pure .move,[.t 12],none⟩,
 ⟨some 33,.pure .move,[.t 13],none⟩,
 ⟨some 34,.pure (.bin .leq),[.t 32,.t 33],none⟩,
 ⟨some 35,.pure .move,[.t 34],none⟩,
 ⟨some 36,.pure .move,[.t 4],some (35,true)⟩,
 ⟨some 37,.pure .move,[.t 0],some (35,true)⟩,
 ⟨some 38,.pure .move,[.t 12],some (35,true)⟩,
 ⟨some 39,.pure (.iaddrS 5),[.t 37,.t 38],some (35,true)⟩,
 ⟨some 40,.read (.load (some 5)),[.t 39],some (35,true)⟩,
 ⟨some 41,.pure .move,[.t 0],some (35,true)⟩,
 ⟨some 42,.pure .move,[.t 1],some (35,true)⟩,
 ⟨some 43,.pure (.iaddrS 5),[.t 41,.t 42],some (35,true)⟩,
 ⟨some 44,.read (.load (some 5)),[.t 43],some (35,true)⟩,
 ⟨some 45,.callv,[.t 36,.t 40,.t 44],some (35,true)⟩,
 ⟨some 46,.pure (.bin .lss),[.t 45,.c (.int .i64 0)],some (35,true)⟩,
 ⟨some 47,.pure .pick,[.t 35,.t 46,.c (.bool false)],none⟩])
 (.cond (.t 47)
 .skip
 (.exit 0)))
 (.block 1
 (.ops [⟨some 48,.pure .move,[.t 12],none⟩,
 ⟨some 49,.pure (.bin .add),[.t 48,.c (.int .i64 1)],none⟩,
 ⟨some 12,.pure .move,[.t 49],none⟩])))))
 (.seq (.block 2
 (.loop [0,1,4,12,13]
 (.seq (.seq (.ops [⟨some 50,.pure .move,[.t 12],none⟩,
 ⟨some 51,.pure .move,[.t 13],none⟩,
 ⟨some 52,.pure (.bin .leq),[.t 50,.t 51],none⟩,
 ⟨some 53,.pure .move,[.t 52],none⟩,
 ⟨some 54,.pure .move,[.t 4],some (53,true)⟩,
 ⟨some 55,.pure .move,[.t 0],some (53,true)⟩,
 ⟨some 56,.pure .move,[.t 13],some (53,true)⟩,
 ⟨some 57,.pure (.iaddrS 5),[.t 55,.t 56],some (53,true)⟩,
 ⟨some 58,.read (.load (some 5)),[.t 57],some (53,true)⟩,
 ⟨some 59,.pure .move,[.t 0],some (53,true)⟩,
 ⟨some 60,.pure .move,[.t 1],some (53,true)⟩,
 ⟨some 61,.pure (.iaddrS 5),[.t 59,.t 60],some (53,true)⟩,
 ⟨some 62,.read (.load (some 5)),[.t 61],some (53,true)⟩,
 ⟨some 63,.callv,[.t 54,.t 58,.t 62],some (53,true)⟩,
 ⟨some 64,.pure (.bin .lss),[.t 63,.c (.int .i64 0)],some (53,true)⟩,
 ⟨some 65,.pure (.un .not),[.t 64],some (53,true)⟩,
 ⟨some 66,.pure .pick,[.t 53,.t 65,.c (.bool false)],none⟩])
 (.cond (.t 66)
 .skip
 (.exit 2)))
 (.block 3
 (.ops [⟨some 67,.pure .move,[.t 13],none⟩,
 ⟨some 68,.pure (.bin .sub),[.t 67,.c (.int .i64 1)],none⟩,
 ⟨some 13,.pure .move,[.t 68],none⟩])))))
 (.seq (.seq (.ops [⟨some 69,.pure .move,[.t 12],none⟩,
 ⟨some 70,.pure .move,[.t 13],none⟩,
 ⟨some 71,.pure (.bin .gtr),[.t 69,.t 70],none⟩])
 (.cond (.t 71)
 (.seq (.ops [⟨some 72,.pure .move,[.t 0],none⟩,
 ⟨some 73,.pure .move,[.t 13],none⟩,
 ⟨some 74,.pure .move,[.t 0],none⟩,
 ⟨some 75,.pure .move,[.t 1],none⟩,
 ⟨some 76,.pure .move,[.t 0],none⟩,
 ⟨some 77,.pure .move,[.t 1],none⟩,
 ⟨some 78,.pure (.iaddrS 5),[.t 76,.t 77],none⟩,
 ⟨some 79,.read (.load (some 5)),[.t 78],none⟩,
 ⟨some 80,.pure .move,[.t 0],none⟩,
 ⟨some 81,.pure .move,[.t 13],none⟩,
 ⟨some 82,.pure (.iaddrS 5),[.t 80,.t 81],none⟩,
 ⟨some 83,.read (.load (some 5)),[.t 82],none⟩,
 ⟨some 84,.pure (.iaddrS 5),[.t 72,.t 73],none⟩,
 ⟨none,.eff (.store 5),[.t 84,.t 79],none⟩,
 ⟨some 85,.pure (.iaddrS 5),[.t 74,.t 75],none⟩,
 ⟨none,.eff (.store 5),[.t 85,.t 83],none⟩])
 (.seq (.ops [⟨some 86,.pure .move,[.t 13],none⟩,
 ⟨some 10,.pure .move,[.t 86],none⟩,
 ⟨some 11,.pure .move,[.c (.bool true)],none⟩])
 .ret))
 .skip))
 (.seq (.ops [⟨some 87,.pure .move,[.t 0],none⟩,
 ⟨some 88,.pure .move,[.t 12],none⟩,
 ⟨some 89,.pure .move,[.t 0],none⟩,
 ⟨some 90,.pure .move,[.t 13],none⟩,
 ⟨some 91,.pure .move,[.t 0],none⟩,
 ⟨some 92,.pure .move,[.t 13],none⟩,
 ⟨some 93,.pure (.iaddrS 5),[.t 91,.t 92],none⟩,
 ⟨some 94,.read (.load (some 5)),[.t 93],none⟩,
 ⟨some 95,.pure .move,[.t 0],none⟩,
 ⟨some 96,.pure .move,[.t 12],none⟩,
 ⟨some 97,.pure (.iaddrS 5),[.t 95,.t 96],none⟩,
 ⟨some 98,.read (.load (some 5)),[.t 97],none⟩,
 ⟨some 99,.pure (.iaddrS 5),[.t 87,.t 88],none⟩,
 ⟨none,.eff (.store 5),[.t 99,.t 94],none⟩,
 ⟨some 100,.pure (.iaddrS 5),[.t 89,.t 90],none⟩,
 ⟨none,.eff (.store 5),[.t 100,.t 98],none⟩])
 (.seq (.ops [⟨some 101,.pure .move,[.t 12],none⟩,
 ⟨some 102,.pure (.bin .add),[.t 101,.c (.int .i64 1)],none⟩,
 ⟨some 12,.pure .move,[.t 102],none⟩])
 (.seq (.ops [⟨some 103,.pure .move,[.t 13],none⟩,
 ⟨some 104,.pure (.bin .sub),[.t 103,.c (.int .i64 1)],none⟩,
 ⟨some 13,.pure .move,[.t 104],none⟩])
 (.seq (.block 4
 (.loop [0,1,4,12,13]
 (.block 5
 (.seq (.block 6
 (.loop [0,1,4,12,13]
 (.seq (.seq (.ops [⟨some 105,.pure .move,[.t 12],none⟩,
 ⟨some 106,.pure .move,[.t 13],none⟩,
 ⟨some 107,.pure (.bin .leq),[.t 105,.t 106],none⟩,
 ⟨some 108,.pure .move,[.t 107],none⟩,
 ⟨some 109,.pure .move,[.t 4],some (108,true)⟩,
 ⟨some 110,.pure .move,[.t 0],some (108,true)⟩,
 ⟨some 111,.pure .move,[.t 12],some (108,true)⟩,
 ⟨some 112,.pure (.iaddrS 5),[.t 110,.t 111],some (108,true)⟩,
 ⟨some 113,.read (.load (some 5)),[.t 112],some (108,true)⟩,
 ⟨some 114,.pure .move,[.t 0],some (108,true)⟩,
 ⟨some 115,.pure .move,[.t 1],some (108,true)⟩,
 ⟨some 116,.pure (.iaddrS 5),[.t 114,.t 115],some (108,true)⟩,
 ⟨some 117,.read (.load (some 5)),[.t 116],some (108,true)⟩,
 ⟨some 118,.callv,[.t 109,.t 113,.t 117],some (108,true)⟩,
 ⟨some 119,.pure (.bin .lss),[.t 118,.c (.int .i64 0)],some (108,true)⟩,
 ⟨some 120,.pure .pick,[.t 108,.t 119,.c (.bool false)],none⟩])
 (.cond (.t 120)
 .skip
 (.exit 6)))
 (.block 7
 (.ops [⟨some 121,.pure .move,[.t 12],none⟩,
 ⟨some 122,.pure (.bin .add),[.t 121,.c (.int .i64 1)],none⟩,
 ⟨some 12,.pure .move,[.t 122],none⟩])))))
 (.seq (.block 8
 (.loop [0,1,4,12,13]
 (.seq (.seq (.ops [⟨some 123,.pure .move,[.t 12],none⟩,
 ⟨some 124,.pure .move,[.t 13],none⟩,
 ⟨some 125,.pure (.bin .leq),[.t 123,.t 124],none⟩,
 ⟨some 126,.pure .move,[.t 125],none⟩,
 ⟨some 127,.pure .move,[.t 4],some (126,true)⟩,
 ⟨some 128,.pure .move,[.t 0],some (126,true)⟩,
 ⟨some 129,.pure .move,[.t 13],some (126,true)⟩,
 ⟨some 130,.pure (.iaddrS 5),[.t 128,.t 129],some (126,true)⟩,
 ⟨some 131,.read (.load (some 5)),[.t 130],some (126,true)⟩,
 ⟨some 132,.pure .move,[.t 0],some (126,true)⟩,
 ⟨some 133,.pure .move,[.t 1],some (126,true)⟩,
 ⟨some 134,.pure (.iaddrS 5),[.t 132,.t 133],some (126,true)⟩,
 ⟨some 135,.read (.load (some 5)),[.t 134],some (126,true)⟩,
 ⟨some 136,.callv,[.t 127,.t 131,.t 135],some (126,true)⟩,
 ⟨some 137,.pure (.bin .lss),[.t 136,.c (.int .i64 0)],some (126,true)⟩,
 ⟨some 138,.pure (.un .not),[.t 137],some (126,true)⟩,
 ⟨some 139,.pure .pick,[.t 126,.t 138,.c (.bool false)],none⟩])
 (.cond (.t 139)
 .skip
 (.exit 8)))
 (.block 9
 (.ops [⟨some 140,.pure .move,[.t 13],none⟩,
 ⟨some 141,.pure (.bin .sub),[.t 140,.c (.int .i64 1)],none⟩,
 ⟨some 13,.pure .move,[.t 141],none⟩])))))
 (.seq (.seq (.ops [⟨some 142,.pure .move,[.t 12],none⟩,
 ⟨some 143,.pure .move,[.t 13],none⟩,
 ⟨some 144,.pure (.bin .gtr),[.t 142,.t 143],none⟩])
 (.cond (.t 144)
 (.exit 4)
 .skip))
 (.seq (.ops [⟨some 145,.pure .move,[.t 0],none⟩,
 ⟨some 146,.pure .move,[.t 12],none⟩,
 ⟨some 147,.pure .move,[.t 0],none⟩,
 ⟨some 148,.pure .move,[.t 13],none⟩,
 ⟨some 149,.pure .move,[.t 0],none⟩,
 ⟨some 150,.pure .move,[.t 13],none⟩,
 ⟨some 151,.pure (.iaddrS 5),[.t 149,.t 150],none⟩,
 ⟨some 152,.read (.load (some 5)),[.t 151],none⟩,
 ⟨some 153,.pure .move,[.t 0],none⟩,
 ⟨some 154,.pure .move,[.t 12],none⟩,
 ⟨some 155,.pure (.iaddrS 5),[.t 153,.t 154],none⟩,
 ⟨some 156,.read (.load (some 5)),[.t 155],none⟩,
 ⟨some 157,.pure (.iaddrS 5),[.t 145,.t 146],none⟩,
 ⟨none,.eff (.store 5),[.t 157,.t 152],none⟩,
 ⟨some 158,.pure (.iaddrS 5),[.t 147,.t 148],none⟩,
 ⟨none,.eff (.store 5),[.t 158,.t 156],none⟩])
 (.seq (.ops [⟨some 159,.pure .move,[.t 12],none⟩,
 ⟨some 160,.pure (.bin .add),[.t 159,.c (.int .i64 1)],none⟩,
 ⟨some 12,.pure .move,[.t 160],none⟩])
 (.ops [⟨some 161,.pure .move,[.t 13],none⟩,
 ⟨some 162,.pure (.bin .sub),[.t 161,.c (.int .i64 1)],none⟩,
 ⟨some 13,.pure .move,[.t 162],none⟩])))))))))
 (.seq (.ops [⟨some 163,.pure .move,[.t 0],none⟩,
 ⟨some 164,.pure .move,[.t 13],none⟩,
 ⟨some 165,.pure .move,[.t 0],none⟩,
 ⟨some 166,.pure .move,[.t 1],none⟩,
 ⟨some 167,.pure .move,[.t 0],none⟩,
 ⟨some 168,.pure .move,[.t 1],none⟩,
 ⟨some 169,.pure (.iaddrS 5),[.t 167,.t 168],none⟩,
 ⟨some 170,.read (.load (some 5)),[.t 169],none⟩,
 ⟨some 171,.pure .move,[.t 0],none⟩,
 ⟨some 172,.pure .move,[.t 13],none⟩,
 ⟨some 173,.pure (.iaddrS 5),[.t 171,.t 172],none⟩,
 ⟨some 174,.read (.load (some 5)),[.t 173],none⟩,
 ⟨some 175,.pure (.iaddrS 5),[.t 163,.t 164],none⟩,
 ⟨none,.eff (.store 5),[.t 175,.t 170],none⟩,
 ⟨some 176,.pure (.iaddrS 5),[.t 165,.t 166],none⟩,
 ⟨none,.eff (.store 5),[.t 176,.t 174],none⟩])
 (.seq (.ops [⟨some 177,.pure .move,[.t 13],none⟩,
 ⟨some 10,.pure .move,[.t 177],none⟩,
 ⟨some 11,.pure .move,[.c (.bool false)],none⟩])
 .ret)))))))))))) }
/-- slices.siftDownCmpFunc[datakit/numset.cut] -/
def ac734:AFn:=
 { nt:=82,res:=[],body:=
 (.seq (.ops [⟨some 12,.pure .move,[.t 1],none⟩,
 ⟨some 10,.pure .move,[.t 12],none⟩])
 (.block 0
 (.loop [0,2,3,4,10]
 (.block 1
 (.seq (.ops [⟨some 13,.pure .move,[.t 10],none⟩,
 ⟨some 14,.pure (.bin .mul),[.c (.int .i64 2),.t 13],none⟩,
 ⟨some 15,.pure (.bin .add),[.t 14,.c (.int .i64 1)],none⟩,
 ⟨some 11,.pure .move,[.t 15],none⟩])
 (.seq (.seq (.ops [⟨some 16,.pure .move,[.t 11],none⟩,
 ⟨some 17,.pure .move,[.t 2],none⟩,
 ⟨some 18,.pure (.bin .geq),[.t 16,.t 17],none⟩])
 (.cond (.t 18)
 (.exit 0)
 .skip))
 (.seq (.seq (.ops [⟨some 19,.pure .move,[.t 11],none⟩,
 ⟨some 20,.pure (.bin .add),[.t 19,.c (.int .i64 1)],none⟩,
 ⟨some 21,.pure .move,[.t 2],none⟩,
 ⟨some 22,.pure (.bin .lss),[.t 20,.t 21],none⟩,
 ⟨some 23,.pure .move,[.t 22],none⟩,
 ⟨some 24,.pure .move,[.t 4],some (23,true)⟩,
 ⟨some 25,.pure .move,[.t 0],some (23,true)⟩,
 ⟨some 26,.pure .move,[.t 3],some (23,true)⟩,
 ⟨some 27,.pure .move,[.t 11],some (23,true)⟩,
 ⟨some 28,.pure (.bin .add),[.t 26,.t 27],some (23,true)⟩,
 ⟨some 29,.pure (.iaddrS 5),[.t 25,.t 28],some (23,true)⟩,
 ⟨some 30,.read (.load (some 5)),[.t 29],some (23,true)⟩,
 ⟨some 31,.pure .move,[.t 0],some (23,true)⟩,
 ⟨some 32,.pure .move,[.t 3],some (23,true)⟩,
 ⟨some 33,.pure .move,[.t 11],some (23,true)⟩,
 ⟨some 34,.pure (.bin .add),[.t 32,.t 33],some (23,true)⟩,
 ⟨some 35,.pure (.bin .add),[.t 34,.c (.int .i64 1)],some (23,true)⟩,
 ⟨some 36,.pure (.iaddrS 5),[.t 31,.t 35],some (23,true)⟩,
 ⟨some 37,.read (.load (some 5)),[.t 36],some (23,true)⟩,
 ⟨some 38,.callv,[.t 24,.t 30,.t 37],some (23,true)⟩,
 ⟨some 39,.pure (.bin .lss),[.t 38,.c (.int .i64 0)],some (23,true)⟩,
 ⟨some 40,.pure .pick,[.t 23,.t 39,.c (.bool false)],none⟩])
 (.cond (.t 40)
 (.ops [⟨some 41,.pure .move,[.t 11],none⟩,
 ⟨some 42,.pure (.bin .add),[.t 41,.c (.int .i64 1)],none⟩,
 ⟨some 11,.pure .move,[.t 42],none⟩])
 .skip))
 (.seq (.seq (.ops [⟨some 43,.pure .move,[.t 4],none⟩,
 ⟨some 44,.pure .move,[.t 0],none⟩,
 ⟨some 45,.pure .move,[.t 3],none⟩,
 ⟨some 46,.pure .move,[.t 10],none⟩,
 ⟨some 47,.pure (.bin .add),[.t 45,.t 46],none⟩,
 ⟨some 48,.pure (.iaddrS 5),[.t 44,.t 47],none⟩,
 ⟨some 49,.read (.load (some 5)),[.t 48],none⟩,
 ⟨some 50,.pure .move,[.t 0],none⟩,
 ⟨some 51,.pure .move,[.t 3],none⟩,
 ⟨some 52,.pure .move,[.t 11],none⟩,
 ⟨some 53,.pure (.bin .add),[.t 51,.t 52],none⟩,
 ⟨some 54,.pure (.iaddrS 5),[.t 50,.t 53],none⟩,
 ⟨some 55,.read (.load (some 5)),[.t 54],none⟩,
 ⟨some 56,.callv,[.t 43,.t 49,.t 55],none⟩,
 ⟨some 57,.pure (.bin .lss),[.t 56,.c (.int .i64 0)],none⟩,
 ⟨some 58,.pure (.un .not),[.t 57],none⟩])
 (.cond (.t 58)
 .ret
 .skip))
 (.seq (.ops [⟨some 59,.pure .move,[.t 0],none⟩,
 ⟨some 60,.pure .move,[.t 3],none⟩,
 ⟨some 61,.pure .move,[.t 10],none⟩,
 ⟨some 62,.pure (.bin .add),[.t 60,.t 61],none⟩,
 ⟨some 63,.pure .move,[.t 0],none⟩,
 ⟨some 64,.pure .move,[.t 3],none⟩,
 ⟨some 65,.pure .move,[.t 11],none⟩,
 ⟨some 66,.pure (.bin .add),[.t 64,.t 65],none⟩,
 ⟨some 67,.pure .move,[.t 0],none⟩,
 ⟨some 68,.pure .move,[.t 3],none⟩,
 ⟨some 69,.pure .move,[.t 11],none⟩,
 ⟨some 70,.pure (.bin .add),[.t 68,.t 69],none⟩,
 ⟨some 71,.pure (.iaddrS 5),[.t 67,.t 70],none⟩,
 ⟨some 72,.read (.load (some 5)),[.t 71],none⟩,
 ⟨some 73,.pure .move,[.t 0],none⟩,
 ⟨some 74,.pure .move,[.t 3],none⟩,
 ⟨some 75,.pure .move,[.t 10],none⟩,
 ⟨some 76,.pure (.bin .add),[.t 74,.t 75],none⟩,
 ⟨some 77,.pure (.iaddrS 5),[.t 73,.t 76],none⟩,
 ⟨some 78,.read (.load (some 5)),[.t 77],none⟩,
 ⟨some 79,.pure (.iaddrS 5),[.t 59,.t 62],none⟩,
 ⟨none,.eff (.store 5),[.t 79,.t 72],none⟩,
 ⟨some 80,.pure (.iaddrS 5),[.t 63,.t 66],none⟩,
 ⟨none,.eff (.store 5),[.t 80,.t 78],none⟩])
 (.ops [⟨some 81,.pure .move,[.t 11],none⟩,
 ⟨some 10,.pure .move,[.t 81],none⟩])))))))))) }
/-- slices.medianAdjacentCmpFunc[datakit/numset.cut] -/
def ac735:AFn:=
 { nt:=18,res:=[.tmp 8],body:=
 (.seq (.ops [⟨some 8,.pure .move,[.c (.int .i64 0)],none⟩])
 (.seq (.ops [⟨some 9,.pure .move,[.t 0],none⟩,
 ⟨some 10,.pure .move,[.t 1],none⟩,
 ⟨some 11,.pure (.bin .sub),[.t 10,.c (.int .i64 1)],none⟩,
 ⟨some 12,.pure .move,[.t 1],none⟩,
 ⟨some 13,.pure .move,[.t 1],none⟩,
 ⟨some 14,.pure (.bin .add),[.t 13,.c (.int .i64 1)],none⟩,
 ⟨some 15,.pure .move,[.t 2],none⟩,
 ⟨some 16,.pure .move,[.t 3],none⟩,
 ⟨some 17,.call 736,[.t 9,.t 11,.t 12,.t 14,.t 15,.t 16],none⟩,
 ⟨some 8,.pure .move,[.t 17],none⟩])
 .ret)) }
/-- slices.medianCmpFunc[datakit/numset.cut] -/
def ac736:AFn:=
 { nt:=41,res:=[.tmp 12],body:=
 (.seq (.ops [⟨some 12,.pure .move,[.c (.int .i64 0)],none⟩])
 (.seq (.ops [⟨some 14,.pure .move,[.t 0],none⟩,
 ⟨some 15,.pure .move,[.t 1],none⟩,
 ⟨some 16,.pure .move,[.t 2],none⟩,
 ⟨some 17,.pure .move,[.t 4],none⟩,
 ⟨some 18,.pure .move,[.t 5],none⟩,
 ⟨some 19,.call 737,[.t 14,.t 15,.t 16,.t 17,.t 18],none⟩,
 ⟨some 13,.pure .move,[.t 19],none⟩,
 ⟨some 20,.pure (.ext 0),[.t 13],none⟩,
 ⟨some 21,.pure (.ext 1),[.t 13],none⟩,
 ⟨some 1,.pure .move,[.t 20],none⟩,
 ⟨some 2,.pure .move,[.t 21],none⟩])
 (.seq (.ops [⟨some 23,.pure .move,[.t 0],none⟩,
 ⟨some 24,.pure .move,[.t 2],none⟩,
 ⟨some 25,.pure .move,[.t 3],none⟩,
 ⟨some 26,.pure .move,[.t 4],none⟩,
 ⟨some 27,.pure .move,[.t 5],none⟩,
 ⟨some 28,.call 737,[.t 23,.t 24,.t 25,.t 26,.t 27],none⟩,
 ⟨some 22,.pure .move,[.t 28],none⟩,
 ⟨some 29,.pure (.ext 0),[.t 22],none⟩,
 ⟨some 30,.pure (.ext 1),[.t 22],none⟩,
 ⟨some 2,.pure .move,[.t 29],none⟩,
 ⟨some 3,.pure .move,[.t 30],none⟩])
 (.seq (.ops [⟨some 32,.pure .move,[.t 0],none⟩,
 ⟨some 33,.pure .move,[.t 1],none⟩,
 ⟨some 34,.pure .move,[.t 2],none⟩,
 ⟨some 35,.pure .move,[.t 4],none⟩,
 ⟨some 36,.pure .move,[.t 5],none⟩,
 ⟨some 37,.call 737,[.t 32,.t 33,.t 34,.t 35,.t 36],none⟩,
 ⟨some 31,.pure .move,[.t 37],none⟩,
 ⟨some 38,.pure (.ext 0),[.t 31],none⟩,
 ⟨some 39,.pure (.ext 1),[.t 31],none⟩,
 ⟨some 1,.pure .move,[.t 38],none⟩,
 ⟨some 2,.pure .move,[.t 39],none⟩])
 (.seq (.ops [⟨some 40,.pure .move,[.t 2],none⟩,
 ⟨some 12,.pure .move,[.t 40],none⟩])
 .ret))))) }
/-- slices.order2CmpFunc[datakit/numset.cut] -/
def ac737:AFn:=
 { nt:=32,res:=[.tmp 10,.tmp 11],body:=
 (.seq (.ops [⟨some 10,.pure .move,[.c (.int .i64 0)],none⟩,
 ⟨some 11,.pure .move,[.c (.int .i64 0)],none⟩])
 (.seq (.seq (.ops [⟨some 12,.pure .move,[.t 4],none⟩,
 ⟨some 13,.pure .move,[.t 0],none⟩,
 ⟨some 14,.pure .move,[.t 2],none⟩,
 ⟨some 15,.pure (.iaddrS 5),[.t 13,.t 14],none⟩,
 ⟨some 16,.read (.load (some 5)),[.t 15],none⟩,
 ⟨some 17,.pure .move,[.t 0],none⟩,
 ⟨some 18,.pure .move,[.t 1],none⟩,
 ⟨some 19,.pure (.iaddrS 5),[.t 17,.t 18],none⟩,
 ⟨some 20,.read (.load (some 5)),[.t 19],none⟩,
 ⟨some 21,.callv,[.t 12,.t 16,.t 20],none⟩,
 ⟨some 22,.pure (.bin .lss),[.t 21,.c (.int .i64 0)],none⟩])
 (.cond (.t 22)
 (.seq (.ops [⟨some 23,.pure .move,[.t 3],none⟩,
 ⟨some 24,.pure .chk,[.t 23],none⟩,
 ⟨some 25,.read (.load none),[.t 24],none⟩,
 ⟨some 26,.pure (.bin .add),[.t 25,.c (.int .i64 1)],none⟩,
 ⟨some 27,.pure .chk,[.t 23],none⟩,
 ⟨none,.eff (.store 1),[.t 27,.t 26],none⟩])
 (.seq (.ops [⟨some 28,.pure .move,[.t 2],none⟩,
 ⟨some 29,.pure .move,[.t 1],none⟩,
 ⟨some 10,.pure .move,[.t 28],none⟩,
 ⟨some 11,.pure .move,[.t 29],none⟩])
 .ret))
 .skip))
 (.seq (.ops [⟨some 30,.pure .move,[.t 1],none⟩,
 ⟨some 31,.pure .move,[.t 2],none⟩,
 ⟨some 10,.pure .move,[.t 30],none⟩,
 ⟨some 11,.pure .move,[.t 31],none⟩])
 .ret))) }
def codeW1:Nat→Option AFn
 | 49=>some ac49
 | 72=>some ac72
 | 73=>some ac73
 | 86=>some ac86
 | 87=>some ac87
 | 90=>some ac90
 | 549=>some ac549
 | 579=>some ac579
 | 580=>some ac580
 | 581=>some ac581
 | 610=>some ac610
 | 611=>some ac611
 | 612=>some ac612
 | 671=>some ac671
 | 679=>some ac679
 | 689=>some ac689
 | 713=>some ac713
 | 719=>some ac719
 | 723=>some ac723
 | 724=>some ac724
 | 725=>some ac725
 | 726=>some ac726
 | 727=>some ac727
 | 728=>some ac728
 | 729=>some ac729
 | 730=>some ac730
 | 734=>some ac734
 | 735=>some ac735
 | 736=>some ac736
 | 737=>some ac737
 | _=>none
def codeW (f:Nat):Option AFn:=match codeN f with
 | some a=>some a
 | none=>codeW1 f
def clRW:Nat→Option (Nat × Nat)
 | _=>none
def clPW:Nat→Option (Nat × Nat)
 | _=>none
def ppW:Nat→Option (List AV→Option AV)
 | 291=>some repF
 | 272=>some cmpF
 | _=>none
def CW:Ctx:=funCtx (mkCtx codeW clRW clPW) ppW
theorem fitsW:Fits CW codeW clRW clPW:=fits_fun (fits_mk _ _ _)
end Ago
