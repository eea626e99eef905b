/- The abstract code of the functions,printed by program. -/
import Derived.Test.YtnifalngeimpnaaGreatDoorMachE
set_option linter.unusedSimpArgs false
set_option linter.unusedVariables false
set_option maxRecDepth 100000
namespace Ago
/-! ### Short names for the operations that the tables hold most -/
abbrev xM (d i:Nat):AOper:=⟨some d,.pure .move,[.t i],none⟩
abbrev xC (d:Nat) (v:AV):AOper:=⟨some d,.pure .move,[.c v],none⟩
abbrev xF (k d i:Nat):AOper:=⟨some d,.pure (.faddr k),[.t i],none⟩
abbrev xR (d i:Nat):AOper:=⟨some d,.read (.load none),[.t i],none⟩
abbrev xL (k d i:Nat):AOper:=⟨some d,.read (.load (some k)),[.t i],none⟩
abbrev xP (d:Nat) (p:POp) (a:List Opd):AOper:=⟨some d,.pure p,a,none⟩
abbrev xI (k d i j:Nat):AOper:=⟨some d,.pure (.iaddrS k),[.t i,.t j],none⟩
abbrev xK (d f:Nat) (a:List Opd):AOper:=⟨some d,.pcall f,a,none⟩
abbrev xS (k i j:Nat):AOper:=⟨none,.eff (.store k),[.t i,.t j],none⟩
abbrev xN (d k:Nat) (v:AV):AOper:=⟨some d,.new (.new k [v]),[],none⟩
abbrev xB (k d i:Nat):AOper:=⟨some d,.new (.box k),[.t i],none⟩
abbrev yM (d i g:Nat) (b:Bool):AOper:=⟨some d,.pure .move,[.t i],some (g,b)⟩
abbrev yF (k d i g:Nat) (b:Bool):AOper:=⟨some d,.pure (.faddr k),[.t i],some (g,b)⟩
abbrev yR (d i g:Nat) (b:Bool):AOper:=⟨some d,.read (.load none),[.t i],some (g,b)⟩
abbrev yL (k d i g:Nat) (b:Bool):AOper:=⟨some d,.read (.load (some k)),[.t i],some (g,b)⟩
abbrev yP (d:Nat) (p:POp) (a:List Opd) (g:Nat) (b:Bool):AOper:=⟨some d,.pure p,a,some (g,b)⟩
abbrev yK (d f:Nat) (a:List Opd) (g:Nat) (b:Bool):AOper:=⟨some d,.pcall f,a,some (g,b)⟩
abbrev z0:AV:=.agg [.bool false,.bool false,.str [],.int .i64 0,.bool false,.bool false,.bool false,.str [],.int .i64 0,.bool false,.int .i64 0]
abbrev z1:AV:=.agg [.bool false,.str [],.int .i64 0]
abbrev z2:AV:=.agg [.snil 11]
/-- datakit/decimal.FromInt -/
def ac129:AFn:=
 { nt:=34,res:=[.cell 2 (some 3)],body:=
 (.seq (.ops [xN 2 3 z1])
 (.seq (.ops [xM 8 0,
 xP 9 (.bin .lss) [.t 8,.c (.int .i64 0)],
 xM 3 9])
 (.seq (.ops [xC 4 (.str [])])
 (.seq (.seq (.ops [xM 10 3])
 (.cond (.t 10)
 (.seq (.ops [xM 11 0,
 ⟨some 12,.pure (.bin .rem),[.t 11,.c (.int .i64 10)],none⟩,
 xP 13 (.un .neg) [.t 12],
 xM 5 13])
 (.seq (.ops [xM 14 0,
 ⟨some 15,.pure (.bin .quo),[.t 14,.c (.int .i64 10)],none⟩,
 xP 16 (.un .neg) [.t 15],
 xK 17 136 [.t 16],
 xM 18 5,
 xP 19 (.bin .add) [.c (.int .i64 48),.t 18],
 xP 20 (.conv .i32) [.t 19],
 xP 21 .runeStr [.t 20],
 xP 22 (.bin .add) [.t 17,.t 21],
 xM 4 22])
 (.ops [xM 23 4,
 ⟨some 24,.pcall 137,[.t 23,.c (.str [48])],none⟩,
 xM 4 24])))
 (.ops [xM 25 0,
 xK 26 136 [.t 25],
 xM 4 26])))
 (.seq (.ops [xM 28 3,
 xM 29 4,
 xK 30 138 [.t 28,.t 29,.c (.int .i64 0)],
 xM 27 30,
 xP 31 (.ext 0) [.t 27],
 xP 32 (.ext 1) [.t 27],
 xN 6 3 z1,
 xS 3 6 31,
 xM 7 32])
 (.seq (.ops [xL 3 33 6,
 xS 3 2 33])
 .ret)))))) }
/-- datakit/digits.FromInt -/
def ac136:AFn:=
 { nt:=19,res:=[.tmp 2],body:=
 (.seq (.ops [xC 2 (.str [])])
 (.seq (.ops [xC 3 (.snil 1)])
 (.seq (.block 0
 (.loop [0,3]
 (.seq (.seq (.ops [xM 4 0,
 xP 5 (.bin .gtr) [.t 4,.c (.int .i64 0)]])
 (.cond (.t 5)
 .skip
 (.exit 0)))
 (.seq (.block 1
 (.ops [xM 8 3,
 xM 9 0,
 ⟨some 10,.pure (.bin .rem),[.t 9,.c (.int .i64 10)],none⟩,
 xP 11 (.bin .add) [.c (.int .i64 48),.t 10],
 xP 12 (.conv .u8) [.t 11],
 ⟨some 13,.new (.buildSlice 1 [.int .u8 0] [0]),[.t 12],none⟩,
 ⟨some 14,.eff (.append 1 1),[.t 8,.t 13],none⟩,
 xM 3 14]))
 (.ops [xM 6 0,
 ⟨some 7,.pure (.bin .quo),[.t 6,.c (.int .i64 10)],none⟩,
 xM 0 7])))))
 (.seq (.ops [xM 15 3,
 ⟨some 16,.call 143,[.t 15],none⟩])
 (.seq (.ops [xM 17 3,
 ⟨some 18,.read .bytesStr,[.t 17],none⟩,
 xM 2 18])
 .ret))))) }
/-- datakit/decimal.norm -/
def ac138:AFn:=
 { nt:=46,res:=[.cell 6 (some 3),.tmp 7],body:=
 (.seq (.ops [xN 6 3 z1,
 xC 7 (.int .i64 0)])
 (.seq (.seq (.ops [xM 9 1,
 ⟨some 10,.pure (.bin .eql),[.t 9,.c (.str [])],none⟩])
 (.cond (.t 10)
 (.seq (.ops [⟨some 11,.pure (.build [.bool false,.str [],.int .i64 0] []),[],none⟩,
 xS 3 6 11,
 xC 7 (.int .i64 0)])
 .ret)
 .skip))
 (.seq (.ops [xM 12 1,
 xP 13 .lenS [.t 12],
 xM 14 1,
 ⟨some 15,.pcall 148,[.t 14,.c (.str [48])],none⟩,
 xP 16 .lenS [.t 15],
 xP 17 (.bin .sub) [.t 13,.t 16],
 xM 8 17])
 (.seq (.ops [xM 18 1,
 xM 19 1,
 xP 20 .lenS [.t 19],
 xM 21 8,
 xP 22 (.bin .sub) [.t 20,.t 21],
 xP 23 (.sliceS false true) [.t 18,.t 22],
 xM 1 23])
 (.seq (.seq (.ops [xM 24 2,
 xM 25 8,
 xP 26 (.bin .sub) [.c (.int .i64 400),.t 25],
 xP 27 (.bin .gtr) [.t 24,.t 26],
 xM 28 27,
 yM 29 2 28 false,
 yM 30 8 28 false,
 yP 31 (.bin .sub) [.c (.int .i64 (-400)),.t 30] 28 false,
 yP 32 (.bin .lss) [.t 29,.t 31] 28 false,
 xP 33 .pick [.t 28,.c (.bool true),.t 32],
 xM 34 33,
 yM 35 1 34 false,
 yP 36 .lenS [.t 35] 34 false,
 yP 37 (.bin .gtr) [.t 36,.c (.int .i64 120)] 34 false,
 xP 38 .pick [.t 34,.c (.bool true),.t 37]])
 (.cond (.t 38)
 (.seq (.ops [⟨some 39,.pure (.build [.bool false,.str [],.int .i64 0] []),[],none⟩,
 xS 3 6 39,
 xC 7 (.int .i64 2)])
 .ret)
 .skip))
 (.seq (.ops [xM 40 0,
 xM 41 1,
 xM 42 2,
 xM 43 8,
 xP 44 (.bin .add) [.t 42,.t 43],
 ⟨some 45,.pure (.build [.bool false,.str [],.int .i64 0] [(0,1),(1,1),(2,1)]),[.t 40,.t 41,.t 44],none⟩,
 xS 3 6 45,
 xC 7 (.int .i64 0)])
 .ret)))))) }
/-- datakit/decimal.Valid -/
def ac140:AFn:=
 { nt:=34,res:=[.tmp 2],body:=
 (.seq (.ops [xB 3 1 0,
 xC 2 (.bool false)])
 (.seq (.seq (.ops [xF 1 3 1,
 xR 4 3,
 ⟨some 5,.pure (.bin .eql),[.t 4,.c (.str [])],none⟩])
 (.cond (.t 5)
 (.seq (.ops [xL 3 6 1,
 ⟨some 7,.pure (.build [.bool false,.str [],.int .i64 0] []),[],none⟩,
 ⟨some 8,.pure (.eqF [.bool,.str,.int] false),[.t 6,.t 7],none⟩,
 xM 2 8])
 .ret)
 .skip))
 (.seq (.ops [xF 1 9 1,
 xR 10 9,
 xK 11 149 [.t 10],
 xM 12 11,
 yF 1 13 1 12 true,
 yR 14 13 12 true,
 yP 15 .lenS [.t 14] 12 true,
 yP 16 (.bin .leq) [.t 15,.c (.int .i64 120)] 12 true,
 xP 17 .pick [.t 12,.t 16,.c (.bool false)],
 xM 18 17,
 yF 1 19 1 18 true,
 yR 20 19 18 true,
 yK 21 150 [.t 20] 18 true,
 yP 22 (.bin .eql) [.t 21,.c (.int .i64 0)] 18 true,
 xP 23 .pick [.t 18,.t 22,.c (.bool false)],
 xM 24 23,
 yF 2 25 1 24 true,
 yR 26 25 24 true,
 yP 27 (.bin .geq) [.t 26,.c (.int .i64 (-400))] 24 true,
 xP 28 .pick [.t 24,.t 27,.c (.bool false)],
 xM 29 28,
 yF 2 30 1 29 true,
 yR 31 30 29 true,
 yP 32 (.bin .leq) [.t 31,.c (.int .i64 400)] 29 true,
 xP 33 .pick [.t 29,.t 32,.c (.bool false)],
 xM 2 33])
 .ret))) }
/-- datakit/digits.reverse -/
def ac143:AFn:=
 { nt:=28,res:=[],body:=
 (.seq (.ops [xM 4 0,
 xP 5 .lenL [.t 4],
 xP 6 (.bin .sub) [.t 5,.c (.int .i64 1)],
 xC 2 (.int .i64 0),
 xM 3 6])
 (.block 0
 (.loop [0,2,3]
 (.seq (.seq (.ops [xM 7 2,
 xM 8 3,
 xP 9 (.bin .lss) [.t 7,.t 8]])
 (.cond (.t 9)
 .skip
 (.exit 0)))
 (.seq (.block 1
 (.ops [xM 14 0,
 xM 15 2,
 xM 16 0,
 xM 17 3,
 xM 18 0,
 xM 19 3,
 xI 1 20 18 19,
 xR 21 20,
 xM 22 0,
 xM 23 2,
 xI 1 24 22 23,
 xR 25 24,
 xI 1 26 14 15,
 xS 1 26 21,
 xI 1 27 16 17,
 xS 1 27 25]))
 (.ops [xM 10 2,
 xP 11 (.bin .add) [.t 10,.c (.int .i64 1)],
 xM 12 3,
 xP 13 (.bin .sub) [.t 12,.c (.int .i64 1)],
 xM 2 11,
 xM 3 13])))))) }
/-- strings.TrimRight -/
def ac148:AFn:=
 { nt:=37,res:=[.tmp 4],body:=
 (.seq (.ops [xC 4 (.str [])])
 (.seq (.seq (.ops [xM 7 0,
 ⟨some 8,.pure (.bin .eql),[.t 7,.c (.str [])],none⟩,
 xM 9 8,
 yM 10 1 9 false,
 ⟨some 11,.pure (.bin .eql),[.t 10,.c (.str [])],some (9,false)⟩,
 xP 12 .pick [.t 9,.c (.bool true),.t 11]])
 (.cond (.t 12)
 (.seq (.ops [xM 13 0,
 xM 4 13])
 .ret)
 .skip))
 (.seq (.seq (.ops [xM 14 1,
 xP 15 .lenS [.t 14],
 xP 16 (.bin .eql) [.t 15,.c (.int .i64 1)],
 xM 17 16,
 yM 18 1 17 true,
 yP 19 .idxStr [.t 18,.c (.int .i64 0)] 17 true,
 yP 20 (.bin .lss) [.t 19,.c (.int .u8 128)] 17 true,
 xP 21 .pick [.t 17,.t 20,.c (.bool false)]])
 (.cond (.t 21)
 (.seq (.ops [xM 22 0,
 xM 23 1,
 xP 24 .idxStr [.t 23,.c (.int .i64 0)],
 xK 25 155 [.t 22,.t 24],
 xM 4 25])
 .ret)
 .skip))
 (.seq (.seq (.ops [xM 27 1,
 xK 28 145 [.t 27],
 xM 26 28,
 xP 29 (.ext 0) [.t 26],
 xP 30 (.ext 1) [.t 26],
 ⟨some 5,.new (.new 1 [.bool false,.bool false,.bool false,.bool false,.bool false,.bool false,.bool false,.bool false,.bool false,.bool false,.bool false,.bool false,.bool false,.bool false,.bool false,.bool false,.bool false,.bool false,.bool false,.bool false,.bool false,.bool false,.bool false,.bool false,.bool false,.bool false,.bool false,.bool false,.bool false,.bool false,.bool false,.bool false,.bool false,.bool false,.bool false,.bool false,.bool false,.bool false,.bool false,.bool false,.bool false,.bool false,.bool false,.bool false,.bool false,.bool false,.bool false,.bool false,.bool false,.bool false,.bool false,.bool false,.bool false,.bool false,.bool false,.bool false,.bool false,.bool false,.bool false,.bool false,.bool false,.bool false,.bool false,.bool false,.bool false,.bool false,.bool false,.bool false,.bool false,.bool false,.bool false,.bool false,.bool false,.bool false,.bool false,.bool false,.bool false,.bool false,.bool false,.bool false,.bool false,.bool false,.bool false,.bool false,.bool false,.bool false,.bool false,.bool false,.bool false,.bool false,.bool false,.bool false,.bool false,.bool false,.bool false,.bool false,.bool false,.bool false,.bool false,.bool false,.bool false,.bool false,.bool false,.bool false,.bool false,.bool false,.bool false,.bool false,.bool false,.bool false,.bool false,.bool false,.bool false,.bool false,.bool false,.bool false,.bool false,.bool false,.bool false,.bool false,.bool false,.bool false,.bool false,.bool false,.bool false,.bool false,.bool false,.bool false,.bool false,.bool false,.bool false,.bool false,.bool false,.bool false,.bool false,.bool false,.bool false,.bool false,.bool false,.bool false,.bool false,.bool false,.bool false,.bool false,.bool false,.bool false,.bool false,.bool false,.bool false,.bool false,.bool false,.bool false,.bool false,.bool false,.bool false,.bool false,.bool false,.bool false,.bool false,.bool false,.bool false,.bool false,.bool false,.bool false,.bool false,.bool false,.bool false,.bool false,.bool false,.bool false,.bool false,.bool false,.bool false,.bool false,.bool false,.bool false,.bool false,.bool false,.bool false,.bool false,.bool false,.bool false,.bool false,.bool false,.bool false,.bool false,.bool false,.bool false,.bool false,.bool false,.bool false,.bool false,.bool false,.bool false,.bool false,.bool false,.bool false,.bool false,.bool false,.bool false,.bool false,.bool false,.bool false,.bool false,.bool false,.bool false,.bool false,.bool false,.bool false,.bool false,.bool false,.bool false,.bool false,.bool false,.bool false,.bool false,.bool false,.bool false,.bool false,.bool false,.bool false,.bool false,.bool false,.bool false,.bool false,.bool false,.bool false,.bool false,.bool false,.bool false,.bool false,.bool false,.bool false,.bool false,.bool false,.bool false,.bool false,.bool false,.bool false,.bool false,.bool false,.bool false,.bool false,.bool false,.bool false,.bool false,.bool false,.bool false,.bool false,.bool false,.bool false,.bool false,.bool false,.bool false,.bool false,.bool false]),[],none⟩,
 xS 256 5 29,
 xM 6 30])
 (.seq (.ops [xM 31 6])
 (.cond (.t 31)
 (.seq (.ops [xM 32 0,
 ⟨some 33,.bad,[],none⟩,
 xM 4 33])
 .ret)
 .skip)))
 (.seq (.ops [xM 34 0,
 xM 35 1,
 ⟨some 36,.bad,[],none⟩,
 xM 4 36])
 .ret))))) }
/-- datakit/digits.Valid -/
def ac149:AFn:=
 { nt:=19,res:=[.tmp 2],body:=
 (.seq (.ops [xC 2 (.bool false)])
 (.seq (.ops [xM 3 0,
 xP 4 .lenS [.t 3],
 xP 5 (.bin .leq) [.t 4,.c (.int .i64 600)],
 xM 6 5,
 yM 7 0 6 true,
 yK 8 158 [.t 7] 6 true,
 xP 9 .pick [.t 6,.t 8,.c (.bool false)],
 xM 10 9,
 yM 11 0 10 true,
 ⟨some 12,.pure (.bin .eql),[.t 11,.c (.str [])],some (10,true)⟩,
 yM 13 12 10 true,
 yM 14 0 13 false,
 yP 15 .idxStr [.t 14,.c (.int .i64 0)] 13 false,
 yP 16 (.bin .neq) [.t 15,.c (.int .u8 48)] 13 false,
 yP 17 .pick [.t 13,.c (.bool true),.t 16] 10 true,
 xP 18 .pick [.t 10,.t 17,.c (.bool false)],
 xM 2 18])
 .ret)) }
/-- datakit/digits.Zeros -/
def ac150:AFn:=
 { nt:=9,res:=[.tmp 2],body:=
 (.seq (.ops [xC 2 (.int .i64 0)])
 (.seq (.ops [xM 3 0,
 xP 4 .lenS [.t 3],
 xM 5 0,
 ⟨some 6,.pcall 148,[.t 5,.c (.str [48])],none⟩,
 xP 7 .lenS [.t 6],
 xP 8 (.bin .sub) [.t 4,.t 7],
 xM 2 8])
 .ret)) }
/-- strings.trimRightByte -/
def ac155:AFn:=
 { nt:=23,res:=[.tmp 4],body:=
 (.seq (.ops [xC 4 (.str [])])
 (.seq (.block 0
 (.loop [0,1]
 (.seq (.seq (.ops [xM 5 0,
 xP 6 .lenS [.t 5],
 xP 7 (.bin .gtr) [.t 6,.c (.int .i64 0)],
 xM 8 7,
 yM 9 0 8 true,
 yM 10 0 8 true,
 yP 11 .lenS [.t 10] 8 true,
 yP 12 (.bin .sub) [.t 11,.c (.int .i64 1)] 8 true,
 yP 13 .idxStr [.t 9,.t 12] 8 true,
 yM 14 1 8 true,
 yP 15 (.bin .eql) [.t 13,.t 14] 8 true,
 xP 16 .pick [.t 8,.t 15,.c (.bool false)]])
 (.cond (.t 16)
 .skip
 (.exit 0)))
 (.block 1
 (.ops [xM 17 0,
 xM 18 0,
 xP 19 .lenS [.t 18],
 xP 20 (.bin .sub) [.t 19,.c (.int .i64 1)],
 xP 21 (.sliceS false true) [.t 17,.t 20],
 xM 0 21])))))
 (.seq (.ops [xM 22 0,
 xM 4 22])
 .ret))) }
/-- datakit/digits.all -/
def ac158:AFn:=
 { nt:=20,res:=[.tmp 2],body:=
 (.seq (.ops [xC 2 (.bool false)])
 (.seq (.seq (.ops [xM 4 0,
 xP 5 .lenS [.t 4],
 xC 6 (.int .i64 0)])
 (.block 0
 (.loop [0,5,6]
 (.seq (.ops [xP 7 (.bin .lss) [.t 6,.t 5]])
 (.seq (.cond (.t 7)
 .skip
 (.exit 0))
 (.seq (.block 1
 (.seq (.ops [xM 8 6,
 xM 3 8])
 (.seq (.ops [xM 9 0,
 xM 10 3,
 xP 11 .idxStr [.t 9,.t 10],
 xP 12 (.bin .lss) [.t 11,.c (.int .u8 48)],
 xM 13 12,
 yM 14 0 13 false,
 yM 15 3 13 false,
 yP 16 .idxStr [.t 14,.t 15] 13 false,
 yP 17 (.bin .gtr) [.t 16,.c (.int .u8 57)] 13 false,
 xP 18 .pick [.t 13,.c (.bool true),.t 17]])
 (.cond (.t 18)
 (.seq (.ops [xC 2 (.bool false)])
 .ret)
 .skip))))
 (.ops [xP 19 (.bin .add) [.t 6,.c (.int .i64 1)],
 xM 6 19])))))))
 (.seq (.ops [xC 2 (.bool true)])
 .ret))) }
def code:Nat→Option AFn
 | 129=>some ac129
 | 136=>some ac136
 | 138=>some ac138
 | 140=>some ac140
 | 143=>some ac143
 | 148=>some ac148
 | 149=>some ac149
 | 150=>some ac150
 | 155=>some ac155
 | 158=>some ac158
 | _=>none
def clR:Nat→Option (Nat × Nat)
 | _=>none
def clP:Nat→Option (Nat × Nat)
 | _=>none
def C0:Ctx:=mkCtx code clR clP
end Ago
