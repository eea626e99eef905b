/- The code of functions,taken from the program. -/
import Derived.Test.YtjeahlpkonkjiaaGreatDoorOCodeP
set_option linter.unusedSimpArgs false
set_option linter.unusedVariables false
set_option maxRecDepth 100000
set_option maxHeartbeats 8000000
namespace Ago
open Go.Proofs
@[go_sem] noncomputable def qrW:ACode:=mkC [] (sub [1,1,1,0,0,0,0] (q0g Tryz.f82))
@[go_sem] noncomputable def qtY:ACode:=mkC [] (sub [1,1,1,0,0,0,1,0,0,1,0] (q0g Tryz.f82))
@[go_sem] noncomputable def qtk:ACode:=mkC [] (sub [1,1,1,0,0,0,1,0,0,1,1,0] (q0g Tryz.f82))
@[go_sem] noncomputable def qrK:ACode:=mkC [] (sub [1,1,1,0,0,0,1,0,0,1,1,1,0] (q0g Tryz.f82))
@[go_sem] noncomputable def qt9:ACode:=mkC [] (sub [1,1,1,0,0,0,1,0,0,1,1,1,1,1] (q0g Tryz.f82))
noncomputable def qoA:AFn:={ nt:=129,res:=[.tmp 4],body:=(.seq (.ops [Zc 4 (.snil 17)]) (.seq (.ops [Zc 5 (.snil 17)]) (.seq (.ops [Zc 6 (.int .i64 0),Zc 7 (.int .i64 0)]) (.seq (.block 0 (.loop [0,1,5,6,7] (.seq qrW (.block 1 (.block 2 (.seq (.ops [Za 55 7,Za 56 1,Zp 57 56,Zl 58 55 57 .eql,Za 59 58,Zb 60 6 59 false,Zb 61 0 59 false,Zq 62 61 59 false,Zm 63 60 62 .lss 59 false,Zb 64 63 59 false,Zb 65 0 64 true,Zb 66 6 64 true,Zk 67 65 66 17 64 true,Zi 68 67 0 64 true,Ze 69 68 64 true,Zb 70 1 64 true,Zb 71 7 64 true,Zk 72 70 71 17 64 true,Zi 73 72 0 64 true,Ze 74 73 64 true,Zm 75 69 74 .lss 64 true,
 yP 76 .pick [.t 64,.t 75,.c (.bool false)] 59 false,Zw 77 59 76 true,Za 54 77]) (.cond (.t 54) qtY (.seq qtk (.cond (.t 94) qrK (.seq (.draw 1 [[Za 18 5,Za 19 0,Za 20 6,Zj 21 19 20 17,Zh 22 21 0,Zd 23 22,Za 24 0,Za 25 6,Zj 26 24 25 17,Zh 27 26 1,Zd 28 27,Za 29 28,Zb 30 1 29 true,Zb 31 7 29 true,Zk 32 30 31 17 29 true,Zi 33 32 1 29 true,Ze 34 33 29 true,Zv 35 29 34 false,Za 36 0,Za 37 6,Zj 38 36 37 17,Zh 39 38 2,Zf 40 39 15,Za 41 1,Za 42 7,Zj 43 41 42 17,Zh 44 43 2,Zf 45 44 15,Zz 46 978 40 45,
 ⟨some 47,.pure (.build [.str [],.bool false,.int .i64 0,.int .i64 0,.int .i64 0,.int .i64 0,.str [],.snil 11,.int .i64 0,.int .i64 0,.int .i64 0,.int .i64 0,.int .i64 0,.snil 6,.snil 13,.snil 17,.snil 15] [(0,1),(1,1),(2,15)]),[.t 23,.t 35,.t 46],none⟩,
 ⟨some 48,.newAt 0 (.buildSlice 17 [.agg [.str [],.bool false,.int .i64 0,.int .i64 0,.int .i64 0,.int .i64 0,.str [],.snil 11,.int .i64 0,.int .i64 0,.int .i64 0,.int .i64 0,.int .i64 0,.snil 6,.snil 13,.snil 17,.snil 15]] [0]),[.t 47],none⟩,
 ⟨some 49,.eff (.append 17 232),[.t 18,.t 48],none⟩,Za 5 49]]) qt9)))))))))) (.seq (.ops [Za 128 5,Za 4 128]) .ret))))) }
@[go_sem] noncomputable def qpb:ACode:=mkC [] (sub [1,0] (q0g Tryz.f120))
@[go_sem] noncomputable def qpQ:ACode:=mkC [] (sub [1,1,0] (q0g Tryz.f120))
@[go_sem] noncomputable def qqU:ACode:=mkC [] (sub [1,1,1,0] (q0g Tryz.f120))
@[go_sem] noncomputable def qqi:ACode:=mkC [] (sub [1,1,1,1,0] (q0g Tryz.f120))
@[go_sem] noncomputable def qr4:ACode:=mkC [] (sub [1,1,1,1,1,0] (q0g Tryz.f120))
@[go_sem] noncomputable def qpJ:ACode:=mkC [] (sub [1,1,1,1,1,1,0] (q0g Tryz.f120))
@[go_sem] noncomputable def qqu:ACode:=mkC [] (sub [1,1,1,1,1,1,1,0] (q0g Tryz.f120))
noncomputable def qpX:AFn:={ nt:=69,res:=[.tmp 4],body:=(.seq (.ops [Zx 2 0 3,Zx 3 1 3,Zc 4 (.int .i64 0)]) (.seq qpb (.seq qpQ (.seq qqU (.seq qqi (.seq qr4 (.seq qpJ (.seq qqu .ret)))))))) }
noncomputable def qnd:AFn:=mkG [] Tryz.f215
noncomputable def qsC:AFn:=mkG [] Tryz.f254
noncomputable def qik:AFn:=mkG [] Tryz.f153
noncomputable def qbM:AFn:=mkG [[0,1,4,6,7]] Tryz.f124
noncomputable def qsj:AFn:=mkG [[3,7,8]] Tryz.f101
noncomputable def qnM:AFn:=mkG [[1,3]] Tryz.f38
noncomputable def qsR:AFn:=mkG [[0,1,6,7,14,15],[0,1,6,7,8,9,14,15]] Tryz.f266
noncomputable def qnt:AFn:=mkG [] Tryz.f53
noncomputable def qm6:AFn:=mkG [[3,10,11,12]] Tryz.f29
noncomputable def qlE:AFn:=mkG [[1,4,9,10,11]] Tryz.f123
noncomputable def qxG:AFn:=mkG [[1,3,4]] Tryz.f225
noncomputable def qki:AFn:=mkG [[1,2,10,11]] Tryz.f185
noncomputable def qsr:AFn:=mkG [[1,5,6]] Tryz.f61
noncomputable def qnR:AFn:=mkG [[0,5,6]] Tryz.f173
noncomputable def qnc:AFn:=mkG [] Tryz.f42
noncomputable def qdy:AFn:=mkG [] Tryz.f55
noncomputable def quj:AFn:=mkG [] Tryz.f157
noncomputable def qb0:AFn:=mkG [] Tryz.f159
noncomputable def qmr:AFn:=mkG [] Tryz.f184
noncomputable def qtA:AFn:=mkG [] Tryz.f165
noncomputable def qlR:AFn:=mkG [] Tryz.f21
noncomputable def qms:AFn:=mkG [] Tryz.f20
noncomputable def qoV:AFn:=mkG [] Tryz.f171
noncomputable def qnj:AFn:=mkG [] Tryz.f57
end Ago
