/- The code of functions,taken from the program. -/
import Derived.Test.YtahoajoopdphhaaGreatDoorCodeP
set_option linter.unusedSimpArgs false
set_option linter.unusedVariables false
set_option maxRecDepth 100000
set_option maxHeartbeats 8000000
namespace Ago
open Go.Proofs
@[go_sem] noncomputable def qtz:ACode:=mkC [[1,2,3,4]] (sub [1,1,0,1,0,1,1,1,1,1,0,0,1] (q0I Tryz.f18))
@[go_sem] noncomputable def qsv:ACode:=mkC [] (sub [1,1,0,1,0,1,1,1,1,1,0,1] (q0I Tryz.f18))
@[go_sem] noncomputable def qts:ACode:=mkC [] (sub [1,1,0,1,0,1,1,1,1,1,1,1,0,0,1,0,0,0] (q0I Tryz.f18))
@[go_sem] noncomputable def qtQ:ACode:=mkC [] (sub [1,1,0,1,0,1,1,1,1,1,1,1,0,0,1,0,0,1] (q0I Tryz.f18))
@[go_sem] noncomputable def qrR:ACode:=mkC [] (sub [1,1,0,1,0,1,1,1,1,1,1,1,0,1] (q0I Tryz.f18))
@[go_sem] noncomputable def qsf:ACode:=mkC [] (sub [1,1,0,1,0,1,1,1,1,1,1,1,1,1,0] (q0I Tryz.f18))
@[go_sem] noncomputable def qu7:ACode:=mkC [] (sub [1,1,0,1,0,1,1,1,1,1,1,1,1,1,1,1,0] (q0I Tryz.f18))
@[go_sem] noncomputable def qsm:ACode:=mkC [] (sub [1,1,0,1,0,1,1,1,1,1,1,1,1,1,1,1,1,1,0] (q0I Tryz.f18))
@[go_sem] noncomputable def qur:ACode:=mkC [] (sub [1,1,0,1,0,1,1,1,1,1,1,1,1,1,1,1,1,1,1,1,0] (q0I Tryz.f18))
@[go_sem] noncomputable def qqA:ACode:=mkC [] (sub [1,1,0,1,0,1,1,1,1,1,1,1,1,1,1,1,1,1,1,1,1,1,0] (q0I Tryz.f18))
@[go_sem] noncomputable def qpX:ACode:=mkC [] (sub [1,1,0,1,0,1,1,1,1,1,1,1,1,1,1,1,1,1,1,1,1,1,1,1,0,0,1,0,0,0] (q0I Tryz.f18))
@[go_sem] noncomputable def qpI:ACode:=mkC [] (sub [1,1,0,1,0,1,1,1,1,1,1,1,1,1,1,1,1,1,1,1,1,1,1,1,0,0,1,0,0,1,0,0,0] (q0I Tryz.f18))
@[go_sem] noncomputable def qqZ:ACode:=mkC [] (sub [1,1,0,1,0,1,1,1,1,1,1,1,1,1,1,1,1,1,1,1,1,1,1,1,0,0,1,0,0,1,0,0,1] (q0I Tryz.f18))
@[go_sem] noncomputable def qra:ACode:=mkC [] (sub [1,1,0,1,0,1,1,1,1,1,1,1,1,1,1,1,1,1,1,1,1,1,1,1,0,1] (q0I Tryz.f18))
@[go_sem] noncomputable def qpY:ACode:=mkC [] (sub [1,1,0,1,0,1,1,1,1,1,1,1,1,1,1,1,1,1,1,1,1,1,1,1,1,1,0] (q0I Tryz.f18))
@[go_sem] noncomputable def qpz:ACode:=mkC [] (sub [1,1,0,1,0,1,1,1,1,1,1,1,1,1,1,1,1,1,1,1,1,1,1,1,1,1,1] (q0I Tryz.f18))
@[go_sem] noncomputable def qr8:ACode:=mkC [] (sub [1,1,1] (q0I Tryz.f18))
noncomputable def q3v:AFn:={ nt:=168,res:=[.cell 2 (some 13)],body:=(.seq (.ops [Zx 1 0 15,
 xN 2 13 z0]) (.seq (.ops [Zc 3 (.snil 13)]) (.seq (.seq (.ops [Zh 8 1 0,Zd 9 8]) (.block 0 (.seq (.ops [Zn 11 9 1 .eql,Za 10 11]) (.cond (.t 10) (.seq (.ops [xK 12 526 [.c (.bool true)],Zu 2 12 13]) .ret) (.seq (.ops [Zn 14 9 2 .eql,Za 13 14]) (.cond (.t 13) (.seq (.ops [xK 15 526 [.c (.bool false)],Zu 2 15 13]) .ret) (.seq (.ops [Zn 17 9 3 .eql,Za 16 17]) (.cond (.t 16) (.seq (.seq (.ops [Zc 4 (.int .i64 0)]) qtz) qsv) (.seq (.ops [Zn 38 9 4 .eql,Za 37 38]) (.cond (.t 37) (.seq (.seq (.ops [Zc 5 (.int .i64 0)]) (.block 3 (.loop [1,2,3,5] (.seq qts qtQ)))) qrR) (.seq (.ops [Zn 61 9 5 .eql,Za 60 61]) (.cond (.t 60) qsf (.seq (.ops [Zn 72 9 6 .eql,Za 71 72]) (.cond (.t 71) qu7 (.seq (.ops [Zn 79 9 7 .eql,Za 78 79]) (.cond (.t 78) qsm (.seq (.ops [Zn 85 9 8 .eql,Za 84 85]) (.cond (.t 84) qur (.seq (.ops [Zn 91 9 9 .eql,Za 90 91]) (.cond (.t 90) qqA (.seq (.ops [Zn 107 9 10 .eql,Za 106 107]) (.cond (.t 106) (.seq (.seq (.ops [Zc 6 (.int .i64 0)]) (.block 5 (.loop [1,2,3,6] (.seq qpX (.seq (.block 6 (.seq qpI qqZ)) (.ops [Za 113 6,Zn 114 113 1 .add,Za 6 114])))))) qra) (.seq (.ops [Zn 145 9 11 .eql,Za 144 145]) (.cond (.t 144) qpY qpz)))))))))))))))))))))))) qr8))) }
noncomputable def qfm:AFn:=mkG [[2,3,9,23,24,25]] Tryz.f25
noncomputable def qjz:AFn:=mkG [] Tryz.f123
noncomputable def qrj:AFn:=mkG [] Tryz.f130
noncomputable def qfb:AFn:=mkG [] Tryz.f74
noncomputable def qmf:AFn:=mkG [[1,3,7,8,9]] Tryz.f58
noncomputable def qof:AFn:=mkG [] Tryz.f165
noncomputable def qmd:AFn:=mkG [[0,5,6]] Tryz.f160
noncomputable def qko:AFn:=mkG [] Tryz.f50
noncomputable def qnV:AFn:=mkG [] Tryz.f67
noncomputable def qjt:AFn:=mkG [] Tryz.f214
noncomputable def qtD:AFn:=mkG [] Tryz.f177
noncomputable def qjs:AFn:=mkG [] Tryz.f110
noncomputable def qnE:AFn:=mkG [] Tryz.f36
noncomputable def qmh:AFn:=mkG [] Tryz.f42
noncomputable def qno:AFn:=mkG [] Tryz.f221
end Ago
