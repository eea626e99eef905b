/- The code of functions,taken from the program. -/
import Derived.Test.YtjeahlpkonkjiaaGreatDoorOCodeP
set_option linter.unusedSimpArgs false
set_option linter.unusedVariables false
set_option maxRecDepth 100000
set_option maxHeartbeats 8000000
namespace Ago
open Go.Proofs
@[go_sem] noncomputable def quc:ACode:=mkC [] (sub [1,0] (q0g Tryz.f45))
@[go_sem] noncomputable def quV:ACode:=mkC [] (sub [1,1,0,1,0,1,0,0] (q0g Tryz.f45))
@[go_sem] noncomputable def qtr:ACode:=mkC [] (sub [1,1,0,1,0,1,0,1,0] (q0g Tryz.f45))
@[go_sem] noncomputable def qvg:ACode:=mkC [] (sub [1,1,0,1,0,1,0,1,1,0] (q0g Tryz.f45))
@[go_sem] noncomputable def qu1:ACode:=mkC [] (sub [1,1,0,1,0,1,0,1,1,1] (q0g Tryz.f45))
@[go_sem] noncomputable def quU:ACode:=mkC [] (sub [1,1,0,1,0,1,1,0] (q0g Tryz.f45))
@[go_sem] noncomputable def quR:ACode:=mkC [] (sub [1,1,0,1,0,1,1,1,0,0] (q0g Tryz.f45))
@[go_sem] noncomputable def qsm:ACode:=mkC [] (sub [1,1,0,1,0,1,1,1,0,1] (q0g Tryz.f45))
@[go_sem] noncomputable def qsg:ACode:=mkC [] (sub [1,1,0,1,0,1,1,1,1] (q0g Tryz.f45))
noncomputable def q7Z:AFn:={ nt:=97,res:=[.cell 4 (some 15)],body:=(.seq (.ops [Zx 2 0 15,Zx 3 1 15,
 ⟨some 4,.new (.new 15 [.agg [.int .i64 0,.int .i64 0,.int .i64 0,.int .i64 0,.str [],.snil 11,.int .i64 0,.int .i64 0,.int .i64 0,.int .i64 0,.int .i64 0,.snil 6,.snil 13,.snil 17,.snil 15]]),[],none⟩]) (.seq quc (.seq (.seq (.ops [Zh 10 2 0,Zd 11 10]) (.block 0 (.seq (.ops [Zn 13 11 4 .eql,Za 12 13]) (.cond (.t 12) (.seq quV (.seq qtr (.seq qvg qu1))) (.seq quU (.cond (.t 59) (.seq quR qsm) qsg)))))) (.seq (.ops [Zf 96 5 15,Zu 4 96 15]) .ret)))) }
noncomputable def qa4:AFn:=mkG [[3,102,103,104],[1,3,122,123,124]] Tryz.f121
noncomputable def qeK:AFn:=mkG [[0,3,5,6]] Tryz.f5
noncomputable def qxu:AFn:=mkG [[0,1,7,8,9]] Tryz.f127
noncomputable def qoQ:AFn:=mkG [] Tryz.f81
noncomputable def qoZ:AFn:=mkG [] Tryz.f105
noncomputable def qxN:AFn:=mkG [[1,2,9,10]] Tryz.f198
noncomputable def qtt:AFn:=mkG [] Tryz.f219
noncomputable def qjO:AFn:=mkG [[0,1,5,6,13,14]] Tryz.f256
noncomputable def qxK:AFn:=mkG [] Tryz.f224
noncomputable def qoO:AFn:=mkG [[0,1,5,6,7]] Tryz.f201
noncomputable def qlN:AFn:=mkG [[1,4,9,10,11]] Tryz.f44
noncomputable def qmn:AFn:=mkG [[1,3,7,8,9]] Tryz.f93
noncomputable def qgD:AFn:=mkG [[1,2,5,6]] Tryz.f114
noncomputable def qrJ:AFn:=mkG [] Tryz.f8
noncomputable def qhg:AFn:=mkG [] Tryz.f24
noncomputable def qn9:AFn:=mkG [[0,3]] Tryz.f117
noncomputable def qcW:AFn:=mkG [] Tryz.f11
noncomputable def qud:AFn:=mkG [] Tryz.f115
noncomputable def qoL:AFn:=mkG [] Tryz.f199
noncomputable def qth:AFn:=mkG [] Tryz.f238
noncomputable def qqR:AFn:=mkG [] Tryz.f58
noncomputable def qn2:AFn:=mkG [] Tryz.f72
noncomputable def qn7:AFn:=mkG [] Tryz.f10
noncomputable def qmQ:AFn:=mkG [] Tryz.f19
end Ago
