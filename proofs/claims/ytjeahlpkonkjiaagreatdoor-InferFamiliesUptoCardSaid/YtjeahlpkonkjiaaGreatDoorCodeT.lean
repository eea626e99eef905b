/- The code of functions,taken from the program. -/
import Derived.Test.YtjeahlpkonkjiaaGreatDoorCodeP
set_option linter.unusedSimpArgs false
set_option linter.unusedVariables false
set_option maxRecDepth 100000
set_option maxHeartbeats 8000000
namespace Ago
open Go.Proofs
@[go_sem] noncomputable def qw9:ACode:=mkC [] (sub [1,0] (q0t Tryz.f45))
@[go_sem] noncomputable def qtS:ACode:=mkC [] (sub [1,1,0,1,0,1,0,0] (q0t Tryz.f45))
@[go_sem] noncomputable def qvp:ACode:=mkC [] (sub [1,1,0,1,0,1,0,1,0] (q0t Tryz.f45))
@[go_sem] noncomputable def quh:ACode:=mkC [] (sub [1,1,0,1,0,1,0,1,1,0] (q0t Tryz.f45))
@[go_sem] noncomputable def qva:ACode:=mkC [] (sub [1,1,0,1,0,1,0,1,1,1] (q0t Tryz.f45))
@[go_sem] noncomputable def qtZ:ACode:=mkC [] (sub [1,1,0,1,0,1,1,0] (q0t Tryz.f45))
@[go_sem] noncomputable def qtL:ACode:=mkC [] (sub [1,1,0,1,0,1,1,1,0,0] (q0t Tryz.f45))
@[go_sem] noncomputable def qzu:ACode:=mkC [] (sub [1,1,0,1,0,1,1,1,0,1] (q0t Tryz.f45))
@[go_sem] noncomputable def qzt:ACode:=mkC [] (sub [1,1,0,1,0,1,1,1,1] (q0t Tryz.f45))
noncomputable def q8X:AFn:={ nt:=97,res:=[.cell 4 (some 15)],body:=(.seq (.ops [Zx 2 0 15,Zx 3 1 15,
 ⟨some 4,.new (.new 15 [.agg [.int .i64 0,.int .i64 0,.int .i64 0,.int .i64 0,.str [],.snil 11,.int .i64 0,.int .i64 0,.int .i64 0,.int .i64 0,.int .i64 0,.snil 6,.snil 13,.snil 17,.snil 15]]),[],none⟩]) (.seq qw9 (.seq (.seq (.ops [Zh 10 2 0,Zd 11 10]) (.block 0 (.seq (.ops [Zn 13 11 4 .eql,Za 12 13]) (.cond (.t 12) (.seq qtS (.seq qvp (.seq quh qva))) (.seq qtZ (.cond (.t 59) (.seq qtL qzu) qzt)))))) (.seq (.ops [Zf 96 5 15,Zu 4 96 15]) .ret)))) }
noncomputable def qaV:AFn:=mkG [[3,102,103,104],[1,3,122,123,124]] Tryz.f121
noncomputable def qwe:AFn:=mkG [[0,3,5,6]] Tryz.f5
noncomputable def qhG:AFn:=mkG [[0,1,7,8,9]] Tryz.f127
noncomputable def qhW:AFn:=mkG [] Tryz.f81
noncomputable def q5q:AFn:=mkG [] Tryz.f105
noncomputable def qqK:AFn:=mkG [[1,2,9,10]] Tryz.f198
noncomputable def qtG:AFn:=mkG [] Tryz.f219
noncomputable def qmN:AFn:=mkG [[0,1,5,6,13,14]] Tryz.f256
noncomputable def qig:AFn:=mkG [] Tryz.f224
noncomputable def qea:AFn:=mkG [[0,1,5,6,7]] Tryz.f201
noncomputable def qo6:AFn:=mkG [[1,4,9,10,11]] Tryz.f44
noncomputable def qpU:AFn:=mkG [[1,3,7,8,9]] Tryz.f93
noncomputable def qiD:AFn:=mkG [[1,2,5,6]] Tryz.f114
noncomputable def qf9:AFn:=mkG [] Tryz.f8
noncomputable def qjB:AFn:=mkG [] Tryz.f24
noncomputable def qiW:AFn:=mkG [[0,3]] Tryz.f117
noncomputable def qev:AFn:=mkG [] Tryz.f11
noncomputable def qkY:AFn:=mkG [] Tryz.f115
noncomputable def qbn:AFn:=mkG [] Tryz.f199
noncomputable def que:AFn:=mkG [] Tryz.f238
noncomputable def qsg:AFn:=mkG [] Tryz.f58
noncomputable def qnK:AFn:=mkG [] Tryz.f72
noncomputable def qpn:AFn:=mkG [] Tryz.f10
noncomputable def qq8:AFn:=mkG [] Tryz.f19
end Ago
