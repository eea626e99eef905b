/- The code of functions,taken from the program. -/
import Derived.Test.YtahoajoopdphhaaGreatDoorCodeP
set_option linter.unusedSimpArgs false
set_option linter.unusedVariables false
set_option maxRecDepth 100000
set_option maxHeartbeats 8000000
namespace Ago
open Go.Proofs
@[go_sem] noncomputable def qwk:ACode:=mkC [] (sub [1,0] (q0I Tryz.f7))
@[go_sem] noncomputable def qw2:ACode:=mkC [] (sub [1,1,1,0,1,0,0,0] (q0I Tryz.f7))
@[go_sem] noncomputable def qwp:ACode:=mkC [] (sub [1,1,1,0,1,0,0,1,0,0] (q0I Tryz.f7))
@[go_sem] noncomputable def qwm:ACode:=mkC [] (sub [1,1,1,1,0] (q0I Tryz.f7))
@[go_sem] noncomputable def qvY:ACode:=mkC [] (sub [1,1,1,1,1] (q0I Tryz.f7))
noncomputable def qi5:AFn:={ nt:=57,res:=[.cell 2 (some 13),.tmp 3],body:=(.seq (.ops [Zx 1 0 16,
 xN 2 13 z0,Zc 3 (.int .i64 0)]) (.seq qwk (.seq (.ops [⟨some 15,.pure (.build [.int .i64 0,.bool false,.bool false,.str [],.int .i64 0,.int .i64 0,.int .i64 0,.int .i64 0,.int .i64 0,.str [],.snil 1,.snil 13,.snil 14] [(0,1)]),[.c (.int .i64 7)],none⟩,
 xN 5 13 z0,Zu 5 15 13]) (.seq (.seq (.ops [Zc 6 (.int .i64 0)]) (.block 0 (.loop [1,2,5,6] (.seq qw2 (.seq (.block 1 qwp) (.ops [Za 21 6,Zn 22 21 1 .add,Za 6 22])))))) (.seq qwm qvY))))) }
noncomputable def qlX:AFn:=mkG [] Tryz.f168
noncomputable def q7I:AFn:=mkG [] Tryz.f85
noncomputable def qrA:AFn:=mkG [[1,2,4,5,21,22,23],[1,2,4,5,8,36,37,38]] Tryz.f92
noncomputable def qka:AFn:=mkG [] Tryz.f73
noncomputable def qcG:AFn:=mkG [[3,7,8]] Tryz.f78
noncomputable def qmp:AFn:=mkG [[1,3]] Tryz.f47
noncomputable def qmi:AFn:=mkG [[1,4]] Tryz.f35
noncomputable def qfJ:AFn:=mkG [[2,3,8,9]] Tryz.f34
noncomputable def qtc:AFn:=mkG [[0,4,5]] Tryz.f77
noncomputable def qj0:AFn:=mkG [[1,5,11,12,13]] Tryz.f59
noncomputable def qiw:AFn:=mkG [[1,2,5,6]] Tryz.f133
noncomputable def quT:AFn:=mkG [[0,3]] Tryz.f207
noncomputable def qmo:AFn:=mkG [[0,5,6,7]] Tryz.f144
noncomputable def qez:AFn:=mkG [] Tryz.f24
noncomputable def qlb:AFn:=mkG [] Tryz.f158
noncomputable def qc9:AFn:=mkG [] Tryz.f115
noncomputable def qkW:AFn:=mkG [] Tryz.f84
noncomputable def qn7:AFn:=mkG [] Tryz.f65
noncomputable def qm8:AFn:=mkG [] Tryz.f104
noncomputable def qmx:AFn:=mkG [] Tryz.f100
end Ago
