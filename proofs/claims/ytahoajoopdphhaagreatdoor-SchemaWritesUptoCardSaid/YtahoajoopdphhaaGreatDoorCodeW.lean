/- The code of functions,taken from the program. -/
import Derived.Test.YtahoajoopdphhaaGreatDoorCodeP
set_option linter.unusedSimpArgs false
set_option linter.unusedVariables false
set_option maxRecDepth 100000
set_option maxHeartbeats 8000000
namespace Ago
open Go.Proofs
noncomputable def qmk:AFn:=mkG [] Tryz.f173
noncomputable def qny:AFn:=mkG [] Tryz.f197
noncomputable def qnv:AFn:=mkG [[1,3,4,5,16,17,18],[1,3,4,5,7,16,17,18,42,43,44]] Tryz.f13
noncomputable def qhl:AFn:=mkG [[0,1,7,8,9]] Tryz.f116
noncomputable def qiV:AFn:=mkG [] Tryz.f162
noncomputable def qpl:AFn:=mkG [[1,2,3,7],[1,2,3,8]] Tryz.f134
noncomputable def qjG:AFn:=mkG [[0,3]] Tryz.f125
noncomputable def qtf:AFn:=mkG [[0,3],[0,3,4]] Tryz.f132
noncomputable def qiA:AFn:=mkG [] Tryz.f128
noncomputable def qnF:AFn:=mkG [[1,4,9,10,11]] Tryz.f101
noncomputable def qb9:AFn:=mkG [[1,5,6]] Tryz.f20
noncomputable def qi4:AFn:=mkG [[1,5,6,7]] Tryz.f21
noncomputable def qnT:AFn:=mkG [[0,1,2,7,8]] Tryz.f126
noncomputable def qnd:AFn:=mkG [] Tryz.f83
noncomputable def qif:AFn:=mkG [] Tryz.f206
noncomputable def q8p:AFn:=mkG [] Tryz.f113
noncomputable def qlC:AFn:=mkG [] Tryz.f223
noncomputable def qnY:AFn:=mkG [] Tryz.f69
noncomputable def qor:AFn:=mkG [] Tryz.f40
noncomputable def qmq:AFn:=mkG [] Tryz.f109
noncomputable def qsM:AFn:=mkG [] Tryz.f105
noncomputable def qlV:AFn:=mkG [] Tryz.f201
end Ago
