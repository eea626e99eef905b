/- The code of functions,taken from the program. -/
import Derived.Test.YtahoajoopdphhaaGreatDoorCodeP
set_option linter.unusedSimpArgs false
set_option linter.unusedVariables false
set_option maxRecDepth 100000
set_option maxHeartbeats 8000000
namespace Ago
open Go.Proofs
noncomputable def q1g:AFn:=mkG [[1,2,3,89,90,91],[1,2,105,106,107]] Tryz.f31
noncomputable def qf1:AFn:=mkG [[1,3],[1,4]] Tryz.f117
noncomputable def qme:AFn:=mkG [[1,4,16,17,18],[4,39,40,41],[4,10,11,12,39,40,41]] Tryz.f28
noncomputable def qo5:AFn:=mkG [[1,2,22,23],[1,2,43,44],[1,2,66,67]] Tryz.f145
noncomputable def qu4:AFn:=mkG [] Tryz.f129
noncomputable def qcn:AFn:=mkG [[0,1,4,6,7]] Tryz.f102
noncomputable def qmS:AFn:=mkG [[1,2,3,8,9,10]] Tryz.f15
noncomputable def q5I:AFn:=mkG [[0,2,3,35,36,37]] Tryz.f61
noncomputable def qjA:AFn:=mkG [] Tryz.f152
noncomputable def qkg:AFn:=mkG [[3,8,9,10]] Tryz.f76
noncomputable def qm4:AFn:=mkG [] Tryz.f108
noncomputable def qkY:AFn:=mkG [] Tryz.f238
noncomputable def qkE:AFn:=mkG [[10,11,12]] Tryz.f142
noncomputable def qo2:AFn:=mkG [] Tryz.f200
noncomputable def qiS:AFn:=mkG [] Tryz.f185
noncomputable def qr7:AFn:=mkG [] Tryz.f176
noncomputable def qt6:AFn:=mkG [] Tryz.f147
noncomputable def qlu:AFn:=mkG [] Tryz.f71
noncomputable def qr4:AFn:=mkG [] Tryz.f27
noncomputable def qv6:AFn:=mkG [] Tryz.f33
noncomputable def qmj:AFn:=mkG [] Tryz.f70
noncomputable def qmY:AFn:=mkG [] Tryz.f26
end Ago
