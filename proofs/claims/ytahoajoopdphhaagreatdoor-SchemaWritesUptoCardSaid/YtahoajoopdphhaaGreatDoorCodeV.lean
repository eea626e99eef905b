/- The code of functions,taken from the program. -/
import Derived.Test.YtahoajoopdphhaaGreatDoorCodeP
set_option linter.unusedSimpArgs false
set_option linter.unusedVariables false
set_option maxRecDepth 100000
set_option maxHeartbeats 8000000
namespace Ago
open Go.Proofs
noncomputable def qb1:AFn:=mkG [[3,102,103,104],[1,3,122,123,124]] Tryz.f99
noncomputable def qnt:AFn:=mkG [[1,3,4,5],[1,3,4,5,6,7]] Tryz.f17
noncomputable def q3U:AFn:=mkG [] Tryz.f68
noncomputable def qkc:AFn:=mkG [] Tryz.f161
noncomputable def qml:AFn:=mkG [[2,3,4,7]] Tryz.f149
noncomputable def qd6:AFn:=mkG [[7,38,39,40]] Tryz.f57
noncomputable def qmJ:AFn:=mkG [] Tryz.f231
noncomputable def qn4:AFn:=mkG [[1,3,6,7,8]] Tryz.f64
noncomputable def qhv:AFn:=mkG [] Tryz.f86
noncomputable def qdC:AFn:=mkG [] Tryz.f6
noncomputable def qfo:AFn:=mkG [[1,2,5]] Tryz.f124
noncomputable def qlf:AFn:=mkG [[1,2,10,11]] Tryz.f188
noncomputable def qnp:AFn:=mkG [[0,2,3,4]] Tryz.f45
noncomputable def qm0:AFn:=mkG [[0,1]] Tryz.f202
noncomputable def qmB:AFn:=mkG [[0,1,5]] Tryz.f80
noncomputable def qid:AFn:=mkG [] Tryz.f175
noncomputable def qn5:AFn:=mkG [] Tryz.f186
noncomputable def qiI:AFn:=mkG [] Tryz.f82
noncomputable def qnL:AFn:=mkG [] Tryz.f37
noncomputable def qtV:AFn:=mkG [] Tryz.f89
noncomputable def qnQ:AFn:=mkG [] Tryz.f10
end Ago
