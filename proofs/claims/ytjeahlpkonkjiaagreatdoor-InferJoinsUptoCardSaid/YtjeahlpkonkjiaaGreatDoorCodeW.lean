/- The code of functions,taken from the program. -/
import Derived.Test.YtjeahlpkonkjiaaGreatDoorCodeP
set_option linter.unusedSimpArgs false
set_option linter.unusedVariables false
set_option maxRecDepth 100000
set_option maxHeartbeats 8000000
namespace Ago
open Go.Proofs
@[go_sem] noncomputable def qve:ACode:=mkC [] (sub [1,0,0] (q0t Tryz.f28))
@[go_sem] noncomputable def qvE:ACode:=mkC [] (sub [1,1,0,0] (q0t Tryz.f28))
@[go_sem] noncomputable def quO:ACode:=mkC [] (sub [1,1,1,0,1,0,0,0] (q0t Tryz.f28))
@[go_sem] noncomputable def qu7:ACode:=mkC [] (sub [1,1,1,1,0] (q0t Tryz.f28))
@[go_sem] noncomputable def qzy:ACode:=mkC [] (sub [1,1,1,1,1,0,1,0,0,0] (q0t Tryz.f28))
@[go_sem] noncomputable def qzz:ACode:=mkC [] (sub [1,1,1,1,1,0,1,0,0,1] (q0t Tryz.f28))
noncomputable def qoz:AFn:={ nt:=145,res:=[.tmp 6],body:=(.seq (.ops [Zx 3 0 15,Zx 4 1 15,Zc 6 (.bool false)]) (.seq (.seq qve (.cond (.t 65) (.seq (.ops [Zc 6 (.bool false)]) .ret) .skip)) (.seq (.seq qvE (.cond (.t 87) (.seq (.ops [Zc 6 (.bool false)]) .ret) .skip)) (.seq (.seq (.ops [Zc 7 (.int .i64 0)]) (.block 0 (.loop [2,3,4,7] (.seq quO (.seq (.block 1 (.seq (.ops [Zh 95 3 13,Zd 96 95,Za 97 7,Zj 98 96 97 17,Zh 99 98 0,Zd 100 99,Zh 101 4 13,Zd 102 101,Za 103 7,Zj 104 102 103 17,Zh 105 104 0,Zd 106 105,Zl 107 100 106 .neq,Za 108 107,Zi 109 3 13 108 false,Ze 110 109 108 false,Zb 111 7 108 false,Zk 112 110 111 17 108 false,Zi 113 112 1 108 false,Ze 114 113 108 false,Zi 115 4 13 108 false,Ze 116 115 108 false,Zb 117 7 108 false,Zk 118 116 117 17 108 false,Zi 119 118 1 108 false,Ze 120 119 108 false,
 ⟨some 121,.pure (.eqB true),[.t 114,.t 120],some (108,false)⟩,Zw 122 108 121 true]) (.cond (.t 122) (.seq (.ops [Zc 6 (.bool false)]) .ret) .skip))) (.ops [Za 93 7,Zn 94 93 1 .add,Za 7 94])))))) (.seq qu7 (.seq (.seq (.ops [Zc 10 (.int .i64 0)]) (.block 2 (.loop [2,8,9,10] (.seq qzy qzz)))) (.seq (.ops [Zc 6 (.bool true)]) .ret))))))) }
@[go_sem] noncomputable def qrq:ACode:=mkC [] (sub [0] (q0t Tryz.f147))
@[go_sem] noncomputable def qry:ACode:=mkC [] (sub [1,0] (q0t Tryz.f147))
@[go_sem] noncomputable def qrU:ACode:=mkC [] (sub [1,1,0] (q0t Tryz.f147))
@[go_sem] noncomputable def qrH:ACode:=mkC [] (sub [1,1,1,0] (q0t Tryz.f147))
@[go_sem] noncomputable def qzl:ACode:=mkC [] (sub [1,1,1,1,0] (q0t Tryz.f147))
@[go_sem] noncomputable def qzk:ACode:=mkC [] (sub [1,1,1,1,1,0] (q0t Tryz.f147))
noncomputable def q6o:AFn:={ nt:=52,res:=[.tmp 4,.tmp 5,.tmp 6],body:=(.seq qrq (.seq qry (.seq qrU (.seq qrH (.seq qzl (.seq qzk .ret)))))) }
noncomputable def qgd:AFn:=mkG [[1,3],[1,4]] Tryz.f128
noncomputable def qp7:AFn:=mkG [] Tryz.f169
noncomputable def qb0:AFn:=mkG [[1,2,45,46,47]] Tryz.f221
noncomputable def qmX:AFn:=mkG [] Tryz.f109
noncomputable def q8r:AFn:=mkG [[2,4,8,9]] Tryz.f220
noncomputable def qfL:AFn:=mkG [[2,3,9,23,24,25]] Tryz.f56
noncomputable def qpO:AFn:=mkG [[1,4]] Tryz.f64
noncomputable def qw1:AFn:=mkG [[1,3],[1,4]] Tryz.f67
noncomputable def qjt:AFn:=mkG [[2,13,14,15]] Tryz.f126
noncomputable def ql7:AFn:=mkG [[2,3,5]] Tryz.f48
noncomputable def qtj:AFn:=mkG [] Tryz.f267
noncomputable def qiH:AFn:=mkG [[1,5,6,7]] Tryz.f40
noncomputable def qjF:AFn:=mkG [[1,5,11,12,13]] Tryz.f183
noncomputable def qkI:AFn:=mkG [] Tryz.f149
noncomputable def qoJ:AFn:=mkG [[0,5,6,7]] Tryz.f154
noncomputable def qay:AFn:=mkG [] Tryz.f125
noncomputable def qeI:AFn:=mkG [] Tryz.f12
noncomputable def qiw:AFn:=mkG [] Tryz.f14
noncomputable def qob:AFn:=mkG [] Tryz.f99
noncomputable def qoX:AFn:=mkG [] Tryz.f41
noncomputable def ql4:AFn:=mkG [] Tryz.f168
noncomputable def quD:AFn:=mkG [] Tryz.f66
noncomputable def qje:AFn:=mkG [] Tryz.f49
noncomputable def ql8:AFn:=mkG [] Tryz.f181
end Ago
