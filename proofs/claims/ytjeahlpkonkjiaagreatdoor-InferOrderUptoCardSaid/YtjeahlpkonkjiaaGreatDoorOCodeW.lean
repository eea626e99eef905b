/- The code of functions,taken from the program. -/
import Derived.Test.YtjeahlpkonkjiaaGreatDoorOCodeP
set_option linter.unusedSimpArgs false
set_option linter.unusedVariables false
set_option maxRecDepth 100000
set_option maxHeartbeats 8000000
namespace Ago
open Go.Proofs
@[go_sem] noncomputable def qtW:ACode:=mkC [] (sub [1,0,0] (q0g Tryz.f28))
@[go_sem] noncomputable def qsB:ACode:=mkC [] (sub [1,1,0,0] (q0g Tryz.f28))
@[go_sem] noncomputable def qsJ:ACode:=mkC [] (sub [1,1,1,0,1,0,0,0] (q0g Tryz.f28))
@[go_sem] noncomputable def qu8:ACode:=mkC [] (sub [1,1,1,1,0] (q0g Tryz.f28))
@[go_sem] noncomputable def qty:ACode:=mkC [] (sub [1,1,1,1,1,0,1,0,0,0] (q0g Tryz.f28))
@[go_sem] noncomputable def qse:ACode:=mkC [] (sub [1,1,1,1,1,0,1,0,0,1] (q0g Tryz.f28))
noncomputable def qo3:AFn:={ nt:=145,res:=[.tmp 6],body:=(.seq (.ops [Zx 3 0 15,Zx 4 1 15,Zc 6 (.bool false)]) (.seq (.seq qtW (.cond (.t 65) (.seq (.ops [Zc 6 (.bool false)]) .ret) .skip)) (.seq (.seq qsB (.cond (.t 87) (.seq (.ops [Zc 6 (.bool false)]) .ret) .skip)) (.seq (.seq (.ops [Zc 7 (.int .i64 0)]) (.block 0 (.loop [2,3,4,7] (.seq qsJ (.seq (.block 1 (.seq (.ops [Zh 95 3 13,Zd 96 95,Za 97 7,Zj 98 96 97 17,Zh 99 98 0,Zd 100 99,Zh 101 4 13,Zd 102 101,Za 103 7,Zj 104 102 103 17,Zh 105 104 0,Zd 106 105,Zl 107 100 106 .neq,Za 108 107,Zi 109 3 13 108 false,Ze 110 109 108 false,Zb 111 7 108 false,Zk 112 110 111 17 108 false,Zi 113 112 1 108 false,Ze 114 113 108 false,Zi 115 4 13 108 false,Ze 116 115 108 false,Zb 117 7 108 false,Zk 118 116 117 17 108 false,Zi 119 118 1 108 false,Ze 120 119 108 false,
 ⟨some 121,.pure (.eqB true),[.t 114,.t 120],some (108,false)⟩,Zw 122 108 121 true]) (.cond (.t 122) (.seq (.ops [Zc 6 (.bool false)]) .ret) .skip))) (.ops [Za 93 7,Zn 94 93 1 .add,Za 7 94])))))) (.seq qu8 (.seq (.seq (.ops [Zc 10 (.int .i64 0)]) (.block 2 (.loop [2,8,9,10] (.seq qty qse)))) (.seq (.ops [Zc 6 (.bool true)]) .ret))))))) }
@[go_sem] noncomputable def qre:ACode:=mkC [] (sub [0] (q0g Tryz.f147))
@[go_sem] noncomputable def qpk:ACode:=mkC [] (sub [1,0] (q0g Tryz.f147))
@[go_sem] noncomputable def qpI:ACode:=mkC [] (sub [1,1,0] (q0g Tryz.f147))
@[go_sem] noncomputable def qqP:ACode:=mkC [] (sub [1,1,1,0] (q0g Tryz.f147))
@[go_sem] noncomputable def qr5:ACode:=mkC [] (sub [1,1,1,1,0] (q0g Tryz.f147))
@[go_sem] noncomputable def qqH:ACode:=mkC [] (sub [1,1,1,1,1,0] (q0g Tryz.f147))
noncomputable def q5R:AFn:={ nt:=52,res:=[.tmp 4,.tmp 5,.tmp 6],body:=(.seq qre (.seq qpk (.seq qpI (.seq qqP (.seq qr5 (.seq qqH .ret)))))) }
noncomputable def qup:AFn:=mkG [[1,3],[1,4]] Tryz.f128
noncomputable def qtI:AFn:=mkG [] Tryz.f169
noncomputable def qa5:AFn:=mkG [[1,2,45,46,47]] Tryz.f221
noncomputable def qiC:AFn:=mkG [] Tryz.f109
noncomputable def q7G:AFn:=mkG [[2,4,8,9]] Tryz.f220
noncomputable def qei:AFn:=mkG [[2,3,9,23,24,25]] Tryz.f56
noncomputable def qsN:AFn:=mkG [[1,4]] Tryz.f64
noncomputable def qlY:AFn:=mkG [[1,3],[1,4]] Tryz.f67
noncomputable def qhL:AFn:=mkG [[2,13,14,15]] Tryz.f126
noncomputable def qkV:AFn:=mkG [[2,3,5]] Tryz.f48
noncomputable def qtZ:AFn:=mkG [] Tryz.f267
noncomputable def qhe:AFn:=mkG [[1,5,6,7]] Tryz.f40
noncomputable def qhm:AFn:=mkG [[1,5,11,12,13]] Tryz.f183
noncomputable def qqp:AFn:=mkG [] Tryz.f149
noncomputable def qlW:AFn:=mkG [[0,5,6,7]] Tryz.f154
noncomputable def q8K:AFn:=mkG [] Tryz.f125
noncomputable def qte:AFn:=mkG [] Tryz.f12
noncomputable def qtV:AFn:=mkG [] Tryz.f14
noncomputable def qoc:AFn:=mkG [] Tryz.f99
noncomputable def qnb:AFn:=mkG [] Tryz.f41
noncomputable def qtS:AFn:=mkG [] Tryz.f168
noncomputable def qur:AFn:=mkG [] Tryz.f66
noncomputable def qmB:AFn:=mkG [] Tryz.f49
noncomputable def qk6:AFn:=mkG [] Tryz.f181
end Ago
