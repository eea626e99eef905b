/- The code of functions,taken from the program. -/
import Derived.Test.YtahoajoopdphhaaGreatDoorCodeP
set_option linter.unusedSimpArgs false
set_option linter.unusedVariables false
set_option maxRecDepth 100000
set_option maxHeartbeats 8000000
namespace Ago
open Go.Proofs
@[go_sem] noncomputable def qsW:ACode:=mkC [] (sub [1,0,0] (q0I Tryz.f63))
@[go_sem] noncomputable def qtB:ACode:=mkC [] (sub [1,1,0,0] (q0I Tryz.f63))
@[go_sem] noncomputable def qsQ:ACode:=mkC [] (sub [1,1,1,0,1,0,0,0] (q0I Tryz.f63))
@[go_sem] noncomputable def qrH:ACode:=mkC [] (sub [1,1,1,1,0] (q0I Tryz.f63))
@[go_sem] noncomputable def qsL:ACode:=mkC [] (sub [1,1,1,1,1,0,1,0,0,0] (q0I Tryz.f63))
@[go_sem] noncomputable def qtE:ACode:=mkC [] (sub [1,1,1,1,1,0,1,0,0,1] (q0I Tryz.f63))
noncomputable def qrY:AFn:={ nt:=145,res:=[.tmp 6],body:=(.seq (.ops [Zx 3 0 15,Zx 4 1 15,Zc 6 (.bool false)]) (.seq (.seq qsW (.cond (.t 65) (.seq (.ops [Zc 6 (.bool false)]) .ret) .skip)) (.seq (.seq qtB (.cond (.t 87) (.seq (.ops [Zc 6 (.bool false)]) .ret) .skip)) (.seq (.seq (.ops [Zc 7 (.int .i64 0)]) (.block 0 (.loop [2,3,4,7] (.seq qsQ (.seq (.block 1 (.seq (.ops [Zh 95 3 13,Zd 96 95,Za 97 7,Zj 98 96 97 17,Zh 99 98 0,Zd 100 99,Zh 101 4 13,Zd 102 101,Za 103 7,Zj 104 102 103 17,Zh 105 104 0,Zd 106 105,Zl 107 100 106 .neq,Za 108 107,Zi 109 3 13 108 false,Ze 110 109 108 false,Zb 111 7 108 false,Zk 112 110 111 17 108 false,Zi 113 112 1 108 false,Ze 114 113 108 false,Zi 115 4 13 108 false,Ze 116 115 108 false,Zb 117 7 108 false,Zk 118 116 117 17 108 false,Zi 119 118 1 108 false,Ze 120 119 108 false,
 yP 121 (.eqB true) [.t 114,.t 120] 108 false,Zw 122 108 121 true]) (.cond (.t 122) (.seq (.ops [Zc 6 (.bool false)]) .ret) .skip))) (.ops [Za 93 7,Zn 94 93 1 .add,Za 7 94])))))) (.seq qrH (.seq (.seq (.ops [Zc 10 (.int .i64 0)]) (.block 2 (.loop [2,8,9,10] (.seq qsL qtE)))) (.seq (.ops [Zc 6 (.bool true)]) .ret))))))) }
noncomputable def q7U:AFn:=mkG [[0,3,4,5,65,66,67]] Tryz.f111
noncomputable def qbj:AFn:=mkG [] Tryz.f106
noncomputable def qlr:AFn:=mkG [] Tryz.f75
noncomputable def qsN:AFn:=mkG [] Tryz.f131
noncomputable def qoP:AFn:=mkG [[1,2,9,10]] Tryz.f46
noncomputable def qf0:AFn:=mkG [] Tryz.f146
noncomputable def qhG:AFn:=mkG [] Tryz.f159
noncomputable def qiL:AFn:=mkG [] Tryz.f156
noncomputable def qqU:AFn:=mkG [[1,3,4]] Tryz.f87
noncomputable def qnX:AFn:=mkG [[1,3,4]] Tryz.f48
noncomputable def qiD:AFn:=mkG [[1,5,6]] Tryz.f32
noncomputable def qvi:AFn:=mkG [[0,3]] Tryz.f172
noncomputable def qnf:AFn:=mkG [[0,3]] Tryz.f121
noncomputable def ql2:AFn:=mkG [] Tryz.f148
noncomputable def qkM:AFn:=mkG [] Tryz.f43
noncomputable def qnU:AFn:=mkG [] Tryz.f107
noncomputable def qn9:AFn:=mkG [] Tryz.f66
noncomputable def qt7:AFn:=mkG [] Tryz.f55
noncomputable def qmU:AFn:=mkG [] Tryz.f166
end Ago
