/- The code of functions,taken from the program. -/
import Derived.Test.YtahoajoopdphhaaGreatDoorCodeP
set_option linter.unusedSimpArgs false
set_option linter.unusedVariables false
set_option maxRecDepth 100000
set_option maxHeartbeats 8000000
namespace Ago
open Go.Proofs
@[go_sem] noncomputable def qw9:ACode:=mkC [] (sub [1,0,0] (q0I Tryz.f8))
@[go_sem] noncomputable def qvK:ACode:=mkC [] (sub [1,1,0,1,0,0,0] (q0I Tryz.f8))
@[go_sem] noncomputable def qwe:ACode:=mkC [] (sub [1,1,0,1,0,0,1] (q0I Tryz.f8))
@[go_sem] noncomputable def qwc:ACode:=mkC [] (sub [1,1,1,0,1,0,0,0] (q0I Tryz.f8))
noncomputable def qtl:AFn:={ nt:=122,res:=[.tmp 4],body:=(.seq (.ops [Zx 2 0 13,Zx 3 1 13,Zc 4 (.bool false)]) (.seq (.seq qw9 (.cond (.t 66) (.seq (.ops [Zc 4 (.bool false)]) .ret) .skip)) (.seq (.seq (.ops [Zc 5 (.int .i64 0)]) (.block 0 (.loop [2,3,5] (.seq qvK qwe)))) (.seq (.seq (.ops [Zc 6 (.int .i64 0)]) (.block 2 (.loop [2,3,6] (.seq qwc (.seq (.block 3 (.seq (.ops [Zh 93 2 12,Zd 94 93,Za 95 6,Zj 96 94 95 14,Zh 97 96 0,Zd 98 97,Zh 99 3 12,Zd 100 99,Za 101 6,Zj 102 100 101 14,Zh 103 102 0,Zd 104 103,Zl 105 98 104 .neq,Za 106 105,Zi 107 2 12 106 false,Ze 108 107 106 false,Zb 109 6 106 false,Zk 110 108 109 14 106 false,Zi 111 110 1 106 false,Zg 112 111 13 106 false,Zi 113 3 12 106 false,Ze 114 113 106 false,Zb 115 6 106 false,Zk 116 114 115 14 106 false,Zi 117 116 1 106 false,Zg 118 117 13 106 false,ZC 119 29 112 118 106 false,Zs 120 119 106 false,Zw 121 106 120 true]) (.cond (.t 121) (.seq (.ops [Zc 4 (.bool false)]) .ret) .skip))) (.ops [Za 91 6,Zn 92 91 1 .add,Za 6 92])))))) (.seq (.ops [Zc 4 (.bool true)]) .ret))))) }
noncomputable def qlU:AFn:=mkG [] Tryz.f163
noncomputable def qdz:AFn:=mkG [] Tryz.f41
noncomputable def qjT:AFn:=mkG [] Tryz.f143
noncomputable def qlW:AFn:=mkG [[2,5,6],[2,5,6,7,8],[2,5,6,7,8,11,12]] Tryz.f81
noncomputable def q8X:AFn:=mkG [[1,2,7,8,9],[1,2,7,8,9,10,11]] Tryz.f119
noncomputable def qom:AFn:=mkG [[0,1,5,6],[0,1,5,6]] Tryz.f120
noncomputable def qhQ:AFn:=mkG [[1,3,4]] Tryz.f4
noncomputable def qmF:AFn:=mkG [[1,2,4,6]] Tryz.f79
noncomputable def quc:AFn:=mkG [[2,3,5]] Tryz.f103
noncomputable def qg8:AFn:=mkG [[1,15,16,17]] Tryz.f153
noncomputable def qiq:AFn:=mkG [[0,2,3]] Tryz.f192
noncomputable def qoe:AFn:=mkG [[1,3]] Tryz.f164
noncomputable def qoo:AFn:=mkG [[0,3]] Tryz.f171
noncomputable def qon:AFn:=mkG [] Tryz.f38
noncomputable def ql4:AFn:=mkG [] Tryz.f127
noncomputable def qsp:AFn:=mkG [] Tryz.f178
noncomputable def qdK:AFn:=mkG [] Tryz.f9
noncomputable def qlG:AFn:=mkG [] Tryz.f44
noncomputable def qm6:AFn:=mkG [] Tryz.f114
noncomputable def qlY:AFn:=mkG [] Tryz.f118
end Ago
