/- The code of functions,taken from the program. -/
import Derived.Test.YtjeahlpkonkjiaaGreatDoorOCodeP
set_option linter.unusedSimpArgs false
set_option linter.unusedVariables false
set_option maxRecDepth 100000
set_option maxHeartbeats 8000000
namespace Ago
open Go.Proofs
@[go_sem] noncomputable def qsz:ACode:=mkC [] (sub [1,0,1,0,1,0] (q0g Tryz.f65))
@[go_sem] noncomputable def quS:ACode:=mkC [] (sub [1,0,1,0,1,1,1,0] (q0g Tryz.f65))
@[go_sem] noncomputable def quk:ACode:=mkC [] (sub [1,0,1,0,1,1,1,1,1,0,0] (q0g Tryz.f65))
@[go_sem] noncomputable def qu0:ACode:=mkC [] (sub [1,0,1,0,1,1,1,1,1,0,1] (q0g Tryz.f65))
@[go_sem] noncomputable def quu:ACode:=mkC [] (sub [1,0,1,0,1,1,1,1,1,1,1,0,0,1,0,0,0] (q0g Tryz.f65))
@[go_sem] noncomputable def quQ:ACode:=mkC [] (sub [1,0,1,0,1,1,1,1,1,1,1,0,1] (q0g Tryz.f65))
@[go_sem] noncomputable def qvv:ACode:=mkC [] (sub [1,1] (q0g Tryz.f65))
noncomputable def qve:AFn:={ nt:=83,res:=[.tmp 2],body:=(.seq (.ops [Zx 1 0 15,Zc 2 (.bool false)]) (.seq (.seq (.ops [Zh 4 1 0,Zd 5 4]) (.block 0 (.seq (.ops [Zn 7 5 4 .eql,Za 6 7]) (.cond (.t 6) qsz (.seq (.ops [Zn 12 5 5 .eql,Za 11 12]) (.cond (.t 11) quS (.seq (.ops [Zn 17 5 9 .eql,Za 16 17]) (.cond (.t 16) (.seq quk qu0) (.seq (.ops [Zn 38 5 10 .eql,Za 37 38]) (.cond (.t 37) (.seq (.seq (.ops [Zc 3 (.int .i64 0)]) (.block 1 (.loop [1,3] (.seq quu (.seq (.block 2 (.seq (.ops [Za 46 3,Zn 47 46 0 .gtr,Za 48 47,Zi 49 1 13 48 true,Ze 50 49 48 true,Zb 51 3 48 true,Zo 52 51 1 .sub 48 true,Zk 53 50 52 17 48 true,Zi 54 53 0 48 true,Ze 55 54 48 true,Zi 56 1 13 48 true,Ze 57 56 48 true,Zb 58 3 48 true,Zk 59 57 58 17 48 true,Zi 60 59 0 48 true,Ze 61 60 48 true,Zm 62 55 61 .geq 48 true,Zv 63 48 62 false,Za 64 63,Zi 65 1 13 64 false,Ze 66 65 64 false,Zb 67 3 64 false,Zk 68 66 67 17 64 false,Zi 69 68 2 64 false,Zg 70 69 15 64 false,ZB 71 984 70 64 false,Zs 72 71 64 false,Zw 73 64 72 true]) (.cond (.t 73) (.seq (.ops [Zc 2 (.bool false)]) .ret) .skip))) (.ops [Za 44 3,Zn 45 44 1 .add,Za 3 45])))))) quQ) .skip)))))))))) qvv)) }
@[go_sem] noncomputable def qu6:ACode:=mkC [] (sub [1,0,0] (q0g Tryz.f85))
@[go_sem] noncomputable def qsh:ACode:=mkC [] (sub [1,1,0,1,0,0,0] (q0g Tryz.f85))
@[go_sem] noncomputable def quv:ACode:=mkC [] (sub [1,1,0,1,0,0,1] (q0g Tryz.f85))
@[go_sem] noncomputable def qsq:ACode:=mkC [] (sub [1,1,1,0,1,0,0,0] (q0g Tryz.f85))
noncomputable def qsk:AFn:={ nt:=122,res:=[.tmp 4],body:=(.seq (.ops [Zx 2 0 13,Zx 3 1 13,Zc 4 (.bool false)]) (.seq (.seq qu6 (.cond (.t 66) (.seq (.ops [Zc 4 (.bool false)]) .ret) .skip)) (.seq (.seq (.ops [Zc 5 (.int .i64 0)]) (.block 0 (.loop [2,3,5] (.seq qsh quv)))) (.seq (.seq (.ops [Zc 6 (.int .i64 0)]) (.block 2 (.loop [2,3,6] (.seq qsq (.seq (.block 3 (.seq (.ops [Zh 93 2 12,Zd 94 93,Za 95 6,Zj 96 94 95 14,Zh 97 96 0,Zd 98 97,Zh 99 3 12,Zd 100 99,Za 101 6,Zj 102 100 101 14,Zh 103 102 0,Zd 104 103,Zl 105 98 104 .neq,Za 106 105,Zi 107 2 12 106 false,Ze 108 107 106 false,Zb 109 6 106 false,Zk 110 108 109 14 106 false,Zi 111 110 1 106 false,Zg 112 111 13 106 false,Zi 113 3 12 106 false,Ze 114 113 106 false,Zb 115 6 106 false,Zk 116 114 115 14 106 false,Zi 117 116 1 106 false,Zg 118 117 13 106 false,ZC 119 29 112 118 106 false,Zs 120 119 106 false,Zw 121 106 120 true]) (.cond (.t 121) (.seq (.ops [Zc 4 (.bool false)]) .ret) .skip))) (.ops [Za 91 6,Zn 92 91 1 .add,Za 6 92])))))) (.seq (.ops [Zc 4 (.bool true)]) .ret))))) }
noncomputable def q0T:AFn:=mkG [[1,2,3,89,90,91],[1,2,105,106,107]] Tryz.f68
noncomputable def qnI:AFn:=mkG [[1,4,16,17,18],[4,39,40,41],[4,10,11,12,39,40,41]] Tryz.f59
noncomputable def qjj:AFn:=mkG [] Tryz.f174
noncomputable def qnF:AFn:=mkG [[2,3,4,7]] Tryz.f84
noncomputable def qbL:AFn:=mkG [[7,38,39,40]] Tryz.f92
noncomputable def qs0:AFn:=mkG [[0,1,5,6],[0,1,5,6]] Tryz.f131
noncomputable def qo1:AFn:=mkG [] Tryz.f77
noncomputable def qrV:AFn:=mkG [[2,3,5]] Tryz.f30
noncomputable def qtF:AFn:=mkG [[2,3,8,9]] Tryz.f63
noncomputable def qe6:AFn:=mkG [] Tryz.f108
noncomputable def qoR:AFn:=mkG [[0,1,4,6]] Tryz.f91
noncomputable def qh9:AFn:=mkG [[1,5,11,12,13]] Tryz.f94
noncomputable def qcI:AFn:=mkG [] Tryz.f79
noncomputable def qr7:AFn:=mkG [[1,3]] Tryz.f163
noncomputable def qvH:AFn:=mkG [[0,3]] Tryz.f118
noncomputable def qxB:AFn:=mkG [] Tryz.f258
noncomputable def qkn:AFn:=mkG [] Tryz.f148
noncomputable def qn8:AFn:=mkG [] Tryz.f22
noncomputable def qlL:AFn:=mkG [] Tryz.f190
noncomputable def qoq:AFn:=mkG [] Tryz.f172
noncomputable def qnD:AFn:=mkG [] Tryz.f239
noncomputable def qgy:AFn:=mkG [] Tryz.f87
noncomputable def qof:AFn:=mkG [] Tryz.f50
noncomputable def qo9:AFn:=mkG [] Tryz.f16
end Ago
