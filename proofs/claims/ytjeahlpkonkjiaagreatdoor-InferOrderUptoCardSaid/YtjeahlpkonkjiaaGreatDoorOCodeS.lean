/- The code of functions,taken from the program. -/
import Derived.Test.YtjeahlpkonkjiaaGreatDoorOCodeP
set_option linter.unusedSimpArgs false
set_option linter.unusedVariables false
set_option maxRecDepth 100000
set_option maxHeartbeats 8000000
namespace Ago
open Go.Proofs
@[go_sem] noncomputable def qtT:ACode:=mkC [] (sub [1,0,1,0,1,0,0] (q0g Tryz.f52))
@[go_sem] noncomputable def qsW:ACode:=mkC [] (sub [1,0,1,0,1,0,1,0] (q0g Tryz.f52))
@[go_sem] noncomputable def quf:ACode:=mkC [] (sub [1,0,1,0,1,1,1,0] (q0g Tryz.f52))
@[go_sem] noncomputable def qrH:ACode:=mkC [] (sub [1,0,1,0,1,1,1,1,1,1,1,0,0,0] (q0g Tryz.f52))
@[go_sem] noncomputable def qso:ACode:=mkC [] (sub [1,0,1,0,1,1,1,1,1,1,1,0,0,1,0,0,1,1,0,0,0] (q0g Tryz.f52))
@[go_sem] noncomputable def quz:ACode:=mkC [] (sub [1,0,1,0,1,1,1,1,1,1,1,0,0,1,0,0,1,1,0,0,1,0] (q0g Tryz.f52))
@[go_sem] noncomputable def qsv:ACode:=mkC [] (sub [1,0,1,0,1,1,1,1,1,1,1,0,1,0] (q0g Tryz.f52))
@[go_sem] noncomputable def qvj:ACode:=mkC [[2,140,141,142]] (sub [1,0,1,0,1,1,1,1,1,1,1,0,1,1] (q0g Tryz.f52))
noncomputable def q82:AFn:={ nt:=156,res:=[.tmp 4],body:=(.seq (.ops [Zx 2 0 15,Zx 3 1 15,Zc 4 (.bool false)]) (.seq (.seq (.ops [Zh 12 2 0,Zd 13 12]) (.block 0 (.seq (.ops [Zn 15 13 4 .eql,Za 14 15]) (.cond (.t 14) (.seq qtT (.seq qsW .ret)) (.seq (.ops [Zn 55 13 5 .eql,Za 54 55]) (.cond (.t 54) quf (.seq (.ops [Zn 69 13 9 .eql,Za 68 69]) (.cond (.t 68) (.seq (.ops [Zh 70 2 2,Zd 71 70,Zh 72 3 2,Zd 73 72,Zl 74 71 73 .geq,Za 75 74,Zi 76 2 3 75 true,Ze 77 76 75 true,Zi 78 3 3 75 true,Ze 79 78 75 true,Zm 80 77 79 .leq 75 true,Zv 81 75 80 false,Za 82 81,Zi 83 2 3 82 true,Ze 84 83 82 true,Zo 85 84 0 .eql 82 true,Zb 86 85 82 true,Zi 87 2 14 86 false,Ze 88 87 86 false,
 yP 89 (.iaddrS 15) [.t 88,.c (.int .i64 0)] 86 false,Zg 90 89 15 86 false,Zi 91 3 14 86 false,Ze 92 91 86 false,
 yP 93 (.iaddrS 15) [.t 92,.c (.int .i64 0)] 86 false,Zg 94 93 15 86 false,ZC 95 981 90 94 86 false,
 yP 96 .pick [.t 86,.c (.bool true),.t 95] 82 true,Zv 97 82 96 false,Za 4 97]) .ret) (.seq (.ops [Zn 99 13 10 .eql,Za 98 99]) (.cond (.t 98) (.seq (.seq qrH (.block 1 (.loop [2,3,101,102,103] (.seq (.ops [Zl 104 103 102 .lss]) (.seq (.cond (.t 104) .skip (.exit 1)) (.seq (.block 2 (.seq qso (.seq quz (.seq (.ops [Za 111 9,Zn 112 111 0 .lss,Za 113 112,Zi 114 8 2 113 false,Zg 115 114 15 113 false,Zi 116 3 13 113 false,Ze 117 116 113 false,Zb 118 9 113 false,Zk 119 117 118 17 113 false,Zi 120 119 2 113 false,Zg 121 120 15 113 false,ZC 122 981 115 121 113 false,Zs 123 122 113 false,Zw 124 113 123 true,Za 125 124,Zi 126 3 13 125 false,Ze 127 126 125 false,Zb 128 9 125 false,Zk 129 127 128 17 125 false,Zi 130 129 1 125 false,Ze 131 130 125 false,Zb 132 131 125 false,Zi 133 8 1 132 true,Ze 134 133 132 true,Zs 135 134 132 true,
 yP 136 .pick [.t 132,.t 135,.c (.bool false)] 125 false,Zw 137 125 136 true]) (.cond (.t 137) (.seq (.ops [Zc 4 (.bool false)]) .ret) .skip))))) (.ops [Zn 138 103 1 .add,Za 103 138]))))))) (.seq qsv qvj)) .skip)))))))))) (.seq (.ops [Zc 4 (.bool true)]) .ret))) }
noncomputable def qo8:AFn:=mkG [] Tryz.f7
noncomputable def qcR:AFn:=mkG [[2,3,4,5,6]] Tryz.f25
noncomputable def qsw:AFn:=mkG [[2,3,4,5,6]] Tryz.f27
noncomputable def qgE:AFn:=qxH [[1,2,3,18,19,20],[2,3,39,40,41]] Tryz.f43
noncomputable def qk3:AFn:=mkG [[0,2,14,15,16],[2,7,28,29,30]] Tryz.f17
noncomputable def qc6:AFn:=mkG [] Tryz.f160
noncomputable def qxy:AFn:=mkG [[0,3],[0,3,4]] Tryz.f245
noncomputable def qhO:AFn:=mkG [] Tryz.f240
noncomputable def qvo:AFn:=mkG [] Tryz.f3
noncomputable def qxS:AFn:=mkG [] Tryz.f242
noncomputable def qlF:AFn:=mkG [[0,1,2,6,10,11]] Tryz.f218
noncomputable def qt2:AFn:=mkG [[1,2,5]] Tryz.f197
noncomputable def qm8:AFn:=mkG [[1,3,4]] Tryz.f39
noncomputable def qsV:AFn:=mkG [[0,2,3]] Tryz.f269
noncomputable def qxF:AFn:=mkG [[0,3]] Tryz.f270
noncomputable def qmC:AFn:=mkG [[0,1]] Tryz.f203
noncomputable def qxx:AFn:=mkG [[0,3,4]] Tryz.f150
noncomputable def qxC:AFn:=mkG [] Tryz.f195
noncomputable def qkg:AFn:=mkG [] Tryz.f268
noncomputable def qaZ:AFn:=mkG [] Tryz.f136
noncomputable def qor:AFn:=mkG [] Tryz.f200
noncomputable def qhy:AFn:=mkG [] Tryz.f23
noncomputable def qnO:AFn:=mkG [] Tryz.f135
noncomputable def qqz:AFn:=mkG [] Tryz.f132
noncomputable def qvE:AFn:=mkG [] Tryz.f113
end Ago
