/- The code of functions,taken from the program. -/
import Derived.Test.YtjeahlpkonkjiaaGreatDoorOCodeP
set_option linter.unusedSimpArgs false
set_option linter.unusedVariables false
set_option maxRecDepth 100000
set_option maxHeartbeats 8000000
namespace Ago
open Go.Proofs
@[go_sem] noncomputable def qtz:ACode:=mkC [] (sub [1,0,1,0,1,0,0] (q0g Tryz.f54))
@[go_sem] noncomputable def qtv:ACode:=mkC [] (sub [1,0,1,0,1,0,1,0] (q0g Tryz.f54))
@[go_sem] noncomputable def qt0:ACode:=mkC [] (sub [1,0,1,0,1,1,1,0] (q0g Tryz.f54))
@[go_sem] noncomputable def qtw:ACode:=mkC [] (sub [1,0,1,0,1,1,1,1,1,1,1,0,0,1,0,0,0] (q0g Tryz.f54))
@[go_sem] noncomputable def qsL:ACode:=mkC [] (sub [1,0,1,0,1,1,1,1,1,1,1,0,0,1,0,0,1,0,0,0] (q0g Tryz.f54))
@[go_sem] noncomputable def qsl:ACode:=mkC [] (sub [1,0,1,0,1,1,1,1,1,1,1,0,1,1,0,0,0] (q0g Tryz.f54))
@[go_sem] noncomputable def qts:ACode:=mkC [] (sub [1,0,1,0,1,1,1,1,1,1,1,0,1,1,0,0,1,0,0,0] (q0g Tryz.f54))
@[go_sem] noncomputable def qs3:ACode:=mkC [] (sub [1,0,1,0,1,1,1,1,1,1,1,0,1,1,0,0,1,0,0,1] (q0g Tryz.f54))
noncomputable def qrE:AFn:={ nt:=176,res:=[.tmp 4],body:=(.seq (.ops [Zx 2 0 15,Zx 3 1 15,Zc 4 (.bool false)]) (.seq (.seq (.ops [Zh 13 2 0,Zd 14 13]) (.block 0 (.seq (.ops [Zn 16 14 4 .eql,Za 15 16]) (.cond (.t 15) (.seq qtz (.seq qtv .ret)) (.seq (.ops [Zn 56 14 5 .eql,Za 55 56]) (.cond (.t 55) qt0 (.seq (.ops [Zn 70 14 9 .eql,Za 69 70]) (.cond (.t 69) (.seq (.ops [Zh 71 3 2,Zd 72 71,Zh 73 2 2,Zd 74 73,Zl 75 72 74 .leq,Za 76 75,Zi 77 2 3 76 true,Ze 78 77 76 true,Zi 79 3 3 76 true,Ze 80 79 76 true,Zm 81 78 80 .leq 76 true,Zv 82 76 81 false,Za 83 82,Zi 84 2 3 83 true,Ze 85 84 83 true,Zo 86 85 0 .eql 83 true,Zb 87 86 83 true,Zi 88 2 14 87 false,Ze 89 88 87 false,
 yP 90 (.iaddrS 15) [.t 89,.c (.int .i64 0)] 87 false,Zg 91 90 15 87 false,Zi 92 3 14 87 false,Ze 93 92 87 false,
 yP 94 (.iaddrS 15) [.t 93,.c (.int .i64 0)] 87 false,Zg 95 94 15 87 false,ZC 96 982 91 95 87 false,
 yP 97 .pick [.t 87,.c (.bool true),.t 96] 83 true,Zv 98 83 97 false,Za 4 98]) .ret) (.seq (.ops [Zn 100 14 10 .eql,Za 99 100]) (.cond (.t 99) (.seq (.seq (.ops [Zc 7 (.int .i64 0)]) (.block 1 (.loop [2,3,7] (.seq qtw (.seq (.block 2 (.seq qsL (.seq (.ops [Za 120 9,Zr 121 120,Za 122 121,Zi 123 8 1 122 false,Ze 124 123 122 false,Zb 125 124 122 false,Zi 126 2 13 125 true,Ze 127 126 125 true,Zb 128 7 125 true,Zk 129 127 128 17 125 true,Zi 130 129 1 125 true,Ze 131 130 125 true,Zs 132 131 125 true,
 yP 133 .pick [.t 125,.t 132,.c (.bool false)] 122 false,Zw 134 122 133 true,Za 135 134,Zi 136 2 13 135 false,Ze 137 136 135 false,Zb 138 7 135 false,Zk 139 137 138 17 135 false,Zi 140 139 2 135 false,Zg 141 140 15 135 false,Zi 142 8 2 135 false,Zg 143 142 15 135 false,ZC 144 982 141 143 135 false,Zs 145 144 135 false,Zw 146 135 145 true]) (.cond (.t 146) (.seq (.ops [Zc 4 (.bool false)]) .ret) .skip)))) (.ops [Za 106 7,Zn 107 106 1 .add,Za 7 107])))))) (.seq (.ops [Zc 10 (.int .i64 0)]) (.block 3 (.loop [2,3,10] (.seq qsl (.seq (.block 4 (.seq qts qs3)) (.ops [Za 152 10,Zn 153 152 1 .add,Za 10 153]))))))) .skip)))))))))) (.seq (.ops [Zc 4 (.bool true)]) .ret))) }
noncomputable def quI:AFn:=mkG [] Tryz.f223
noncomputable def qs9:AFn:=mkG [[1,3,4,5],[1,3,4,5,6,7]] Tryz.f33
noncomputable def qmk:AFn:=mkG [[1,2,22,23],[1,2,43,44],[1,2,66,67]] Tryz.f155
noncomputable def qxE:AFn:=mkG [] Tryz.f243
noncomputable def qri:AFn:=mkG [[1,2,3,7],[1,2,3,8]] Tryz.f106
noncomputable def qop:AFn:=mkG [] Tryz.f170
noncomputable def qoY:AFn:=mkG [] Tryz.f133
noncomputable def qkB:AFn:=mkG [[1,9,10,11]] Tryz.f51
noncomputable def qtG:AFn:=mkG [[0,1,5,6,7,8]] Tryz.f76
noncomputable def qsx:AFn:=mkG [[1,2,4,6]] Tryz.f102
noncomputable def qxM:AFn:=mkG [[0,4,5]] Tryz.f100
noncomputable def qeL:AFn:=mkG [[1,15,16,17]] Tryz.f182
noncomputable def qrS:AFn:=mkG [] Tryz.f164
noncomputable def qbA:AFn:=mkG [[10,11,12]] Tryz.f151
noncomputable def qrn:AFn:=mkG [] Tryz.f73
noncomputable def quW:AFn:=mkG [[0,3]] Tryz.f257
noncomputable def qtB:AFn:=mkG [[0,1,5]] Tryz.f103
noncomputable def qjw:AFn:=mkG [] Tryz.f158
noncomputable def qqr:AFn:=mkG [] Tryz.f222
noncomputable def qxw:AFn:=mkG [] Tryz.f259
noncomputable def qjY:AFn:=mkG [] Tryz.f152
noncomputable def qxU:AFn:=mkG [] Tryz.f62
noncomputable def qv0:AFn:=mkG [] Tryz.f187
noncomputable def qsb:AFn:=mkG [] Tryz.f166
noncomputable def qnQ:AFn:=mkG [] Tryz.f74
end Ago
