/- The code of functions,taken from the program. -/
import Derived.Test.YtjeahlpkonkjiaaGreatDoorOCodeP
set_option linter.unusedSimpArgs false
set_option linter.unusedVariables false
set_option maxRecDepth 100000
set_option maxHeartbeats 8000000
namespace Ago
open Go.Proofs
@[go_sem] noncomputable def qun:ACode:=mkC [] (sub [1,0,1,0,1,0,0] (q0g Tryz.f60))
@[go_sem] noncomputable def qua:ACode:=mkC [] (sub [1,0,1,0,1,0,1,0] (q0g Tryz.f60))
@[go_sem] noncomputable def qsH:ACode:=mkC [] (sub [1,0,1,0,1,0,1,1,0,0] (q0g Tryz.f60))
@[go_sem] noncomputable def qs6:ACode:=mkC [] (sub [1,0,1,0,1,0,1,1,1,0,1,0,1,0] (q0g Tryz.f60))
@[go_sem] noncomputable def qrO:ACode:=mkC [] (sub [1,0,1,0,1,0,1,1,1,0,1,0,1,1,1,0,0] (q0g Tryz.f60))
@[go_sem] noncomputable def qsD:ACode:=mkC [] (sub [1,0,1,0,1,0,1,1,1,0,1,0,1,1,1,0,1] (q0g Tryz.f60))
@[go_sem] noncomputable def qsi:ACode:=mkC [] (sub [1,0,1,0,1,1,1,0] (q0g Tryz.f60))
@[go_sem] noncomputable def qrB:ACode:=mkC [] (sub [1,0,1,0,1,1,1,1,1,0,0] (q0g Tryz.f60))
@[go_sem] noncomputable def qtb:ACode:=mkC [] (sub [1,0,1,0,1,1,1,1,1,1,1,0,0,0] (q0g Tryz.f60))
@[go_sem] noncomputable def qra:ACode:=mkC [] (sub [1,0,1,0,1,1,1,1,1,1,1,0,0,1,0,0,1,1,0,0,0] (q0g Tryz.f60))
@[go_sem] noncomputable def qqA:ACode:=mkC [] (sub [1,0,1,0,1,1,1,1,1,1,1,0,0,1,0,0,1,1,0,0,1,0] (q0g Tryz.f60))
@[go_sem] noncomputable def qqD:ACode:=mkC [] (sub [1,0,1,0,1,1,1,1,1,1,1,0,1] (q0g Tryz.f60))
noncomputable def q3Y:AFn:={ nt:=150,res:=[.tmp 2],body:=(.seq (.ops [Zx 1 0 15,Zc 2 (.bool false)]) (.seq (.seq (.ops [Zh 8 1 0,Zd 9 8]) (.block 0 (.seq (.ops [Zn 11 9 4 .eql,Za 10 11]) (.cond (.t 10) (.seq qun (.seq qua (.seq (.seq qsH (.cond (.t 51) (.seq (.ops [Zc 2 (.bool false)]) .ret) .skip)) (.seq (.seq (.ops [Zh 52 3 10,Zd 53 52]) (.block 1 (.seq (.ops [Zn 55 53 1 .eql,Za 54 55]) (.cond (.t 54) qs6 (.seq (.ops [Zn 67 53 0 .eql,Za 66 67]) (.cond (.t 66) (.seq qrO qsD) .skip)))))) (.seq (.ops [Zc 2 (.bool false)]) .ret))))) (.seq (.ops [Zn 84 9 5 .eql,Za 83 84]) (.cond (.t 83) qsi (.seq (.ops [Zn 89 9 9 .eql,Za 88 89]) (.cond (.t 88) (.seq qrB .ret) (.seq (.ops [Zn 114 9 10 .eql,Za 113 114]) (.cond (.t 113) (.seq (.seq qtb (.block 2 (.loop [1,116,117,118] (.seq (.ops [Zl 119 118 117 .lss]) (.seq (.cond (.t 119) .skip (.exit 2)) (.seq (.block 3 (.seq qra (.seq qqA (.cond (.t 142) (.seq (.ops [Zc 2 (.bool false)]) .ret) .skip)))) (.ops [Zn 143 118 1 .add,Za 118 143]))))))) qqD) .skip)))))))))) (.seq (.ops [Zc 2 (.bool true)]) .ret))) }
@[go_sem] noncomputable def qx5:ACode:=mkC [] (sub [1,0] (q0g Tryz.f4))
@[go_sem] noncomputable def qx0:ACode:=mkC [] (sub [1,1,0] (q0g Tryz.f4))
@[go_sem] noncomputable def qwI:ACode:=mkC [] (sub [1,1,1,0] (q0g Tryz.f4))
noncomputable def qsF:AFn:={ nt:=55,res:=[.tmp 4],body:=(.seq (.ops [Zx 2 0 15,Zx 3 1 15,Zc 4 (.bool false)]) (.seq qx5 (.seq qx0 (.seq qwI (.seq (.ops [Zf 30 2 15,Zy 31 972 30,Zf 32 2 15,Zy 33 973 32,
 xP 34 (.eqB false) [.t 31,.t 33],Za 35 34,Zg 36 3 15 35 true,ZB 37 972 36 35 true,Zg 38 3 15 35 true,ZB 39 973 38 35 true,
 yP 40 (.eqB false) [.t 37,.t 39] 35 true,Zv 41 35 40 false,Za 42 41,Zb 43 5 42 true,Zb 44 7 42 true,
 yP 45 (.eqB false) [.t 43,.t 44] 42 true,Zv 46 42 45 false,Za 47 46,Zb 48 6 47 true,Zb 49 8 47 true,Zm 50 48 49 .eql 47 true,Zv 51 47 50 false,Za 52 51,
 yK 53 963 [] 52 true,Zv 54 52 53 false,Za 4 54]) .ret))))) }
noncomputable def qus:AFn:=mkG [] Tryz.f162
noncomputable def qjP:AFn:=mkG [] Tryz.f237
noncomputable def qxQ:AFn:=mkG [] Tryz.f161
noncomputable def qxY:AFn:=mkG [] Tryz.f244
noncomputable def qkN:AFn:=mkG [] Tryz.f194
noncomputable def qeS:AFn:=mkG [] Tryz.f156
noncomputable def qdE:AFn:=mkG [] Tryz.f236
noncomputable def qsA:AFn:=mkG [[1,3,4]] Tryz.f34
noncomputable def qj6:AFn:=mkG [[3,8,9,10]] Tryz.f110
noncomputable def qrF:AFn:=mkG [] Tryz.f241
noncomputable def quZ:AFn:=mkG [[0,4,5]] Tryz.f95
noncomputable def qr1:AFn:=mkG [] Tryz.f90
noncomputable def qum:AFn:=mkG [] Tryz.f9
noncomputable def quG:AFn:=mkG [] Tryz.f26
noncomputable def qnf:AFn:=mkG [[0,3]] Tryz.f75
noncomputable def qo6:AFn:=mkG [[0,1]] Tryz.f251
noncomputable def qkd:AFn:=mkG [] Tryz.f119
noncomputable def qxA:AFn:=mkG [] Tryz.f260
noncomputable def qcY:AFn:=mkG [] Tryz.f6
noncomputable def qhv:AFn:=mkG [] Tryz.f35
noncomputable def qfw:AFn:=mkG [] Tryz.f89
noncomputable def qjM:AFn:=mkG [] Tryz.f69
noncomputable def qtX:AFn:=mkG [] Tryz.f129
end Ago
