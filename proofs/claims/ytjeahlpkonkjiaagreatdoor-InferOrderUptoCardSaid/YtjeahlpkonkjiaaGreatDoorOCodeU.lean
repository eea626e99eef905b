/- The code of functions,taken from the program. -/
import Derived.Test.YtjeahlpkonkjiaaGreatDoorOCodeP
set_option linter.unusedSimpArgs false
set_option linter.unusedVariables false
set_option maxRecDepth 100000
set_option maxHeartbeats 8000000
namespace Ago
open Go.Proofs
@[go_sem] noncomputable def qsa:ACode:=mkC [] (sub [1,1,0,0,0,0] (q0g Tryz.f80))
@[go_sem] noncomputable def qvm:ACode:=mkC [] (sub [1,1,0,0,0,1,0,1,0,0,0] (q0g Tryz.f80))
@[go_sem] noncomputable def qrL:ACode:=mkC [] (sub [1,1,0,0,0,1,0,1,0,0,1] (q0g Tryz.f80))
@[go_sem] noncomputable def quM:ACode:=mkC [] (sub [1,1,0,0,0,1,0,1,1,1,0,1,0,0] (q0g Tryz.f80))
@[go_sem] noncomputable def qsX:ACode:=mkC [] (sub [1,1,0,0,0,1,0,1,1,1,0,1,1,1,0,0] (q0g Tryz.f80))
@[go_sem] noncomputable def qvc:ACode:=mkC [] (sub [1,1,0,0,0,1,0,1,1,1,0,1,1,1,1,1] (q0g Tryz.f80))
noncomputable def qmv:AFn:={ nt:=99,res:=[.tmp 4],body:=(.seq (.ops [Zc 4 (.snil 17)]) (.seq (.ops [Zc 5 (.snil 17)]) (.seq (.block 0 (.loop [0,1,5] (.seq qsa (.block 1 (.seq (.ops [Zc 6 (.int .i64 0)]) (.seq (.block 2 (.seq qvm qrL)) (.seq (.ops [Za 32 6]) (.block 3 (.seq (.ops [Zn 65 32 (-1) .eql,Za 64 65]) (.cond (.t 64) (.seq quM (.ops [Za 79 0,
 xP 80 (.sliceL 17 true false false) [.t 79,.c (.int .i64 1)],Za 0 80])) (.seq (.ops [Zn 82 32 1 .eql,Za 81 82]) (.cond (.t 81) (.seq qsX (.ops [Za 96 1,
 xP 97 (.sliceL 17 true false false) [.t 96,.c (.int .i64 1)],Za 1 97])) (.seq (.draw 1 [[Za 33 5,Za 34 0,
 xP 35 (.iaddrS 17) [.t 34,.c (.int .i64 0)],Zh 36 35 0,Zd 37 36,Za 38 0,
 xP 39 (.iaddrS 17) [.t 38,.c (.int .i64 0)],Zh 40 39 1,Zd 41 40,Za 42 41,Zb 43 1 42 true,
 yP 44 (.iaddrS 17) [.t 43,.c (.int .i64 0)] 42 true,Zi 45 44 1 42 true,Ze 46 45 42 true,Zv 47 42 46 false,Za 48 0,
 xP 49 (.iaddrS 17) [.t 48,.c (.int .i64 0)],Zh 50 49 2,Zf 51 50 15,Za 52 1,
 xP 53 (.iaddrS 17) [.t 52,.c (.int .i64 0)],Zh 54 53 2,Zf 55 54 15,Zz 56 974 51 55,
 ⟨some 57,.pure (.build [.str [],.bool false,.int .i64 0,.int .i64 0,.int .i64 0,.int .i64 0,.str [],.snil 11,.int .i64 0,.int .i64 0,.int .i64 0,.int .i64 0,.int .i64 0,.snil 6,.snil 13,.snil 17,.snil 15] [(0,1),(1,1),(2,15)]),[.t 37,.t 47,.t 56],none⟩,
 ⟨some 58,.newAt 0 (.buildSlice 17 [.agg [.str [],.bool false,.int .i64 0,.int .i64 0,.int .i64 0,.int .i64 0,.str [],.snil 11,.int .i64 0,.int .i64 0,.int .i64 0,.int .i64 0,.int .i64 0,.snil 6,.snil 13,.snil 17,.snil 15]] [0]),[.t 57],none⟩,
 ⟨some 59,.eff (.append 17 232),[.t 33,.t 58],none⟩,Za 5 59]]) qvc))))))))))))) (.seq (.ops [Za 98 5,Za 4 98]) .ret)))) }
@[go_sem] noncomputable def qtu:ACode:=mkC [] (sub [1,0,1,0,1,0] (q0g Tryz.f47))
@[go_sem] noncomputable def quT:ACode:=mkC [] (sub [1,0,1,0,1,1,1,0] (q0g Tryz.f47))
@[go_sem] noncomputable def qtC:ACode:=mkC [] (sub [1,0,1,0,1,1,1,1,1,0,0] (q0g Tryz.f47))
@[go_sem] noncomputable def qtd:ACode:=mkC [] (sub [1,0,1,0,1,1,1,1,1,1] (q0g Tryz.f47))
noncomputable def qtU:AFn:={ nt:=62,res:=[.cell 4 (some 15)],body:=(.seq (.ops [Zx 2 0 15,Zx 3 1 15,
 ⟨some 4,.new (.new 15 [.agg [.int .i64 0,.int .i64 0,.int .i64 0,.int .i64 0,.str [],.snil 11,.int .i64 0,.int .i64 0,.int .i64 0,.int .i64 0,.int .i64 0,.snil 6,.snil 13,.snil 17,.snil 15]]),[],none⟩]) (.seq (.seq (.ops [Zh 5 2 0,Zd 6 5]) (.block 0 (.seq (.ops [Zn 8 6 4 .eql,Za 7 8]) (.cond (.t 7) qtu (.seq (.ops [Zn 16 6 5 .eql,Za 15 16]) (.cond (.t 15) quT (.seq (.ops [Zn 29 6 9 .eql,Za 28 29]) (.cond (.t 28) (.seq qtC .ret) qtd)))))))) (.seq (.ops [Zf 61 2 15,Zu 4 61 15]) .ret))) }
noncomputable def qbn:AFn:=mkG [[2,3,55,56,57],[2,3,77,78,79]] Tryz.f37
noncomputable def qoi:AFn:=mkG [[1,3,4,5,16,17,18],[1,3,4,5,7,16,17,18,42,43,44]] Tryz.f31
noncomputable def qro:AFn:=mkG [[1,2,4,5,21,22,23],[1,2,4,5,8,36,37,38]] Tryz.f217
noncomputable def qjI:AFn:=mkG [] Tryz.f107
noncomputable def qrP:AFn:=mkG [[1,2,7,8,9],[1,2,7,8,9,10,11]] Tryz.f130
noncomputable def qsK:AFn:=mkG [[0,2,3,35,36,37]] Tryz.f96
noncomputable def qmt:AFn:=mkG [] Tryz.f193
noncomputable def qlG:AFn:=mkG [[0,1,5,6,7,17,18]] Tryz.f255
noncomputable def qkj:AFn:=mkG [[3,11,12,13]] Tryz.f32
noncomputable def quH:AFn:=mkG [[1,2,4,6]] Tryz.f46
noncomputable def qa7:AFn:=mkG [[1,5,6]] Tryz.f18
noncomputable def qtf:AFn:=mkG [[0,3,4]] Tryz.f116
noncomputable def qk0:AFn:=mkG [] Tryz.f98
noncomputable def qnx:AFn:=mkG [[0,3]] Tryz.f15
noncomputable def qak:AFn:=mkG [[0,1,7,8]] Tryz.f86
noncomputable def qqh:AFn:=mkG [] Tryz.f196
noncomputable def q7w:AFn:=mkG [] Tryz.f134
noncomputable def qgQ:AFn:=mkG [] Tryz.f13
noncomputable def qot:AFn:=mkG [] Tryz.f202
noncomputable def qxz:AFn:=mkG [] Tryz.f167
noncomputable def qsc:AFn:=mkG [] Tryz.f83
noncomputable def qkm:AFn:=mkG [] Tryz.f36
noncomputable def qcT:AFn:=mkG [] Tryz.f88
noncomputable def qo4:AFn:=mkG [] Tryz.f122
end Ago
