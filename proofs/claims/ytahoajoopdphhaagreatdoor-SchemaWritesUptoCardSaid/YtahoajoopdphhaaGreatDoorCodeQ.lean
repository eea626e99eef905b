/- The code of functions,taken from the program. -/
import Derived.Test.YtahoajoopdphhaaGreatDoorCodeP
set_option linter.unusedSimpArgs false
set_option linter.unusedVariables false
set_option maxRecDepth 100000
set_option maxHeartbeats 8000000
namespace Ago
open Go.Proofs
@[go_sem] noncomputable def qsr:ACode:=mkC [] (sub [1,1,1,0,1,0,0] (q0I Tryz.f30))
@[go_sem] noncomputable def qtb:ACode:=mkC [] (sub [1,1,1,0,1,0,1,0] (q0I Tryz.f30))
@[go_sem] noncomputable def qrX:ACode:=mkC [] (sub [1,1,1,0,1,0,1,1,1,0,0,1,0,0,1,1,0,0,1,0] (q0I Tryz.f30))
@[go_sem] noncomputable def qt3:ACode:=mkC [] (sub [1,1,1,0,1,0,1,1,1,0,0,1,0,0,1,1,0,0,1,1,0] (q0I Tryz.f30))
@[go_sem] noncomputable def qtZ:ACode:=mkC [] (sub [1,1,1,0,1,0,1,1,1,1,1,0,0,0] (q0I Tryz.f30))
@[go_sem] noncomputable def qsB:ACode:=mkC [] (sub [1,1,1,0,1,0,1,1,1,1,1,0,0,1,0,0,1,1,0,0,0] (q0I Tryz.f30))
@[go_sem] noncomputable def qu5:ACode:=mkC [] (sub [1,1,1,0,1,0,1,1,1,1,1,0,0,1,0,0,1,1,0,0,1] (q0I Tryz.f30))
@[go_sem] noncomputable def qrM:ACode:=mkC [] (sub [1,1,1,0,1,0,1,1,1,1,1,1,1,0] (q0I Tryz.f30))
@[go_sem] noncomputable def qsy:ACode:=mkC [] (sub [1,1,1,0,1,0,1,1,1,1,1,1,1,1,1,0] (q0I Tryz.f30))
@[go_sem] noncomputable def qps:ACode:=mkC [] (sub [1,1,1,0,1,0,1,1,1,1,1,1,1,1,1,1,1,0] (q0I Tryz.f30))
@[go_sem] noncomputable def qq9:ACode:=mkC [] (sub [1,1,1,0,1,0,1,1,1,1,1,1,1,1,1,1,1,1,1,0,0,0] (q0I Tryz.f30))
@[go_sem] noncomputable def qpv:ACode:=mkC [] (sub [1,1,1,0,1,0,1,1,1,1,1,1,1,1,1,1,1,1,1,0,0,1,0,0,1,1,0,0,0] (q0I Tryz.f30))
@[go_sem] noncomputable def qqs:ACode:=mkC [] (sub [1,1,1,0,1,0,1,1,1,1,1,1,1,1,1,1,1,1,1,0,0,1,0,0,1,1,0,0,1] (q0I Tryz.f30))
@[go_sem] noncomputable def qp6:ACode:=mkC [] (sub [1,1,1,0,1,0,1,1,1,1,1,1,1,1,1,1,1,1,1,1,1,0] (q0I Tryz.f30))
@[go_sem] noncomputable def qqy:ACode:=mkC [] (sub [1,1,1,0,1,0,1,1,1,1,1,1,1,1,1,1,1,1,1,1,1,1,1,0,0,0] (q0I Tryz.f30))
@[go_sem] noncomputable def qqC:ACode:=mkC [] (sub [1,1,1,0,1,0,1,1,1,1,1,1,1,1,1,1,1,1,1,1,1,1,1,0,0,1,0,0,1,1,0,0,0] (q0I Tryz.f30))
@[go_sem] noncomputable def qpN:ACode:=mkC [] (sub [1,1,1,0,1,0,1,1,1,1,1,1,1,1,1,1,1,1,1,1,1,1,1,0,0,1,0,0,1,1,0,0,1] (q0I Tryz.f30))
@[go_sem] noncomputable def qpu:ACode:=mkC [] (sub [1,1,1,0,1,0,1,1,1,1,1,1,1,1,1,1,1,1,1,1,1,1,1,0,1] (q0I Tryz.f30))
@[go_sem] noncomputable def qrc:ACode:=mkC [] (sub [1,1,1,0,1,0,1,1,1,1,1,1,1,1,1,1,1,1,1,1,1,1,1,1,1,0] (q0I Tryz.f30))
@[go_sem] noncomputable def qqM:ACode:=mkC [] (sub [1,1,1,0,1,0,1,1,1,1,1,1,1,1,1,1,1,1,1,1,1,1,1,1,1,1] (q0I Tryz.f30))
@[go_sem] noncomputable def qqd:ACode:=mkC [] (sub [1,1,1,1] (q0I Tryz.f30))
noncomputable def q3c:AFn:={ nt:=194,res:=[.cell 2 (some 13)],body:=(.seq (.ops [Zx 1 0 15,
 xN 2 13 z0]) (.seq (.ops [⟨some 12,.pure (.build [.int .i64 0,.bool false,.bool false,.str [],.int .i64 0,.int .i64 0,.int .i64 0,.int .i64 0,.int .i64 0,.str [],.snil 1,.snil 13,.snil 14] [(0,1)]),[.c (.int .i64 6)],none⟩,
 xN 3 13 z0,Zu 3 12 13]) (.seq (.ops [xP 13 (.mkfn 568) [.t 3],Za 4 13]) (.seq (.seq (.ops [Zh 14 1 0,Zd 15 14]) (.block 0 (.seq qsr (.cond (.t 16) qtb (.seq (.ops [Zn 24 15 3 .eql,Za 23 24]) (.cond (.t 23) (.seq (.seq (.ops [Zc 25 (.int .i64 0)]) (.block 1 (.loop [1,2,3,25] (.seq (.ops [Zn 26 25 8 .lss]) (.seq (.cond (.t 26) .skip (.exit 1)) (.seq (.block 2 (.seq (.ops [Za 27 25,Za 5 27]) (.seq qrX (.cond (.t 34) qt3 .skip)))) (.ops [Zn 45 25 1 .add,Za 25 45]))))))) (.seq (.ops [Zf 46 3 13,
 ⟨some 47,.pcall 570,[.c (.str [107,105,110,100,115]),.t 46],none⟩,Zu 2 47 13]) .ret)) (.seq (.ops [Zn 49 15 4 .eql,Za 48 49]) (.cond (.t 48) (.seq (.seq qtZ (.block 3 (.loop [2,3,52,53,54] (.seq (.ops [Zl 55 54 53 .lss]) (.seq (.cond (.t 55) .skip (.exit 3)) (.seq (.block 4 (.seq qsB qu5)) (.ops [Zn 67 54 1 .add,Za 54 67]))))))) (.seq (.ops [Zf 68 3 13,
 ⟨some 69,.pcall 570,[.c (.str [110,117,109,98,101,114]),.t 68],none⟩,Zu 2 69 13]) .ret)) (.seq (.ops [Zn 71 15 5 .eql,Za 70 71]) (.cond (.t 70) qrM (.seq (.ops [Zn 82 15 6 .eql,Za 81 82]) (.cond (.t 81) qsy (.seq (.ops [Zn 89 15 7 .eql,Za 88 89]) (.cond (.t 88) qps (.seq (.ops [Zn 95 15 8 .eql,Za 94 95]) (.cond (.t 94) (.seq (.seq qq9 (.block 5 (.loop [2,3,97,98,99] (.seq (.ops [Zl 100 99 98 .lss]) (.seq (.cond (.t 100) .skip (.exit 5)) (.seq (.block 6 (.seq qpv qqs)) (.ops [Zn 112 99 1 .add,Za 99 112]))))))) (.seq (.ops [Zf 113 3 13,
 ⟨some 114,.pcall 570,[.c (.str [118,97,108,117,101,115]),.t 113],none⟩,Zu 2 114 13]) .ret)) (.seq (.ops [Zn 116 15 9 .eql,Za 115 116]) (.cond (.t 115) qp6 (.seq (.ops [Zn 132 15 10 .eql,Za 131 132]) (.cond (.t 131) (.seq (.seq qqy (.block 7 (.loop [1,2,3,134,135,136] (.seq (.ops [Zl 137 136 135 .lss]) (.seq (.cond (.t 137) .skip (.exit 7)) (.seq (.block 8 (.seq qqC qpN)) (.ops [Zn 158 136 1 .add,Za 136 158]))))))) qpu) (.seq (.ops [Zn 169 15 11 .eql,Za 168 169]) (.cond (.t 168) qrc qqM)))))))))))))))))))))) qqd)))) }
noncomputable def qhB:AFn:=mkG [] Tryz.f3
noncomputable def qtJ:AFn:=mkG [[0,4,5]] Tryz.f60
noncomputable def qj9:AFn:=mkG [[1,5,11,12,13]] Tryz.f154
noncomputable def qm3:AFn:=mkG [] Tryz.f174
noncomputable def qnc:AFn:=mkG [[0,3]] Tryz.f150
noncomputable def qne:AFn:=mkG [] Tryz.f39
noncomputable def qsR:AFn:=mkG [] Tryz.f205
noncomputable def qjL:AFn:=mkG [] Tryz.f72
noncomputable def qtw:AFn:=mkG [] Tryz.f19
noncomputable def qkR:AFn:=mkG [] Tryz.f167
noncomputable def qjr:AFn:=mkG [] Tryz.f16
noncomputable def qmH:AFn:=mkG [] Tryz.f88
end Ago
