/- The functions of the program,compiled: those of the table,and the others as they are compiled. -/
import Derived.Test.YtjeahlpkonkjiaaGreatDoorRows
import Derived.Test.YtjeahlpkonkjiaaGreatDoorMachD
import Derived.Test.YtjeahlpkonkjiaaGreatDoorMachE
import Derived.Test.YtjeahlpkonkjiaaGreatDoorMachH
import Derived.Test.YtjeahlpkonkjiaaGreatDoorCodeI
import Derived.Test.YtjeahlpkonkjiaaGreatDoorShelf
import Derived.Shelf.Utf8.RuneCount
set_option linter.unusedSimpArgs false
set_option linter.unusedVariables false
set_option maxRecDepth 100000
set_option maxHeartbeats 8000000
namespace Go.Proofs.YtjeahlpkonkjiaaGreatDoor
open Ago
abbrev CA (p:Nat × Nat):Prop:=CodedAt Tryz.prog (q2b fids) pf qaR p
theorem qow:q2d Tryz.prog (q2b fids) pf 216 (11,104):=fun g hg=>by
  have h:=q0L hg
  have e:g=78:=by simpa [fids] using h
  subst e
  exact ⟨Tryz.f78,22,68,_,_,_,_,_,_,_,_,_,_,_,Tryz.func78,by kernel_rfl,rfl,rfl,rfl,by kernel_rfl,rfl,by kernel_rfl,rfl,rfl,rfl,by kernel_rfl,by kernel_rfl⟩
theorem qkM:q2d Tryz.prog (q2b fids) pf2 216 (11,104):=fun g hg=>by
  have h:=q0L hg
  have e:g=78:=by simpa [fids] using h
  subst e
  exact ⟨Tryz.f78,22,68,_,_,_,_,_,_,_,_,_,_,_,Tryz.func78,by kernel_rfl,rfl,rfl,rfl,by kernel_rfl,rfl,by kernel_rfl,rfl,rfl,rfl,by kernel_rfl,by kernel_rfl⟩
theorem qol:q2d Tryz.prog (q2b fids) pf 518 (13,168):=fun g hg=>by
  have h:=q0L hg
  have e:g=186:=by simpa [fids] using h
  subst e
  exact ⟨Tryz.f186,28,52,_,_,_,_,_,_,_,_,_,_,_,Tryz.func186,by kernel_rfl,rfl,rfl,rfl,by kernel_rfl,rfl,by kernel_rfl,rfl,rfl,rfl,by kernel_rfl,by kernel_rfl⟩
theorem qm8:q2d Tryz.prog (q2b fids) pf2 518 (13,168):=fun g hg=>by
  have h:=q0L hg
  have e:g=186:=by simpa [fids] using h
  subst e
  exact ⟨Tryz.f186,28,52,_,_,_,_,_,_,_,_,_,_,_,Tryz.func186,by kernel_rfl,rfl,rfl,rfl,by kernel_rfl,rfl,by kernel_rfl,rfl,rfl,rfl,by kernel_rfl,by kernel_rfl⟩
theorem qpk:q2d Tryz.prog (q2b fids) pf 519 (17,232):=fun g hg=>by
  have h:=q0L hg
  have e:g=188:=by simpa [fids] using h
  subst e
  exact ⟨Tryz.f188,29,70,_,_,_,_,_,_,_,_,_,_,_,Tryz.func188,by kernel_rfl,rfl,rfl,rfl,by kernel_rfl,rfl,by kernel_rfl,rfl,rfl,rfl,by kernel_rfl,by kernel_rfl⟩
theorem qn6:q2d Tryz.prog (q2b fids) pf2 519 (17,232):=fun g hg=>by
  have h:=q0L hg
  have e:g=188:=by simpa [fids] using h
  subst e
  exact ⟨Tryz.f188,29,70,_,_,_,_,_,_,_,_,_,_,_,Tryz.func188,by kernel_rfl,rfl,rfl,rfl,by kernel_rfl,rfl,by kernel_rfl,rfl,rfl,rfl,by kernel_rfl,by kernel_rfl⟩
theorem qou:q2d Tryz.prog (q2b fids) pf 520 (15,208):=fun g hg=>by
  have h:=q0L hg
  have e:g=189:=by simpa [fids] using h
  subst e
  exact ⟨Tryz.f189,30,32,_,_,_,_,_,_,_,_,_,_,_,Tryz.func189,by kernel_rfl,rfl,rfl,rfl,by kernel_rfl,rfl,by kernel_rfl,rfl,rfl,rfl,by kernel_rfl,by kernel_rfl⟩
theorem qln:q2d Tryz.prog (q2b fids) pf2 520 (15,208):=fun g hg=>by
  have h:=q0L hg
  have e:g=189:=by simpa [fids] using h
  subst e
  exact ⟨Tryz.f189,30,32,_,_,_,_,_,_,_,_,_,_,_,Tryz.func189,by kernel_rfl,rfl,rfl,rfl,by kernel_rfl,rfl,by kernel_rfl,rfl,rfl,rfl,by kernel_rfl,by kernel_rfl⟩
theorem qpD:q2d Tryz.prog (q2b fids) pf 566 (6,64):=fun g hg=>by
  have h:=q0L hg
  have e:g=216:=by simpa [fids] using h
  subst e
  exact ⟨Tryz.f216,25,27,_,_,_,_,_,_,_,_,_,_,_,Tryz.func216,by kernel_rfl,rfl,rfl,rfl,by kernel_rfl,rfl,by kernel_rfl,rfl,rfl,rfl,by kernel_rfl,by kernel_rfl⟩
theorem qki:q2d Tryz.prog (q2b fids) pf2 566 (6,64):=fun g hg=>by
  have h:=q0L hg
  have e:g=216:=by simpa [fids] using h
  subst e
  exact ⟨Tryz.f216,25,27,_,_,_,_,_,_,_,_,_,_,_,Tryz.func216,by kernel_rfl,rfl,rfl,rfl,by kernel_rfl,rfl,by kernel_rfl,rfl,rfl,rfl,by kernel_rfl,by kernel_rfl⟩
theorem qpE:q2d Tryz.prog (q2b fids) pf 214 (1,16):=fun g hg=>by
  have h:=q0L hg
  have e:g=97:=by simpa [fids] using h
  subst e
  exact ⟨Tryz.f97,131,9,_,_,_,_,_,_,_,_,_,_,_,Tryz.func97,by kernel_rfl,rfl,rfl,rfl,by kernel_rfl,rfl,by kernel_rfl,rfl,rfl,rfl,by kernel_rfl,by kernel_rfl⟩
theorem qkK:q2d Tryz.prog (q2b fids) pf2 214 (1,16):=fun g hg=>by
  have h:=q0L hg
  have e:g=97:=by simpa [fids] using h
  subst e
  exact ⟨Tryz.f97,131,9,_,_,_,_,_,_,_,_,_,_,_,Tryz.func97,by kernel_rfl,rfl,rfl,rfl,by kernel_rfl,rfl,by kernel_rfl,rfl,rfl,rfl,by kernel_rfl,by kernel_rfl⟩
theorem qsb:q2d Tryz.prog (q2b fids) pf 62 (1,1):=fun g hg=>by
  have h:=q0L hg
  have e:g=235:=by simpa [fids] using h
  subst e
  exact ⟨Tryz.f235,49,5,_,_,_,_,_,_,_,_,_,_,_,Tryz.func235,by kernel_rfl,rfl,rfl,rfl,by kernel_rfl,rfl,by kernel_rfl,rfl,rfl,rfl,by kernel_rfl,by kernel_rfl⟩
theorem qqc:q2d Tryz.prog (q2b fids) pf2 62 (1,1):=fun g hg=>by
  have h:=q0L hg
  have e:g=235:=by simpa [fids] using h
  subst e
  exact ⟨Tryz.f235,49,5,_,_,_,_,_,_,_,_,_,_,_,Tryz.func235,by kernel_rfl,rfl,rfl,rfl,by kernel_rfl,rfl,by kernel_rfl,rfl,rfl,rfl,by kernel_rfl,by kernel_rfl⟩
theorem qhT (q:Nat→Bool):q2d Tryz.prog (q2b fids) q 130 (14,184):=fun g hg=>by
  have h:=q0L hg
  simp [fids] at h
theorem qi1 : ∀ p,p∈fids→CA p:=by
  intro p hp
  simp only[fids,KI,V5,or_false] at hp
  rcases hp with rfl | rfl | rfl | rfl | rfl | rfl | rfl | rfl | rfl | rfl | rfl | rfl | rfl | rfl | rfl | rfl | rfl | rfl | rfl | rfl | rfl | rfl | rfl | rfl | rfl | rfl | rfl | rfl | rfl | rfl | rfl | rfl | rfl | rfl | rfl | rfl | rfl | rfl | rfl | rfl | rfl | rfl | rfl | rfl | rfl | rfl | rfl | rfl | rfl | rfl | rfl | rfl | rfl | rfl | rfl | rfl | rfl | rfl | rfl | rfl | rfl | rfl | rfl | rfl | rfl | rfl | rfl | rfl | rfl | rfl | rfl | rfl | rfl | rfl | rfl | rfl | rfl | rfl | rfl | rfl | rfl | rfl | rfl | rfl | rfl | rfl | rfl | rfl | rfl | rfl | rfl | rfl | rfl | rfl | rfl | rfl | rfl | rfl | rfl | rfl | rfl | rfl | rfl | rfl | rfl | rfl | rfl | rfl | rfl | rfl | rfl | rfl | rfl | rfl | rfl | rfl | rfl | rfl | rfl | rfl | rfl | rfl | rfl | rfl | rfl | rfl | rfl | rfl | rfl | rfl | rfl | rfl | rfl | rfl | rfl | rfl | rfl | rfl | rfl | rfl | rfl | rfl | rfl | rfl | rfl | rfl | rfl | rfl | rfl | rfl | rfl | rfl | rfl | rfl | rfl | rfl | rfl | rfl | rfl | rfl | rfl | rfl | rfl | rfl | rfl | rfl | rfl | rfl | rfl | rfl | rfl | rfl | rfl | rfl | rfl | rfl | rfl | rfl | rfl | rfl | rfl | rfl | rfl | rfl | rfl | rfl | rfl | rfl | rfl | rfl | rfl | rfl | rfl | rfl | rfl | rfl | rfl | rfl | rfl | rfl | rfl | rfl | rfl | rfl | rfl | rfl | rfl | rfl | rfl | rfl | rfl | rfl | rfl | rfl | rfl | rfl | rfl | rfl | rfl | rfl | rfl | rfl | rfl
  · exact q02 (a:=quD) rfl Tryz.func66 (by kernel_rfl) (by kernel_rfl)
  · exact q02 (a:=qvm) rfl Tryz.func167 (by kernel_rfl) (by kernel_rfl)
  · exact q02 (a:=qwR) rfl Tryz.func62 (by kernel_rfl) (by kernel_rfl)
  · exact q02 (a:=qum) rfl Tryz.func187 (by kernel_rfl) (by kernel_rfl)
  · exact q02 (a:=qvn) rfl Tryz.func85 (by kernel_rfl) (by kernel_rfl)
  · exact q02 (a:=qs7) rfl Tryz.func106 (by kernel_rfl) (by kernel_rfl)
  · exact q02 (a:=qqK) rfl Tryz.func198 (by kernel_rfl) (by kernel_rfl)
  · exact q02 (a:=qwx) rfl Tryz.func150 (by kernel_rfl) (by kernel_rfl)
  · exact q02 (a:=qqT) rfl Tryz.func100 (by kernel_rfl) (by kernel_rfl)
  · exact q02 (a:=qt9) rfl Tryz.func217 (by kernel_rfl) (by kernel_rfl)
  · exact q02 (a:=qsg) rfl Tryz.func58 (by kernel_rfl) (by kernel_rfl)
  · exact q02 (a:=qsV) rfl Tryz.func73 (by kernel_rfl) (by kernel_rfl)
  · exact q02 (a:=qig) rfl Tryz.func224 (by kernel_rfl) (by kernel_rfl)
  · exact q02 (a:=qrr) rfl Tryz.func225 (by kernel_rfl) (by kernel_rfl)
  · exact q02 (a:=qsD) rfl Tryz.func258 (by kernel_rfl) (by kernel_rfl)
  · exact q02 (a:=qhG) rfl Tryz.func127 (by kernel_rfl) (by kernel_rfl)
  · exact q02 (a:=quP) rfl Tryz.func95 (by kernel_rfl) (by kernel_rfl)
  · exact q02 (a:=qxk) rfl Tryz.func113 (by kernel_rfl) (by kernel_rfl)
  · exact q02 (a:=quU) rfl Tryz.func243 (by kernel_rfl) (by kernel_rfl)
  · exact q02 (a:=qrT) rfl Tryz.func242 (by kernel_rfl) (by kernel_rfl)
  · exact q02 (a:=qv4) rfl Tryz.func244 (by kernel_rfl) (by kernel_rfl)
  · exact q02 (a:=qwn) rfl Tryz.func245 (by kernel_rfl) (by kernel_rfl)
  · exact q02 (a:=qx2) rfl Tryz.func270 (by kernel_rfl) (by kernel_rfl)
  · exact q02 (a:=qiJ) rfl Tryz.func161 (by kernel_rfl) (by kernel_rfl)
  · exact q02 (a:=qcO) rfl Tryz.func124 (by kernel_rfl) (by kernel_rfl)
  · exact q02 (a:=qwE) rfl Tryz.func118 (by kernel_rfl) (by kernel_rfl)
  · exact q02 (a:=qwo) rfl Tryz.func259 (by kernel_rfl) (by kernel_rfl)
  · exact q02 (a:=qtk) rfl Tryz.func260 (by kernel_rfl) (by kernel_rfl)
  · exact q02 (a:=qu9) rfl Tryz.func195 (by kernel_rfl) (by kernel_rfl)
  · exact q02 (a:=qga) rfl Tryz.func156 (by kernel_rfl) (by kernel_rfl)
  · exact q02 (a:=quG) rfl Tryz.func157 (by kernel_rfl) (by kernel_rfl)
  · exact q02 (a:=qlb) rfl Tryz.func158 (by kernel_rfl) (by kernel_rfl)
  · exact q02 (a:=qn5) rfl Tryz.func36 (by kernel_rfl) (by kernel_rfl)
  · exact q02 (a:=qvS) rfl Tryz.func241 (by kernel_rfl) (by kernel_rfl)
  · exact q02 (a:=q15) rfl Tryz.func68 (by kernel_rfl) (by kernel_rfl)
  · exact q02 (a:=qup) rfl Tryz.func257 (by kernel_rfl) (by kernel_rfl)
  · exact q02 (a:=qnj) rfl Tryz.func237 (by kernel_rfl) (by kernel_rfl)
  · exact q02 (a:=qeq) rfl Tryz.func236 (by kernel_rfl) (by kernel_rfl)
  · exact q02 (a:=qlB) rfl Tryz.func107 (by kernel_rfl) (by kernel_rfl)
  · exact q02 (a:=qfW) rfl Tryz.func108 (by kernel_rfl) (by kernel_rfl)
  · exact q02 (a:=qmX) rfl Tryz.func109 (by kernel_rfl) (by kernel_rfl)
  · exact q02 (a:=qlI) rfl Tryz.func110 (by kernel_rfl) (by kernel_rfl)
  · exact q02 (a:=qw0) rfl Tryz.func269 (by kernel_rfl) (by kernel_rfl)
  · exact q02 (a:=qo4) rfl Tryz.func251 (by kernel_rfl) (by kernel_rfl)
  · exact q02 (a:=qlW) rfl Tryz.func174 (by kernel_rfl) (by kernel_rfl)
  · exact q02 (a:=q84) rfl Tryz.func134 (by kernel_rfl) (by kernel_rfl)
  · exact q02 (a:=qpK) rfl Tryz.func135 (by kernel_rfl) (by kernel_rfl)
  · exact q02 (a:=qcj) rfl Tryz.func136 (by kernel_rfl) (by kernel_rfl)
  · exact q02 (a:=qp0) rfl Tryz.func203 (by kernel_rfl) (by kernel_rfl)
  · exact q02 (a:=qqe) rfl Tryz.func173 (by kernel_rfl) (by kernel_rfl)
  · exact q02 (a:=qqg) rfl Tryz.func21 (by kernel_rfl) (by kernel_rfl)
  · exact q02 (a:=qdo) rfl Tryz.func151 (by kernel_rfl) (by kernel_rfl)
  · exact q02 (a:=qay) rfl Tryz.func125 (by kernel_rfl) (by kernel_rfl)
  · exact q02 (a:=qlz) rfl Tryz.func194 (by kernel_rfl) (by kernel_rfl)
  · exact q02 (a:=ql8) rfl Tryz.func181 (by kernel_rfl) (by kernel_rfl)
  · exact q02 (a:=qd0) rfl Tryz.func159 (by kernel_rfl) (by kernel_rfl)
  · exact q02 (a:=qeS) rfl Tryz.func79 (by kernel_rfl) (by kernel_rfl)
  · exact q02 (a:=qlh) rfl Tryz.func69 (by kernel_rfl) (by kernel_rfl)
  · exact q02 (a:=qkr) rfl Tryz.func119 (by kernel_rfl) (by kernel_rfl)
  · exact q02 (a:=q6o) rfl Tryz.func147 (by kernel_rfl) (by kernel_rfl)
  · exact q02 (a:=qn9) rfl Tryz.func148 (by kernel_rfl) (by kernel_rfl)
  · exact q02 (a:=qlA) rfl Tryz.func165 (by kernel_rfl) (by kernel_rfl)
  · exact q02 (a:=qot) rfl Tryz.func74 (by kernel_rfl) (by kernel_rfl)
  · exact q02 (a:=qlL) rfl Tryz.func152 (by kernel_rfl) (by kernel_rfl)
  · exact q02 (a:=qgC) rfl Tryz.func197 (by kernel_rfl) (by kernel_rfl)
  · exact q02 (a:=qiD) rfl Tryz.func114 (by kernel_rfl) (by kernel_rfl)
  · exact q02 (a:=qfG) rfl Tryz.func182 (by kernel_rfl) (by kernel_rfl)
  · exact q02 (a:=qjF) rfl Tryz.func183 (by kernel_rfl) (by kernel_rfl)
  · exact q02 (a:=qpY) rfl Tryz.func223 (by kernel_rfl) (by kernel_rfl)
  · exact q02 (a:=qqn) rfl Tryz.func215 (by kernel_rfl) (by kernel_rfl)
  · exact q02 (a:=qqa) rfl Tryz.func31 (by kernel_rfl) (by kernel_rfl)
  · exact q02 (a:=qoG) rfl Tryz.func33 (by kernel_rfl) (by kernel_rfl)
  · exact q02 (a:=qnL) rfl Tryz.func123 (by kernel_rfl) (by kernel_rfl)
  · exact q02 (a:=qpl) rfl Tryz.func102 (by kernel_rfl) (by kernel_rfl)
  · exact q02 (a:=qpB) rfl Tryz.func59 (by kernel_rfl) (by kernel_rfl)
  · exact q02 (a:=qpO) rfl Tryz.func64 (by kernel_rfl) (by kernel_rfl)
  · exact q02 (a:=qpn) rfl Tryz.func10 (by kernel_rfl) (by kernel_rfl)
  · exact q02 (a:=qwu) rfl Tryz.func16 (by kernel_rfl) (by kernel_rfl)
  · exact q02 (a:=qq8) rfl Tryz.func19 (by kernel_rfl) (by kernel_rfl)
  · exact q02 (a:=qfi) rfl Tryz.func6 (by kernel_rfl) (by kernel_rfl)
  · exact q02 (a:=qoV) rfl Tryz.func57 (by kernel_rfl) (by kernel_rfl)
  · exact q02 (a:=qf1) rfl Tryz.func55 (by kernel_rfl) (by kernel_rfl)
  · exact q02 (a:=qfL) rfl Tryz.func56 (by kernel_rfl) (by kernel_rfl)
  · exact q02 (a:=qjz) rfl Tryz.func61 (by kernel_rfl) (by kernel_rfl)
  · exact q02 (a:=qfU) rfl Tryz.func63 (by kernel_rfl) (by kernel_rfl)
  · exact q02 (a:=qoC) rfl Tryz.func155 (by kernel_rfl) (by kernel_rfl)
  · exact q02 (a:=qvL) rfl Tryz.func96 (by kernel_rfl) (by kernel_rfl)
  · exact q02 (a:=qon) rfl Tryz.func103 (by kernel_rfl) (by kernel_rfl)
  · exact q02 (a:=qoz) rfl Tryz.func28 (by kernel_rfl) (by kernel_rfl)
  · exact q02 (a:=qtr) rfl Tryz.func35 (by kernel_rfl) (by kernel_rfl)
  · exact q02 (a:=qo9) rfl Tryz.func20 (by kernel_rfl) (by kernel_rfl)
  · exact q02 (a:=qiH) rfl Tryz.func40 (by kernel_rfl) (by kernel_rfl)
  · exact q02 (a:=qb1) rfl Tryz.func18 (by kernel_rfl) (by kernel_rfl)
  · exact q02 (a:=qjU) rfl Tryz.func94 (by kernel_rfl) (by kernel_rfl)
  · exact q02 (a:=quM) rfl Tryz.func130 (by kernel_rfl) (by kernel_rfl)
  · exact q02 (a:=qcE) rfl Tryz.func92 (by kernel_rfl) (by kernel_rfl)
  · exact q02 (a:=qpU) rfl Tryz.func93 (by kernel_rfl) (by kernel_rfl)
  · exact q02 (a:=qpc) rfl Tryz.func39 (by kernel_rfl) (by kernel_rfl)
  · exact q02 (a:=qcT) rfl Tryz.func101 (by kernel_rfl) (by kernel_rfl)
  · exact q02 (a:=qmt) rfl Tryz.func185 (by kernel_rfl) (by kernel_rfl)
  · exact q02 (a:=qus) rfl Tryz.func131 (by kernel_rfl) (by kernel_rfl)
  · exact q02 (a:=ql7) rfl Tryz.func48 (by kernel_rfl) (by kernel_rfl)
  · exact q02 (a:=qje) rfl Tryz.func49 (by kernel_rfl) (by kernel_rfl)
  · exact q02 (a:=qoY) rfl Tryz.func50 (by kernel_rfl) (by kernel_rfl)
  · exact q02 (a:=qj6) rfl Tryz.func23 (by kernel_rfl) (by kernel_rfl)
  · exact q02 (a:=qw1) rfl Tryz.func67 (by kernel_rfl) (by kernel_rfl)
  · exact q02 (a:=qoX) rfl Tryz.func41 (by kernel_rfl) (by kernel_rfl)
  · exact q02 (a:=qof) rfl Tryz.func42 (by kernel_rfl) (by kernel_rfl)
  · exact q02 (a:=qnI) rfl Tryz.func38 (by kernel_rfl) (by kernel_rfl)
  · exact q02 (a:=qaV) rfl Tryz.func121 (by kernel_rfl) (by kernel_rfl)
  · exact q02 (a:=qo3) rfl Tryz.func122 (by kernel_rfl) (by kernel_rfl)
  · exact q02 (a:=qgd) rfl Tryz.func128 (by kernel_rfl) (by kernel_rfl)
  · exact q02 (a:=qnZ) rfl Tryz.func129 (by kernel_rfl) (by kernel_rfl)
  · exact q02 (a:=qiL) rfl Tryz.func84 (by kernel_rfl) (by kernel_rfl)
  · exact q02 (a:=qo5) rfl Tryz.func75 (by kernel_rfl) (by kernel_rfl)
  · exact q02 (a:=qlK) rfl Tryz.func76 (by kernel_rfl) (by kernel_rfl)
  · exact q02 (a:=qaz) rfl Tryz.func77 (by kernel_rfl) (by kernel_rfl)
  · exact q02 (a:=qnf) rfl Tryz.func153 (by kernel_rfl) (by kernel_rfl)
  · exact q02 (a:=qoJ) rfl Tryz.func154 (by kernel_rfl) (by kernel_rfl)
  · exact q02 (a:=qnS) rfl Tryz.func162 (by kernel_rfl) (by kernel_rfl)
  · exact q02 (a:=qmC) rfl Tryz.func163 (by kernel_rfl) (by kernel_rfl)
  · exact q02 (a:=qpH) rfl Tryz.func164 (by kernel_rfl) (by kernel_rfl)
  · exact q02 (a:=qpA) rfl Tryz.func166 (by kernel_rfl) (by kernel_rfl)
  · exact q02 (a:=ql4) rfl Tryz.func168 (by kernel_rfl) (by kernel_rfl)
  · exact q02 (a:=qp7) rfl Tryz.func169 (by kernel_rfl) (by kernel_rfl)
  · exact q02 (a:=qkY) rfl Tryz.func115 (by kernel_rfl) (by kernel_rfl)
  · exact q02 (a:=qnt) rfl Tryz.func116 (by kernel_rfl) (by kernel_rfl)
  · exact q02 (a:=qiW) rfl Tryz.func117 (by kernel_rfl) (by kernel_rfl)
  · exact q02 (a:=qpR) rfl Tryz.func184 (by kernel_rfl) (by kernel_rfl)
  · exact q02 (a:=qfB) rfl Tryz.func196 (by kernel_rfl) (by kernel_rfl)
  · exact q02 (a:=qef) rfl Tryz.func90 (by kernel_rfl) (by kernel_rfl)
  · exact q02 (a:=qng) rfl Tryz.func132 (by kernel_rfl) (by kernel_rfl)
  · exact q02 (a:=qiN) rfl Tryz.func222 (by kernel_rfl) (by kernel_rfl)
  · exact q02 (a:=qb2) rfl Tryz.func120 (by kernel_rfl) (by kernel_rfl)
  · exact q02 (a:=qkI) rfl Tryz.func149 (by kernel_rfl) (by kernel_rfl)
  · exact q02 (a:=qjt) rfl Tryz.func126 (by kernel_rfl) (by kernel_rfl)
  · exact q02 (a:=qob) rfl Tryz.func99 (by kernel_rfl) (by kernel_rfl)
  · exact q02 (a:=qmM) rfl Tryz.func98 (by kernel_rfl) (by kernel_rfl)
  · exact q02 (a:=qeA) rfl Tryz.func160 (by kernel_rfl) (by kernel_rfl)
  · exact q02 (a:=qoZ) rfl Tryz.func190 (by kernel_rfl) (by kernel_rfl)
  · exact q02 (a:=qpS) rfl Tryz.func193 (by kernel_rfl) (by kernel_rfl)
  · exact q02 (a:=qpx) rfl Tryz.func218 (by kernel_rfl) (by kernel_rfl)
  · exact q02 (a:=qtG) rfl Tryz.func219 (by kernel_rfl) (by kernel_rfl)
  · exact q02 (a:=q8r) rfl Tryz.func220 (by kernel_rfl) (by kernel_rfl)
  · exact q02 (a:=qb0) rfl Tryz.func221 (by kernel_rfl) (by kernel_rfl)
  · exact q02 (a:=que) rfl Tryz.func238 (by kernel_rfl) (by kernel_rfl)
  · exact q02 (a:=qnT) rfl Tryz.func239 (by kernel_rfl) (by kernel_rfl)
  · exact q02 (a:=qiK) rfl Tryz.func240 (by kernel_rfl) (by kernel_rfl)
  · exact q02 (a:=quQ) rfl Tryz.func254 (by kernel_rfl) (by kernel_rfl)
  · exact q02 (a:=qoy) rfl Tryz.func255 (by kernel_rfl) (by kernel_rfl)
  · exact q02 (a:=qmN) rfl Tryz.func256 (by kernel_rfl) (by kernel_rfl)
  · exact q02 (a:=qvF) rfl Tryz.func266 (by kernel_rfl) (by kernel_rfl)
  · exact q02 (a:=qtj) rfl Tryz.func267 (by kernel_rfl) (by kernel_rfl)
  · exact q02 (a:=qlV) rfl Tryz.func268 (by kernel_rfl) (by kernel_rfl)
  · exact q02 (a:=qk0) rfl Tryz.func3 (by kernel_rfl) (by kernel_rfl)
  · exact q02 (a:=qjL) rfl Tryz.func4 (by kernel_rfl) (by kernel_rfl)
  · exact q02 (a:=qwe) rfl Tryz.func5 (by kernel_rfl) (by kernel_rfl)
  · exact q02 (a:=qvj) rfl Tryz.func15 (by kernel_rfl) (by kernel_rfl)
  · exact q02 (a:=qo1) rfl Tryz.func7 (by kernel_rfl) (by kernel_rfl)
  · exact q02 (a:=qks) rfl Tryz.func17 (by kernel_rfl) (by kernel_rfl)
  · exact q02 (a:=qpq) rfl Tryz.func22 (by kernel_rfl) (by kernel_rfl)
  · exact q02 (a:=qf9) rfl Tryz.func8 (by kernel_rfl) (by kernel_rfl)
  · exact q02 (a:=qdZ) rfl Tryz.func9 (by kernel_rfl) (by kernel_rfl)
  · exact q02 (a:=qev) rfl Tryz.func11 (by kernel_rfl) (by kernel_rfl)
  · exact q02 (a:=qeI) rfl Tryz.func12 (by kernel_rfl) (by kernel_rfl)
  · exact q02 (a:=qiA) rfl Tryz.func13 (by kernel_rfl) (by kernel_rfl)
  · exact q02 (a:=qiw) rfl Tryz.func14 (by kernel_rfl) (by kernel_rfl)
  · exact q02 (a:=qet) rfl Tryz.func25 (by kernel_rfl) (by kernel_rfl)
  · exact q02 (a:=qcK) rfl Tryz.func37 (by kernel_rfl) (by kernel_rfl)
  · exact q02 (a:=qjB) rfl Tryz.func24 (by kernel_rfl) (by kernel_rfl)
  · exact q02 (a:=qpW) rfl Tryz.func83 (by kernel_rfl) (by kernel_rfl)
  · exact q02 (a:=qeQ) rfl Tryz.func27 (by kernel_rfl) (by kernel_rfl)
  · exact q02 (a:=qjO) rfl Tryz.func26 (by kernel_rfl) (by kernel_rfl)
  · exact q02 (a:=qo7) rfl Tryz.func29 (by kernel_rfl) (by kernel_rfl)
  · exact q02 (a:=qq1) rfl Tryz.func30 (by kernel_rfl) (by kernel_rfl)
  · exact q02 (a:=ql9) rfl Tryz.func32 (by kernel_rfl) (by kernel_rfl)
  · exact q02 (a:=qmD) rfl Tryz.func34 (by kernel_rfl) (by kernel_rfl)
  · exact q02 (a:=qo6) rfl Tryz.func44 (by kernel_rfl) (by kernel_rfl)
  · exact q02 (a:=q8X) rfl Tryz.func45 (by kernel_rfl) (by kernel_rfl)
  · exact q02 (a:=qnK) rfl Tryz.func72 (by kernel_rfl) (by kernel_rfl)
  · exact q02 (a:=qnE) rfl Tryz.func46 (by kernel_rfl) (by kernel_rfl)
  · exact q02 (a:=q8Q) rfl Tryz.func47 (by kernel_rfl) (by kernel_rfl)
  · exact q02 (a:=ql6) rfl Tryz.func51 (by kernel_rfl) (by kernel_rfl)
  · exact q02 (a:=q8V) rfl Tryz.func52 (by kernel_rfl) (by kernel_rfl)
  · exact q02 (a:=qnF) rfl Tryz.func53 (by kernel_rfl) (by kernel_rfl)
  · exact q02 (a:=q8U) rfl Tryz.func54 (by kernel_rfl) (by kernel_rfl)
  · exact q02 (a:=q4m) rfl Tryz.func60 (by kernel_rfl) (by kernel_rfl)
  · exact q02 (a:=q6L) rfl Tryz.func65 (by kernel_rfl) (by kernel_rfl)
  · exact q02 (a:=qqj) rfl Tryz.func80 (by kernel_rfl) (by kernel_rfl)
  · exact q02 (a:=qhW) rfl Tryz.func81 (by kernel_rfl) (by kernel_rfl)
  · exact q02 (a:=qi4) rfl Tryz.func82 (by kernel_rfl) (by kernel_rfl)
  · exact q02 (a:=qbw) rfl Tryz.func86 (by kernel_rfl) (by kernel_rfl)
  · exact q02 (a:=qh1) rfl Tryz.func87 (by kernel_rfl) (by kernel_rfl)
  · exact q02 (a:=qeO) rfl Tryz.func88 (by kernel_rfl) (by kernel_rfl)
  · exact q02 (a:=qi5) rfl Tryz.func89 (by kernel_rfl) (by kernel_rfl)
  · exact q02 (a:=qie) rfl Tryz.func91 (by kernel_rfl) (by kernel_rfl)
  · exact q02 (a:=q5q) rfl Tryz.func105 (by kernel_rfl) (by kernel_rfl)
  · exact q02 (a:=q7i) rfl Tryz.func133 (by kernel_rfl) (by kernel_rfl)
  · exact q02 (a:=qc1) rfl Tryz.func170 (by kernel_rfl) (by kernel_rfl)
  · exact q02 (a:=qh0) rfl Tryz.func171 (by kernel_rfl) (by kernel_rfl)
  · exact q02 (a:=qhP) rfl Tryz.func172 (by kernel_rfl) (by kernel_rfl)
  · exact q02 (a:=qbn) rfl Tryz.func199 (by kernel_rfl) (by kernel_rfl)
  · exact q02 (a:=qi3) rfl Tryz.func200 (by kernel_rfl) (by kernel_rfl)
  · exact q02 (a:=qea) rfl Tryz.func201 (by kernel_rfl) (by kernel_rfl)
  · exact q02 (a:=qh2) rfl Tryz.func202 (by kernel_rfl) (by kernel_rfl)
  · exact q12 rfl Tryz.func204 rfl (by kernel_rfl)
  · exact q12 rfl Tryz.func252 rfl (by kernel_rfl)
  · exact q12 rfl Tryz.func253 rfl (by kernel_rfl)
  · exact q12 rfl Tryz.func104 rfl (by kernel_rfl)
  · exact q12 rfl Tryz.func191 rfl (by kernel_rfl)
  · exact q12 rfl Tryz.func192 rfl (by kernel_rfl)
  · exact q12 rfl Tryz.func71 rfl (by kernel_rfl)
  · exact q12 rfl Tryz.func43 rfl (by kernel_rfl)
  · exact q12 rfl Tryz.func78 rfl (by kernel_rfl)
  · exact q12 rfl Tryz.func186 rfl (by kernel_rfl)
  · exact q12 rfl Tryz.func188 rfl (by kernel_rfl)
  · exact q12 rfl Tryz.func189 rfl (by kernel_rfl)
  · exact q12 rfl Tryz.func216 rfl (by kernel_rfl)
  · exact q12 rfl Tryz.func97 rfl (by kernel_rfl)
  · exact q12 rfl Tryz.func235 rfl (by kernel_rfl)
  · exact q12 rfl Tryz.func180 rfl (by kernel_rfl)
  · exact q12 rfl Tryz.func214 rfl (by kernel_rfl)
  · exact q12 rfl Tryz.func70 rfl (by kernel_rfl)
theorem qvT:CtxOk Tryz.prog (q2b fids) pf (q6F qaR qgj qhB):=qhv qi1 (fun f p h=>by
  unfold qgj at h
  split at h
  · cases h
    exact ⟨rfl,qow⟩
  · cases h
    exact ⟨rfl,qol⟩
  · cases h
    exact ⟨rfl,qpk⟩
  · cases h
    exact ⟨rfl,qou⟩
  · cases h
    exact ⟨rfl,qpD⟩
  · cases h
    exact ⟨rfl,qpE⟩
  · cases h
    exact ⟨rfl,qhT pf⟩
  · cases h) (fun f p h=>by
  unfold qhB at h
  split at h
  · cases h
    exact ⟨rfl,qsb⟩
  · cases h)
theorem qz6:qoS Tryz.prog (q2b fids) 291 qsJ:=qw6 (fun g hg=>by
      have h:=q0L hg
      have e:g=180:=by simpa [fids] using h
      subst e
      exact ⟨_,Tryz.lays105,Tryz.Builder_Extra_105,rfl⟩)
theorem qtU:qpe Tryz.prog (q2b fids) 272:=fun g hg=>by
      have h:=q0L hg
      have e:g=214:=by simpa [fids] using h
      subst e
      exact ⟨_,Tryz.lays213,rfl⟩
theorem qkA (s:ByteArray):qfy s.data.toList=Lib.runeCount s:=by
  have : ∀ f k,q8f ⟨s.data.toList.toArray⟩ f k=Lib.runeCountFrom s f k:=by
    intro f
    induction f with
    | zero=>intro k; rfl
    | succ f ih=>
      intro k
      unfold q8f Lib.runeCountFrom
      rw[ih]
  have e:s.data.toList.length=s.size:=by
    show _=s.data.size
    simp
  unfold qfy Lib.runeCount
  rw[e]
  exact this _ _
theorem qyi:qsA Tryz.prog (q2b fids) 988:=fun g hg s w hs=>by
  have h:=q0L hg
  have e:g=70:=by simpa [fids] using h
  subst e
  refine (Go.Proofs.Any.utf8_RuneCountInString Tryz.lays195 s w (by have:lim=2147483648:=rfl; omega)).mono fun e w' he=>?_
  obtain ⟨h1,pos,rfl⟩:=he
  rw[qkA]
  refine ⟨h1,⟨⟨rfl,rfl,rfl,?_,fun k hk=>?_⟩,Kr _⟩⟩
  · show w.heap.size≤(w.heap.push _).size
    simp
  · show (w.heap.push _)[k]?=w.heap[k]?
    rw[Array.getElem?_push_lt hk,KJ hk]
theorem qmH {code:Nat→Option AFn} {f:Nat} {ts:List AV} {v:AV} (hf:qhB f=none) : ¬ (q6F code qgj qhB).pprim f ts v:=fun h=>by
  obtain ⟨p,l,h,_⟩:=h
  rw[hf] at h
  cases h
end Go.Proofs.YtjeahlpkonkjiaaGreatDoor
/- The contexts of the laws hold of the program. -/
set_option maxRecDepth 100000
namespace Go.Proofs.YtjeahlpkonkjiaaGreatDoor
open Ago
theorem qw8:CodedAt Tryz.prog (q2b fids) pf2 qeh (43,985):=q02 (a:=qjA) rfl Tryz.func43 (by kernel_rfl) (by kernel_rfl)
theorem qsd : ∀ p,p∈fids→CodedAt Tryz.prog (q2b fids) pf2 qeh p:=fun p hp=>by
  by_cases h:p.2=985
  · have e:p=(43,985):=by
      simp only[fids,KI,V5,or_false] at hp
      rcases hp with rfl | rfl | rfl | rfl | rfl | rfl | rfl | rfl | rfl | rfl | rfl | rfl | rfl | rfl | rfl | rfl | rfl | rfl | rfl | rfl | rfl | rfl | rfl | rfl | rfl | rfl | rfl | rfl | rfl | rfl | rfl | rfl | rfl | rfl | rfl | rfl | rfl | rfl | rfl | rfl | rfl | rfl | rfl | rfl | rfl | rfl | rfl | rfl | rfl | rfl | rfl | rfl | rfl | rfl | rfl | rfl | rfl | rfl | rfl | rfl | rfl | rfl | rfl | rfl | rfl | rfl | rfl | rfl | rfl | rfl | rfl | rfl | rfl | rfl | rfl | rfl | rfl | rfl | rfl | rfl | rfl | rfl | rfl | rfl | rfl | rfl | rfl | rfl | rfl | rfl | rfl | rfl | rfl | rfl | rfl | rfl | rfl | rfl | rfl | rfl | rfl | rfl | rfl | rfl | rfl | rfl | rfl | rfl | rfl | rfl | rfl | rfl | rfl | rfl | rfl | rfl | rfl | rfl | rfl | rfl | rfl | rfl | rfl | rfl | rfl | rfl | rfl | rfl | rfl | rfl | rfl | rfl | rfl | rfl | rfl | rfl | rfl | rfl | rfl | rfl | rfl | rfl | rfl | rfl | rfl | rfl | rfl | rfl | rfl | rfl | rfl | rfl | rfl | rfl | rfl | rfl | rfl | rfl | rfl | rfl | rfl | rfl | rfl | rfl | rfl | rfl | rfl | rfl | rfl | rfl | rfl | rfl | rfl | rfl | rfl | rfl | rfl | rfl | rfl | rfl | rfl | rfl | rfl | rfl | rfl | rfl | rfl | rfl | rfl | rfl | rfl | rfl | rfl | rfl | rfl | rfl | rfl | rfl | rfl | rfl | rfl | rfl | rfl | rfl | rfl | rfl | rfl | rfl | rfl | rfl | rfl | rfl | rfl | rfl | rfl | rfl | rfl | rfl | rfl | rfl | rfl | rfl | rfl<;>first | rfl | cases h
    rw[e]
    exact qw8
  · refine ⟨(qi1 p hp).fn,fun a ha=>?_⟩
    unfold qeh at ha
    split at ha
    · rename_i h2
      exact (h h2).elim
    · cases ha
theorem qy4:CtxOk Tryz.prog (q2b fids) pf2 (q6F qeh qgj qhB):=qhv qsd (fun f p h=>by
  unfold qgj at h
  split at h
  · cases h
    exact ⟨rfl,qkM⟩
  · cases h
    exact ⟨rfl,qm8⟩
  · cases h
    exact ⟨rfl,qn6⟩
  · cases h
    exact ⟨rfl,qln⟩
  · cases h
    exact ⟨rfl,qki⟩
  · cases h
    exact ⟨rfl,qkK⟩
  · cases h
    exact ⟨rfl,qhT pf2⟩
  · cases h) (fun f p h=>by
  unfold qhB at h
  split at h
  · cases h
    exact ⟨rfl,qqc⟩
  · cases h)
theorem qwH:CtxOk Tryz.prog (q2b fids) pf2 CC:=qeD qy4 (fun f h=>by
    have e:f=272:=by simpa [csQ] using h
    subst e
    exact ⟨rfl,qtU,rfl,fun ts v=>qmH rfl⟩) (fun f h=>by
    have e:f=551:=by simpa [lnQ] using h
    subst e
    exact ⟨rfl,fun g hg=>by
      have h:=q0L hg
      simp [fids] at h,rfl,fun ts v=>qmH rfl⟩) (fun f h=>by
    have e:f=510:=by simpa [ssQ] using h
    subst e
    exact ⟨rfl,fun g hg=>by
      have h:=q0L hg
      simp [fids] at h,fun a H v H' h=>by
      obtain ⟨p,x,h,_⟩:=h
      cases h⟩)
theorem qwa:CtxOk Tryz.prog (q2b fids) pf (q6s (q6F qaR qgj qhB) noI lnI ssQ):=qeD qvT (fun f h=>by cases h) (fun f h=>by
    have e:f=551∨f=988:=by simpa [lnI] using h
    rcases e with e | e
    · subst e
      exact ⟨rfl,fun g hg=>by
      have h:=q0L hg
      simp [fids] at h,rfl,fun ts v=>qmH rfl⟩
    · subst e
      exact ⟨rfl,qyi,rfl,fun ts v=>qmH rfl⟩) (fun f h=>by
    have e:f=510:=by simpa [ssQ] using h
    subst e
    exact ⟨rfl,fun g hg=>by
      have h:=q0L hg
      simp [fids] at h,fun a H v H' h=>by
      obtain ⟨p,x,h,_⟩:=h
      cases h⟩)
theorem qqu {f:Nat} {ts:List AV} {v:AV} (hf:qhB f=none) (h2:lnI f=false) : ¬ (q6s (q6F qaR qgj qhB) noI lnI ssQ).pprim f ts v:=fun h=>by
  rcases h with h | ⟨h,_⟩ | ⟨h,_⟩
  · exact qmH hf h
  · cases h
  · rw[h2] at h
    cases h
theorem qyv:CtxOk Tryz.prog (q2b fids) pf CI0:=qlC qwa (fun f F h=>by
  unfold ppN at h
  split at h
  · cases h
    exact ⟨rfl,qz6,fun ts v=>qqu rfl rfl⟩
  · cases h
    exact ⟨rfl,quK qtU,fun ts v=>qqu rfl rfl⟩
  · cases h)
theorem qqx {f:Nat} {a:List AV} {H H':Heap} {v:AV} (hf:qgj f=none) (h2:ssQ f=false) : ¬ CI0.prim f a H v H':=fun h=>by
  rcases h with h | ⟨h,_⟩
  · obtain ⟨p,x,h,_⟩:=h
    rw[hf] at h
    cases h
  · rw[h2] at h
    cases h
theorem qyq:CtxOk Tryz.prog (q2b fids) pf (q5d CI0 soI):=qgR qyv (fun f k h=>by
  unfold soI at h
  split at h
  · cases h
    refine ⟨rfl,fun g hg=>?_,fun a H v H'=>qqx rfl rfl⟩
    have h:=q0L hg
    have e:g=71:=by simpa [fids] using h
    subst e
    exact ⟨_,Tryz.sortP,rfl,Tryz.isAgg70,Tryz.sizeOf70⟩
  · cases h)
theorem qza:CtxOk Tryz.prog (q2b fids) pf CI:=qmj qyq rfl (fun a H v H' h=>by
  rcases h with h | ⟨k,h,_⟩
  · exact qqx rfl rfl h
  · cases h) (fun a H v H' h=>by
  rcases h with ⟨_,h⟩ | ⟨_,h,ho,rfl⟩
  · exact (qzd qwH h).1
  · exact SimRun.of_pure ho (qzd qwH h).1) (fun a H v H' v2 H2 h h2=>by
  rcases h with ⟨q,h⟩ | ⟨q,h,ho,rfl⟩
  · rcases h2 with ⟨_,h2⟩ | ⟨q2,_⟩
    · exact (qzd qwH h).2.2 _ _ h2
    · rw[q] at q2
      cases q2
  · rcases h2 with ⟨q2,_⟩ | ⟨_,h2,_,rfl⟩
    · rw[q] at q2
      cases q2
    · have:=(qzd qwH h).2.2 _ h2
      exact ⟨this,by rw[this]⟩)
theorem qvW:CtxOk Tryz.prog (q2b fids) pf CI:=qza
end Go.Proofs.YtjeahlpkonkjiaaGreatDoor
