/- The functions of the program,compiled: those of the table,and the others as they are compiled. -/
import Derived.Test.YtjeahlpkonkjiaaGreatDoorRows
import Derived.Test.YtjeahlpkonkjiaaGreatDoorOMachD
import Derived.Test.YtjeahlpkonkjiaaGreatDoorOMachE
import Derived.Test.YtjeahlpkonkjiaaGreatDoorOMachH
import Derived.Test.YtjeahlpkonkjiaaGreatDoorOCodeI
import Derived.Test.YtjeahlpkonkjiaaGreatDoorOShelf
import Derived.Shelf.Utf8.RuneCount
set_option linter.unusedSimpArgs false
set_option linter.unusedVariables false
set_option maxRecDepth 100000
set_option maxHeartbeats 8000000
namespace Go.Proofs.YtjeahlpkonkjiaaGreatDoor
open Ago
abbrev CA (p:Nat × Nat):Prop:=CodedAt Tryz.prog (q1X fids) pf qa9 p
theorem qod:q20 Tryz.prog (q1X fids) pf 216 (11,104):=fun g hg=>by
  have h:=q0D hg
  have e:g=78:=by simpa [fids] using h
  subst e
  exact ⟨Tryz.f78,22,68,_,_,_,_,_,_,_,_,_,_,_,Tryz.func78,by kernel_rfl,rfl,rfl,rfl,by kernel_rfl,rfl,by kernel_rfl,rfl,rfl,rfl,by kernel_rfl,by kernel_rfl⟩
theorem qk9:q20 Tryz.prog (q1X fids) pf2 216 (11,104):=fun g hg=>by
  have h:=q0D hg
  have e:g=78:=by simpa [fids] using h
  subst e
  exact ⟨Tryz.f78,22,68,_,_,_,_,_,_,_,_,_,_,_,Tryz.func78,by kernel_rfl,rfl,rfl,rfl,by kernel_rfl,rfl,by kernel_rfl,rfl,rfl,rfl,by kernel_rfl,by kernel_rfl⟩
theorem qmZ:q20 Tryz.prog (q1X fids) pf 518 (13,168):=fun g hg=>by
  have h:=q0D hg
  have e:g=186:=by simpa [fids] using h
  subst e
  exact ⟨Tryz.f186,28,52,_,_,_,_,_,_,_,_,_,_,_,Tryz.func186,by kernel_rfl,rfl,rfl,rfl,by kernel_rfl,rfl,by kernel_rfl,rfl,rfl,rfl,by kernel_rfl,by kernel_rfl⟩
theorem qkt:q20 Tryz.prog (q1X fids) pf2 518 (13,168):=fun g hg=>by
  have h:=q0D hg
  have e:g=186:=by simpa [fids] using h
  subst e
  exact ⟨Tryz.f186,28,52,_,_,_,_,_,_,_,_,_,_,_,Tryz.func186,by kernel_rfl,rfl,rfl,rfl,by kernel_rfl,rfl,by kernel_rfl,rfl,rfl,rfl,by kernel_rfl,by kernel_rfl⟩
theorem qn4:q20 Tryz.prog (q1X fids) pf 519 (17,232):=fun g hg=>by
  have h:=q0D hg
  have e:g=188:=by simpa [fids] using h
  subst e
  exact ⟨Tryz.f188,29,70,_,_,_,_,_,_,_,_,_,_,_,Tryz.func188,by kernel_rfl,rfl,rfl,rfl,by kernel_rfl,rfl,by kernel_rfl,rfl,rfl,rfl,by kernel_rfl,by kernel_rfl⟩
theorem qjV:q20 Tryz.prog (q1X fids) pf2 519 (17,232):=fun g hg=>by
  have h:=q0D hg
  have e:g=188:=by simpa [fids] using h
  subst e
  exact ⟨Tryz.f188,29,70,_,_,_,_,_,_,_,_,_,_,_,Tryz.func188,by kernel_rfl,rfl,rfl,rfl,by kernel_rfl,rfl,by kernel_rfl,rfl,rfl,rfl,by kernel_rfl,by kernel_rfl⟩
theorem qmH:q20 Tryz.prog (q1X fids) pf 520 (15,208):=fun g hg=>by
  have h:=q0D hg
  have e:g=189:=by simpa [fids] using h
  subst e
  exact ⟨Tryz.f189,30,32,_,_,_,_,_,_,_,_,_,_,_,Tryz.func189,by kernel_rfl,rfl,rfl,rfl,by kernel_rfl,rfl,by kernel_rfl,rfl,rfl,rfl,by kernel_rfl,by kernel_rfl⟩
theorem qkQ:q20 Tryz.prog (q1X fids) pf2 520 (15,208):=fun g hg=>by
  have h:=q0D hg
  have e:g=189:=by simpa [fids] using h
  subst e
  exact ⟨Tryz.f189,30,32,_,_,_,_,_,_,_,_,_,_,_,Tryz.func189,by kernel_rfl,rfl,rfl,rfl,by kernel_rfl,rfl,by kernel_rfl,rfl,rfl,rfl,by kernel_rfl,by kernel_rfl⟩
theorem qm0:q20 Tryz.prog (q1X fids) pf 566 (6,64):=fun g hg=>by
  have h:=q0D hg
  have e:g=216:=by simpa [fids] using h
  subst e
  exact ⟨Tryz.f216,25,27,_,_,_,_,_,_,_,_,_,_,_,Tryz.func216,by kernel_rfl,rfl,rfl,rfl,by kernel_rfl,rfl,by kernel_rfl,rfl,rfl,rfl,by kernel_rfl,by kernel_rfl⟩
theorem qkx:q20 Tryz.prog (q1X fids) pf2 566 (6,64):=fun g hg=>by
  have h:=q0D hg
  have e:g=216:=by simpa [fids] using h
  subst e
  exact ⟨Tryz.f216,25,27,_,_,_,_,_,_,_,_,_,_,_,Tryz.func216,by kernel_rfl,rfl,rfl,rfl,by kernel_rfl,rfl,by kernel_rfl,rfl,rfl,rfl,by kernel_rfl,by kernel_rfl⟩
theorem qlS:q20 Tryz.prog (q1X fids) pf 214 (1,16):=fun g hg=>by
  have h:=q0D hg
  have e:g=97:=by simpa [fids] using h
  subst e
  exact ⟨Tryz.f97,131,9,_,_,_,_,_,_,_,_,_,_,_,Tryz.func97,by kernel_rfl,rfl,rfl,rfl,by kernel_rfl,rfl,by kernel_rfl,rfl,rfl,rfl,by kernel_rfl,by kernel_rfl⟩
theorem qic:q20 Tryz.prog (q1X fids) pf2 214 (1,16):=fun g hg=>by
  have h:=q0D hg
  have e:g=97:=by simpa [fids] using h
  subst e
  exact ⟨Tryz.f97,131,9,_,_,_,_,_,_,_,_,_,_,_,Tryz.func97,by kernel_rfl,rfl,rfl,rfl,by kernel_rfl,rfl,by kernel_rfl,rfl,rfl,rfl,by kernel_rfl,by kernel_rfl⟩
theorem qqj:q20 Tryz.prog (q1X fids) pf 62 (1,1):=fun g hg=>by
  have h:=q0D hg
  have e:g=235:=by simpa [fids] using h
  subst e
  exact ⟨Tryz.f235,49,5,_,_,_,_,_,_,_,_,_,_,_,Tryz.func235,by kernel_rfl,rfl,rfl,rfl,by kernel_rfl,rfl,by kernel_rfl,rfl,rfl,rfl,by kernel_rfl,by kernel_rfl⟩
theorem qmo:q20 Tryz.prog (q1X fids) pf2 62 (1,1):=fun g hg=>by
  have h:=q0D hg
  have e:g=235:=by simpa [fids] using h
  subst e
  exact ⟨Tryz.f235,49,5,_,_,_,_,_,_,_,_,_,_,_,Tryz.func235,by kernel_rfl,rfl,rfl,rfl,by kernel_rfl,rfl,by kernel_rfl,rfl,rfl,rfl,by kernel_rfl,by kernel_rfl⟩
theorem qfY (q:Nat→Bool):q20 Tryz.prog (q1X fids) q 130 (14,184):=fun g hg=>by
  have h:=q0D hg
  simp [fids] at h
theorem qfX : ∀ p,p∈fids→CA p:=by
  intro p hp
  simp only[fids,Ks,V2,or_false] at hp
  rcases hp with rfl | rfl | rfl | rfl | rfl | rfl | rfl | rfl | rfl | rfl | rfl | rfl | rfl | rfl | rfl | rfl | rfl | rfl | rfl | rfl | rfl | rfl | rfl | rfl | rfl | rfl | rfl | rfl | rfl | rfl | rfl | rfl | rfl | rfl | rfl | rfl | rfl | rfl | rfl | rfl | rfl | rfl | rfl | rfl | rfl | rfl | rfl | rfl | rfl | rfl | rfl | rfl | rfl | rfl | rfl | rfl | rfl | rfl | rfl | rfl | rfl | rfl | rfl | rfl | rfl | rfl | rfl | rfl | rfl | rfl | rfl | rfl | rfl | rfl | rfl | rfl | rfl | rfl | rfl | rfl | rfl | rfl | rfl | rfl | rfl | rfl | rfl | rfl | rfl | rfl | rfl | rfl | rfl | rfl | rfl | rfl | rfl | rfl | rfl | rfl | rfl | rfl | rfl | rfl | rfl | rfl | rfl | rfl | rfl | rfl | rfl | rfl | rfl | rfl | rfl | rfl | rfl | rfl | rfl | rfl | rfl | rfl | rfl | rfl | rfl | rfl | rfl | rfl | rfl | rfl | rfl | rfl | rfl | rfl | rfl | rfl | rfl | rfl | rfl | rfl | rfl | rfl | rfl | rfl | rfl | rfl | rfl | rfl | rfl | rfl | rfl | rfl | rfl | rfl | rfl | rfl | rfl | rfl | rfl | rfl | rfl | rfl | rfl | rfl | rfl | rfl | rfl | rfl | rfl | rfl | rfl | rfl | rfl | rfl | rfl | rfl | rfl | rfl | rfl | rfl | rfl | rfl | rfl | rfl | rfl | rfl | rfl | rfl | rfl | rfl | rfl | rfl | rfl | rfl | rfl | rfl | rfl | rfl | rfl | rfl | rfl | rfl | rfl | rfl | rfl | rfl | rfl | rfl | rfl | rfl | rfl | rfl | rfl | rfl | rfl | rfl | rfl | rfl | rfl | rfl | rfl | rfl | rfl
  · exact q01 (a:=qur) rfl Tryz.func66 (by kernel_rfl) (by kernel_rfl)
  · exact q01 (a:=qxz) rfl Tryz.func167 (by kernel_rfl) (by kernel_rfl)
  · exact q01 (a:=qxU) rfl Tryz.func62 (by kernel_rfl) (by kernel_rfl)
  · exact q01 (a:=qv0) rfl Tryz.func187 (by kernel_rfl) (by kernel_rfl)
  · exact q01 (a:=qsk) rfl Tryz.func85 (by kernel_rfl) (by kernel_rfl)
  · exact q01 (a:=qri) rfl Tryz.func106 (by kernel_rfl) (by kernel_rfl)
  · exact q01 (a:=qxN) rfl Tryz.func198 (by kernel_rfl) (by kernel_rfl)
  · exact q01 (a:=qxx) rfl Tryz.func150 (by kernel_rfl) (by kernel_rfl)
  · exact q01 (a:=qxM) rfl Tryz.func100 (by kernel_rfl) (by kernel_rfl)
  · exact q01 (a:=qro) rfl Tryz.func217 (by kernel_rfl) (by kernel_rfl)
  · exact q01 (a:=qqR) rfl Tryz.func58 (by kernel_rfl) (by kernel_rfl)
  · exact q01 (a:=qrn) rfl Tryz.func73 (by kernel_rfl) (by kernel_rfl)
  · exact q01 (a:=qxK) rfl Tryz.func224 (by kernel_rfl) (by kernel_rfl)
  · exact q01 (a:=qxG) rfl Tryz.func225 (by kernel_rfl) (by kernel_rfl)
  · exact q01 (a:=qxB) rfl Tryz.func258 (by kernel_rfl) (by kernel_rfl)
  · exact q01 (a:=qxu) rfl Tryz.func127 (by kernel_rfl) (by kernel_rfl)
  · exact q01 (a:=quZ) rfl Tryz.func95 (by kernel_rfl) (by kernel_rfl)
  · exact q01 (a:=qvE) rfl Tryz.func113 (by kernel_rfl) (by kernel_rfl)
  · exact q01 (a:=qxE) rfl Tryz.func243 (by kernel_rfl) (by kernel_rfl)
  · exact q01 (a:=qxS) rfl Tryz.func242 (by kernel_rfl) (by kernel_rfl)
  · exact q01 (a:=qxY) rfl Tryz.func244 (by kernel_rfl) (by kernel_rfl)
  · exact q01 (a:=qxy) rfl Tryz.func245 (by kernel_rfl) (by kernel_rfl)
  · exact q01 (a:=qxF) rfl Tryz.func270 (by kernel_rfl) (by kernel_rfl)
  · exact q01 (a:=qxQ) rfl Tryz.func161 (by kernel_rfl) (by kernel_rfl)
  · exact q01 (a:=qbM) rfl Tryz.func124 (by kernel_rfl) (by kernel_rfl)
  · exact q01 (a:=qvH) rfl Tryz.func118 (by kernel_rfl) (by kernel_rfl)
  · exact q01 (a:=qxw) rfl Tryz.func259 (by kernel_rfl) (by kernel_rfl)
  · exact q01 (a:=qxA) rfl Tryz.func260 (by kernel_rfl) (by kernel_rfl)
  · exact q01 (a:=qxC) rfl Tryz.func195 (by kernel_rfl) (by kernel_rfl)
  · exact q01 (a:=qeS) rfl Tryz.func156 (by kernel_rfl) (by kernel_rfl)
  · exact q01 (a:=quj) rfl Tryz.func157 (by kernel_rfl) (by kernel_rfl)
  · exact q01 (a:=qjw) rfl Tryz.func158 (by kernel_rfl) (by kernel_rfl)
  · exact q01 (a:=qkm) rfl Tryz.func36 (by kernel_rfl) (by kernel_rfl)
  · exact q01 (a:=qrF) rfl Tryz.func241 (by kernel_rfl) (by kernel_rfl)
  · exact q01 (a:=q0T) rfl Tryz.func68 (by kernel_rfl) (by kernel_rfl)
  · exact q01 (a:=quW) rfl Tryz.func257 (by kernel_rfl) (by kernel_rfl)
  · exact q01 (a:=qjP) rfl Tryz.func237 (by kernel_rfl) (by kernel_rfl)
  · exact q01 (a:=qdE) rfl Tryz.func236 (by kernel_rfl) (by kernel_rfl)
  · exact q01 (a:=qjI) rfl Tryz.func107 (by kernel_rfl) (by kernel_rfl)
  · exact q01 (a:=qe6) rfl Tryz.func108 (by kernel_rfl) (by kernel_rfl)
  · exact q01 (a:=qiC) rfl Tryz.func109 (by kernel_rfl) (by kernel_rfl)
  · exact q01 (a:=qj6) rfl Tryz.func110 (by kernel_rfl) (by kernel_rfl)
  · exact q01 (a:=qsV) rfl Tryz.func269 (by kernel_rfl) (by kernel_rfl)
  · exact q01 (a:=qo6) rfl Tryz.func251 (by kernel_rfl) (by kernel_rfl)
  · exact q01 (a:=qjj) rfl Tryz.func174 (by kernel_rfl) (by kernel_rfl)
  · exact q01 (a:=q7w) rfl Tryz.func134 (by kernel_rfl) (by kernel_rfl)
  · exact q01 (a:=qnO) rfl Tryz.func135 (by kernel_rfl) (by kernel_rfl)
  · exact q01 (a:=qaZ) rfl Tryz.func136 (by kernel_rfl) (by kernel_rfl)
  · exact q01 (a:=qmC) rfl Tryz.func203 (by kernel_rfl) (by kernel_rfl)
  · exact q01 (a:=qnR) rfl Tryz.func173 (by kernel_rfl) (by kernel_rfl)
  · exact q01 (a:=qlR) rfl Tryz.func21 (by kernel_rfl) (by kernel_rfl)
  · exact q01 (a:=qbA) rfl Tryz.func151 (by kernel_rfl) (by kernel_rfl)
  · exact q01 (a:=q8K) rfl Tryz.func125 (by kernel_rfl) (by kernel_rfl)
  · exact q01 (a:=qkN) rfl Tryz.func194 (by kernel_rfl) (by kernel_rfl)
  · exact q01 (a:=qk6) rfl Tryz.func181 (by kernel_rfl) (by kernel_rfl)
  · exact q01 (a:=qb0) rfl Tryz.func159 (by kernel_rfl) (by kernel_rfl)
  · exact q01 (a:=qcI) rfl Tryz.func79 (by kernel_rfl) (by kernel_rfl)
  · exact q01 (a:=qjM) rfl Tryz.func69 (by kernel_rfl) (by kernel_rfl)
  · exact q01 (a:=qkd) rfl Tryz.func119 (by kernel_rfl) (by kernel_rfl)
  · exact q01 (a:=q5R) rfl Tryz.func147 (by kernel_rfl) (by kernel_rfl)
  · exact q01 (a:=qkn) rfl Tryz.func148 (by kernel_rfl) (by kernel_rfl)
  · exact q01 (a:=qtA) rfl Tryz.func165 (by kernel_rfl) (by kernel_rfl)
  · exact q01 (a:=qnQ) rfl Tryz.func74 (by kernel_rfl) (by kernel_rfl)
  · exact q01 (a:=qjY) rfl Tryz.func152 (by kernel_rfl) (by kernel_rfl)
  · exact q01 (a:=qt2) rfl Tryz.func197 (by kernel_rfl) (by kernel_rfl)
  · exact q01 (a:=qgD) rfl Tryz.func114 (by kernel_rfl) (by kernel_rfl)
  · exact q01 (a:=qeL) rfl Tryz.func182 (by kernel_rfl) (by kernel_rfl)
  · exact q01 (a:=qhm) rfl Tryz.func183 (by kernel_rfl) (by kernel_rfl)
  · exact q01 (a:=quI) rfl Tryz.func223 (by kernel_rfl) (by kernel_rfl)
  · exact q01 (a:=qnd) rfl Tryz.func215 (by kernel_rfl) (by kernel_rfl)
  · exact q01 (a:=qoi) rfl Tryz.func31 (by kernel_rfl) (by kernel_rfl)
  · exact q01 (a:=qs9) rfl Tryz.func33 (by kernel_rfl) (by kernel_rfl)
  · exact q01 (a:=qlE) rfl Tryz.func123 (by kernel_rfl) (by kernel_rfl)
  · exact q01 (a:=qsx) rfl Tryz.func102 (by kernel_rfl) (by kernel_rfl)
  · exact q01 (a:=qnI) rfl Tryz.func59 (by kernel_rfl) (by kernel_rfl)
  · exact q01 (a:=qsN) rfl Tryz.func64 (by kernel_rfl) (by kernel_rfl)
  · exact q01 (a:=qn7) rfl Tryz.func10 (by kernel_rfl) (by kernel_rfl)
  · exact q01 (a:=qo9) rfl Tryz.func16 (by kernel_rfl) (by kernel_rfl)
  · exact q01 (a:=qmQ) rfl Tryz.func19 (by kernel_rfl) (by kernel_rfl)
  · exact q01 (a:=qcY) rfl Tryz.func6 (by kernel_rfl) (by kernel_rfl)
  · exact q01 (a:=qnj) rfl Tryz.func57 (by kernel_rfl) (by kernel_rfl)
  · exact q01 (a:=qdy) rfl Tryz.func55 (by kernel_rfl) (by kernel_rfl)
  · exact q01 (a:=qei) rfl Tryz.func56 (by kernel_rfl) (by kernel_rfl)
  · exact q01 (a:=qsr) rfl Tryz.func61 (by kernel_rfl) (by kernel_rfl)
  · exact q01 (a:=qtF) rfl Tryz.func63 (by kernel_rfl) (by kernel_rfl)
  · exact q01 (a:=qmk) rfl Tryz.func155 (by kernel_rfl) (by kernel_rfl)
  · exact q01 (a:=qsK) rfl Tryz.func96 (by kernel_rfl) (by kernel_rfl)
  · exact q01 (a:=qtB) rfl Tryz.func103 (by kernel_rfl) (by kernel_rfl)
  · exact q01 (a:=qo3) rfl Tryz.func28 (by kernel_rfl) (by kernel_rfl)
  · exact q01 (a:=qhv) rfl Tryz.func35 (by kernel_rfl) (by kernel_rfl)
  · exact q01 (a:=qms) rfl Tryz.func20 (by kernel_rfl) (by kernel_rfl)
  · exact q01 (a:=qhe) rfl Tryz.func40 (by kernel_rfl) (by kernel_rfl)
  · exact q01 (a:=qa7) rfl Tryz.func18 (by kernel_rfl) (by kernel_rfl)
  · exact q01 (a:=qh9) rfl Tryz.func94 (by kernel_rfl) (by kernel_rfl)
  · exact q01 (a:=qrP) rfl Tryz.func130 (by kernel_rfl) (by kernel_rfl)
  · exact q01 (a:=qbL) rfl Tryz.func92 (by kernel_rfl) (by kernel_rfl)
  · exact q01 (a:=qmn) rfl Tryz.func93 (by kernel_rfl) (by kernel_rfl)
  · exact q01 (a:=qm8) rfl Tryz.func39 (by kernel_rfl) (by kernel_rfl)
  · exact q01 (a:=qsj) rfl Tryz.func101 (by kernel_rfl) (by kernel_rfl)
  · exact q01 (a:=qki) rfl Tryz.func185 (by kernel_rfl) (by kernel_rfl)
  · exact q01 (a:=qs0) rfl Tryz.func131 (by kernel_rfl) (by kernel_rfl)
  · exact q01 (a:=qkV) rfl Tryz.func48 (by kernel_rfl) (by kernel_rfl)
  · exact q01 (a:=qmB) rfl Tryz.func49 (by kernel_rfl) (by kernel_rfl)
  · exact q01 (a:=qof) rfl Tryz.func50 (by kernel_rfl) (by kernel_rfl)
  · exact q01 (a:=qhy) rfl Tryz.func23 (by kernel_rfl) (by kernel_rfl)
  · exact q01 (a:=qlY) rfl Tryz.func67 (by kernel_rfl) (by kernel_rfl)
  · exact q01 (a:=qnb) rfl Tryz.func41 (by kernel_rfl) (by kernel_rfl)
  · exact q01 (a:=qnc) rfl Tryz.func42 (by kernel_rfl) (by kernel_rfl)
  · exact q01 (a:=qnM) rfl Tryz.func38 (by kernel_rfl) (by kernel_rfl)
  · exact q01 (a:=qa4) rfl Tryz.func121 (by kernel_rfl) (by kernel_rfl)
  · exact q01 (a:=qo4) rfl Tryz.func122 (by kernel_rfl) (by kernel_rfl)
  · exact q01 (a:=qup) rfl Tryz.func128 (by kernel_rfl) (by kernel_rfl)
  · exact q01 (a:=qtX) rfl Tryz.func129 (by kernel_rfl) (by kernel_rfl)
  · exact q01 (a:=qnF) rfl Tryz.func84 (by kernel_rfl) (by kernel_rfl)
  · exact q01 (a:=qnf) rfl Tryz.func75 (by kernel_rfl) (by kernel_rfl)
  · exact q01 (a:=qtG) rfl Tryz.func76 (by kernel_rfl) (by kernel_rfl)
  · exact q01 (a:=qo1) rfl Tryz.func77 (by kernel_rfl) (by kernel_rfl)
  · exact q01 (a:=qik) rfl Tryz.func153 (by kernel_rfl) (by kernel_rfl)
  · exact q01 (a:=qlW) rfl Tryz.func154 (by kernel_rfl) (by kernel_rfl)
  · exact q01 (a:=qus) rfl Tryz.func162 (by kernel_rfl) (by kernel_rfl)
  · exact q01 (a:=qr7) rfl Tryz.func163 (by kernel_rfl) (by kernel_rfl)
  · exact q01 (a:=qrS) rfl Tryz.func164 (by kernel_rfl) (by kernel_rfl)
  · exact q01 (a:=qsb) rfl Tryz.func166 (by kernel_rfl) (by kernel_rfl)
  · exact q01 (a:=qtS) rfl Tryz.func168 (by kernel_rfl) (by kernel_rfl)
  · exact q01 (a:=qtI) rfl Tryz.func169 (by kernel_rfl) (by kernel_rfl)
  · exact q01 (a:=qud) rfl Tryz.func115 (by kernel_rfl) (by kernel_rfl)
  · exact q01 (a:=qtf) rfl Tryz.func116 (by kernel_rfl) (by kernel_rfl)
  · exact q01 (a:=qn9) rfl Tryz.func117 (by kernel_rfl) (by kernel_rfl)
  · exact q01 (a:=qmr) rfl Tryz.func184 (by kernel_rfl) (by kernel_rfl)
  · exact q01 (a:=qqh) rfl Tryz.func196 (by kernel_rfl) (by kernel_rfl)
  · exact q01 (a:=qr1) rfl Tryz.func90 (by kernel_rfl) (by kernel_rfl)
  · exact q01 (a:=qqz) rfl Tryz.func132 (by kernel_rfl) (by kernel_rfl)
  · exact q01 (a:=qqr) rfl Tryz.func222 (by kernel_rfl) (by kernel_rfl)
  · exact q01 (a:=qpX) rfl Tryz.func120 (by kernel_rfl) (by kernel_rfl)
  · exact q01 (a:=qqp) rfl Tryz.func149 (by kernel_rfl) (by kernel_rfl)
  · exact q01 (a:=qhL) rfl Tryz.func126 (by kernel_rfl) (by kernel_rfl)
  · exact q01 (a:=qoc) rfl Tryz.func99 (by kernel_rfl) (by kernel_rfl)
  · exact q01 (a:=qk0) rfl Tryz.func98 (by kernel_rfl) (by kernel_rfl)
  · exact q01 (a:=qc6) rfl Tryz.func160 (by kernel_rfl) (by kernel_rfl)
  · exact q01 (a:=qlL) rfl Tryz.func190 (by kernel_rfl) (by kernel_rfl)
  · exact q01 (a:=qmt) rfl Tryz.func193 (by kernel_rfl) (by kernel_rfl)
  · exact q01 (a:=qlF) rfl Tryz.func218 (by kernel_rfl) (by kernel_rfl)
  · exact q01 (a:=qtt) rfl Tryz.func219 (by kernel_rfl) (by kernel_rfl)
  · exact q01 (a:=q7G) rfl Tryz.func220 (by kernel_rfl) (by kernel_rfl)
  · exact q01 (a:=qa5) rfl Tryz.func221 (by kernel_rfl) (by kernel_rfl)
  · exact q01 (a:=qth) rfl Tryz.func238 (by kernel_rfl) (by kernel_rfl)
  · exact q01 (a:=qnD) rfl Tryz.func239 (by kernel_rfl) (by kernel_rfl)
  · exact q01 (a:=qhO) rfl Tryz.func240 (by kernel_rfl) (by kernel_rfl)
  · exact q01 (a:=qsC) rfl Tryz.func254 (by kernel_rfl) (by kernel_rfl)
  · exact q01 (a:=qlG) rfl Tryz.func255 (by kernel_rfl) (by kernel_rfl)
  · exact q01 (a:=qjO) rfl Tryz.func256 (by kernel_rfl) (by kernel_rfl)
  · exact q01 (a:=qsR) rfl Tryz.func266 (by kernel_rfl) (by kernel_rfl)
  · exact q01 (a:=qtZ) rfl Tryz.func267 (by kernel_rfl) (by kernel_rfl)
  · exact q01 (a:=qkg) rfl Tryz.func268 (by kernel_rfl) (by kernel_rfl)
  · exact q01 (a:=qvo) rfl Tryz.func3 (by kernel_rfl) (by kernel_rfl)
  · exact q01 (a:=qsF) rfl Tryz.func4 (by kernel_rfl) (by kernel_rfl)
  · exact q01 (a:=qeK) rfl Tryz.func5 (by kernel_rfl) (by kernel_rfl)
  · exact q01 (a:=qnx) rfl Tryz.func15 (by kernel_rfl) (by kernel_rfl)
  · exact q01 (a:=qo8) rfl Tryz.func7 (by kernel_rfl) (by kernel_rfl)
  · exact q01 (a:=qk3) rfl Tryz.func17 (by kernel_rfl) (by kernel_rfl)
  · exact q01 (a:=qn8) rfl Tryz.func22 (by kernel_rfl) (by kernel_rfl)
  · exact q01 (a:=qrJ) rfl Tryz.func8 (by kernel_rfl) (by kernel_rfl)
  · exact q01 (a:=qum) rfl Tryz.func9 (by kernel_rfl) (by kernel_rfl)
  · exact q01 (a:=qcW) rfl Tryz.func11 (by kernel_rfl) (by kernel_rfl)
  · exact q01 (a:=qte) rfl Tryz.func12 (by kernel_rfl) (by kernel_rfl)
  · exact q01 (a:=qgQ) rfl Tryz.func13 (by kernel_rfl) (by kernel_rfl)
  · exact q01 (a:=qtV) rfl Tryz.func14 (by kernel_rfl) (by kernel_rfl)
  · exact q01 (a:=qcR) rfl Tryz.func25 (by kernel_rfl) (by kernel_rfl)
  · exact q01 (a:=qbn) rfl Tryz.func37 (by kernel_rfl) (by kernel_rfl)
  · exact q01 (a:=qhg) rfl Tryz.func24 (by kernel_rfl) (by kernel_rfl)
  · exact q01 (a:=qsc) rfl Tryz.func83 (by kernel_rfl) (by kernel_rfl)
  · exact q01 (a:=qsw) rfl Tryz.func27 (by kernel_rfl) (by kernel_rfl)
  · exact q01 (a:=quG) rfl Tryz.func26 (by kernel_rfl) (by kernel_rfl)
  · exact q01 (a:=qm6) rfl Tryz.func29 (by kernel_rfl) (by kernel_rfl)
  · exact q01 (a:=qrV) rfl Tryz.func30 (by kernel_rfl) (by kernel_rfl)
  · exact q01 (a:=qkj) rfl Tryz.func32 (by kernel_rfl) (by kernel_rfl)
  · exact q01 (a:=qsA) rfl Tryz.func34 (by kernel_rfl) (by kernel_rfl)
  · exact q01 (a:=qlN) rfl Tryz.func44 (by kernel_rfl) (by kernel_rfl)
  · exact q01 (a:=q7Z) rfl Tryz.func45 (by kernel_rfl) (by kernel_rfl)
  · exact q01 (a:=qn2) rfl Tryz.func72 (by kernel_rfl) (by kernel_rfl)
  · exact q01 (a:=quH) rfl Tryz.func46 (by kernel_rfl) (by kernel_rfl)
  · exact q01 (a:=qtU) rfl Tryz.func47 (by kernel_rfl) (by kernel_rfl)
  · exact q01 (a:=qkB) rfl Tryz.func51 (by kernel_rfl) (by kernel_rfl)
  · exact q01 (a:=q82) rfl Tryz.func52 (by kernel_rfl) (by kernel_rfl)
  · exact q01 (a:=qnt) rfl Tryz.func53 (by kernel_rfl) (by kernel_rfl)
  · exact q01 (a:=qrE) rfl Tryz.func54 (by kernel_rfl) (by kernel_rfl)
  · exact q01 (a:=q3Y) rfl Tryz.func60 (by kernel_rfl) (by kernel_rfl)
  · exact q01 (a:=qve) rfl Tryz.func65 (by kernel_rfl) (by kernel_rfl)
  · exact q01 (a:=qmv) rfl Tryz.func80 (by kernel_rfl) (by kernel_rfl)
  · exact q01 (a:=qoQ) rfl Tryz.func81 (by kernel_rfl) (by kernel_rfl)
  · exact q01 (a:=qoA) rfl Tryz.func82 (by kernel_rfl) (by kernel_rfl)
  · exact q01 (a:=qak) rfl Tryz.func86 (by kernel_rfl) (by kernel_rfl)
  · exact q01 (a:=qgy) rfl Tryz.func87 (by kernel_rfl) (by kernel_rfl)
  · exact q01 (a:=qcT) rfl Tryz.func88 (by kernel_rfl) (by kernel_rfl)
  · exact q01 (a:=qfw) rfl Tryz.func89 (by kernel_rfl) (by kernel_rfl)
  · exact q01 (a:=qoR) rfl Tryz.func91 (by kernel_rfl) (by kernel_rfl)
  · exact q01 (a:=qoZ) rfl Tryz.func105 (by kernel_rfl) (by kernel_rfl)
  · exact q01 (a:=qoY) rfl Tryz.func133 (by kernel_rfl) (by kernel_rfl)
  · exact q01 (a:=qop) rfl Tryz.func170 (by kernel_rfl) (by kernel_rfl)
  · exact q01 (a:=qoV) rfl Tryz.func171 (by kernel_rfl) (by kernel_rfl)
  · exact q01 (a:=qoq) rfl Tryz.func172 (by kernel_rfl) (by kernel_rfl)
  · exact q01 (a:=qoL) rfl Tryz.func199 (by kernel_rfl) (by kernel_rfl)
  · exact q01 (a:=qor) rfl Tryz.func200 (by kernel_rfl) (by kernel_rfl)
  · exact q01 (a:=qoO) rfl Tryz.func201 (by kernel_rfl) (by kernel_rfl)
  · exact q01 (a:=qot) rfl Tryz.func202 (by kernel_rfl) (by kernel_rfl)
  · exact q0S rfl Tryz.func204 rfl (by kernel_rfl)
  · exact q0S rfl Tryz.func252 rfl (by kernel_rfl)
  · exact q0S rfl Tryz.func253 rfl (by kernel_rfl)
  · exact q0S rfl Tryz.func104 rfl (by kernel_rfl)
  · exact q0S rfl Tryz.func191 rfl (by kernel_rfl)
  · exact q0S rfl Tryz.func192 rfl (by kernel_rfl)
  · exact q0S rfl Tryz.func71 rfl (by kernel_rfl)
  · exact q0S rfl Tryz.func43 rfl (by kernel_rfl)
  · exact q0S rfl Tryz.func78 rfl (by kernel_rfl)
  · exact q0S rfl Tryz.func186 rfl (by kernel_rfl)
  · exact q0S rfl Tryz.func188 rfl (by kernel_rfl)
  · exact q0S rfl Tryz.func189 rfl (by kernel_rfl)
  · exact q0S rfl Tryz.func216 rfl (by kernel_rfl)
  · exact q0S rfl Tryz.func97 rfl (by kernel_rfl)
  · exact q0S rfl Tryz.func235 rfl (by kernel_rfl)
  · exact q0S rfl Tryz.func180 rfl (by kernel_rfl)
  · exact q0S rfl Tryz.func214 rfl (by kernel_rfl)
  · exact q0S rfl Tryz.func70 rfl (by kernel_rfl)
theorem qvp:CtxOk Tryz.prog (q1X fids) pf (q69 qa9 qf7 qfb):=qfU qfX (fun f p h=>by
  unfold qf7 at h
  split at h
  · cases h
    exact ⟨rfl,qod⟩
  · cases h
    exact ⟨rfl,qmZ⟩
  · cases h
    exact ⟨rfl,qn4⟩
  · cases h
    exact ⟨rfl,qmH⟩
  · cases h
    exact ⟨rfl,qm0⟩
  · cases h
    exact ⟨rfl,qlS⟩
  · cases h
    exact ⟨rfl,qfY pf⟩
  · cases h) (fun f p h=>by
  unfold qfb at h
  split at h
  · cases h
    exact ⟨rfl,qqj⟩
  · cases h)
theorem qy8:qnJ Tryz.prog (q1X fids) 291 qrk:=qs8 (fun g hg=>by
      have h:=q0D hg
      have e:g=180:=by simpa [fids] using h
      subst e
      exact ⟨_,Tryz.lays105,Tryz.Builder_Extra_105,rfl⟩)
theorem qvi:qnv Tryz.prog (q1X fids) 272:=fun g hg=>by
      have h:=q0D hg
      have e:g=214:=by simpa [fids] using h
      subst e
      exact ⟨_,Tryz.lays213,rfl⟩
theorem qit (s:ByteArray):qec s.data.toList=Lib.runeCount s:=by
  have : ∀ f k,q7f ⟨s.data.toList.toArray⟩ f k=Lib.runeCountFrom s f k:=by
    intro f
    induction f with
    | zero=>intro k; rfl
    | succ f ih=>
      intro k
      unfold q7f Lib.runeCountFrom
      rw[ih]
  have e:s.data.toList.length=s.size:=by
    show _=s.data.size
    simp
  unfold qec Lib.runeCount
  rw[e]
  exact this _ _
theorem qwW:qq4 Tryz.prog (q1X fids) 988:=fun g hg s w hs=>by
  have h:=q0D hg
  have e:g=70:=by simpa [fids] using h
  subst e
  refine (Go.Proofs.Any.utf8_RuneCountInString Tryz.lays195 s w (by have:lim=2147483648:=rfl; omega)).mono fun e w' he=>?_
  obtain ⟨h1,pos,rfl⟩:=he
  rw[qit]
  refine ⟨h1,⟨⟨rfl,rfl,rfl,?_,fun k hk=>?_⟩,Ko _⟩⟩
  · show w.heap.size≤(w.heap.push _).size
    simp
  · show (w.heap.push _)[k]?=w.heap[k]?
    rw[Array.getElem?_push_lt hk,KD hk]
theorem qiF {code:Nat→Option AFn} {f:Nat} {ts:List AV} {v:AV} (hf:qfb f=none) : ¬ (q69 code qf7 qfb).pprim f ts v:=fun h=>by
  obtain ⟨p,l,h,_⟩:=h
  rw[hf] at h
  cases h
end Go.Proofs.YtjeahlpkonkjiaaGreatDoor
/- The contexts of the laws hold of the program. -/
set_option maxRecDepth 100000
namespace Go.Proofs.YtjeahlpkonkjiaaGreatDoor
open Ago
theorem qt1:CodedAt Tryz.prog (q1X fids) pf2 qcP (43,985):=q01 (a:=qgE) rfl Tryz.func43 (by kernel_rfl) (by kernel_rfl)
theorem qpN : ∀ p,p∈fids→CodedAt Tryz.prog (q1X fids) pf2 qcP p:=fun p hp=>by
  by_cases h:p.2=985
  · have e:p=(43,985):=by
      simp only[fids,Ks,V2,or_false] at hp
      rcases hp with rfl | rfl | rfl | rfl | rfl | rfl | rfl | rfl | rfl | rfl | rfl | rfl | rfl | rfl | rfl | rfl | rfl | rfl | rfl | rfl | rfl | rfl | rfl | rfl | rfl | rfl | rfl | rfl | rfl | rfl | rfl | rfl | rfl | rfl | rfl | rfl | rfl | rfl | rfl | rfl | rfl | rfl | rfl | rfl | rfl | rfl | rfl | rfl | rfl | rfl | rfl | rfl | rfl | rfl | rfl | rfl | rfl | rfl | rfl | rfl | rfl | rfl | rfl | rfl | rfl | rfl | rfl | rfl | rfl | rfl | rfl | rfl | rfl | rfl | rfl | rfl | rfl | rfl | rfl | rfl | rfl | rfl | rfl | rfl | rfl | rfl | rfl | rfl | rfl | rfl | rfl | rfl | rfl | rfl | rfl | rfl | rfl | rfl | rfl | rfl | rfl | rfl | rfl | rfl | rfl | rfl | rfl | rfl | rfl | rfl | rfl | rfl | rfl | rfl | rfl | rfl | rfl | rfl | rfl | rfl | rfl | rfl | rfl | rfl | rfl | rfl | rfl | rfl | rfl | rfl | rfl | rfl | rfl | rfl | rfl | rfl | rfl | rfl | rfl | rfl | rfl | rfl | rfl | rfl | rfl | rfl | rfl | rfl | rfl | rfl | rfl | rfl | rfl | rfl | rfl | rfl | rfl | rfl | rfl | rfl | rfl | rfl | rfl | rfl | rfl | rfl | rfl | rfl | rfl | rfl | rfl | rfl | rfl | rfl | rfl | rfl | rfl | rfl | rfl | rfl | rfl | rfl | rfl | rfl | rfl | rfl | rfl | rfl | rfl | rfl | rfl | rfl | rfl | rfl | rfl | rfl | rfl | rfl | rfl | rfl | rfl | rfl | rfl | rfl | rfl | rfl | rfl | rfl | rfl | rfl | rfl | rfl | rfl | rfl | rfl | rfl | rfl | rfl | rfl | rfl | rfl | rfl | rfl<;>first | rfl | cases h
    rw[e]
    exact qt1
  · refine ⟨(qfX p hp).fn,fun a ha=>?_⟩
    unfold qcP at ha
    split at ha
    · rename_i h2
      exact (h h2).elim
    · cases ha
theorem qxh:CtxOk Tryz.prog (q1X fids) pf2 (q69 qcP qf7 qfb):=qfU qpN (fun f p h=>by
  unfold qf7 at h
  split at h
  · cases h
    exact ⟨rfl,qk9⟩
  · cases h
    exact ⟨rfl,qkt⟩
  · cases h
    exact ⟨rfl,qjV⟩
  · cases h
    exact ⟨rfl,qkQ⟩
  · cases h
    exact ⟨rfl,qkx⟩
  · cases h
    exact ⟨rfl,qic⟩
  · cases h
    exact ⟨rfl,qfY pf2⟩
  · cases h) (fun f p h=>by
  unfold qfb at h
  split at h
  · cases h
    exact ⟨rfl,qmo⟩
  · cases h)
theorem qwp:CtxOk Tryz.prog (q1X fids) pf2 CC:=qcM qxh (fun f h=>by
    have e:f=272:=by simpa [csQ] using h
    subst e
    exact ⟨rfl,qvi,rfl,fun ts v=>qiF rfl⟩) (fun f h=>by
    have e:f=551:=by simpa [lnQ] using h
    subst e
    exact ⟨rfl,fun g hg=>by
      have h:=q0D hg
      simp [fids] at h,rfl,fun ts v=>qiF rfl⟩) (fun f h=>by
    have e:f=510:=by simpa [ssQ] using h
    subst e
    exact ⟨rfl,fun g hg=>by
      have h:=q0D hg
      simp [fids] at h,fun a H v H' h=>by
      obtain ⟨p,x,h,_⟩:=h
      cases h⟩)
theorem qrM:CtxOk Tryz.prog (q1X fids) pf (q5U (q69 qa9 qf7 qfb) noI lnI ssQ):=qcM qvp (fun f h=>by cases h) (fun f h=>by
    have e:f=551∨f=988:=by simpa [lnI] using h
    rcases e with e | e
    · subst e
      exact ⟨rfl,fun g hg=>by
      have h:=q0D hg
      simp [fids] at h,rfl,fun ts v=>qiF rfl⟩
    · subst e
      exact ⟨rfl,qwW,rfl,fun ts v=>qiF rfl⟩) (fun f h=>by
    have e:f=510:=by simpa [ssQ] using h
    subst e
    exact ⟨rfl,fun g hg=>by
      have h:=q0D hg
      simp [fids] at h,fun a H v H' h=>by
      obtain ⟨p,x,h,_⟩:=h
      cases h⟩)
theorem qoG {f:Nat} {ts:List AV} {v:AV} (hf:qfb f=none) (h2:lnI f=false) : ¬ (q5U (q69 qa9 qf7 qfb) noI lnI ssQ).pprim f ts v:=fun h=>by
  rcases h with h | ⟨h,_⟩ | ⟨h,_⟩
  · exact qiF hf h
  · cases h
  · rw[h2] at h
    cases h
theorem qxq:CtxOk Tryz.prog (q1X fids) pf CI0:=qii qrM (fun f F h=>by
  unfold ppN at h
  split at h
  · cases h
    exact ⟨rfl,qy8,fun ts v=>qoG rfl rfl⟩
  · cases h
    exact ⟨rfl,qv1 qvi,fun ts v=>qoG rfl rfl⟩
  · cases h)
theorem qp5 {f:Nat} {a:List AV} {H H':Heap} {v:AV} (hf:qf7 f=none) (h2:ssQ f=false) : ¬ CI0.prim f a H v H':=fun h=>by
  rcases h with h | ⟨h,_⟩
  · obtain ⟨p,x,h,_⟩:=h
    rw[hf] at h
    cases h
  · rw[h2] at h
    cases h
theorem qxb:CtxOk Tryz.prog (q1X fids) pf (q4P CI0 soI):=qdZ qxq (fun f k h=>by
  unfold soI at h
  split at h
  · cases h
    refine ⟨rfl,fun g hg=>?_,fun a H v H'=>qp5 rfl rfl⟩
    have h:=q0D hg
    have e:g=71:=by simpa [fids] using h
    subst e
    exact ⟨_,Tryz.sortP,rfl,Tryz.isAgg70,Tryz.sizeOf70⟩
  · cases h)
theorem qyh:CtxOk Tryz.prog (q1X fids) pf CI:=qir qxb rfl (fun a H v H' h=>by
  rcases h with h | ⟨k,h,_⟩
  · exact qp5 rfl rfl h
  · cases h) (fun a H v H' h=>by
  rcases h with ⟨_,h⟩ | ⟨_,h,ho,rfl⟩
  · exact (q9V qwp h).1
  · exact SimRun.of_pure ho (q9V qwp h).1) (fun a H v H' v2 H2 h h2=>by
  rcases h with ⟨q,h⟩ | ⟨q,h,ho,rfl⟩
  · rcases h2 with ⟨_,h2⟩ | ⟨q2,_⟩
    · exact (q9V qwp h).2.2 _ _ h2
    · rw[q] at q2
      cases q2
  · rcases h2 with ⟨q2,_⟩ | ⟨_,h2,_,rfl⟩
    · rw[q] at q2
      cases q2
    · have:=(q9V qwp h).2.2 _ h2
      exact ⟨this,by rw[this]⟩)
theorem qwx:CtxOk Tryz.prog (q1X fids) pf CI:=qyh
end Go.Proofs.YtjeahlpkonkjiaaGreatDoor
