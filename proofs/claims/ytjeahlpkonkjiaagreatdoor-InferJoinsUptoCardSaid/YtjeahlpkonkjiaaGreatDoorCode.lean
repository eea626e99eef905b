/- The abstract code of the functions,printed by program. -/
import Derived.Test.YtjeahlpkonkjiaaGreatDoorCodeZ
import Derived.Test.YtjeahlpkonkjiaaGreatDoorMachH
set_option linter.unusedSimpArgs false
set_option linter.unusedVariables false
set_option maxRecDepth 100000
namespace Ago
open Go.Proofs
noncomputable def qu3:Nat→Option AFn
 | 195=>some qqg
 | 229=>some qdo
 | 250=>some qay
 | 251=>some qlz
 | 257=>some ql8
 | 262=>some qd0
 | 263=>some qeS
 | 264=>some qlh
 | 273=>some qkr
 | 285=>some q6o
 | 286=>some qn9
 | 340=>some qlA
 | 357=>some qot
 | 358=>some qlL
 | 360=>some qgC
 | 376=>some qiD
 | 377=>some qfG
 | 378=>some qjF
 | 384=>some qpY
 | 396=>some qqn
 | 454=>some qqa
 | 455=>some qoG
 | 457=>some qnL
 | 458=>some qpl
 | 459=>some qpB
 | 460=>some qpO
 | 461=>some qpn
 | 468=>some qwu
 | 474=>some qq8
 | 480=>some qfi
 | 481=>some qoV
 | 485=>some qf1
 | 486=>some qfL
 | 487=>some qjz
 | 488=>some qfU
 | 490=>some qoC
 | 491=>some qvL
 | 492=>some qon
 | 494=>some qoz
 | 501=>some qtr
 | 503=>some qo9
 | 507=>some qiH
 | 508=>some qb1
 | 509=>some qjU
 | 512=>some quM
 | 513=>some qcE
 | 514=>some qpU
 | 515=>some qpc
 | 516=>some qcT
 | 517=>some qmt
 | 521=>some qus
 | 522=>some ql7
 | 523=>some qje
 | 524=>some qoY
 | 529=>some qj6
 | 547=>some qw1
 | 548=>some qoX
 | 549=>some qof
 | 560=>some qnI
 | 562=>some qaV
 | 563=>some qo3
 | 564=>some qgd
 | 565=>some qnZ
 | 567=>some qiL
 | 579=>some qo5
 | 580=>some qlK
 | 581=>some qaz
 | 597=>some qnf
 | 598=>some qoJ
 | 599=>some qnS
 | 600=>some qmC
 | 601=>some qpH
 | 602=>some qpA
 | 603=>some ql4
 | 604=>some qp7
 | 610=>some qkY
 | 611=>some qnt
 | 612=>some qiW
 | 624=>some qpR
 | 625=>some qfB
 | 634=>some qef
 | 635=>some qng
 | 638=>some qiN
 | 643=>some qb2
 | 647=>some qkI
 | _=>none
noncomputable def qaW (f:Nat):Option AFn:=match code f with
 | some a=>some a
 | none=>qu3 f
noncomputable def qgj:Nat→Option (Nat × Nat)
 | 216=>some (11,104)
 | 518=>some (13,168)
 | 519=>some (17,232)
 | 520=>some (15,208)
 | 566=>some (6,64)
 | 214=>some (1,16)
 | 130=>some (14,184)
 | _=>none
noncomputable def qhB:Nat→Option (Nat × Nat)
 | 62=>some (1,1)
 | _=>none
noncomputable def csQ (f:Nat):Bool:=f == 272
noncomputable def lnQ (f:Nat):Bool:=f == 551
noncomputable def ssQ (f:Nat):Bool:=f == 510
noncomputable def CS:Ctx:=q6s (q6F qaW qgj qhB) csQ lnQ ssQ
end Ago
