/- The abstract code of the functions,printed by program. -/
import Derived.Test.YtjeahlpkonkjiaaGreatDoorOCodeZ
import Derived.Test.YtjeahlpkonkjiaaGreatDoorOMachH
set_option linter.unusedSimpArgs false
set_option linter.unusedVariables false
set_option maxRecDepth 100000
namespace Ago
open Go.Proofs
noncomputable def qrX:Nat→Option AFn
 | 195=>some qlR
 | 229=>some qbA
 | 250=>some q8K
 | 251=>some qkN
 | 257=>some qk6
 | 262=>some qb0
 | 263=>some qcI
 | 264=>some qjM
 | 273=>some qkd
 | 285=>some q5R
 | 286=>some qkn
 | 340=>some qtA
 | 357=>some qnQ
 | 358=>some qjY
 | 360=>some qt2
 | 376=>some qgD
 | 377=>some qeL
 | 378=>some qhm
 | 384=>some quI
 | 396=>some qnd
 | 454=>some qoi
 | 455=>some qs9
 | 457=>some qlE
 | 458=>some qsx
 | 459=>some qnI
 | 460=>some qsN
 | 461=>some qn7
 | 468=>some qo9
 | 474=>some qmQ
 | 480=>some qcY
 | 481=>some qnj
 | 485=>some qdy
 | 486=>some qei
 | 487=>some qsr
 | 488=>some qtF
 | 490=>some qmk
 | 491=>some qsK
 | 492=>some qtB
 | 494=>some qo3
 | 501=>some qhv
 | 503=>some qms
 | 507=>some qhe
 | 508=>some qa7
 | 509=>some qh9
 | 512=>some qrP
 | 513=>some qbL
 | 514=>some qmn
 | 515=>some qm8
 | 516=>some qsj
 | 517=>some qki
 | 521=>some qs0
 | 522=>some qkV
 | 523=>some qmB
 | 524=>some qof
 | 529=>some qhy
 | 547=>some qlY
 | 548=>some qnb
 | 549=>some qnc
 | 560=>some qnM
 | 562=>some qa4
 | 563=>some qo4
 | 564=>some qup
 | 565=>some qtX
 | 567=>some qnF
 | 579=>some qnf
 | 580=>some qtG
 | 581=>some qo1
 | 597=>some qik
 | 598=>some qlW
 | 599=>some qus
 | 600=>some qr7
 | 601=>some qrS
 | 602=>some qsb
 | 603=>some qtS
 | 604=>some qtI
 | 610=>some qud
 | 611=>some qtf
 | 612=>some qn9
 | 624=>some qmr
 | 625=>some qqh
 | 634=>some qr1
 | 635=>some qqz
 | 638=>some qqr
 | 643=>some qpX
 | 647=>some qqp
 | _=>none
noncomputable def qa8 (f:Nat):Option AFn:=match code f with
 | some a=>some a
 | none=>qrX f
noncomputable def qf7:Nat→Option (Nat × Nat)
 | 216=>some (11,104)
 | 518=>some (13,168)
 | 519=>some (17,232)
 | 520=>some (15,208)
 | 566=>some (6,64)
 | 214=>some (1,16)
 | 130=>some (14,184)
 | _=>none
noncomputable def qfb:Nat→Option (Nat × Nat)
 | 62=>some (1,1)
 | _=>none
noncomputable def csQ (f:Nat):Bool:=f == 272
noncomputable def lnQ (f:Nat):Bool:=f == 551
noncomputable def ssQ (f:Nat):Bool:=f == 510
noncomputable def CS:Ctx:=q5U (q69 qa8 qf7 qfb) csQ lnQ ssQ
end Ago
