/- The abstract code of the functions,printed by program. -/
import Derived.Test.YtahoajoopdphhaaGreatDoorCodeZ
import Derived.Test.YtahoajoopdphhaaGreatDoorMachH
set_option linter.unusedSimpArgs false
set_option linter.unusedVariables false
set_option maxRecDepth 100000
namespace Ago
open Go.Proofs
noncomputable def qtI:Nat→Option AFn
 | 195=>some qnL
 | 229=>some qkE
 | 250=>some qiS
 | 262=>some qjt
 | 340=>some qkW
 | 357=>some qmH
 | 358=>some qjs
 | 360=>some qfo
 | 371=>some qlV
 | 376=>some qiw
 | 377=>some qg8
 | 378=>some qj9
 | 384=>some qmk
 | 389=>some qlG
 | 395=>some qno
 | 396=>some qny
 | 402=>some q7I
 | 404=>some qmJ
 | 415=>some qjG
 | 416=>some qnT
 | 417=>some ql4
 | 418=>some qiA
 | 419=>some qkY
 | 426=>some qm3
 | 427=>some qid
 | 444=>some qhB
 | 453=>some qhQ
 | 454=>some qnv
 | 455=>some qnt
 | 457=>some qnF
 | 458=>some qmF
 | 459=>some qme
 | 460=>some qmi
 | 462=>some qdC
 | 463=>some qi5
 | 474=>some qnQ
 | 480=>some qdK
 | 481=>some qmY
 | 485=>some qez
 | 486=>some qfm
 | 487=>some qiD
 | 488=>some qfJ
 | 490=>some qo5
 | 491=>some q5I
 | 492=>some qmB
 | 493=>some qlW
 | 494=>some qrY
 | 495=>some qmS
 | 496=>some q3v
 | 503=>some qmh
 | 507=>some qi4
 | 508=>some qb9
 | 509=>some qj0
 | 512=>some q8X
 | 513=>some qd6
 | 514=>some qmf
 | 515=>some qnX
 | 516=>some qcG
 | 517=>some qlf
 | 521=>some qom
 | 522=>some quc
 | 523=>some qm8
 | 524=>some qsM
 | 525=>some q3c
 | 526=>some qnE
 | 527=>some qon
 | 528=>some qne
 | 529=>some qor
 | 530=>some qdz
 | 531=>some qkM
 | 532=>some qnp
 | 534=>some qko
 | 548=>some qiI
 | 549=>some qnd
 | 560=>some qmp
 | 562=>some qb1
 | 563=>some qmx
 | 564=>some qf1
 | 565=>some qlY
 | 567=>some qml
 | 568=>some qn4
 | 569=>some qn7
 | 570=>some qnV
 | 571=>some q3U
 | 572=>some qnY
 | 573=>some qlu
 | 574=>some qjL
 | 579=>some qnf
 | 581=>some qjz
 | 597=>some qjT
 | 598=>some qmo
 | 599=>some qlU
 | 600=>some qoe
 | 601=>some qof
 | 602=>some qmU
 | 603=>some qkR
 | 604=>some qlX
 | 605=>some qbj
 | 606=>some qmq
 | 607=>some q7U
 | 612=>some qoo
 | 624=>some qn5
 | 625=>some qif
 | 626=>some qiL
 | 628=>some qlb
 | 629=>some qhG
 | 638=>some qlC
 | 639=>some qo2
 | _=>none
noncomputable def qhM (f:Nat):Option AFn:=match code f with
 | some a=>some a
 | none=>qtI f
noncomputable def qiW:Nat→Option (Nat × Nat)
 | 216=>some (11,104)
 | 518=>some (13,168)
 | 519=>some (17,232)
 | 520=>some (15,208)
 | 566=>some (6,64)
 | 214=>some (1,16)
 | 130=>some (14,184)
 | _=>none
noncomputable def qja:Nat→Option (Nat × Nat)
 | 62=>some (1,1)
 | _=>none
noncomputable def csQ (f:Nat):Bool:=f == 272
noncomputable def lnQ (f:Nat):Bool:=f == 551
noncomputable def ssQ (f:Nat):Bool:=f == 510
noncomputable def CS:Ctx:=qab (qac qhM qiW qja) csQ lnQ ssQ
end Ago
