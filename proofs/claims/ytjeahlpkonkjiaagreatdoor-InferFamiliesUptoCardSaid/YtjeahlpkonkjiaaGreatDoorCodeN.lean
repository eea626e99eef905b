/- The abstract code of the functions,printed by program. -/
import Derived.Test.YtjeahlpkonkjiaaGreatDoorCode
import Derived.Test.YtjeahlpkonkjiaaGreatDoorMachH
set_option linter.unusedSimpArgs false
set_option linter.unusedVariables false
set_option maxRecDepth 100000
namespace Ago
open Go.Proofs
noncomputable def qqB:Nat→Option AFn
 | 137=>some qnj
 | 144=>some qo4
 | 229=>some qdo
 | 250=>some qay
 | 251=>some qlz
 | 257=>some ql8
 | 262=>some qd0
 | 263=>some qeS
 | 264=>some qlh
 | 273=>some qkr
 | 285=>some q6o
 | 286=>some qn9
 | 522=>some ql7
 | 600=>some qmC
 | 625=>some qfB
 | 634=>some qef
 | 635=>some qng
 | 638=>some qiN
 | 643=>some qb2
 | 647=>some qkI
 | 673=>some qjt
 | 674=>some qob
 | 679=>some qmM
 | 692=>some qeA
 | 697=>some qoZ
 | 700=>some qpS
 | 706=>some qpx
 | 707=>some qtG
 | 708=>some q8r
 | 709=>some qb0
 | 716=>some que
 | 717=>some qnT
 | 718=>some qiK
 | 720=>some quQ
 | 721=>some qoy
 | 722=>some qmN
 | 731=>some qvF
 | 732=>some qtj
 | 733=>some qlV
 | _=>none
noncomputable def qgc (f:Nat):Option AFn:=match code f with
 | some a=>some a
 | none=>qqB f
noncomputable def qxC:Nat→Option (Nat × Nat)
 | 130=>some (14,184)
 | _=>none
noncomputable def qym:Nat→Option (Nat × Nat)
 | 62=>some (1,1)
 | _=>none
noncomputable def ppN:Nat→Option (List AV→Option AV)
 | 291=>some qsJ
 | 272=>some quI
 | _=>none
noncomputable def CN:Ctx:=qbL (q6F qgc qxC qym) ppN
end Ago
