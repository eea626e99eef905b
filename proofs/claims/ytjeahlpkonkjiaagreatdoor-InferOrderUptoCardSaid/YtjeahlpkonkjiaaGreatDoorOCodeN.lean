/- The abstract code of the functions,printed by program. -/
import Derived.Test.YtjeahlpkonkjiaaGreatDoorOCode
import Derived.Test.YtjeahlpkonkjiaaGreatDoorOMachH
set_option linter.unusedSimpArgs false
set_option linter.unusedVariables false
set_option maxRecDepth 100000
namespace Ago
open Go.Proofs
noncomputable def qoM:Nat→Option AFn
 | 137=>some qjP
 | 144=>some qo6
 | 229=>some qbA
 | 250=>some q8K
 | 251=>some qkN
 | 257=>some qk6
 | 262=>some qb0
 | 263=>some qcI
 | 264=>some qjM
 | 273=>some qkd
 | 285=>some q5R
 | 286=>some qkn
 | 522=>some qkV
 | 600=>some qr7
 | 625=>some qqh
 | 634=>some qr1
 | 635=>some qqz
 | 638=>some qqr
 | 643=>some qpX
 | 647=>some qqp
 | 673=>some qhL
 | 674=>some qoc
 | 679=>some qk0
 | 692=>some qc6
 | 697=>some qlL
 | 700=>some qmt
 | 706=>some qlF
 | 707=>some qtt
 | 708=>some q7G
 | 709=>some qa5
 | 716=>some qth
 | 717=>some qnD
 | 718=>some qhO
 | 720=>some qsC
 | 721=>some qlG
 | 722=>some qjO
 | 731=>some qsR
 | 732=>some qtZ
 | 733=>some qkg
 | _=>none
noncomputable def qeB (f:Nat):Option AFn:=match code f with
 | some a=>some a
 | none=>qoM f
noncomputable def qwN:Nat→Option (Nat × Nat)
 | 130=>some (14,184)
 | _=>none
noncomputable def qwA:Nat→Option (Nat × Nat)
 | 62=>some (1,1)
 | _=>none
noncomputable def ppN:Nat→Option (List AV→Option AV)
 | 291=>some qrk
 | 272=>some quy
 | _=>none
noncomputable def CN:Ctx:=qaL (q69 qeB qwN qwA) ppN
end Ago
