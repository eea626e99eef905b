/- The abstract code of the functions,printed by program. -/
import Derived.Test.YtjeahlpkonkjiaaGreatDoorOCodeQ
import Derived.Test.YtjeahlpkonkjiaaGreatDoorOCodeR
import Derived.Test.YtjeahlpkonkjiaaGreatDoorOCodeS
import Derived.Test.YtjeahlpkonkjiaaGreatDoorOCodeT
import Derived.Test.YtjeahlpkonkjiaaGreatDoorOCodeU
import Derived.Test.YtjeahlpkonkjiaaGreatDoorOCodeV
import Derived.Test.YtjeahlpkonkjiaaGreatDoorOCodeW
import Derived.Test.YtjeahlpkonkjiaaGreatDoorOCodeX
set_option linter.unusedSimpArgs false
set_option linter.unusedVariables false
set_option maxRecDepth 100000
namespace Ago
open Go.Proofs
noncomputable def code:Nat→Option AFn
 | 18=>some qur
 | 19=>some qxz
 | 24=>some qxU
 | 26=>some qv0
 | 29=>some qsk
 | 38=>some qri
 | 39=>some qxN
 | 40=>some qxx
 | 42=>some qxM
 | 45=>some qro
 | 46=>some qqR
 | 51=>some qrn
 | 57=>some qxK
 | 58=>some qxG
 | 59=>some qxB
 | 60=>some qxu
 | 63=>some quZ
 | 75=>some qvE
 | 78=>some qxE
 | 79=>some qxS
 | 80=>some qxY
 | 81=>some qxy
 | 82=>some qxF
 | 83=>some qxQ
 | 84=>some qbM
 | 90=>some qvH
 | 91=>some qxw
 | 92=>some qxA
 | 93=>some qxC
 | 94=>some qeS
 | 95=>some quj
 | 96=>some qjw
 | 126=>some qkm
 | 129=>some qrF
 | 133=>some q0T
 | 136=>some quW
 | 138=>some qdE
 | 139=>some qjI
 | 140=>some qe6
 | 141=>some qiC
 | 142=>some qj6
 | 143=>some qsV
 | 148=>some qjj
 | 149=>some q7w
 | 150=>some qnO
 | 151=>some qaZ
 | 155=>some qmC
 | 158=>some qnR
 | _=>none
noncomputable def clR:Nat→Option (Nat × Nat)
 | 130=>some (14,184)
 | _=>none
noncomputable def clP:Nat→Option (Nat × Nat)
 | 62=>some (1,1)
 | _=>none
noncomputable def C0:Ctx:=q69 code clR clP
end Ago
