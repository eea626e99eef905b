/- The abstract code of the functions,printed by program. -/
import Derived.Test.YtjeahlpkonkjiaaGreatDoorCodeQ
import Derived.Test.YtjeahlpkonkjiaaGreatDoorCodeR
import Derived.Test.YtjeahlpkonkjiaaGreatDoorCodeS
import Derived.Test.YtjeahlpkonkjiaaGreatDoorCodeT
import Derived.Test.YtjeahlpkonkjiaaGreatDoorCodeU
import Derived.Test.YtjeahlpkonkjiaaGreatDoorCodeV
import Derived.Test.YtjeahlpkonkjiaaGreatDoorCodeW
import Derived.Test.YtjeahlpkonkjiaaGreatDoorCodeX
set_option linter.unusedSimpArgs false
set_option linter.unusedVariables false
set_option maxRecDepth 100000
namespace Ago
open Go.Proofs
noncomputable def code:Nat→Option AFn
 | 18=>some quD
 | 19=>some qvm
 | 24=>some qwR
 | 26=>some qum
 | 29=>some qvn
 | 38=>some qs7
 | 39=>some qqK
 | 40=>some qwx
 | 42=>some qqT
 | 45=>some qt9
 | 46=>some qsg
 | 51=>some qsV
 | 57=>some qig
 | 58=>some qrr
 | 59=>some qsD
 | 60=>some qhG
 | 63=>some quP
 | 75=>some qxk
 | 78=>some quU
 | 79=>some qrT
 | 80=>some qv4
 | 81=>some qwn
 | 82=>some qx2
 | 83=>some qiJ
 | 84=>some qcO
 | 90=>some qwE
 | 91=>some qwo
 | 92=>some qtk
 | 93=>some qu9
 | 94=>some qga
 | 95=>some quG
 | 96=>some qlb
 | 126=>some qn5
 | 129=>some qvS
 | 133=>some q15
 | 136=>some qup
 | 138=>some qeq
 | 139=>some qlB
 | 140=>some qfW
 | 141=>some qmX
 | 142=>some qlI
 | 143=>some qw0
 | 148=>some qlW
 | 149=>some q84
 | 150=>some qpK
 | 151=>some qcj
 | 155=>some qp0
 | 158=>some qqe
 | _=>none
noncomputable def clR:Nat→Option (Nat × Nat)
 | 130=>some (14,184)
 | _=>none
noncomputable def clP:Nat→Option (Nat × Nat)
 | 62=>some (1,1)
 | _=>none
noncomputable def C0:Ctx:=q6F code clR clP
end Ago
