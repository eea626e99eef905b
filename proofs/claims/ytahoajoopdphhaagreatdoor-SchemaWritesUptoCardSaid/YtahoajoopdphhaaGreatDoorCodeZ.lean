/- The abstract code of the functions,printed by program. -/
import Derived.Test.YtahoajoopdphhaaGreatDoorCodeQ
import Derived.Test.YtahoajoopdphhaaGreatDoorCodeR
import Derived.Test.YtahoajoopdphhaaGreatDoorCodeS
import Derived.Test.YtahoajoopdphhaaGreatDoorCodeT
import Derived.Test.YtahoajoopdphhaaGreatDoorCodeU
import Derived.Test.YtahoajoopdphhaaGreatDoorCodeV
import Derived.Test.YtahoajoopdphhaaGreatDoorCodeW
import Derived.Test.YtahoajoopdphhaaGreatDoorCodeX
set_option linter.unusedSimpArgs false
set_option linter.unusedVariables false
set_option maxRecDepth 100000
namespace Ago
open Go.Proofs
noncomputable def code:Nat→Option AFn
 | 18=>some qtV
 | 19=>some qtw
 | 24=>some qv6
 | 26=>some qt7
 | 29=>some qtl
 | 38=>some qpl
 | 39=>some qoP
 | 42=>some qtc
 | 45=>some qrA
 | 46=>some qr4
 | 57=>some qhv
 | 58=>some qqU
 | 59=>some qr7
 | 60=>some qhl
 | 63=>some qtJ
 | 78=>some qu4
 | 79=>some qrj
 | 80=>some qsN
 | 81=>some qtf
 | 82=>some quT
 | 83=>some qiV
 | 84=>some qcn
 | 90=>some qvi
 | 91=>some qtD
 | 92=>some qsp
 | 93=>some qsR
 | 94=>some qf0
 | 95=>some qt6
 | 96=>some ql2
 | 123=>some qmj
 | 124=>some qn9
 | 126=>some qjr
 | 128=>some qnU
 | 129=>some qm4
 | 133=>some q1g
 | 136=>some qnc
 | 138=>some qjA
 | 139=>some qka
 | 140=>some qfb
 | 141=>some qlr
 | 142=>some qkg
 | 143=>some qiq
 | 148=>some qkc
 | 149=>some q8p
 | 150=>some qm6
 | 151=>some qc9
 | 155=>some qm0
 | 158=>some qmd
 | _=>none
noncomputable def clR:Nat→Option (Nat × Nat)
 | 130=>some (14,184)
 | _=>none
noncomputable def clP:Nat→Option (Nat × Nat)
 | 62=>some (1,1)
 | _=>none
noncomputable def C0:Ctx:=qac code clR clP
end Ago
