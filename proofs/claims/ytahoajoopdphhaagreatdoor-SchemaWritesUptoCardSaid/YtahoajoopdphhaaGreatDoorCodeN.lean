/- The machine with strings.IndexByte and the methods of strings.Builder. -/
import Derived.Test.YtahoajoopdphhaaGreatDoorCode
import Derived.Test.YtahoajoopdphhaaGreatDoorMachJ
import Derived.Test.YtahoajoopdphhaaGreatDoorMachH
set_option linter.unusedSimpArgs false
set_option linter.unusedVariables false
set_option maxRecDepth 100000
namespace Ago
open Go.Proofs
noncomputable def bQ:Nat:=15600005
noncomputable def ppT:Nat→Option (List AV→Option AV)
 | 162=>some qvv
 | 456=>some quG
 | _=>none
noncomputable def CT0:Ctx:=qeu CS ppT
noncomputable def CT:Ctx:=q6A (q6A (q6A CT0 298 (wsL bQ)) 627 (wbL bQ)) 300 (bsL bQ)
theorem upT {f:Nat} {ts:List AV} {v:AV} (h:q0m CS f ts v):q0m CT f ts v:=q25 (q25 (q25 (qjk h)))
end Ago
