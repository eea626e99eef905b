/- The abstract code of the functions,printed by program. -/
import Derived.Test.YtkibapblgbdhmaaGreatDoorCode
import Derived.Test.YtkibapblgbdhmaaGreatDoorMachH
set_option linter.unusedSimpArgs false
set_option linter.unusedVariables false
set_option maxRecDepth 100000
namespace Ago
def qlF:Nat→Option AFn
 | 229=>some qg3
 | 250=>some qcF
 | 257=>some qhd
 | 262=>some qfy
 | 263=>some qbl
 | 264=>some qhc
 | 273=>some qgn
 | 285=>some q7v
 | 286=>some qie
 | 522=>some qgZ
 | 600=>some qiq
 | 625=>some qdA
 | 634=>some qbT
 | 635=>some qh4
 | 638=>some qfB
 | 643=>some q8P
 | 647=>some qgT
 | _=>none
def qcU (f:Nat):Option AFn:=match code f with
 | some a=>some a
 | none=>qlF f
def qra:Nat→Option (Nat × Nat)
 | 130=>some (14,184)
 | _=>none
def qqP:Nat→Option (Nat × Nat)
 | 62=>some (1,1)
 | _=>none
def ppN:Nat→Option (List AV→Option AV)
 | 291=>some qns
 | 272=>some qo3
 | _=>none
def CN:Ctx:=q9t (q5g qcU qra qqP) ppN
end Ago
