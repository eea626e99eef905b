/- The abstract code of the functions,printed by program. -/
import Derived.Test.YtjeahlpkonkjiaaGreatDoorCodeN
import Derived.Test.YtjeahlpkonkjiaaGreatDoorMachH
set_option linter.unusedSimpArgs false
set_option linter.unusedVariables false
set_option maxRecDepth 100000
namespace Ago
open Go.Proofs
noncomputable def qi7 (f:Nat):Option AFn:=match qaW f with
 | some a=>some a
 | none=>qgc f
noncomputable def quH:Nat→Option AFn
 | 958=>some qk0
 | 959=>some qjL
 | 961=>some qwe
 | 962=>some qvj
 | 963=>some qo1
 | 964=>some qks
 | 966=>some qpq
 | 968=>some qf9
 | 969=>some qdZ
 | 970=>some qev
 | 971=>some qeI
 | 972=>some qiA
 | 973=>some qiw
 | 974=>some qet
 | 975=>some qcK
 | 976=>some qjB
 | 977=>some qpW
 | 978=>some qeQ
 | 980=>some qjO
 | 981=>some qo7
 | 982=>some qq1
 | 983=>some ql9
 | 984=>some qmD
 | 986=>some qo6
 | 987=>some q8X
 | 989=>some qnK
 | 990=>some qnE
 | 991=>some q8Q
 | 993=>some ql6
 | 994=>some q8V
 | 995=>some qnF
 | 996=>some q8U
 | 997=>some q4m
 | 998=>some q6L
 | 999=>some qqj
 | 1000=>some qhW
 | 1001=>some qi4
 | 1002=>some qbw
 | 1003=>some qh1
 | 1004=>some qeO
 | 1005=>some qi5
 | 1006=>some qie
 | 1007=>some q5q
 | 1008=>some q7i
 | 1009=>some qc1
 | 1010=>some qh0
 | 1011=>some qhP
 | 1012=>some qbn
 | 1013=>some qi3
 | 1014=>some qea
 | 1015=>some qh2
 | _=>none
noncomputable def qaR (f:Nat):Option AFn:=match qi7 f with
 | some a=>some a
 | none=>quH f
noncomputable def qeh:Nat→Option AFn
 | 985=>some qjA
 | _=>none
noncomputable def CC:Ctx:=q6s (q6F qeh qgj qhB) csQ lnQ ssQ
noncomputable def qoB:List AV→Bool
 | [.agg (.int _ 4::_)]=>true
 | _=>false
noncomputable def cpL (a:List AV) (H:Heap) (v:AV) (H':Heap):Prop:=
 ((qoB a && H.length == 3)=true∧q1K CC 985 a H v H')∨((qoB a && H.length == 3)=false∧q0e CC 985 a v∧q1N (frz H 6) a=some a∧H'=q0F H a v)
noncomputable def noI (_:Nat):Bool:=false
noncomputable def lnI (f:Nat):Bool:=f == 551 || f == 988
noncomputable def soI:Nat→Option Nat
 | 861=>some 17
 | _=>none
noncomputable def CI0:Ctx:=qbL (q6s (q6F qaR qgj qhB) noI lnI ssQ) ppN
noncomputable def CI:Ctx:=qdM (q5d CI0 soI) 985 cpL
end Ago
