/- The abstract code of the functions,printed by program. -/
import Derived.Test.YtjeahlpkonkjiaaGreatDoorOCodeN
import Derived.Test.YtjeahlpkonkjiaaGreatDoorOMachH
set_option linter.unusedSimpArgs false
set_option linter.unusedVariables false
set_option maxRecDepth 100000
namespace Ago
open Go.Proofs
noncomputable def qfp (f:Nat):Option AFn:=match qa8 f with
 | some a=>some a
 | none=>qeB f
noncomputable def qsd:Nat→Option AFn
 | 958=>some qvo
 | 959=>some qsF
 | 961=>some qeK
 | 962=>some qnx
 | 963=>some qo8
 | 964=>some qk3
 | 966=>some qn8
 | 968=>some qrJ
 | 969=>some qum
 | 970=>some qcW
 | 971=>some qte
 | 972=>some qgQ
 | 973=>some qtV
 | 974=>some qcR
 | 975=>some qbn
 | 976=>some qhg
 | 977=>some qsc
 | 978=>some qsw
 | 980=>some quG
 | 981=>some qm6
 | 982=>some qrV
 | 983=>some qkj
 | 984=>some qsA
 | 986=>some qlN
 | 987=>some q7Z
 | 989=>some qn2
 | 990=>some quH
 | 991=>some qtU
 | 993=>some qkB
 | 994=>some q82
 | 995=>some qnt
 | 996=>some qrE
 | 997=>some q3Y
 | 998=>some qve
 | 999=>some qmv
 | 1000=>some qoQ
 | 1001=>some qoA
 | 1002=>some qak
 | 1003=>some qgy
 | 1004=>some qcT
 | 1005=>some qfw
 | 1006=>some qoR
 | 1007=>some qoZ
 | 1008=>some qoY
 | 1009=>some qop
 | 1010=>some qoV
 | 1011=>some qoq
 | 1012=>some qoL
 | 1013=>some qor
 | 1014=>some qoO
 | 1015=>some qot
 | _=>none
noncomputable def qa9 (f:Nat):Option AFn:=match qfp f with
 | some a=>some a
 | none=>qsd f
noncomputable def qcP:Nat→Option AFn
 | 985=>some qgE
 | _=>none
noncomputable def CC:Ctx:=q5U (q69 qcP qf7 qfb) csQ lnQ ssQ
noncomputable def qnH:List AV→Bool
 | [.agg (.int _ 4::_)]=>true
 | _=>false
noncomputable def cpL (a:List AV) (H:Heap) (v:AV) (H':Heap):Prop:=
 ((qnH a && H.length == 3)=true∧q1u CC 985 a H v H')∨((qnH a && H.length == 3)=false∧q0k CC 985 a v∧q1y (frz H 6) a=some a∧H'=q0A H a v)
noncomputable def noI (_:Nat):Bool:=false
noncomputable def lnI (f:Nat):Bool:=f == 551 || f == 988
noncomputable def soI:Nat→Option Nat
 | 861=>some 17
 | _=>none
noncomputable def CI0:Ctx:=qaL (q5U (q69 qa9 qf7 qfb) noI lnI ssQ) ppN
noncomputable def CI:Ctx:=qco (q4P CI0 soI) 985 cpL
end Ago
