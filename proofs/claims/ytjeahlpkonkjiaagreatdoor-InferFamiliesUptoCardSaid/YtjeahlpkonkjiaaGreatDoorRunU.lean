/- The law InferFamilies. -/
import Derived.Test.YtjeahlpkonkjiaaGreatDoorRunR
import Derived.Test.YtjeahlpkonkjiaaGreatDoorRunO
set_option linter.unusedSimpArgs false
set_option linter.unusedVariables false
set_option maxRecDepth 100000
set_option maxHeartbeats 4000000
namespace Ago
open Go (IntKind)
theorem qrk (a b:Sch) (h:a.bulk+b.bulk<2^22):q0e CI 959 [q03 a,q03 b] (.bool true):=by
 have haw:=qle
 obtain ⟨s1,k1⟩:=q9e a (by omega)
 obtain ⟨s2,k2⟩:=q9e b (by omega)
 have k1:=qei k1
 have k2:=qei k2
 have w1:=(qbM a b (by omega)).1
 have w2:=(qbM a b (by omega)).2
 have p1:=(q2Y a (by omega)).1
 have p2:=(q2Y a (by omega)).2
 have q1:=(q2Y b (by omega)).1
 have q2:=(q2Y b (by omega)).2
 generalize qio a b=r at *
 generalize qgi a=fa at *
 generalize qgi b=fb at *
 obtain ⟨r1,r2⟩:=r
 simp only at w1 w2
 rw[q01 a] at k1 w1 w2 p1 p2 ⊢
 rw[q01 b] at k2 w1 w2 q1 q2 ⊢
 refine q04 qjL rfl ?_
 cases s1 with
 | false=>
  (repeat' first|simp (disch:=omega) only[go_sem,qjL,enter]|refine q00 _ (k1) ?_|refine q00 _ (k2) ?_|refine q00 _ (haw) ?_)
  all_goals first | rfl | omega
 | true=>
 cases s2 with
 | false=>
  (repeat' first|simp (disch:=omega) only[go_sem,qjL,enter]|refine q00 _ (k1) ?_|refine q00 _ (k2) ?_|refine q00 _ (haw) ?_)
  all_goals first | rfl | omega
 | true=>
  cases fa<;>cases fb<;>cases r1
  all_goals
   (repeat' first|simp (disch:=omega) only[go_sem,qjL,enter,bne_self_eq_false,beq_self_eq_true]|refine q00 _ (k1) ?_|refine q00 _ (k2) ?_|refine q00 _ (haw) ?_|refine q00 _ (w1) ?_|refine q00 _ (w2) ?_|refine q00 _ (p1) ?_|refine q00 _ (p2) ?_|refine q00 _ (q1) ?_|refine q00 _ (q2) ?_)
   all_goals first | rfl | omega
end Ago
