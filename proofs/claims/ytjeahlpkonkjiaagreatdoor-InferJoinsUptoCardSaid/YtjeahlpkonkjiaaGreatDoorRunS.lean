/- The law InferJoins. -/
import Derived.Test.YtjeahlpkonkjiaaGreatDoorRunQ
import Derived.Test.YtjeahlpkonkjiaaGreatDoorRunO
set_option linter.unusedSimpArgs false
set_option linter.unusedVariables false
set_option maxRecDepth 100000
set_option maxHeartbeats 4000000
namespace Ago
open Go (IntKind)
theorem qrj (a b:Sch) (h:a.bulk+b.bulk<2^22):q0e CI 958 [q03 a,q03 b] (.bool true):=by
 have haw:=qle
 obtain ⟨s1,k1⟩:=q9e a (by omega)
 obtain ⟨s2,k2⟩:=q9e b (by omega)
 have k1:=qei k1
 have k2:=qei k2
 have j1:=(qih a b (by omega)).1
 have j2:=(qih a b (by omega)).2
 have e:=qj5 a b h
 generalize qd6 a b=r at *
 rw[q01 a] at k1 j1 j2 ⊢
 rw[q01 b] at k2 j1 j2 ⊢
 rw[q01 r.1] at j1 j2 e
 refine q04 qk0 rfl ?_
 cases s1 with
 | false=>
  (repeat' first|simp (disch:=omega) only[go_sem,qk0,enter]|refine q00 _ (k1) ?_|refine q00 _ (k2) ?_|refine q00 _ (haw) ?_)
  all_goals first | rfl | omega
 | true=>
 cases s2 with
 | false=>
  (repeat' first|simp (disch:=omega) only[go_sem,qk0,enter]|refine q00 _ (k1) ?_|refine q00 _ (k2) ?_|refine q00 _ (haw) ?_)
  all_goals first | rfl | omega
 | true=>
  (repeat' first|simp (disch:=omega) only[go_sem,qk0,enter,bne_self_eq_false]|refine q00 _ (k1) ?_|refine q00 _ (k2) ?_|refine q00 _ (haw) ?_|refine q00 _ (j1) ?_|refine q00 _ (j2) ?_|refine q00 _ (e) ?_)
  all_goals first | rfl | omega
end Ago
