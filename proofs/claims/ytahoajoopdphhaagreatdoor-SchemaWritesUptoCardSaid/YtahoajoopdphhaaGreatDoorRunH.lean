/- Same of a schema and itself; what is clean is cloned as it is. -/
import Derived.Test.YtahoajoopdphhaaGreatDoorRunK
import Derived.Test.YtahoajoopdphhaaGreatDoorRunY
set_option linter.unusedSimpArgs false
set_option linter.unusedVariables false
set_option maxRecDepth 100000
set_option maxHeartbeats 16000000
namespace Ago
open Go (IntKind)
theorem qjR (l:List V):q0m CS 529 [.tsl 13 (l.map q0g)] (q0g (.mk ⟨6,false,⟨false,[],0⟩,⟨0,0,0,0⟩,[],[]⟩ l [])):=by
 refine q05 qor rfl ?_
 rw[q07]
 (repeat' first|simp (disch:=omega) only[go_sem,qor,enter]|(apply spl<;>intro h<;>try simp (disch:=omega) only[go_sem,h]))
 all_goals rfl
end Ago
set_option maxRecDepth 100000
set_option maxHeartbeats 16000000
namespace Ago
open Go (IntKind)
theorem qmP {v:V} (h:q6m v=true):qbU 65536 v=v:=by
 unfold q6m at h
 rw[Kk] at h
 obtain ⟨h1,h2⟩:=h
 have h1:=of_decide_eq_true h1
 have h2:=of_decide_eq_true h2
 have ho:ownM v=true:=by
  cases hb:ownM v with
  | true=>rfl
  | false=>
   exfalso
   have h3:qbi v=6:=by unfold qbi; rw[if_pos hb]
   have h4:q2d 49 v 1 0=(0,6):=by
    show (if (48:Int)<1 then _ else if (65536:Int)≤0 then _ else if qbi v≠0 then ((0:Int),qbi v) else _)=_
    rw[if_neg (by decide),if_neg (by decide),if_pos (by rw[h3]; decide),h3]
   unfold q42 at h2
   rw[h4] at h2
   cases h2
 unfold ownM at ho
 simp only[Kk,K6,beq_iff_eq,decide_eq_true_eq] at ho
 have hl:v.l=[]:=by
  rcases ho.1.2 with h | h
  ·omega
  ·exact VO.1 (by omega)
 have hf:v.f=[]:=by
  rcases ho.2 with h | h
  ·omega
  ·exact VO.1 (by omega)
 obtain ⟨s,l,f⟩:=v
 have hl:l=[]:=hl
 have hf:f=[]:=hf
 subst hl hf
 rfl
theorem qc7 {α:Type} {f:α→Int} : ∀ {l:List α},q6B (l.map f)=0→∀ x,x∈l→f x=0
 | [],_,x,hx=>by cases hx
 | y::l,h,x,hx=>by
  simp only[Kd,q6B] at h
  by_cases hy:f y=0
  ·rw[if_pos hy] at h
   rcases KA.1 hx with rfl | hx
   ·exact hy
   ·exact qc7 h x hx
  ·rw[if_neg hy] at h
   exact (hy h).elim
end Ago
