/- Same of a schema and itself; what is clean is cloned as it is. -/
import Derived.Test.YtjeahlpkonkjiaaGreatDoorORunK
import Derived.Test.YtjeahlpkonkjiaaGreatDoorORunY
import Derived.Test.YtjeahlpkonkjiaaGreatDoorORunA
import Derived.Test.YtjeahlpkonkjiaaGreatDoorORunG
import Derived.Test.YtjeahlpkonkjiaaGreatDoorORunC
set_option linter.unusedSimpArgs false
set_option linter.unusedVariables false
set_option maxRecDepth 100000
set_option maxHeartbeats 16000000
namespace Ago
open Go (IntKind)
def qoe:Nat→Pat→Prop
 | 0,_=>False
 | d+1,p=>∀ a,a∈p.a→qoe d a
theorem qaz : ∀ (d:Nat) (p:Pat),q3f d p=true→qoe d p
 | 0,p,h=>by cases h
 | d+1,p,h=>fun a ha=>by
  rw[q6J,Kd,Ki] at h
  exact qaz d a (h.2 a ha)
theorem qlJ {p:Pat} (h:q1Y p=true):qoe 48 p:=fun a ha=>by
 unfold q1Y at h
 have h:=of_decide_eq_true h
 have:p.a=[]:=KX.1 h.2.2.2.2.2
 rw[this] at ha
 cases ha
theorem qdH : ∀ (d:Nat) (D:Int),D=d→d<2^30→∀ x:Pat,x.bulk≤2^24→qoe d x→q0k CS 567 [q0G x,q0G x,.int .i64 D] (.bool true):=by
 intro d
 induction d with
 | zero=>intro D hD hd x hx h; exact h.elim
 | succ d ih=>
  intro D hD hd x hx h
  have L:=Pat.lens hx
  have hal:=L.args
  refine q04 qnF rfl ?_
  rw[q0r]
  (repeat' first|simp (disch:=omega) only[go_sem,qnF,enter,Ka,bne_self_eq_false]|(apply spl<;>intro h<;>try simp (disch:=omega) only[go_sem,h]))
  all_goals first | omega | skip
  refine q07 (α:=Nat) (fun k=>{ tmps:=q0q 75 [(2,.int .i64 D),(3,.ptr 6 0 0 0),(4,.ptr 6 1 0 0),(7,.int .i64 k)],heap:=[.row 6 [q0G x] false true 0,.row 6 [q0G x] false true 1],base:=0 }) (fun k=>k≤x.a.length) (fun k=>x.a.length-k) 0 (by rw[q0r x]; rfl) (Kp _) ?_
  intro k hk
  rw[q0r x]
  by_cases hlt:k<x.a.length
  ·obtain ⟨y,hy⟩:=q06 hlt
   have hym:=Kc hy
   have hy2:=q0c (g:=q0G) hy
   have hr:=ih (D-1) (by omega) (by omega) y (by have:=L.kids y hym; omega) (h y hym)
   rw[q0r y] at hy2 hr
   (repeat' first|simp (disch:=omega) only[go_sem,hy2,Ka]|refine q00 _ (hr) ?_|(apply spl<;>intro h<;>try simp (disch:=omega) only[go_sem,h]))
   all_goals first | omega | skip
   exact ⟨k+1,rfl,hlt,by omega⟩
  ·(repeat' first|simp (disch:=omega) only[go_sem,Ka]|(apply spl<;>intro h<;>try simp (disch:=omega) only[go_sem,h]))
   all_goals omega
theorem q8I (x:Pat) (hx:x.bulk≤2^24) (h:qoe 48 x):q0k CS 523 [q0G x,q0G x] (.bool true):=by
 have h:=qdH 48 48 rfl (by decide) x hx h
 refine q04 qmB rfl ?_
 rw[q0r] at h ⊢
 (repeat' first|simp (disch:=omega) only[go_sem,qmB,enter]|refine q00 _ (h) ?_|(apply spl<;>intro h<;>try simp (disch:=omega) only[go_sem,h]))
theorem qdL (l:List Prt) (hl:l.length<2^31):q0k CS 522 [.agg [.tsl 11 (l.map q0m)],.agg [.tsl 11 (l.map q0m)]] (.bool true):=by
 refine q04 qkV rfl ?_
 (repeat' first|simp (disch:=omega) only[go_sem,qkV,enter,Ka,bne_self_eq_false]|(apply spl<;>intro h<;>try simp (disch:=omega) only[go_sem,h]))
 refine q07 (α:=Nat) (fun k=>{ tmps:=q0q 31 [(2,.ptr 1 0 0 0),(3,.ptr 1 1 0 0),(5,.int .i64 k)],heap:=[.row 1 [.agg [.tsl 11 (l.map q0m)]] false true 0,.row 1 [.agg [.tsl 11 (l.map q0m)]] false true 1],base:=0 }) (fun k=>k≤l.length) (fun k=>l.length-k) 0 rfl (Kp _) ?_
 rintro k hk
 by_cases hlt:k<l.length
 ·obtain ⟨p,hp⟩:=q06 hlt
  have hp2:=q0c (g:=q0m) hp
  simp only[q0m] at hp2
  (repeat' first|simp (disch:=omega) only[go_sem,hp2,Ka]|(apply spl<;>intro h<;>try simp (disch:=omega) only[go_sem,h]))
  all_goals try omega
  exact ⟨k+1,rfl,hlt,by omega⟩
 ·(repeat' first|simp (disch:=omega) only[go_sem,Ka]|(apply spl<;>intro h<;>try simp (disch:=omega) only[go_sem,h]))
  all_goals omega
theorem qiS (l:List V):q0k CS 529 [.tsl 13 (l.map q0u)] (q0u (.mk ⟨6,false,⟨false,[],0⟩,⟨0,0,0,0⟩,[],[]⟩ l [])):=by
 refine q04 qhy rfl ?_
 rw[q08]
 (repeat' first|simp (disch:=omega) only[go_sem,qhy,enter]|(apply spl<;>intro h<;>try simp (disch:=omega) only[go_sem,h]))
 all_goals rfl
theorem qcx (l:List V) (hl:AV.bulks (l.map q0u)≤2^23):q0k CS 524 [.tsl 13 (l.map q0u),.tsl 13 (l.map q0u)] (.bool true):=by
 have h1:=qiS l
 have h2:=upS (qdR (2^24) (.mk ⟨6,false,⟨false,[],0⟩,⟨0,0,0,0⟩,[],[]⟩ l []) (by
  rw[V.bulk_eq]
  simp [V.s,V.l,V.f,q40,AV.bulks]
  omega) (Ko _))
 refine q04 qof rfl ?_
 rw[q08] at h1 h2
 (repeat' first|simp (disch:=omega) only[go_sem,qof,enter]|refine q00 _ (h1) ?_|refine q00 _ (h2) ?_|(apply spl<;>intro h<;>try simp (disch:=omega) only[go_sem,h]))
end Ago
set_option maxRecDepth 100000
set_option maxHeartbeats 16000000
namespace Ago
open Go (IntKind)
def q7S:Nat→Sch→Prop
 | 0,_=>False
 | d+1,x=>(∀ v,v∈x.s.vals→qc0 65536 v=v)∧qoe 48 x.s.pat∧∀ y,y∈x.kids→q7S d y
theorem qn3 {v:V} (h:qdO v=true):qc0 65536 v=v:=by
 unfold qdO at h
 rw[Kd] at h
 obtain ⟨h1,h2⟩:=h
 have h1:=of_decide_eq_true h1
 have h2:=of_decide_eq_true h2
 have ho:ownM v=true:=by
  cases hb:ownM v with
  | true=>rfl
  | false=>
   exfalso
   have h3:qeQ v=6:=by unfold qeQ; rw[if_pos hb]
   have h4:q2n 49 v 1 0=(0,6):=by
    show (if (48:Int)<1 then _ else if (65536:Int)≤0 then _ else if qeQ v≠0 then ((0:Int),qeQ v) else _)=_
    rw[if_neg (by decide),if_neg (by decide),if_pos (by rw[h3]; decide),h3]
   unfold q49 at h2
   rw[h4] at h2
   cases h2
 unfold ownM at ho
 simp only[Kd,KM,beq_iff_eq,decide_eq_true_eq] at ho
 have hl:v.l=[]:=by
  rcases ho.1.2 with h | h
  ·omega
  ·exact KX.1 (by omega)
 have hf:v.f=[]:=by
  rcases ho.2 with h | h
  ·omega
  ·exact KX.1 (by omega)
 obtain ⟨s,l,f⟩:=v
 have hl:l=[]:=hl
 have hf:f=[]:=hf
 subst hl hf
 rfl
theorem qgW {s:Schs} {x:Sch} (h:q65 s x=0):(∀ v,v∈x.s.vals→qc0 65536 v=v)∧qoe 48 x.s.pat:=by
 have hf:q21 x=true:=by
  cases hb:q21 x with
  | true=>rfl
  | false=>
   unfold q65 at h
   rw[if_pos hb] at h
   cases h
 unfold q21 at hf
 rw[Kd,Kd] at hf
 obtain ⟨⟨_,hb⟩,hr⟩:=hf
 unfold q1Q at hb
 rw[Kd,Kd] at hb
 obtain ⟨⟨hb1,_⟩,hb2⟩:=hb
 rw[KM] at hb2
 have hb1:=of_decide_eq_true hb1
 refine ⟨fun v hv=>?_,?_⟩
 ·have h8:x.s.op=8:=by
   rcases hb1.2.2.2.1 with h8 | h8
   ·exact h8
   ·rw[KX.1 h8] at hv
    cases hv
  rw[if_neg (by omega),if_neg (by omega),if_neg (by omega),if_neg (by omega),if_pos h8,Kd,Ki] at hr
  exact qn3 (hr.1 v hv)
 ·rcases hb2 with h6 | hn
  ·have h6:=of_decide_eq_true h6
   rw[if_neg (by omega),if_neg (by omega),if_neg (by omega),if_pos h6] at hr
   unfold qla at hr
   rw[Kd] at hr
   exact qaz _ _ hr.1
  ·exact qlJ hn
theorem q7C {α:Type} {f:α→Int} : ∀ {l:List α},q5Z (l.map f)=0→∀ x,x∈l→f x=0
 | [],_,x,hx=>by cases hx
 | y::l,h,x,hx=>by
  simp only[Km,q5Z] at h
  by_cases hy:f y=0
  ·rw[if_pos hy] at h
   rcases Ks.1 hx with rfl | hx
   ·exact hy
   ·exact q7C h x hx
  ·rw[if_neg hy] at h
   exact (hy h).elim
theorem qg2 (s:Schs) : ∀ (d:Nat) (x:Sch),q15 s d x=0→q3c d x=false→q7S d x
 | 0,x,_,h2=>by rw[q7a] at h2; cases h2
 | d+1,x,h1,h2=>by
  rw[q62] at h1
  rw[q77] at h2
  have hn:q65 s x=0:=by
   by_cases hn:q65 s x=0
   ·exact hn
   ·rw[if_neg hn] at h1
    exact h1
  rw[if_pos hn] at h1
  obtain ⟨k1,k2⟩:=qgW hn
  refine ⟨k1,k2,fun y hy=>qg2 s d y (q7C h1 y hy) ?_⟩
  have:=List.any_eq_false.1 h2 y hy
  simpa using this
theorem qdB : ∀ (d:Nat) (D:Int),D=d→d<2^30→∀ x:Sch,x.bulk≤2^22→q7S d x→q0k CS 494 [q03 x,q03 x,.int .i64 D] (.bool true):=by
 intro d
 induction d with
 | zero=>intro D hD hd x hx h; exact h.elim
 | succ d ih=>
  intro D hD hd x hx h
  obtain ⟨_,hpd,hkd⟩:=h
  have L:=Sch.lens (N:=2^24) (v:=x) (by omega)
  have q1:=qdL x.s.parts (by have:=L.parts; omega)
  have q2:=q8I x.s.pat (by have:=L.pat; omega) hpd
  have q3:=qcx x.s.vals (by have:=x.bulk_eq; omega)
  have q4:=q4b x (by omega)
  have hkl:=q5A x
  have hpp:=L.props
  rw[q0r] at q2
  rw[q02] at q4
  refine q04 qo3 rfl ?_
  rw[q02]
  (repeat' first|simp (disch:=omega) only[go_sem,qo3,enter,Ka,bne_self_eq_false]|refine q00 _ (q1) ?_|refine q00 _ (q2) ?_|refine q00 _ (q3) ?_|refine q00 _ (q4) ?_|(apply spl<;>intro h<;>try simp (disch:=omega) only[go_sem,h]))
  all_goals first | omega | skip
  refine q07 (α:=Nat) (fun k=>{ tmps:=q0q 145 [(2,.int .i64 D),(3,.ptr 15 0 0 0),(4,.ptr 15 1 0 0),(7,.int .i64 k)],heap:=[.row 15 [q03 x] false true 0,.row 15 [q03 x] false true 1],base:=0 }) (fun k=>k≤x.p.length) (fun k=>x.p.length-k) 0 (by rw[q02 x]; rfl) (Kp _) ?_
  intro k hk
  rw[q02 x]
  by_cases hlt:k<x.p.length
  ·obtain ⟨y,hy⟩:=q06 hlt
   have hy2:=q0c (g:=q0i) hy
   rw[q0o y] at hy2
   (repeat' first|simp (disch:=omega) only[go_sem,hy2,Ka,bne_self_eq_false]|(apply spl<;>intro h<;>try simp (disch:=omega) only[go_sem,h]))
   all_goals first | omega | skip
   exact ⟨k+1,rfl,hlt,by omega⟩
  ·have hk2:k=x.p.length:=by omega
   subst hk2
   (repeat' first|simp (disch:=omega) only[go_sem,Ka]|refine q00 _ (q4) ?_|(apply spl<;>intro h<;>try simp (disch:=omega) only[go_sem,h]))
   all_goals first | omega | skip
   refine q07 (α:=Nat) (fun k=>{ tmps:=q0q 145 [(2,.int .i64 D),(8,.tsl 15 (x.kids.map q03)),(9,.tsl 15 (x.kids.map q03)),(10,.int .i64 k)],heap:=[],base:=0 }) (fun k=>k≤x.kids.length) (fun k=>x.kids.length-k) 0 (by rfl) (Kp _) ?_
   intro k hk
   by_cases hlt:k<x.kids.length
   ·obtain ⟨y,hy⟩:=q06 hlt
    have hym:=Kc hy
    have hy2:=q0c (g:=q03) hy
    have hyb:=Sch.kids_bulk hym
    have hr:=ih (D-1) (by omega) (by omega) y (by omega) (hkd y hym)
    rw[q02] at hy2 hr
    (repeat' first|simp (disch:=omega) only[go_sem,hy2,Ka]|refine q00 _ (hr) ?_|(apply spl<;>intro h<;>try simp (disch:=omega) only[go_sem,h]))
    all_goals first | omega | skip
    exact ⟨k+1,rfl,hlt,by omega⟩
   ·(repeat' first|simp (disch:=omega) only[go_sem,Ka]|(apply spl<;>intro h<;>try simp (disch:=omega) only[go_sem,h]))
    all_goals first | omega | skip
end Ago
set_option maxRecDepth 100000
set_option maxHeartbeats 4000000
namespace Ago
open Go (IntKind)
theorem qlD {α:Type} (l:List (List UInt8 × α)):(qgr l).length=l.length:=(q3h l).length_eq
end Ago
