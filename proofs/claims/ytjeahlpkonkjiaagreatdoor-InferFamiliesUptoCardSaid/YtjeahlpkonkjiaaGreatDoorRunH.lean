/- Same of a schema and itself; what is clean is cloned as it is. -/
import Derived.Test.YtjeahlpkonkjiaaGreatDoorRunK
import Derived.Test.YtjeahlpkonkjiaaGreatDoorRunY
import Derived.Test.YtjeahlpkonkjiaaGreatDoorRunA
import Derived.Test.YtjeahlpkonkjiaaGreatDoorRunG
import Derived.Test.YtjeahlpkonkjiaaGreatDoorRunC
set_option linter.unusedSimpArgs false
set_option linter.unusedVariables false
set_option maxRecDepth 100000
set_option maxHeartbeats 16000000
namespace Ago
open Go (IntKind)
def qoq:Nat→Pat→Prop
 | 0,_=>False
 | d+1,p=>∀ a,a∈p.a→qoq d a
theorem qbf : ∀ (d:Nat) (p:Pat),q28 d p=true→qoq d p
 | 0,p,h=>by cases h
 | d+1,p,h=>fun a ha=>by
  rw[q51,Kf,Kk] at h
  exact qbf d a (h.2 a ha)
theorem qqk {p:Pat} (h:q1M p=true):qoq 48 p:=fun a ha=>by
 unfold q1M at h
 have h:=of_decide_eq_true h
 have:p.a=[]:=KU.1 h.2.2.2.2.2
 rw[this] at ha
 cases ha
theorem qf0 : ∀ (d:Nat) (D:Int),D=d→d<2^30→∀ x:Pat,x.bulk≤2^24→qoq d x→q0e CS 567 [q0B x,q0B x,.int .i64 D] (.bool true):=by
 intro d
 induction d with
 | zero=>intro D hD hd x hx h; exact h.elim
 | succ d ih=>
  intro D hD hd x hx h
  have L:=Pat.lens hx
  have hal:=L.args
  refine q04 qiL rfl ?_
  rw[q0i]
  (repeat' first|simp (disch:=omega) only[go_sem,qiL,enter,Ka,bne_self_eq_false]|(apply spl<;>intro h<;>try simp (disch:=omega) only[go_sem,h]))
  all_goals first | omega | skip
  refine q06 (α:=Nat) (fun k=>{ tmps:=q0h 75 [(2,.int .i64 D),(3,.ptr 6 0 0 0),(4,.ptr 6 1 0 0),(7,.int .i64 k)],heap:=[.row 6 [q0B x] false true 0,.row 6 [q0B x] false true 1],base:=0 }) (fun k=>k≤x.a.length) (fun k=>x.a.length-k) 0 (by rw[q0i x]; rfl) (Km _) ?_
  intro k hk
  rw[q0i x]
  by_cases hlt:k<x.a.length
  ·obtain ⟨y,hy⟩:=q05 hlt
   have hym:=Kc hy
   have hy2:=q09 (g:=q0B) hy
   have hr:=ih (D-1) (by omega) (by omega) y (by have:=L.kids y hym; omega) (h y hym)
   rw[q0i y] at hy2 hr
   (repeat' first|simp (disch:=omega) only[go_sem,hy2,Ka]|refine q00 _ (hr) ?_|(apply spl<;>intro h<;>try simp (disch:=omega) only[go_sem,h]))
   all_goals first | omega | skip
   exact ⟨k+1,rfl,hlt,by omega⟩
  ·(repeat' first|simp (disch:=omega) only[go_sem,Ka]|(apply spl<;>intro h<;>try simp (disch:=omega) only[go_sem,h]))
   all_goals omega
theorem qai (x:Pat) (hx:x.bulk≤2^24) (h:qoq 48 x):q0e CS 523 [q0B x,q0B x] (.bool true):=by
 have h:=qf0 48 48 rfl (by decide) x hx h
 refine q04 qje rfl ?_
 rw[q0i] at h ⊢
 (repeat' first|simp (disch:=omega) only[go_sem,qje,enter]|refine q00 _ (h) ?_|(apply spl<;>intro h<;>try simp (disch:=omega) only[go_sem,h]))
theorem qes (l:List Prt) (hl:l.length<2^31):q0e CS 522 [.agg [.tsl 11 (l.map q0n)],.agg [.tsl 11 (l.map q0n)]] (.bool true):=by
 refine q04 ql7 rfl ?_
 (repeat' first|simp (disch:=omega) only[go_sem,ql7,enter,Ka,bne_self_eq_false]|(apply spl<;>intro h<;>try simp (disch:=omega) only[go_sem,h]))
 refine q06 (α:=Nat) (fun k=>{ tmps:=q0h 31 [(2,.ptr 1 0 0 0),(3,.ptr 1 1 0 0),(5,.int .i64 k)],heap:=[.row 1 [.agg [.tsl 11 (l.map q0n)]] false true 0,.row 1 [.agg [.tsl 11 (l.map q0n)]] false true 1],base:=0 }) (fun k=>k≤l.length) (fun k=>l.length-k) 0 rfl (Km _) ?_
 rintro k hk
 by_cases hlt:k<l.length
 ·obtain ⟨p,hp⟩:=q05 hlt
  have hp2:=q09 (g:=q0n) hp
  simp only[q0n] at hp2
  (repeat' first|simp (disch:=omega) only[go_sem,hp2,Ka]|(apply spl<;>intro h<;>try simp (disch:=omega) only[go_sem,h]))
  all_goals try omega
  exact ⟨k+1,rfl,hlt,by omega⟩
 ·(repeat' first|simp (disch:=omega) only[go_sem,Ka]|(apply spl<;>intro h<;>try simp (disch:=omega) only[go_sem,h]))
  all_goals omega
theorem qlF (l:List V):q0e CS 529 [.tsl 13 (l.map q0u)] (q0u (.mk ⟨6,false,⟨false,[],0⟩,⟨0,0,0,0⟩,[],[]⟩ l [])):=by
 refine q04 qj6 rfl ?_
 rw[q0a]
 (repeat' first|simp (disch:=omega) only[go_sem,qj6,enter]|(apply spl<;>intro h<;>try simp (disch:=omega) only[go_sem,h]))
 all_goals rfl
theorem qf7 (l:List V) (hl:AV.bulks (l.map q0u)≤2^23):q0e CS 524 [.tsl 13 (l.map q0u),.tsl 13 (l.map q0u)] (.bool true):=by
 have h1:=qlF l
 have h2:=upS (qf4 (2^24) (.mk ⟨6,false,⟨false,[],0⟩,⟨0,0,0,0⟩,[],[]⟩ l []) (by
  rw[V.bulk_eq]
  simp [V.s,V.l,V.f,q3f,AV.bulks]
  omega) (Kr _))
 refine q04 qoY rfl ?_
 rw[q0a] at h1 h2
 (repeat' first|simp (disch:=omega) only[go_sem,qoY,enter]|refine q00 _ (h1) ?_|refine q00 _ (h2) ?_|(apply spl<;>intro h<;>try simp (disch:=omega) only[go_sem,h]))
end Ago
set_option maxRecDepth 100000
set_option maxHeartbeats 16000000
namespace Ago
open Go (IntKind)
def q8z:Nat→Sch→Prop
 | 0,_=>False
 | d+1,x=>(∀ v,v∈x.s.vals→qdr 65536 v=v)∧qoq 48 x.s.pat∧∀ y,y∈x.kids→q8z d y
theorem qpV {v:V} (h:q6Z v=true):qdr 65536 v=v:=by
 unfold q6Z at h
 rw[Kf] at h
 obtain ⟨h1,h2⟩:=h
 have h1:=of_decide_eq_true h1
 have h2:=of_decide_eq_true h2
 have ho:ownM v=true:=by
  cases hb:ownM v with
  | true=>rfl
  | false=>
   exfalso
   have h3:qc2 v=6:=by unfold qc2; rw[if_pos hb]
   have h4:q1Q 49 v 1 0=(0,6):=by
    show (if (48:Int)<1 then _ else if (65536:Int)≤0 then _ else if qc2 v≠0 then ((0:Int),qc2 v) else _)=_
    rw[if_neg (by decide),if_neg (by decide),if_pos (by rw[h3]; decide),h3]
   unfold q46 at h2
   rw[h4] at h2
   cases h2
 unfold ownM at ho
 simp only[Kf,KS,beq_iff_eq,decide_eq_true_eq] at ho
 have hl:v.l=[]:=by
  rcases ho.1.2 with h | h
  ·omega
  ·exact KU.1 (by omega)
 have hf:v.f=[]:=by
  rcases ho.2 with h | h
  ·omega
  ·exact KU.1 (by omega)
 obtain ⟨s,l,f⟩:=v
 have hl:l=[]:=hl
 have hf:f=[]:=hf
 subst hl hf
 rfl
theorem qiQ {s:Schs} {x:Sch} (h:q5x s x=0):(∀ v,v∈x.s.vals→qdr 65536 v=v)∧qoq 48 x.s.pat:=by
 have hf:q1n x=true:=by
  cases hb:q1n x with
  | true=>rfl
  | false=>
   unfold q5x at h
   rw[if_pos hb] at h
   cases h
 unfold q1n at hf
 rw[Kf,Kf] at hf
 obtain ⟨⟨_,hb⟩,hr⟩:=hf
 unfold q1D at hb
 rw[Kf,Kf] at hb
 obtain ⟨⟨hb1,_⟩,hb2⟩:=hb
 rw[KS] at hb2
 have hb1:=of_decide_eq_true hb1
 refine ⟨fun v hv=>?_,?_⟩
 ·have h8:x.s.op=8:=by
   rcases hb1.2.2.2.1 with h8 | h8
   ·exact h8
   ·rw[KU.1 h8] at hv
    cases hv
  rw[if_neg (by omega),if_neg (by omega),if_neg (by omega),if_neg (by omega),if_pos h8,Kf,Kk] at hr
  exact qpV (hr.1 v hv)
 ·rcases hb2 with h6 | hn
  ·have h6:=of_decide_eq_true h6
   rw[if_neg (by omega),if_neg (by omega),if_neg (by omega),if_pos h6] at hr
   unfold qgT at hr
   rw[Kf] at hr
   exact qbf _ _ hr.1
  ·exact qqk hn
theorem q8p {α:Type} {f:α→Int} : ∀ {l:List α},q6w (l.map f)=0→∀ x,x∈l→f x=0
 | [],_,x,hx=>by cases hx
 | y::l,h,x,hx=>by
  simp only[Kj,q6w] at h
  by_cases hy:f y=0
  ·rw[if_pos hy] at h
   rcases KI.1 hx with rfl | hx
   ·exact hy
   ·exact q8p h x hx
  ·rw[if_neg hy] at h
   exact (hy h).elim
theorem qgV (s:Schs) : ∀ (d:Nat) (x:Sch),q0R s d x=0→q1Z d x=false→q8z d x
 | 0,x,_,h2=>by rw[q6e] at h2; cases h2
 | d+1,x,h1,h2=>by
  rw[q4Z] at h1
  rw[q61] at h2
  have hn:q5x s x=0:=by
   by_cases hn:q5x s x=0
   ·exact hn
   ·rw[if_neg hn] at h1
    exact h1
  rw[if_pos hn] at h1
  obtain ⟨k1,k2⟩:=qiQ hn
  refine ⟨k1,k2,fun y hy=>qgV s d y (q8p h1 y hy) ?_⟩
  have:=List.any_eq_false.1 h2 y hy
  simpa using this
theorem qfg : ∀ (d:Nat) (D:Int),D=d→d<2^30→∀ x:Sch,x.bulk≤2^22→q8z d x→q0e CS 494 [q03 x,q03 x,.int .i64 D] (.bool true):=by
 intro d
 induction d with
 | zero=>intro D hD hd x hx h; exact h.elim
 | succ d ih=>
  intro D hD hd x hx h
  obtain ⟨_,hpd,hkd⟩:=h
  have L:=Sch.lens (N:=2^24) (v:=x) (by omega)
  have q1:=qes x.s.parts (by have:=L.parts; omega)
  have q2:=qai x.s.pat (by have:=L.pat; omega) hpd
  have q3:=qf7 x.s.vals (by have:=x.bulk_eq; omega)
  have q4:=q2P x (by omega)
  have hkl:=q4x x
  have hpp:=L.props
  rw[q0i] at q2
  rw[q01] at q4
  refine q04 qoz rfl ?_
  rw[q01]
  (repeat' first|simp (disch:=omega) only[go_sem,qoz,enter,Ka,bne_self_eq_false]|refine q00 _ (q1) ?_|refine q00 _ (q2) ?_|refine q00 _ (q3) ?_|refine q00 _ (q4) ?_|(apply spl<;>intro h<;>try simp (disch:=omega) only[go_sem,h]))
  all_goals first | omega | skip
  refine q06 (α:=Nat) (fun k=>{ tmps:=q0h 145 [(2,.int .i64 D),(3,.ptr 15 0 0 0),(4,.ptr 15 1 0 0),(7,.int .i64 k)],heap:=[.row 15 [q03 x] false true 0,.row 15 [q03 x] false true 1],base:=0 }) (fun k=>k≤x.p.length) (fun k=>x.p.length-k) 0 (by rw[q01 x]; rfl) (Km _) ?_
  intro k hk
  rw[q01 x]
  by_cases hlt:k<x.p.length
  ·obtain ⟨y,hy⟩:=q05 hlt
   have hy2:=q09 (g:=q0g) hy
   rw[q0f y] at hy2
   (repeat' first|simp (disch:=omega) only[go_sem,hy2,Ka,bne_self_eq_false]|(apply spl<;>intro h<;>try simp (disch:=omega) only[go_sem,h]))
   all_goals first | omega | skip
   exact ⟨k+1,rfl,hlt,by omega⟩
  ·have hk2:k=x.p.length:=by omega
   subst hk2
   (repeat' first|simp (disch:=omega) only[go_sem,Ka]|refine q00 _ (q4) ?_|(apply spl<;>intro h<;>try simp (disch:=omega) only[go_sem,h]))
   all_goals first | omega | skip
   refine q06 (α:=Nat) (fun k=>{ tmps:=q0h 145 [(2,.int .i64 D),(8,.tsl 15 (x.kids.map q03)),(9,.tsl 15 (x.kids.map q03)),(10,.int .i64 k)],heap:=[],base:=0 }) (fun k=>k≤x.kids.length) (fun k=>x.kids.length-k) 0 (by rfl) (Km _) ?_
   intro k hk
   by_cases hlt:k<x.kids.length
   ·obtain ⟨y,hy⟩:=q05 hlt
    have hym:=Kc hy
    have hy2:=q09 (g:=q03) hy
    have hyb:=Sch.kids_bulk hym
    have hr:=ih (D-1) (by omega) (by omega) y (by omega) (hkd y hym)
    rw[q01] at hy2 hr
    (repeat' first|simp (disch:=omega) only[go_sem,hy2,Ka]|refine q00 _ (hr) ?_|(apply spl<;>intro h<;>try simp (disch:=omega) only[go_sem,h]))
    all_goals first | omega | skip
    exact ⟨k+1,rfl,hlt,by omega⟩
   ·(repeat' first|simp (disch:=omega) only[go_sem,Ka]|(apply spl<;>intro h<;>try simp (disch:=omega) only[go_sem,h]))
    all_goals first | omega | skip
end Ago
set_option maxRecDepth 100000
set_option maxHeartbeats 4000000
namespace Ago
open Go (IntKind)
theorem q98 {α:Type} (l:List (List UInt8 × α)):(q3Y l).length=l.length:=(q34 l).length_eq
end Ago
