/- Schemas: the schemas in a node,how many nodes there are. -/
import Derived.Test.YtahoajoopdphhaaGreatDoorCode
import Derived.Test.YtahoajoopdphhaaGreatDoorRunA
import Derived.Test.YtahoajoopdphhaaGreatDoorMachE
import Derived.Test.YtahoajoopdphhaaGreatDoorRunE
import Derived.Test.YtahoajoopdphhaaGreatDoorRunX
set_option linter.unusedSimpArgs false
set_option linter.unusedVariables false
set_option maxRecDepth 100000
set_option maxHeartbeats 4000000
namespace Ago
open Go (IntKind)
theorem qai (v:Sch) (hv:v.bulk≤2^24):q0m CS 514 [q06 v] (.tsl 15 (v.kids.map q06)):=by
 have L:=Sch.lens hv
 refine q05 qmf rfl ?_
 rw[q02]
 (repeat' first|simp (disch:=omega) only[go_sem,qmf,enter,Ka]|(apply spl<;>intro h<;>try simp (disch:=omega) only[go_sem,h]))
 refine q0a (α:=Nat × List AV) (fun a=>{ tmps:=q0i 23 [(1,.ptr 15 0 0 0),(3,q0B 15 1 a.2),(7,.tsl 17 (v.p.map q1k)),(8,.int .i64 v.p.length),(9,.int .i64 a.1)],heap:=[.row 15 [q06 v] false true 0]++q0z 15 1 a.2,base:=0 }) (fun a=>a.1≤v.p.length∧a.2=(v.p.take a.1).map fun x=>q06 x.2) (fun a=>v.p.length-a.1) (0,[]) (by rw[q02]; rfl) (by simp) ?_
 rintro ⟨k,els⟩ ⟨hk,hl⟩
 simp only at hk hl
 rw[q02]
 by_cases hlt:k<v.p.length
 ·obtain ⟨x,hx⟩:=q08 hlt
  have hx2:=q0d (g:=q1k) hx
  rw[q2g] at hx2
  have hnew:els++[q06 x.2]=(v.p.take (k+1)).map fun x=>q06 x.2:=by rw[hl,KD,hx]; simp
  rw[q02 x.2] at hnew
  have hlen:els.length=k:=by rw[hl]; simp; omega
  have hfl:=L.props
  cases els with
  | nil=>
   (repeat' first|simp (disch:=omega) only[go_sem,hx2,Ka,q0B,q0z]|(apply spl<;>intro h<;>try simp (disch:=omega) only[go_sem,h]))
   refine ⟨(k+1,(v.p.take (k+1)).map fun x=>q06 x.2),?_,⟨hlt,rfl⟩,by simp only; omega⟩
   simp only[←hnew]
   rfl
  | cons y els=>
   simp only[List.length_cons] at hlen
   (repeat' first|simp (disch:=omega) only[go_sem,hx2,Ka,q0B,q0z]|(apply spl<;>intro h<;>try simp (disch:=omega) only[go_sem,h]))
   refine ⟨(k+1,(v.p.take (k+1)).map fun x=>q06 x.2),?_,⟨hlt,rfl⟩,by simp only; omega⟩
   simp only[←hnew,Kf,q0B,q0z,Kb,List.length_cons,List.length_nil]
   rfl
 ·have hf:els++v.a.map q06=v.kids.map q06:=by
   rw[hl,q0M hlt hk]
   simp [Sch.kids]
  rw[←hf]
  have hal:=L.args
  have hpl:=L.props
  have hlen:els.length=v.p.length:=by rw[hl,q0M hlt hk]; simp
  cases ha:v.a with
  | nil=>
   cases els with
   | nil=>(repeat' first|simp (disch:=omega) only[go_sem,Ka,q0B,q0z,Kl,Kj])
   | cons y els=>
    simp only[List.length_cons] at hlen
    (repeat' first|simp (disch:=omega) only[go_sem,Ka,q0B,q0z,Ky,Kl,Kj,Kb,List.length_cons])
    all_goals (simp; try exact Kz (by simp; try omega))
  | cons z zs=>
   rw[ha] at hal
   simp only[List.length_cons] at hal
   cases els with
   | nil=>
    (repeat' first|simp (disch:=omega) only[go_sem,Ka,q0B,q0z,Ky,Kd,Kh,List.length_cons]|(apply spl<;>intro h<;>try simp (disch:=omega) only[go_sem,h]))
    all_goals (simp; try exact Kz (by simp; try omega))
   | cons y els=>
    simp only[List.length_cons] at hlen
    (repeat' first|simp (disch:=omega) only[go_sem,Ka,q0B,q0z,Ky,Kd,Kb,List.length_cons,Kf]|(apply spl<;>intro h<;>try simp (disch:=omega) only[go_sem,h]))
    all_goals (simp; try exact Kz (by simp; try omega))
theorem q36 (v:Sch) (hv:v.bulk≤2^24):q0m CS 515 [q06 v] (.tsl 15 (v.kids.map q06)):=by
 have L:=Sch.lens hv
 refine q05 qnX rfl ?_
 rw[q02]
 (repeat' first|simp (disch:=omega) only[go_sem,qnX,enter,Ka]|(apply spl<;>intro h<;>try simp (disch:=omega) only[go_sem,h]))
 refine q0a (α:=Nat × List AV) (fun a=>{ tmps:=q0i 25 [(1,.ptr 15 0 0 0),(3,q0B 15 1 a.2),(4,.int .i64 a.1)],heap:=[.row 15 [q06 v] false true 0]++q0z 15 1 a.2,base:=0 }) (fun a=>a.1≤v.p.length∧a.2=(v.p.take a.1).map fun x=>q06 x.2) (fun a=>v.p.length-a.1) (0,[]) (by rw[q02]; rfl) (by simp) ?_
 rintro ⟨k,els⟩ ⟨hk,hl⟩
 simp only at hk hl
 rw[q02]
 by_cases hlt:k<v.p.length
 ·obtain ⟨x,hx⟩:=q08 hlt
  have hx2:=q0d (g:=q1k) hx
  rw[q2g] at hx2
  have hnew:els++[q06 x.2]=(v.p.take (k+1)).map fun x=>q06 x.2:=by rw[hl,KD,hx]; simp
  rw[q02 x.2] at hnew
  have hlen:els.length=k:=by rw[hl]; simp; omega
  have hfl:=L.props
  cases els with
  | nil=>
   (repeat' first|simp (disch:=omega) only[go_sem,hx2,Ka,q0B,q0z]|(apply spl<;>intro h<;>try simp (disch:=omega) only[go_sem,h]))
   refine ⟨(k+1,(v.p.take (k+1)).map fun x=>q06 x.2),?_,⟨hlt,rfl⟩,by simp only; omega⟩
   simp only[←hnew]
   rfl
  | cons y els=>
   simp only[List.length_cons] at hlen
   (repeat' first|simp (disch:=omega) only[go_sem,hx2,Ka,q0B,q0z]|(apply spl<;>intro h<;>try simp (disch:=omega) only[go_sem,h]))
   refine ⟨(k+1,(v.p.take (k+1)).map fun x=>q06 x.2),?_,⟨hlt,rfl⟩,by simp only; omega⟩
   simp only[←hnew,Kf,q0B,q0z,Kb,List.length_cons,List.length_nil]
   rfl
 ·have hf:els++v.a.map q06=v.kids.map q06:=by
   rw[hl,q0M hlt hk]
   simp [Sch.kids]
  rw[←hf]
  have hal:=L.args
  have hpl:=L.props
  have hlen:els.length=v.p.length:=by rw[hl,q0M hlt hk]; simp
  cases ha:v.a with
  | nil=>
   cases els with
   | nil=>(repeat' first|simp (disch:=omega) only[go_sem,Ka,q0B,q0z,Kl,Kj])
   | cons y els=>
    simp only[List.length_cons] at hlen
    (repeat' first|simp (disch:=omega) only[go_sem,Ka,q0B,q0z,Ky,Kl,Kj,Kb,List.length_cons])
    all_goals (simp; try exact Kz (by simp; try omega))
  | cons z zs=>
   rw[ha] at hal
   simp only[List.length_cons] at hal
   cases els with
   | nil=>
    (repeat' first|simp (disch:=omega) only[go_sem,Ka,q0B,q0z,Ky,Kd,Kh,List.length_cons]|(apply spl<;>intro h<;>try simp (disch:=omega) only[go_sem,h]))
    all_goals (simp; try exact Kz (by simp; try omega))
   | cons y els=>
    simp only[List.length_cons] at hlen
    (repeat' first|simp (disch:=omega) only[go_sem,Ka,q0B,q0z,Ky,Kd,Kb,List.length_cons,Kf]|(apply spl<;>intro h<;>try simp (disch:=omega) only[go_sem,h]))
    all_goals (simp; try exact Kz (by simp; try omega))
def q3u:Nat→Sch→Nat
 | 0,_=>0
 | d+1,x=>1+(x.kids.map (q3u d)).sum
theorem q9z (x:Sch):q3u 0 x=0:=(rfl)
theorem q2q (d:Nat) (x:Sch):q3u (d+1) x=1+(x.kids.map (q3u d)).sum:=(rfl)
theorem qbJ {α:Type} {f g:α→Nat} : ∀ (l:List α),(∀ x,x∈l→f x≤g x)→(l.map f).sum≤(l.map g).sum
 | [],_=>by simp
 | x::l,h=>by
  have:=h x (Ku ..)
  have:=qbJ l fun y hy=>h y (Kt _ hy)
  simp only[Kd,List.sum_cons]
  omega
theorem qdv : ∀ l:List Sch,AV.bulks (l.map q06)=(l.map Sch.bulk).sum
 | []=>by simp [AV.bulks]
 | x::l=>by simp [AV.bulks,qdv l,Sch.bulk]
theorem qjb (x:Sch):(x.kids.map Sch.bulk).sum<x.bulk:=by
 have h1:=x.kids_sum
 have h2:=x.bulk_eq
 have h3:=qdv x.kids
 omega
theorem q2o : ∀ (d:Nat) (x:Sch),q3u d x≤x.bulk
 | 0,x=>by simp [q9z]
 | d+1,x=>by
  rw[q2q]
  have:=qjb x
  have:=qbJ x.kids (fun y _=>q2o d y)
  omega
theorem q47 (x:Sch):x.kids.length<x.bulk:=by
 have h1:=qjb x
 have h2 : ∀ l:List Sch,l.length≤(l.map Sch.bulk).sum:=by
  intro l
  induction l with
  | nil=>simp
  | cons y l ih=>
   have:1≤y.bulk:=q46 _
   simp only[List.length_cons,Kd,List.sum_cons]
   omega
 have:=h2 x.kids
 omega
theorem q5l {α:Type} (f:α→Nat) (l:List α) (k:Nat) (x:α) (hx:l[k]?=some x):((l.take (k+1)).map f).sum=((l.take k).map f).sum+f x:=by
 rw[KD,hx]
 simp
theorem q2i {α:Type} (f:α→Nat) (l:List α) (k:Nat):((l.take k).map f).sum≤(l.map f).sum:=by
 have:(l.map f).sum=((l.take k).map f).sum+((l.drop k).map f).sum:=by
  rw[←List.sum_append,←Va,Vl]
 omega
theorem qnW : ∀ (d:Nat) (D:Int),D=d→d<2^30→∀ x:Sch,x.bulk≤2^24→q0m CS 509 [q06 x,.int .i64 D] (.int .i64 (q3u d x)):=by
 intro d
 induction d with
 | zero=>
  intro D hD hd x hx
  refine q05 qj0 rfl ?_
  rw[q02,q9z]
  (repeat' first|simp (disch:=omega) only[go_sem,qj0,enter,Ka])
  all_goals omega
 | succ d ih=>
  intro D hD hd x hx
  have L:=Sch.lens hx
  have hp:=qai x hx
  have hkl:=q47 x
  refine q05 qj0 rfl ?_
  rw[q02] at hp ⊢
  (repeat' first|simp (disch:=omega) only[go_sem,qj0,enter,Ka]|refine q00 _ (hp) ?_|(apply spl<;>intro h<;>try simp (disch:=omega) only[go_sem,h]))
  all_goals try omega
  refine q0a (α:=Nat × Nat) (fun a=>{ tmps:=q0i 25 [(1,.int .i64 D),(5,.int .i64 a.2),(11,.tsl 15 (x.kids.map q06)),(12,.int .i64 x.kids.length),(13,.int .i64 a.1)],heap:=[],base:=0 }) (fun a=>a.1≤x.kids.length∧a.2=1+((x.kids.take a.1).map (q3u d)).sum) (fun a=>x.kids.length-a.1) (0,1) rfl ⟨Kn _,by simp⟩ ?_
  rintro ⟨k,n⟩ ⟨hk,hn⟩
  simp only at hk hn
  by_cases hlt:k<x.kids.length
  ·obtain ⟨y,hy⟩:=q08 hlt
   have hym:=Kc hy
   have hy2:=q0d (g:=q06) hy
   have hr:=ih (D-1) (by omega) (by omega) y (by have:=Sch.kids_bulk hym; omega)
   have h1:=q2i (q3u d) x.kids (k+1)
   have h2:=q5l (q3u d) x.kids k y hy
   have h3:=q2o (d+1) x
   rw[q2q] at h3
   rw[q02] at hy2 hr
   (repeat' first|simp (disch:=omega) only[go_sem,hy2,Ka]|refine q00 _ (hr) ?_|(apply spl<;>intro h<;>try simp (disch:=omega) only[go_sem,h]))
   all_goals try omega
   refine ⟨(k+1,n+q3u d y),?_,⟨hlt,by simp only; omega⟩,by simp only; omega⟩
   simp only[Int.natCast_add]
   rfl
  ·have hk2:k=x.kids.length:=by omega
   rw[hk2,Ky] at hn
   rw[q2q,←hn]
   (repeat' first|simp (disch:=omega) only[go_sem,Ka])
theorem qdE : ∀ (d:Nat) (D:Int),D=d→d<2^30→∀ x:Sch,x.bulk≤2^24→q0m CS 507 [q06 x,.int .i64 D] (.int .i64 (q3u d x)):=by
 intro d
 induction d with
 | zero=>
  intro D hD hd x hx
  refine q05 qi4 rfl ?_
  rw[q02,q9z]
  (repeat' first|simp (disch:=omega) only[go_sem,qi4,enter,Ka])
  all_goals omega
 | succ d ih=>
  intro D hD hd x hx
  have L:=Sch.lens hx
  have hp:=q36 x hx
  have hkl:=q47 x
  refine q05 qi4 rfl ?_
  rw[q02] at hp ⊢
  (repeat' first|simp (disch:=omega) only[go_sem,qi4,enter,Ka]|refine q00 _ (hp) ?_|(apply spl<;>intro h<;>try simp (disch:=omega) only[go_sem,h]))
  all_goals try omega
  refine q0a (α:=Nat × Nat) (fun a=>{ tmps:=q0i 28 [(1,.int .i64 D),(5,.int .i64 a.2),(6,.tsl 15 (x.kids.map q06)),(7,.int .i64 a.1)],heap:=[],base:=0 }) (fun a=>a.1≤x.kids.length∧a.2=1+((x.kids.take a.1).map (q3u d)).sum) (fun a=>x.kids.length-a.1) (0,1) rfl ⟨Kn _,by simp⟩ ?_
  rintro ⟨k,n⟩ ⟨hk,hn⟩
  simp only at hk hn
  by_cases hlt:k<x.kids.length
  ·obtain ⟨y,hy⟩:=q08 hlt
   have hym:=Kc hy
   have hy2:=q0d (g:=q06) hy
   have hr:=ih (D-1) (by omega) (by omega) y (by have:=Sch.kids_bulk hym; omega)
   have h1:=q2i (q3u d) x.kids (k+1)
   have h2:=q5l (q3u d) x.kids k y hy
   have h3:=q2o (d+1) x
   rw[q2q] at h3
   rw[q02] at hy2 hr
   (repeat' first|simp (disch:=omega) only[go_sem,hy2,Ka]|refine q00 _ (hr) ?_|(apply spl<;>intro h<;>try simp (disch:=omega) only[go_sem,h]))
   all_goals try omega
   refine ⟨(k+1,n+q3u d y),?_,⟨hlt,by simp only; omega⟩,by simp only; omega⟩
   simp only[Int.natCast_add]
   rfl
  ·have hk2:k=x.kids.length:=by omega
   rw[hk2,Ky] at hn
   rw[q2q,←hn]
   (repeat' first|simp (disch:=omega) only[go_sem,Ka])
theorem qhw (x:Sch) (hx:x.bulk≤2^24):q0m CS 481 [q06 x] (.int .i64 (q3u 48 x)):=by
 have hr:=qnW 48 48 rfl (by decide) x hx
 refine q05 qmY rfl ?_
 rw[q02] at hr ⊢
 (repeat' first|simp (disch:=omega) only[go_sem,qmY,enter]|refine q00 _ (hr) ?_)
theorem q4z (x:Sch) (hx:x.bulk≤2^24):q0m CS 474 [q06 x] (.int .i64 (q3u 48 x)):=by
 have hr:=qdE 48 48 rfl (by decide) x hx
 refine q05 qnQ rfl ?_
 rw[q02] at hr ⊢
 (repeat' first|simp (disch:=omega) only[go_sem,qnQ,enter]|refine q00 _ (hr) ?_)
end Ago
set_option maxRecDepth 100000
set_option maxHeartbeats 4000000
namespace Ago
open Go (IntKind)
theorem upS {f:Nat} {ts:List AV} {v:AV} (h:q0m C0 f ts v):q0m CS f ts v:=
 qji (qkI (C:=C0) (C':=qac qhM qiW qja) (fun f fn h=>by
  have h:code f=some fn:=h
  show qhM f=some fn
  unfold qhM
  rw[h]) (fun _ _ _ _ _ h=>by
   obtain ⟨p,x,h,h2⟩:=h
   refine ⟨p,x,?_,h2⟩
   unfold clR at h
   split at h
   ·exact h
   ·cases h) (fun f t v h=>by
   obtain ⟨p,l,h,h2⟩:=h
   refine ⟨p,l,?_,h2⟩
   unfold clP at h
   split at h
   ·exact h
   ·cases h) h)
def qdH:Nat→Pat→Nat
 | 0,_=>0
 | d+1,x=>1+(x.a.map (qdH d)).sum
theorem qaq (x:Pat):qdH 0 x=0:=(rfl)
theorem q5D (d:Nat) (x:Pat):qdH (d+1) x=1+(x.a.map (qdH d)).sum:=(rfl)
theorem qbo : ∀ l:List Pat,AV.bulks (l.map q04)=(l.map Pat.bulk).sum
 | []=>by simp [AV.bulks]
 | x::l=>by simp [AV.bulks,qbo l,Pat.bulk]
theorem qcY : ∀ (d:Nat) (x:Pat),qdH d x≤x.bulk
 | 0,x=>by simp [qaq]
 | d+1,x=>by
  rw[q5D]
  have h1:=x.bulk_eq
  have h2:=qbo x.a
  have:=qbJ x.a (fun y _=>qcY d y)
  omega
theorem qjC : ∀ (d:Nat) (D:Int),D=d→d<2^30→∀ x:Pat,x.bulk≤2^24→q0m CS 378 [q04 x,.int .i64 D] (.int .i64 (qdH d x)):=by
 intro d
 induction d with
 | zero=>
  intro D hD hd x hx
  refine q05 qj9 rfl ?_
  rw[q0e,qaq]
  (repeat' first|simp (disch:=omega) only[go_sem,qj9,enter,Ka])
  all_goals omega
 | succ d ih=>
  intro D hD hd x hx
  have L:=Pat.lens hx
  have hal:=L.args
  refine q05 qj9 rfl ?_
  rw[q0e]
  (repeat' first|simp (disch:=omega) only[go_sem,qj9,enter,Ka]|(apply spl<;>intro h<;>try simp (disch:=omega) only[go_sem,h]))
  all_goals try omega
  refine q0a (α:=Nat × Nat) (fun a=>{ tmps:=q0i 25 [(1,.int .i64 D),(5,.int .i64 a.2),(11,.tsl 6 (x.a.map q04)),(12,.int .i64 x.a.length),(13,.int .i64 a.1)],heap:=[],base:=0 }) (fun a=>a.1≤x.a.length∧a.2=1+((x.a.take a.1).map (qdH d)).sum) (fun a=>x.a.length-a.1) (0,1) rfl ⟨Kn _,by simp⟩ ?_
  rintro ⟨k,n⟩ ⟨hk,hn⟩
  simp only at hk hn
  try rw[q0e]
  by_cases hlt:k<x.a.length
  ·obtain ⟨y,hy⟩:=q08 hlt
   have hym:=Kc hy
   have hy2:=q0d (g:=q04) hy
   have hr:=ih (D-1) (by omega) (by omega) y (by have:=L.kids y hym; omega)
   have h1:=q2i (qdH d) x.a (k+1)
   have h2:=q5l (qdH d) x.a k y hy
   have h3:=qcY (d+1) x
   rw[q5D] at h3
   rw[q0e] at hy2 hr
   (repeat' first|simp (disch:=omega) only[go_sem,hy2,Ka]|refine q00 _ (hr) ?_|(apply spl<;>intro h<;>try simp (disch:=omega) only[go_sem,h]))
   all_goals try omega
   refine ⟨(k+1,n+qdH d y),?_,⟨hlt,by simp only; omega⟩,by simp only; omega⟩
   simp only[Int.natCast_add,q0e x]
   rfl
  ·have hk2:k=x.a.length:=by omega
   rw[hk2,Ky] at hn
   rw[q5D,←hn]
   (repeat' first|simp (disch:=omega) only[go_sem,Ka])
theorem qco : ∀ (d:Nat) (D:Int),D=d→d<2^30→∀ x:Pat,x.bulk≤2^24→q0m CS 376 [q04 x,.int .i64 D] (.int .i64 (qdH d x)):=by
 intro d
 induction d with
 | zero=>
  intro D hD hd x hx
  refine q05 qiw rfl ?_
  rw[q0e,qaq]
  (repeat' first|simp (disch:=omega) only[go_sem,qiw,enter,Ka])
  all_goals omega
 | succ d ih=>
  intro D hD hd x hx
  have L:=Pat.lens hx
  have hal:=L.args
  refine q05 qiw rfl ?_
  rw[q0e]
  (repeat' first|simp (disch:=omega) only[go_sem,qiw,enter,Ka]|(apply spl<;>intro h<;>try simp (disch:=omega) only[go_sem,h]))
  all_goals try omega
  refine q0a (α:=Nat × Nat) (fun a=>{ tmps:=q0i 27 [(1,.int .i64 D),(2,.ptr 6 0 0 0),(5,.int .i64 a.2),(6,.int .i64 a.1)],heap:=[.row 6 [q04 x] false true 0],base:=0 }) (fun a=>a.1≤x.a.length∧a.2=1+((x.a.take a.1).map (qdH d)).sum) (fun a=>x.a.length-a.1) (0,1) (by rw[q0e]; rfl) ⟨Kn _,by simp⟩ ?_
  rintro ⟨k,n⟩ ⟨hk,hn⟩
  simp only at hk hn
  try rw[q0e]
  by_cases hlt:k<x.a.length
  ·obtain ⟨y,hy⟩:=q08 hlt
   have hym:=Kc hy
   have hy2:=q0d (g:=q04) hy
   have hr:=ih (D-1) (by omega) (by omega) y (by have:=L.kids y hym; omega)
   have h1:=q2i (qdH d) x.a (k+1)
   have h2:=q5l (qdH d) x.a k y hy
   have h3:=qcY (d+1) x
   rw[q5D] at h3
   rw[q0e] at hy2 hr
   (repeat' first|simp (disch:=omega) only[go_sem,hy2,Ka]|refine q00 _ (hr) ?_|(apply spl<;>intro h<;>try simp (disch:=omega) only[go_sem,h]))
   all_goals try omega
   refine ⟨(k+1,n+qdH d y),?_,⟨hlt,by simp only; omega⟩,by simp only; omega⟩
   simp only[Int.natCast_add,q0e x]
   rfl
  ·have hk2:k=x.a.length:=by omega
   rw[hk2,Ky] at hn
   rw[q5D,←hn]
   (repeat' first|simp (disch:=omega) only[go_sem,Ka])
theorem q8D (x:Pat) (hx:x.bulk≤2^24):q0m CS 357 [q04 x] (.int .i64 (qdH 48 x)):=by
 have hr:=qco 48 48 rfl (by decide) x hx
 refine q05 qmH rfl ?_
 rw[q0e] at hr ⊢
 (repeat' first|simp (disch:=omega) only[go_sem,qmH,enter]|refine q00 _ (hr) ?_)
theorem qjD (x:Sch) (hx:x.bulk≤2^24) : ∃ b,q0m CS 560 [q06 x] (.bool b):=by
 have L:=Sch.lens hx
 have hr:=q8D x.s.pat (by have:=L.pat; omega)
 have hc:=qcY 48 x.s.pat
 have hpb:=L.pat
 have l1:=L.vals
 have l2:=L.props
 have l3:=L.args
 have l4:=L.parts
 have h:=q4I (C:=CS) (f:=560) (ts:=[q06 x]) (k:=fun w=>∃ b,w = .bool b) qmp rfl (by
  rw[q02]
  rw[q0e] at hr
  (repeat' first|simp (disch:=omega) only[go_sem,qmp,enter,Ka]|refine q00 _ (hr) ?_|(apply spl<;>intro h<;>try simp (disch:=omega) only[go_sem,h]))
  all_goals first | exact ⟨_,rfl⟩ | omega | skip
  refine q0a (α:=Nat) (fun a=>{ tmps:=q0i 47 [(1,.ptr 15 0 0 0),(3,.int .i64 a)],heap:=[.row 15 [q06 x] false true 0],base:=0 }) (fun a=>a≤x.s.vals.length) (fun a=>x.s.vals.length-a) 0 (by rw[q02]; rfl) (Kn _) ?_
  intro k hk
  rw[q02]
  by_cases hlt:k<x.s.vals.length
  ·obtain ⟨y,hy⟩:=q08 hlt
   have hym:=Kc hy
   have hy2:=q0d (g:=q0g) hy
   obtain ⟨b,hb⟩:=qmR y (by have:=L.val y hym; omega) 20 5 (by decide) (by decide) (by decide) (by decide)
   have hb:=upS hb
   rw[q07] at hy2 hb
   cases b with
   | true=>
    (repeat' first|simp (disch:=omega) only[go_sem,hy2,Ka]|refine q00 _ (hb) ?_|(apply spl<;>intro h<;>try simp (disch:=omega) only[go_sem,h]))
    all_goals try omega
    exact ⟨k+1,rfl,hlt,by omega⟩
   | false=>
    (repeat' first|simp (disch:=omega) only[go_sem,hy2,Ka]|refine q00 _ (hb) ?_|(apply spl<;>intro h<;>try simp (disch:=omega) only[go_sem,h]))
    all_goals first | exact ⟨_,rfl⟩ | omega
  ·(repeat' first|simp (disch:=omega) only[go_sem,Ka]|(apply spl<;>intro h<;>try simp (disch:=omega) only[go_sem,h]))
   all_goals first | exact ⟨_,rfl⟩ | omega)
 obtain ⟨w,k1,b,rfl⟩:=h
 exact ⟨b,k1⟩
theorem qsb : ∀ (d:Nat) (D:Int),D≤d→-(2^30)<D→d<2^30→∀ x:Sch,x.bulk≤2^24→∃ b,q0m CS 508 [q06 x,.int .i64 D] (.bool b):=by
 intro d
 induction d with
 | zero=>
  intro D hD hD2 hd x hx
  obtain ⟨b,hb⟩:=qjD x hx
  have hp:=q36 x hx
  have hkl:=q47 x
  cases b with
  | false=>
   refine ⟨false,q05 qb9 rfl ?_⟩
   rw[q02] at hb ⊢
   (repeat' first|simp (disch:=omega) only[go_sem,qb9,enter,Ka]|refine q00 _ (hb) ?_)
  | true=>
   refine ⟨true,q05 qb9 rfl ?_⟩
   rw[q02] at hb hp ⊢
   (repeat' first|simp (disch:=omega) only[go_sem,qb9,enter,Ka]|refine q00 _ (hb) ?_|refine q00 _ (hp) ?_|(apply spl<;>intro h<;>try simp (disch:=omega) only[go_sem,h]))
   refine q0a (α:=Nat) (fun a=>{ tmps:=q0i 30 [(1,.int .i64 D),(5,.tsl 15 (x.kids.map q06)),(6,.int .i64 a)],heap:=[],base:=0 }) (fun a=>a≤x.kids.length) (fun a=>x.kids.length-a) 0 rfl (Kn _) ?_
   intro k hk
   by_cases hlt:k<x.kids.length
   ·obtain ⟨y,hy⟩:=q08 hlt
    (repeat' first|simp (disch:=omega) only[go_sem,Ka])
    all_goals omega
   ·(repeat' first|simp (disch:=omega) only[go_sem,Ka])
    all_goals omega
 | succ d ih=>
  intro D hD hD2 hd x hx
  obtain ⟨b,hb⟩:=qjD x hx
  have hp:=q36 x hx
  have hkl:=q47 x
  cases b with
  | false=>
   refine ⟨false,q05 qb9 rfl ?_⟩
   rw[q02] at hb ⊢
   (repeat' first|simp (disch:=omega) only[go_sem,qb9,enter,Ka]|refine q00 _ (hb) ?_)
  | true=>
   have h:=q4I (C:=CS) (f:=508) (ts:=[q06 x,.int .i64 D]) (k:=fun w=>∃ b,w = .bool b) qb9 rfl (by
    rw[q02] at hb hp ⊢
    (repeat' first|simp (disch:=omega) only[go_sem,qb9,enter,Ka]|refine q00 _ (hb) ?_|refine q00 _ (hp) ?_|(apply spl<;>intro h<;>try simp (disch:=omega) only[go_sem,h]))
    refine q0a (α:=Nat) (fun a=>{ tmps:=q0i 30 [(1,.int .i64 D),(5,.tsl 15 (x.kids.map q06)),(6,.int .i64 a)],heap:=[],base:=0 }) (fun a=>a≤x.kids.length) (fun a=>x.kids.length-a) 0 rfl (Kn _) ?_
    intro k hk
    by_cases hlt:k<x.kids.length∧1<D
    ·obtain ⟨hlt,hD1⟩:=hlt
     obtain ⟨y,hy⟩:=q08 hlt
     have hym:=Kc hy
     have hy2:=q0d (g:=q06) hy
     obtain ⟨c,hc⟩:=ih (D-1) (by omega) (by omega) (by omega) y (by have:=Sch.kids_bulk hym; omega)
     rw[q02] at hy2 hc
     cases c with
     | true=>
      (repeat' first|simp (disch:=omega) only[go_sem,hy2,Ka]|refine q00 _ (hc) ?_|(apply spl<;>intro h<;>try simp (disch:=omega) only[go_sem,h]))
      all_goals try omega
      exact ⟨k+1,rfl,hlt,by omega⟩
     | false=>
      (repeat' first|simp (disch:=omega) only[go_sem,hy2,Ka]|refine q00 _ (hc) ?_|(apply spl<;>intro h<;>try simp (disch:=omega) only[go_sem,h]))
      all_goals first | exact ⟨_,rfl⟩ | omega
    ·by_cases hlt2:k<x.kids.length
     ·(repeat' first|simp (disch:=omega) only[go_sem,Ka]|(apply spl<;>intro h<;>try simp (disch:=omega) only[go_sem,h]))
      all_goals first | exact ⟨_,rfl⟩ | omega
     ·(repeat' first|simp (disch:=omega) only[go_sem,Ka]|(apply spl<;>intro h<;>try simp (disch:=omega) only[go_sem,h]))
      all_goals first | exact ⟨_,rfl⟩ | omega)
   obtain ⟨w,k1,c,rfl⟩:=h
   exact ⟨c,k1⟩
theorem qgK (x:Sch) (hx:x.bulk≤2^24) : ∃ b,q0m CS 480 [q06 x] (.bool b):=by
 obtain ⟨b,hb⟩:=qsb 50 50 (by decide) (by decide) (by decide) x hx
 have hr:=q4z x hx
 have hc:=q2o 48 x
 cases b with
 | false=>
  refine ⟨false,q05 qdK rfl ?_⟩
  rw[q02] at hb ⊢
  (repeat' first|simp (disch:=omega) only[go_sem,qdK,enter]|refine q00 _ (hb) ?_)
 | true=>
  by_cases h:q3u 48 x≤1100
  ·refine ⟨true,q05 qdK rfl ?_⟩
   rw[q02] at hb hr ⊢
   (repeat' first|simp (disch:=omega) only[go_sem,qdK,enter]|refine q00 _ (hb) ?_|refine q00 _ (hr) ?_)
   all_goals omega
  ·refine ⟨false,q05 qdK rfl ?_⟩
   rw[q02] at hb hr ⊢
   (repeat' first|simp (disch:=omega) only[go_sem,qdK,enter]|refine q00 _ (hb) ?_|refine q00 _ (hr) ?_)
   all_goals omega
end Ago
set_option maxRecDepth 100000
set_option maxHeartbeats 4000000
namespace Ago
open Go (IntKind)
structure Cl (H:Heap):Prop where
 refs : ∀ b,b∈H→∀ r,r∈b.refs→r<H.length
 ren : ∀ b,b∈H→∀ f g,(∀ r,r<H.length→f r=some r)→(∀ r,r<H.length→g r=r)→Blk.ren f g b=b
theorem Cl.nil:Cl []:=⟨fun b h=>(by cases h),fun b h=>(by cases h)⟩
theorem Cl.push {H:Heap} (h:Cl H) (n:Nat) (els:List AV) (ro:Bool) (fam:Nat) (hf:fam≤H.length):Cl (H++[.row n els ro true fam]):=by
 refine ⟨fun b hb r hr=>?_,fun b hb f g hf2 hg2=>?_⟩
 ·rcases Kv.1 hb with hb | hb
  ·have:=h.refs b hb r hr
   simp
   omega
  ·rw[Kx.1 hb] at hr
   simp [Blk.refs] at hr
 ·rcases Kv.1 hb with hb | hb
  ·exact h.ren b hb f g (fun r hr=>hf2 r (by simp; omega)) (fun r hr=>hg2 r (by simp; omega))
  ·rw[Kx.1 hb]
   simp [Blk.ren,hg2 fam (by simp; omega)]
theorem q89 (H:Heap) (base:Nat) : ∀ (k:Nat) (todo seen:List Nat),(∀ r,r∈todo→r<base)→q1M H base k todo seen=seen
 | 0,_,_,_=>rfl
 | _+1,[],_,_=>rfl
 | k+1,r::todo,seen,h=>by
  unfold q1M
  rw[if_pos (h r (by simp))]
  exact q89 H base k todo seen fun x hx=>h x (by simp [hx])
theorem q5P (H:Heap) (base:Nat) : ∀ (k:Nat) (todo low seen:List Nat),(∀ r,r∈low→r<base)→q1M H base k (todo++low) seen=q1M H base k todo seen
 | 0,_,_,_,_=>rfl
 | k+1,[],low,seen,h=>by
  rw[Kh,q89 H base (k+1) low seen h]
  rfl
 | k+1,r::todo,low,seen,h=>by
  rw[Kf]
  unfold q1M
  split
  ·exact q5P H base k todo low seen h
  ·split
   ·exact q5P H base k todo low seen h
   ·split
    ·exact q5P H base k todo low seen h
    ·rw[←Ke]
     exact q5P H base k _ low _ h
def Blk.roB:Blk→Bool
 | .row _ _ ro _ _=>ro
 | _=>false
theorem qbV (ks:List Nat) : ∀ (E:Heap) (j:Nat),(∀ b,b∈E→b.roB=false)→q1c ks E j=[]
 | [],_,_=>rfl
 | b::E,j,h=>by
  have ih:=qbV ks E (j+1) fun x hx=>h x (by simp [hx])
  have hb:=h b (by simp)
  cases b with
  | row n els ro fl fam=>
   simp only[Blk.roB] at hb
   subst hb
   exact ih
  | _=>exact ih
theorem qkf {live:List Nat} {tm:List AV} {H E:Heap} {m rb:Nat} {L L':List AV} {ks:List Nat} {K:Heap} (hm:m=H.length) (hC:Cl H) (hE : ∀ b,b∈E→b.roB=false) (hL:q0l live 0 tm=L) (hr:q1M (H++E) m 4000 (L.flatMap (AV.refsN 6)) []=ks)
  (hk : ∀ r,r∈ks→((H++E).getD r .gone).refs=[]) (hi:L.map (AV.renN (q0V m ks) 6)=L') (hK:(ks.map fun r=>(H++E).getD r .gone).map (Blk.ren (q0V m ks) (q2K (H++E) m ks))=K):St.norm live ⟨tm,H++E,m,rb⟩=⟨L',H++K,m,0⟩:=by
 subst hm
 unfold St.norm St.normTm
 rw[hL]
 have h1:((H++E).take H.length)=H:=by simp
 have h2:((H++E).drop H.length)=E:=by simp
 simp only[h1]
 rw[q5P _ _ _ _ _ _ (fun r hr=>by
  obtain ⟨b,hb,hr⟩:=KR.1 hr
  exact hC.refs b hb r hr),hr]
 unfold St.normBy
 simp only[h1,h2]
 rw[qbV ks E _ hE]
 have hc:q1f (q0V H.length ks) (H++ks.map fun r=>(H++E).getD r .gone)=true:=by
  unfold q1f
  rw[Kp]
  intro b hb
  rw[Kp]
  intro q hq
  rcases Kv.1 hb with hb | hb
  ·have:=hC.refs b hb q hq
   unfold q0V
   rw[if_pos this]
   rfl
  ·obtain ⟨r,h3,rfl⟩:=KV.1 hb
   rw[hk r h3] at hq
   cases hq
 simp only[hc,q6U,q3i,V7,q4l,hi]
 rw[Va,hK]
 have h4:H.map (Blk.ren (q0V H.length ks) (q2K (H++E) H.length ks))=H:=by
  rw[V1 (g:=id) (fun b hb=>hC.ren b hb _ _ (fun r hr=>by unfold q0V; rw[if_pos hr]) (fun r hr=>by unfold q2K; rw[if_pos hr])),List.map_id]
 rw[h4]
def qnB (base:Nat) (res:List ResV) (v:AV) (H':Heap) (e:Ex) (s:St):Prop:=(e = .normal∨e = .ret)∧∃ u,results res s=some u∧(q7P base u s.heap).tmps.getD 0 .dead=v∧(q7P base u s.heap).heap=H'
theorem q6X {C:Ctx} {f:Nat} (fn:AFn) {args:List AV} {H H':Heap} {v:AV} (hf:C.code f=some fn) (h : @q19 (enter fn args H) ⟨aw (q1z C) (q0m C) fn.body (qnB H.length fn.res v H')⟩):q1z C f args H v H':=by
 unfold q19 at h
 obtain ⟨e,s,h1,he,u,h2,rfl,rfl⟩:=q2P _ _ _ h
 exact .run hf h1 he h2
end Ago
set_option maxRecDepth 100000
set_option maxHeartbeats 4000000
namespace Ago
open Go (IntKind)
theorem qi2 {P:Prop} [Decidable P] (h : ¬ P):some (AV.bool false)=some (AV.bool (decide P)):=by simp [h]
theorem qhE {P:Prop} [Decidable P] (h:P):some (AV.bool true)=some (AV.bool (decide P)):=by simp [h]
theorem qcX {P Q:Prop} [Decidable P] [Decidable Q] (h:Q↔P):some (AV.bool (decide Q))=some (AV.bool (decide P)):=by simp [h]
theorem qi7 {P Q:Prop} [Decidable P] [Decidable Q] (h : ¬ Q↔P):some (AV.bool (!decide Q))=some (AV.bool (decide P)):=by
 by_cases q:Q<;>simp [q,←h]
theorem qiN {a b:Int} {P:Prop} [Decidable P] (h:a=b↔P):some (AV.bool (a == b))=some (AV.bool (decide P)):=by
 rw[q88]
 exact qcX h
theorem qbz {a b:Int} {P:Prop} [Decidable P] (h : ¬ a=b↔P):some (AV.bool (a != b))=some (AV.bool (decide P)):=by
 rw[qam]
 exact qcX h
def q2m (p:Pat):Bool:=decide ((p.s.op=2∨p.s.lo=0∧p.s.hi=0)∧(p.s.op=5∨p.s.min=0∧p.s.max=0) ∧
 ((p.s.op=0∨p.s.op=1)∧p.a.length=0∨p.s.op=2∧p.a.length=0∧0≤p.s.lo∧p.s.lo≤p.s.hi∧p.s.hi≤255∨(p.s.op=3∨p.s.op=4∨p.s.op=6)∧2≤p.a.length∨p.s.op=7∧p.a.length=1 ∨
  p.s.op=5∧p.a.length=1∧0≤p.s.min∧p.s.min≤64∧(p.s.max = -1∨p.s.min≤p.s.max∧p.s.max≤64)))
theorem qf8 (p:Pat) (hp:p.bulk≤2^24):q0m CS 396 [q04 p] (.bool (q2m p)):=by
 have L:=Pat.lens hp
 have hal:=L.args
 refine q05 qny rfl ?_
 rw[q0e]
 unfold q2m
 (repeat' first|simp (disch:=omega) only[go_sem,qny,enter,Ka]|(apply spl<;>intro h<;>try simp (disch:=omega) only[go_sem,h]))
 all_goals first
  | exact qi2 (by omega)
  | exact qhE (by omega)
  | exact qcX (by omega)
  | exact qiN (by omega)
  | exact qbz (by omega)
  | exact qi7 (by omega)
  | skip
theorem qb7 (p:Pat) (hp:p.bulk≤2^24):q0m CS 384 [q04 p] (.bool (q2m p)):=by
 have L:=Pat.lens hp
 have hal:=L.args
 refine q05 qmk rfl ?_
 rw[q0e]
 unfold q2m
 (repeat' first|simp (disch:=omega) only[go_sem,qmk,enter,Ka]|(apply spl<;>intro h<;>try simp (disch:=omega) only[go_sem,h]))
 all_goals first
  | exact qi2 (by omega)
  | exact qhE (by omega)
  | exact qcX (by omega)
  | exact qiN (by omega)
  | exact qbz (by omega)
  | exact qi7 (by omega)
  | skip
def q1a:Nat→Pat→Bool
 | 0,_=>false
 | d+1,x=>q2m x && x.a.all (q1a d)
theorem q7p (x:Pat):q1a 0 x=false:=(rfl)
theorem q2u (d:Nat) (x:Pat):q1a (d+1) x=(q2m x && x.a.all (q1a d)):=(rfl)
theorem qlH : ∀ (d:Nat) (D:Int),D=d→d<2^30→∀ x:Pat,x.bulk≤2^24→q0m CS 377 [q04 x,.int .i64 D] (.bool (q1a d x)):=by
 intro d
 induction d with
 | zero=>
  intro D hD hd x hx
  refine q05 qg8 rfl ?_
  rw[q0e,q7p]
  (repeat' first|simp (disch:=omega) only[go_sem,qg8,enter,Ka])
  all_goals omega
 | succ d ih=>
  intro D hD hd x hx
  have L:=Pat.lens hx
  have hal:=L.args
  have hf:=qf8 x hx
  rw[q2u]
  refine q05 qg8 rfl ?_
  rw[q0e] at hf ⊢
  cases hb:q2m x with
  | false=>
   rw[hb] at hf
   rw[VL]
   (repeat' first|simp (disch:=omega) only[go_sem,qg8,enter,Ka]|refine q00 _ (hf) ?_)
   all_goals omega
  | true=>
   rw[hb] at hf
   rw[Vt]
   (repeat' first|simp (disch:=omega) only[go_sem,qg8,enter,Ka]|refine q00 _ (hf) ?_|(apply spl<;>intro h<;>try simp (disch:=omega) only[go_sem,h]))
   all_goals try omega
   refine q0a (α:=Nat) (fun k=>{ tmps:=q0i 27 [(1,.int .i64 D),(15,.tsl 6 (x.a.map q04)),(16,.int .i64 x.a.length),(17,.int .i64 k)],heap:=[],base:=0 }) (fun k=>k≤x.a.length∧(x.a.take k).all (q1a d)=true) (fun k=>x.a.length-k) 0 rfl ⟨Kn _,rfl⟩ ?_
   rintro k ⟨hk,ha⟩
   try rw[q0e]
   by_cases hlt:k<x.a.length
   ·obtain ⟨y,hy⟩:=q08 hlt
    have hym:=Kc hy
    have hy2:=q0d (g:=q04) hy
    have hr:=ih (D-1) (by omega) (by omega) y (by have:=L.kids y hym; omega)
    rw[q0e] at hy2 hr
    cases hc:q1a d y with
    | true=>
     rw[hc] at hr
     (repeat' first|simp (disch:=omega) only[go_sem,hy2,Ka]|refine q00 _ (hr) ?_|(apply spl<;>intro h<;>try simp (disch:=omega) only[go_sem,h]))
     all_goals try omega
     refine ⟨k+1,?_,⟨hlt,q0C hy ha hc⟩,by omega⟩
     try rw[q0e x]
     rfl
    | false=>
     rw[hc] at hr
     rw[q4y hy hc]
     (repeat' first|simp (disch:=omega) only[go_sem,hy2,Ka]|refine q00 _ (hr) ?_)
     all_goals omega
   ·rw[q0M hlt hk] at ha
    rw[ha]
    (repeat' first|simp (disch:=omega) only[go_sem,Ka])
theorem qeF : ∀ (d:Nat) (D:Int),D=d→d<2^30→∀ x:Pat,x.bulk≤2^24→q0m CS 360 [q04 x,.int .i64 D] (.bool (q1a d x)):=by
 intro d
 induction d with
 | zero=>
  intro D hD hd x hx
  refine q05 qfo rfl ?_
  rw[q0e,q7p]
  (repeat' first|simp (disch:=omega) only[go_sem,qfo,enter,Ka])
  all_goals omega
 | succ d ih=>
  intro D hD hd x hx
  have L:=Pat.lens hx
  have hal:=L.args
  have hf:=qb7 x hx
  rw[q2u]
  refine q05 qfo rfl ?_
  rw[q0e] at hf ⊢
  cases hb:q2m x with
  | false=>
   rw[hb] at hf
   rw[VL]
   (repeat' first|simp (disch:=omega) only[go_sem,qfo,enter,Ka]|refine q00 _ (hf) ?_)
   all_goals omega
  | true=>
   rw[hb] at hf
   rw[Vt]
   (repeat' first|simp (disch:=omega) only[go_sem,qfo,enter,Ka]|refine q00 _ (hf) ?_|(apply spl<;>intro h<;>try simp (disch:=omega) only[go_sem,h]))
   all_goals try omega
   refine q0a (α:=Nat) (fun k=>{ tmps:=q0i 29 [(1,.int .i64 D),(2,.ptr 6 0 0 0),(5,.int .i64 k)],heap:=[.row 6 [q04 x] false true 0],base:=0 }) (fun k=>k≤x.a.length∧(x.a.take k).all (q1a d)=true) (fun k=>x.a.length-k) 0 (by rw[q0e]; rfl) ⟨Kn _,rfl⟩ ?_
   rintro k ⟨hk,ha⟩
   try rw[q0e]
   by_cases hlt:k<x.a.length
   ·obtain ⟨y,hy⟩:=q08 hlt
    have hym:=Kc hy
    have hy2:=q0d (g:=q04) hy
    have hr:=ih (D-1) (by omega) (by omega) y (by have:=L.kids y hym; omega)
    rw[q0e] at hy2 hr
    cases hc:q1a d y with
    | true=>
     rw[hc] at hr
     (repeat' first|simp (disch:=omega) only[go_sem,hy2,Ka]|refine q00 _ (hr) ?_|(apply spl<;>intro h<;>try simp (disch:=omega) only[go_sem,h]))
     all_goals try omega
     refine ⟨k+1,?_,⟨hlt,q0C hy ha hc⟩,by omega⟩
     try rw[q0e x]
     rfl
    | false=>
     rw[hc] at hr
     rw[q4y hy hc]
     (repeat' first|simp (disch:=omega) only[go_sem,hy2,Ka]|refine q00 _ (hr) ?_)
     all_goals omega
   ·rw[q0M hlt hk] at ha
    rw[ha]
    (repeat' first|simp (disch:=omega) only[go_sem,Ka])
def q7e (p:Pat):Bool:=q1a 48 p && decide ((qdH 48 p:Int)≤512)
theorem q8V (x:Pat) (hx:x.bulk≤2^24):q0m CS 358 [q04 x] (.bool (q7e x)):=by
 have h1:=qlH 48 48 rfl (by decide) x hx
 have h2:=qjC 48 48 rfl (by decide) x hx
 refine q05 qjs rfl ?_
 unfold q7e
 rw[q0e] at h1 h2 ⊢
 cases hb:q1a 48 x<;>rw[hb] at h1
 ·(repeat' first|simp (disch:=omega) only[go_sem,qjs,enter]|refine q00 _ (h1) ?_|refine q00 _ (h2) ?_)
 ·(repeat' first|simp (disch:=omega) only[go_sem,qjs,enter]|refine q00 _ (h1) ?_|refine q00 _ (h2) ?_)
theorem q5S (x:Pat) (hx:x.bulk≤2^24):q0m CS 340 [q04 x] (.bool (q7e x)):=by
 have h1:=qeF 48 48 rfl (by decide) x hx
 have h2:=q8D x hx
 refine q05 qkW rfl ?_
 unfold q7e
 rw[q0e] at h1 h2 ⊢
 cases hb:q1a 48 x<;>rw[hb] at h1
 ·(repeat' first|simp (disch:=omega) only[go_sem,qkW,enter]|refine q00 _ (h1) ?_|refine q00 _ (h2) ?_)
 ·(repeat' first|simp (disch:=omega) only[go_sem,qkW,enter]|refine q00 _ (h1) ?_|refine q00 _ (h2) ?_)
def q2p (p:Pat):Bool:=decide (p.s.op=0∧p.s.lo=0∧p.s.hi=0∧p.s.min=0∧p.s.max=0∧p.a.length=0)
theorem qb8 (x:Pat) (hx:x.bulk≤2^24):q0m CS 523 [q04 x,.agg [.int .i64 0,.int .i64 0,.int .i64 0,.int .i64 0,.int .i64 0,.tsl 6 []]] (.bool (q2p x)):=by
 have L:=Pat.lens hx
 have hal:=L.args
 have h:q0m CS 567 [q04 x,.agg [.int .i64 0,.int .i64 0,.int .i64 0,.int .i64 0,.int .i64 0,.tsl 6 []],.int .i64 48] (.bool (q2p x)):=by
  refine q05 qml rfl ?_
  rw[q0e]
  unfold q2p
  (repeat' first|simp (disch:=omega) only[go_sem,qml,enter,Ka]|(apply spl<;>intro h<;>try simp (disch:=omega) only[go_sem,h]))
  all_goals first
   | exact qi2 (by omega)
   | exact qhE (by omega)
   | exact qcX (by omega)
   | exact qiN (by omega)
   | exact qbz (by omega)
   | exact qi7 (by omega)
   | skip
  refine q0a (α:=Unit) (fun _=>{ tmps:=q0i 75 [(2,.int .i64 48),(3,.ptr 6 0 0 0),(4,.ptr 6 1 0 0),(7,.int .i64 0)],heap:=[.row 6 [.agg [.int .i64 0,.int .i64 0,.int .i64 0,.int .i64 0,.int .i64 0,.tsl 6 (x.a.map q04)]] false true 0,.row 6 [.agg [.int .i64 0,.int .i64 0,.int .i64 0,.int .i64 0,.int .i64 0,.tsl 6 []]] false true 1],base:=0 }) (fun _=>True) (fun _=>0) () rfl trivial ?_
  intro _ _
  (repeat' first|simp (disch:=omega) only[go_sem,Ka]|(apply spl<;>intro h<;>try simp (disch:=omega) only[go_sem,h]))
  all_goals first
   | exact qi2 (by omega)
   | exact qhE (by omega)
   | exact qcX (by omega)
   | exact qiN (by omega)
   | exact qbz (by omega)
   | exact qi7 (by omega)
   | skip
 refine q05 qm8 rfl ?_
 rw[q0e] at h ⊢
 (repeat' first|simp (disch:=omega) only[go_sem,qm8,enter]|refine q00 _ (h) ?_)
end Ago
set_option maxRecDepth 100000
set_option maxHeartbeats 4000000
namespace Ago
open Go (IntKind)
def q93 (b:Bnd):Bool:=if b.set=true then q6C b.num else !b.num.neg && b.num.digits == [] && b.num.exp == 0 && !b.opn
def qaU (p:Prt):Bool:=q93 p.lo && q93 p.hi && decide (0≤p.sort) && decide (p.sort≤2)
def qiv (l:List Prt):Bool:=decide (l.length≤256) && l.all qaU
theorem qh1 (b:Bnd) (hs:b.num.digits.length<2^31):q0m CS 262 [qbX b] (.bool (q93 b)):=by
 have hd:=upS (qby b.num hs)
 refine q05 qjt rfl ?_
 obtain ⟨set,⟨neg,ds,exp⟩,opn⟩:=b
 simp only[qbX,q2A] at *
 cases set
 ·(repeat' first|simp (disch:=omega) only[go_sem,qjt,enter]|(apply spl<;>intro h<;>try simp (disch:=omega) only[go_sem,h]))
  all_goals (try simp [q93,Bool.and_assoc])
 ·(repeat' first|simp (disch:=omega) only[go_sem,qjt,enter]|refine q00 _ (hd) ?_|(apply spl<;>intro h<;>try simp (disch:=omega) only[go_sem,h]))
  all_goals (try simp [q93,Bool.and_assoc])
theorem qkb (b:Bnd) (hs:b.num.digits.length<2^31):q0m CS 638 [qbX b] (.bool (q93 b)):=by
 have hd:=upS (qeQ b.num hs)
 refine q05 qlC rfl ?_
 obtain ⟨set,⟨neg,ds,exp⟩,opn⟩:=b
 simp only[qbX,q2A] at *
 cases set
 ·(repeat' first|simp (disch:=omega) only[go_sem,qlC,enter]|(apply spl<;>intro h<;>try simp (disch:=omega) only[go_sem,h]))
  all_goals (try simp [q93,Bool.and_assoc])
 ·(repeat' first|simp (disch:=omega) only[go_sem,qlC,enter]|refine q00 _ (hd) ?_|(apply spl<;>intro h<;>try simp (disch:=omega) only[go_sem,h]))
  all_goals (try simp [q93,Bool.and_assoc])
theorem qnH (p:Prt) (h1:p.lo.num.digits.length<2^31) (h2:p.hi.num.digits.length<2^31):q0m CS 250 [q0p p] (.bool (qaU p)):=by
 have h1:=qh1 p.lo h1
 have h2:=qh1 p.hi h2
 refine q05 qiS rfl ?_
 obtain ⟨⟨s1,⟨n1,d1,e1⟩,o1⟩,⟨s2,⟨n2,d2,e2⟩,o2⟩,sort⟩:=p
 simp only[qbX,q0p] at *
 unfold qaU
 cases hb1:q93 ⟨s1,⟨n1,d1,e1⟩,o1⟩
 ·rw[hb1] at h1
  (repeat' first|simp (disch:=omega) only[go_sem,qiS,enter]|refine q00 _ (h1) ?_)
 ·rw[hb1] at h1
  cases hb2:q93 ⟨s2,⟨n2,d2,e2⟩,o2⟩
  ·rw[hb2] at h2
   (repeat' first|simp (disch:=omega) only[go_sem,qiS,enter]|refine q00 _ (h1) ?_|refine q00 _ (h2) ?_)
  ·rw[hb2] at h2
   (repeat' first|simp (disch:=omega) only[go_sem,qiS,enter]|refine q00 _ (h1) ?_|refine q00 _ (h2) ?_|(apply spl<;>intro h<;>try simp (disch:=omega) only[go_sem,h]))
   all_goals (simp; try omega)
theorem qqb (p:Prt) (h1:p.lo.num.digits.length<2^31) (h2:p.hi.num.digits.length<2^31):q0m CS 625 [q0p p] (.bool (qaU p)):=by
 have h1:=qkb p.lo h1
 have h2:=qkb p.hi h2
 refine q05 qif rfl ?_
 obtain ⟨⟨s1,⟨n1,d1,e1⟩,o1⟩,⟨s2,⟨n2,d2,e2⟩,o2⟩,sort⟩:=p
 simp only[qbX,q0p] at *
 unfold qaU
 cases hb1:q93 ⟨s1,⟨n1,d1,e1⟩,o1⟩
 ·rw[hb1] at h1
  (repeat' first|simp (disch:=omega) only[go_sem,qif,enter]|refine q00 _ (h1) ?_)
 ·rw[hb1] at h1
  cases hb2:q93 ⟨s2,⟨n2,d2,e2⟩,o2⟩
  ·rw[hb2] at h2
   (repeat' first|simp (disch:=omega) only[go_sem,qif,enter]|refine q00 _ (h1) ?_|refine q00 _ (h2) ?_)
  ·rw[hb2] at h2
   (repeat' first|simp (disch:=omega) only[go_sem,qif,enter]|refine q00 _ (h1) ?_|refine q00 _ (h2) ?_|(apply spl<;>intro h<;>try simp (disch:=omega) only[go_sem,h]))
   all_goals (simp; try omega)
def qpA (l:List Prt):Prop:=l.length<2^24∧∀ p,p∈l→p.lo.num.digits.length<2^31∧p.hi.num.digits.length<2^31
theorem qnS (l:List Prt) (hl:qpA l):q0m CS 229 [qhH l] (.bool (qiv l)):=by
 obtain ⟨hl1,hl2⟩:=hl
 refine q05 qkE rfl ?_
 unfold qhH qiv
 by_cases h256:l.length≤256
 case neg=>
  rw[decide_eq_false h256]
  (repeat' first|simp (disch:=omega) only[go_sem,qkE,enter,Ka])
  all_goals omega
 rw[decide_eq_true h256,Vt]
 (repeat' first|simp (disch:=omega) only[go_sem,qkE,enter,Ka]|(apply spl<;>intro h<;>try simp (disch:=omega) only[go_sem,h]))
 all_goals try omega
 refine q0a (α:=Nat) (fun k=>{ tmps:=q0i 20 [(10,.tsl 11 (l.map q0p)),(11,.int .i64 l.length),(12,.int .i64 k)],heap:=[],base:=0 }) (fun k=>k≤l.length∧(l.take k).all qaU=true) (fun k=>l.length-k) 0 rfl ⟨Kn _,rfl⟩ ?_
 rintro k ⟨hk,hd⟩
 by_cases hlt:k<l.length
 ·obtain ⟨p,hp⟩:=q08 hlt
  have hp2:=q0d (g:=q0p) hp
  obtain ⟨q1,q2⟩:=hl2 p (Kc hp)
  have hr:=qnH p q1 q2
  simp only[q0p] at hp2 hr
  cases hb:qaU p with
  | true=>
   rw[hb] at hr
   (repeat' first|simp (disch:=omega) only[go_sem,hp2,Ka]|refine q00 _ (hr) ?_|(apply spl<;>intro h<;>try simp (disch:=omega) only[go_sem,h]))
   all_goals try omega
   exact ⟨k+1,rfl,⟨hlt,q0C hp hd hb⟩,by omega⟩
  | false=>
   rw[hb] at hr
   have hn:l.all qaU=false:=q4y hp hb
   rw[hn]
   (repeat' first|simp (disch:=omega) only[go_sem,hp2,Ka]|refine q00 _ (hr) ?_)
   all_goals omega
 ·rw[q0M hlt hk] at hd
  rw[hd]
  (repeat' first|simp (disch:=omega) only[go_sem,Ka])
  all_goals omega
theorem qqg (l:List Prt) (hl:qpA l):q0m CS 600 [qhH l] (.bool (qiv l)):=by
 obtain ⟨hl1,hl2⟩:=hl
 refine q05 qoe rfl ?_
 unfold qhH qiv
 (repeat' first|simp (disch:=omega) only[go_sem,qoe,enter,Ka]|(apply spl<;>intro h<;>try simp (disch:=omega) only[go_sem,h]))
 refine q0a (α:=Nat) (fun k=>{ tmps:=q0i 22 [(1,.ptr 1 0 0 0),(3,.int .i64 k)],heap:=[.row 1 [.agg [.tsl 11 (l.map q0p)]] false true 0],base:=0 }) (fun k=>k≤l.length∧(l.take k).all qaU=true) (fun k=>l.length-k) 0 rfl ⟨Kn _,rfl⟩ ?_
 rintro k ⟨hk,hd⟩
 by_cases hlt:k<l.length
 ·obtain ⟨p,hp⟩:=q08 hlt
  have hp2:=q0d (g:=q0p) hp
  obtain ⟨q1,q2⟩:=hl2 p (Kc hp)
  have hr:=qqb p q1 q2
  simp only[q0p] at hp2 hr
  cases hb:qaU p with
  | true=>
   rw[hb] at hr
   (repeat' first|simp (disch:=omega) only[go_sem,hp2,Ka]|refine q00 _ (hr) ?_|(apply spl<;>intro h<;>try simp (disch:=omega) only[go_sem,h]))
   all_goals try omega
   exact ⟨k+1,rfl,⟨hlt,q0C hp hd hb⟩,by omega⟩
  | false=>
   rw[hb] at hr
   have hn:l.all qaU=false:=q4y hp hb
   rw[hn,Wa]
   (repeat' first|simp (disch:=omega) only[go_sem,hp2,Ka]|refine q00 _ (hr) ?_)
   all_goals omega
 ·rw[q0M hlt hk] at hd
  rw[hd,Bool.and_true]
  (repeat' first|simp (disch:=omega) only[go_sem,Ka]|(apply spl<;>intro h<;>try simp (disch:=omega) only[go_sem,h]))
  all_goals (first | omega | (simp; omega))
end Ago
