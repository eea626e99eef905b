/- Schemas: the schemas in a node,how many nodes there are. -/
import Derived.Test.YtjeahlpkonkjiaaGreatDoorOCode
import Derived.Test.YtjeahlpkonkjiaaGreatDoorORunA
import Derived.Test.YtjeahlpkonkjiaaGreatDoorOMachE
import Derived.Test.YtjeahlpkonkjiaaGreatDoorORunE
import Derived.Test.YtjeahlpkonkjiaaGreatDoorORunX
set_option linter.unusedSimpArgs false
set_option linter.unusedVariables false
set_option maxRecDepth 100000
set_option maxHeartbeats 4000000
namespace Ago
open Go (IntKind)
theorem qd8 (v:Sch) (hv:v.bulk≤2^24):q0k CS 514 [q03 v] (.tsl 15 (v.kids.map q03)):=by
 have L:=Sch.lens hv
 refine q04 qmn rfl ?_
 rw[q02]
 (repeat' first|simp (disch:=omega) only[go_sem,qmn,enter,Ka]|(apply spl<;>intro h<;>try simp (disch:=omega) only[go_sem,h]))
 refine q07 (α:=Nat × List AV) (fun a=>{ tmps:=q0q 23 [(1,.ptr 15 0 0 0),(3,q1e 15 1 a.2),(7,.tsl 17 (v.p.map q0i)),(8,.int .i64 v.p.length),(9,.int .i64 a.1)],heap:=[.row 15 [q03 v] false true 0]++q1d 15 1 a.2,base:=0 }) (fun a=>a.1≤v.p.length∧a.2=(v.p.take a.1).map fun x=>q03 x.2) (fun a=>v.p.length-a.1) (0,[]) (by rw[q02]; rfl) (by simp) ?_
 rintro ⟨k,els⟩ ⟨hk,hl⟩
 simp only at hk hl
 rw[q02]
 by_cases hlt:k<v.p.length
 ·obtain ⟨x,hx⟩:=q06 hlt
  have hx2:=q0c (g:=q0i) hx
  rw[q0o] at hx2
  have hnew:els++[q03 x.2]=(v.p.take (k+1)).map fun x=>q03 x.2:=by rw[hl,KG,hx]; simp
  rw[q02 x.2] at hnew
  have hlen:els.length=k:=by rw[hl]; simp; omega
  have hfl:=L.props
  cases els with
  | nil=>
   (repeat' first|simp (disch:=omega) only[go_sem,hx2,Ka,q1e,q1d]|(apply spl<;>intro h<;>try simp (disch:=omega) only[go_sem,h]))
   refine ⟨(k+1,(v.p.take (k+1)).map fun x=>q03 x.2),?_,⟨hlt,rfl⟩,by simp only; omega⟩
   simp only[←hnew]
   rfl
  | cons y els=>
   simp only[Kb] at hlen
   (repeat' first|simp (disch:=omega) only[go_sem,hx2,Ka,q1e,q1d]|(apply spl<;>intro h<;>try simp (disch:=omega) only[go_sem,h]))
   refine ⟨(k+1,(v.p.take (k+1)).map fun x=>q03 x.2),?_,⟨hlt,rfl⟩,by simp only; omega⟩
   simp only[←hnew,Kr,q1e,q1d,Kk,Kb,Kg]
   rfl
 ·have hf:els++v.a.map q03=v.kids.map q03:=by
   rw[hl,q1j hlt hk]
   simp [Sch.kids]
  rw[←hf]
  have hal:=L.args
  have hpl:=L.props
  have hlen:els.length=v.p.length:=by rw[hl,q1j hlt hk]; simp
  cases ha:v.a with
  | nil=>
   cases els with
   | nil=>(repeat' first|simp (disch:=omega) only[go_sem,Ka,q1e,q1d,Kx,KY])
   | cons y els=>
    simp only[Kb] at hlen
    (repeat' first|simp (disch:=omega) only[go_sem,Ka,q1e,q1d,Kz,Kx,KY,Kk,Kb])
    all_goals (simp; try exact KJ (by simp; try omega))
  | cons z zs=>
   rw[ha] at hal
   simp only[Kb] at hal
   cases els with
   | nil=>
    (repeat' first|simp (disch:=omega) only[go_sem,Ka,q1e,q1d,Kz,Km,Kv,Kb]|(apply spl<;>intro h<;>try simp (disch:=omega) only[go_sem,h]))
    all_goals (simp; try exact KJ (by simp; try omega))
   | cons y els=>
    simp only[Kb] at hlen
    (repeat' first|simp (disch:=omega) only[go_sem,Ka,q1e,q1d,Kz,Km,Kk,Kb,Kr]|(apply spl<;>intro h<;>try simp (disch:=omega) only[go_sem,h]))
    all_goals (simp; try exact KJ (by simp; try omega))
theorem q4b (v:Sch) (hv:v.bulk≤2^24):q0k CS 515 [q03 v] (.tsl 15 (v.kids.map q03)):=by
 have L:=Sch.lens hv
 refine q04 qm8 rfl ?_
 rw[q02]
 (repeat' first|simp (disch:=omega) only[go_sem,qm8,enter,Ka]|(apply spl<;>intro h<;>try simp (disch:=omega) only[go_sem,h]))
 refine q07 (α:=Nat × List AV) (fun a=>{ tmps:=q0q 25 [(1,.ptr 15 0 0 0),(3,q1e 15 1 a.2),(4,.int .i64 a.1)],heap:=[.row 15 [q03 v] false true 0]++q1d 15 1 a.2,base:=0 }) (fun a=>a.1≤v.p.length∧a.2=(v.p.take a.1).map fun x=>q03 x.2) (fun a=>v.p.length-a.1) (0,[]) (by rw[q02]; rfl) (by simp) ?_
 rintro ⟨k,els⟩ ⟨hk,hl⟩
 simp only at hk hl
 rw[q02]
 by_cases hlt:k<v.p.length
 ·obtain ⟨x,hx⟩:=q06 hlt
  have hx2:=q0c (g:=q0i) hx
  rw[q0o] at hx2
  have hnew:els++[q03 x.2]=(v.p.take (k+1)).map fun x=>q03 x.2:=by rw[hl,KG,hx]; simp
  rw[q02 x.2] at hnew
  have hlen:els.length=k:=by rw[hl]; simp; omega
  have hfl:=L.props
  cases els with
  | nil=>
   (repeat' first|simp (disch:=omega) only[go_sem,hx2,Ka,q1e,q1d]|(apply spl<;>intro h<;>try simp (disch:=omega) only[go_sem,h]))
   refine ⟨(k+1,(v.p.take (k+1)).map fun x=>q03 x.2),?_,⟨hlt,rfl⟩,by simp only; omega⟩
   simp only[←hnew]
   rfl
  | cons y els=>
   simp only[Kb] at hlen
   (repeat' first|simp (disch:=omega) only[go_sem,hx2,Ka,q1e,q1d]|(apply spl<;>intro h<;>try simp (disch:=omega) only[go_sem,h]))
   refine ⟨(k+1,(v.p.take (k+1)).map fun x=>q03 x.2),?_,⟨hlt,rfl⟩,by simp only; omega⟩
   simp only[←hnew,Kr,q1e,q1d,Kk,Kb,Kg]
   rfl
 ·have hf:els++v.a.map q03=v.kids.map q03:=by
   rw[hl,q1j hlt hk]
   simp [Sch.kids]
  rw[←hf]
  have hal:=L.args
  have hpl:=L.props
  have hlen:els.length=v.p.length:=by rw[hl,q1j hlt hk]; simp
  cases ha:v.a with
  | nil=>
   cases els with
   | nil=>(repeat' first|simp (disch:=omega) only[go_sem,Ka,q1e,q1d,Kx,KY])
   | cons y els=>
    simp only[Kb] at hlen
    (repeat' first|simp (disch:=omega) only[go_sem,Ka,q1e,q1d,Kz,Kx,KY,Kk,Kb])
    all_goals (simp; try exact KJ (by simp; try omega))
  | cons z zs=>
   rw[ha] at hal
   simp only[Kb] at hal
   cases els with
   | nil=>
    (repeat' first|simp (disch:=omega) only[go_sem,Ka,q1e,q1d,Kz,Km,Kv,Kb]|(apply spl<;>intro h<;>try simp (disch:=omega) only[go_sem,h]))
    all_goals (simp; try exact KJ (by simp; try omega))
   | cons y els=>
    simp only[Kb] at hlen
    (repeat' first|simp (disch:=omega) only[go_sem,Ka,q1e,q1d,Kz,Km,Kk,Kb,Kr]|(apply spl<;>intro h<;>try simp (disch:=omega) only[go_sem,h]))
    all_goals (simp; try exact KJ (by simp; try omega))
def q7E:Nat→Sch→Nat
 | 0,_=>0
 | d+1,x=>1+(x.kids.map (q7E d)).sum
theorem q9D (x:Sch):q7E 0 x=0:=(rfl)
theorem q5m (d:Nat) (x:Sch):q7E (d+1) x=1+(x.kids.map (q7E d)).sum:=(rfl)
theorem qkU {α:Type} {f g:α→Nat} : ∀ (l:List α),(∀ x,x∈l→f x≤g x)→(l.map f).sum≤(l.map g).sum
 | [],_=>by simp
 | x::l,h=>by
  have:=h x (Kj ..)
  have:=qkU l fun y hy=>h y (Kl _ hy)
  simp only[Km,List.sum_cons]
  omega
theorem qd7 : ∀ l:List Sch,AV.bulks (l.map q03)=(l.map Sch.bulk).sum
 | []=>by simp [AV.bulks]
 | x::l=>by simp [AV.bulks,qd7 l,Sch.bulk]
theorem qiw (x:Sch):(x.kids.map Sch.bulk).sum<x.bulk:=by
 have h1:=x.kids_sum
 have h2:=x.bulk_eq
 have h3:=qd7 x.kids
 omega
theorem q7N : ∀ (d:Nat) (x:Sch),q7E d x≤x.bulk
 | 0,x=>by simp [q9D]
 | d+1,x=>by
  rw[q5m]
  have:=qiw x
  have:=qkU x.kids (fun y _=>q7N d y)
  omega
theorem q5A (x:Sch):x.kids.length<x.bulk:=by
 have h1:=qiw x
 have h2 : ∀ l:List Sch,l.length≤(l.map Sch.bulk).sum:=by
  intro l
  induction l with
  | nil=>simp
  | cons y l ih=>
   have:1≤y.bulk:=q1B _
   simp only[Kb,Km,List.sum_cons]
   omega
 have:=h2 x.kids
 omega
theorem q6P {α:Type} (f:α→Nat) (l:List α) (k:Nat) (x:α) (hx:l[k]?=some x):((l.take (k+1)).map f).sum=((l.take k).map f).sum+f x:=by
 rw[KG,hx]
 simp
theorem q3R {α:Type} (f:α→Nat) (l:List α) (k:Nat):((l.take k).map f).sum≤(l.map f).sum:=by
 have:(l.map f).sum=((l.take k).map f).sum+((l.drop k).map f).sum:=by
  rw[←List.sum_append,←VX,K6]
 omega
theorem qmu : ∀ (d:Nat) (D:Int),D=d→d<2^30→∀ x:Sch,x.bulk≤2^24→q0k CS 509 [q03 x,.int .i64 D] (.int .i64 (q7E d x)):=by
 intro d
 induction d with
 | zero=>
  intro D hD hd x hx
  refine q04 qh9 rfl ?_
  rw[q02,q9D]
  (repeat' first|simp (disch:=omega) only[go_sem,qh9,enter,Ka])
  all_goals omega
 | succ d ih=>
  intro D hD hd x hx
  have L:=Sch.lens hx
  have hp:=qd8 x hx
  have hkl:=q5A x
  refine q04 qh9 rfl ?_
  rw[q02] at hp ⊢
  (repeat' first|simp (disch:=omega) only[go_sem,qh9,enter,Ka]|refine q00 _ (hp) ?_|(apply spl<;>intro h<;>try simp (disch:=omega) only[go_sem,h]))
  all_goals try omega
  refine q07 (α:=Nat × Nat) (fun a=>{ tmps:=q0q 25 [(1,.int .i64 D),(5,.int .i64 a.2),(11,.tsl 15 (x.kids.map q03)),(12,.int .i64 x.kids.length),(13,.int .i64 a.1)],heap:=[],base:=0 }) (fun a=>a.1≤x.kids.length∧a.2=1+((x.kids.take a.1).map (q7E d)).sum) (fun a=>x.kids.length-a.1) (0,1) rfl ⟨Kp _,by simp⟩ ?_
  rintro ⟨k,n⟩ ⟨hk,hn⟩
  simp only at hk hn
  by_cases hlt:k<x.kids.length
  ·obtain ⟨y,hy⟩:=q06 hlt
   have hym:=Kc hy
   have hy2:=q0c (g:=q03) hy
   have hr:=ih (D-1) (by omega) (by omega) y (by have:=Sch.kids_bulk hym; omega)
   have h1:=q3R (q7E d) x.kids (k+1)
   have h2:=q6P (q7E d) x.kids k y hy
   have h3:=q7N (d+1) x
   rw[q5m] at h3
   rw[q02] at hy2 hr
   (repeat' first|simp (disch:=omega) only[go_sem,hy2,Ka]|refine q00 _ (hr) ?_|(apply spl<;>intro h<;>try simp (disch:=omega) only[go_sem,h]))
   all_goals try omega
   refine ⟨(k+1,n+q7E d y),?_,⟨hlt,by simp only; omega⟩,by simp only; omega⟩
   simp only[Int.natCast_add]
   rfl
  ·have hk2:k=x.kids.length:=by omega
   rw[hk2,Kz] at hn
   rw[q5m,←hn]
   (repeat' first|simp (disch:=omega) only[go_sem,Ka])
theorem qcr : ∀ (d:Nat) (D:Int),D=d→d<2^30→∀ x:Sch,x.bulk≤2^24→q0k CS 507 [q03 x,.int .i64 D] (.int .i64 (q7E d x)):=by
 intro d
 induction d with
 | zero=>
  intro D hD hd x hx
  refine q04 qhe rfl ?_
  rw[q02,q9D]
  (repeat' first|simp (disch:=omega) only[go_sem,qhe,enter,Ka])
  all_goals omega
 | succ d ih=>
  intro D hD hd x hx
  have L:=Sch.lens hx
  have hp:=q4b x hx
  have hkl:=q5A x
  refine q04 qhe rfl ?_
  rw[q02] at hp ⊢
  (repeat' first|simp (disch:=omega) only[go_sem,qhe,enter,Ka]|refine q00 _ (hp) ?_|(apply spl<;>intro h<;>try simp (disch:=omega) only[go_sem,h]))
  all_goals try omega
  refine q07 (α:=Nat × Nat) (fun a=>{ tmps:=q0q 28 [(1,.int .i64 D),(5,.int .i64 a.2),(6,.tsl 15 (x.kids.map q03)),(7,.int .i64 a.1)],heap:=[],base:=0 }) (fun a=>a.1≤x.kids.length∧a.2=1+((x.kids.take a.1).map (q7E d)).sum) (fun a=>x.kids.length-a.1) (0,1) rfl ⟨Kp _,by simp⟩ ?_
  rintro ⟨k,n⟩ ⟨hk,hn⟩
  simp only at hk hn
  by_cases hlt:k<x.kids.length
  ·obtain ⟨y,hy⟩:=q06 hlt
   have hym:=Kc hy
   have hy2:=q0c (g:=q03) hy
   have hr:=ih (D-1) (by omega) (by omega) y (by have:=Sch.kids_bulk hym; omega)
   have h1:=q3R (q7E d) x.kids (k+1)
   have h2:=q6P (q7E d) x.kids k y hy
   have h3:=q7N (d+1) x
   rw[q5m] at h3
   rw[q02] at hy2 hr
   (repeat' first|simp (disch:=omega) only[go_sem,hy2,Ka]|refine q00 _ (hr) ?_|(apply spl<;>intro h<;>try simp (disch:=omega) only[go_sem,h]))
   all_goals try omega
   refine ⟨(k+1,n+q7E d y),?_,⟨hlt,by simp only; omega⟩,by simp only; omega⟩
   simp only[Int.natCast_add]
   rfl
  ·have hk2:k=x.kids.length:=by omega
   rw[hk2,Kz] at hn
   rw[q5m,←hn]
   (repeat' first|simp (disch:=omega) only[go_sem,Ka])
theorem qfE (x:Sch) (hx:x.bulk≤2^24):q0k CS 481 [q03 x] (.int .i64 (q7E 48 x)):=by
 have hr:=qmu 48 48 rfl (by decide) x hx
 refine q04 qnj rfl ?_
 rw[q02] at hr ⊢
 (repeat' first|simp (disch:=omega) only[go_sem,qnj,enter]|refine q00 _ (hr) ?_)
theorem qeN (x:Sch) (hx:x.bulk≤2^24):q0k CS 474 [q03 x] (.int .i64 (q7E 48 x)):=by
 have hr:=qcr 48 48 rfl (by decide) x hx
 refine q04 qmQ rfl ?_
 rw[q02] at hr ⊢
 (repeat' first|simp (disch:=omega) only[go_sem,qmQ,enter]|refine q00 _ (hr) ?_)
end Ago
set_option maxRecDepth 100000
set_option maxHeartbeats 4000000
namespace Ago
open Go (IntKind)
theorem upS {f:Nat} {ts:List AV} {v:AV} (h:q0k C0 f ts v):q0k CS f ts v:=
 qka (qad (C:=C0) (C':=q69 qa8 qf7 qfb) (fun f fn h=>by
  have h:code f=some fn:=h
  show qa8 f=some fn
  unfold qa8
  rw[h]) (fun _ _ _ _ _ h=>by
   obtain ⟨p,x,h,h2⟩:=h
   refine ⟨p,x,?_,h2⟩
   unfold clR at h
   split at h
   ·exact h
   ·cases h) (fun f t v h=>by
   obtain ⟨p,l,h,h2⟩:=h
   refine ⟨p,l,?_,h2⟩
   unfold clP at h
   split at h
   ·exact h
   ·cases h) h)
def qdi:Nat→Pat→Nat
 | 0,_=>0
 | d+1,x=>1+(x.a.map (qdi d)).sum
theorem q96 (x:Pat):qdi 0 x=0:=(rfl)
theorem q5b (d:Nat) (x:Pat):qdi (d+1) x=1+(x.a.map (qdi d)).sum:=(rfl)
theorem qaS : ∀ l:List Pat,AV.bulks (l.map q0G)=(l.map Pat.bulk).sum
 | []=>by simp [AV.bulks]
 | x::l=>by simp [AV.bulks,qaS l,Pat.bulk]
theorem qby : ∀ (d:Nat) (x:Pat),qdi d x≤x.bulk
 | 0,x=>by simp [q96]
 | d+1,x=>by
  rw[q5b]
  have h1:=x.bulk_eq
  have h2:=qaS x.a
  have:=qkU x.a (fun y _=>qby d y)
  omega
theorem qkv : ∀ (d:Nat) (D:Int),D=d→d<2^30→∀ x:Pat,x.bulk≤2^24→q0k CS 378 [q0G x,.int .i64 D] (.int .i64 (qdi d x)):=by
 intro d
 induction d with
 | zero=>
  intro D hD hd x hx
  refine q04 qhm rfl ?_
  rw[q0r,q96]
  (repeat' first|simp (disch:=omega) only[go_sem,qhm,enter,Ka])
  all_goals omega
 | succ d ih=>
  intro D hD hd x hx
  have L:=Pat.lens hx
  have hal:=L.args
  refine q04 qhm rfl ?_
  rw[q0r]
  (repeat' first|simp (disch:=omega) only[go_sem,qhm,enter,Ka]|(apply spl<;>intro h<;>try simp (disch:=omega) only[go_sem,h]))
  all_goals try omega
  refine q07 (α:=Nat × Nat) (fun a=>{ tmps:=q0q 25 [(1,.int .i64 D),(5,.int .i64 a.2),(11,.tsl 6 (x.a.map q0G)),(12,.int .i64 x.a.length),(13,.int .i64 a.1)],heap:=[],base:=0 }) (fun a=>a.1≤x.a.length∧a.2=1+((x.a.take a.1).map (qdi d)).sum) (fun a=>x.a.length-a.1) (0,1) rfl ⟨Kp _,by simp⟩ ?_
  rintro ⟨k,n⟩ ⟨hk,hn⟩
  simp only at hk hn
  try rw[q0r]
  by_cases hlt:k<x.a.length
  ·obtain ⟨y,hy⟩:=q06 hlt
   have hym:=Kc hy
   have hy2:=q0c (g:=q0G) hy
   have hr:=ih (D-1) (by omega) (by omega) y (by have:=L.kids y hym; omega)
   have h1:=q3R (qdi d) x.a (k+1)
   have h2:=q6P (qdi d) x.a k y hy
   have h3:=qby (d+1) x
   rw[q5b] at h3
   rw[q0r] at hy2 hr
   (repeat' first|simp (disch:=omega) only[go_sem,hy2,Ka]|refine q00 _ (hr) ?_|(apply spl<;>intro h<;>try simp (disch:=omega) only[go_sem,h]))
   all_goals try omega
   refine ⟨(k+1,n+qdi d y),?_,⟨hlt,by simp only; omega⟩,by simp only; omega⟩
   simp only[Int.natCast_add,q0r x]
   rfl
  ·have hk2:k=x.a.length:=by omega
   rw[hk2,Kz] at hn
   rw[q5b,←hn]
   (repeat' first|simp (disch:=omega) only[go_sem,Ka])
theorem qbd : ∀ (d:Nat) (D:Int),D=d→d<2^30→∀ x:Pat,x.bulk≤2^24→q0k CS 376 [q0G x,.int .i64 D] (.int .i64 (qdi d x)):=by
 intro d
 induction d with
 | zero=>
  intro D hD hd x hx
  refine q04 qgD rfl ?_
  rw[q0r,q96]
  (repeat' first|simp (disch:=omega) only[go_sem,qgD,enter,Ka])
  all_goals omega
 | succ d ih=>
  intro D hD hd x hx
  have L:=Pat.lens hx
  have hal:=L.args
  refine q04 qgD rfl ?_
  rw[q0r]
  (repeat' first|simp (disch:=omega) only[go_sem,qgD,enter,Ka]|(apply spl<;>intro h<;>try simp (disch:=omega) only[go_sem,h]))
  all_goals try omega
  refine q07 (α:=Nat × Nat) (fun a=>{ tmps:=q0q 27 [(1,.int .i64 D),(2,.ptr 6 0 0 0),(5,.int .i64 a.2),(6,.int .i64 a.1)],heap:=[.row 6 [q0G x] false true 0],base:=0 }) (fun a=>a.1≤x.a.length∧a.2=1+((x.a.take a.1).map (qdi d)).sum) (fun a=>x.a.length-a.1) (0,1) (by rw[q0r]; rfl) ⟨Kp _,by simp⟩ ?_
  rintro ⟨k,n⟩ ⟨hk,hn⟩
  simp only at hk hn
  try rw[q0r]
  by_cases hlt:k<x.a.length
  ·obtain ⟨y,hy⟩:=q06 hlt
   have hym:=Kc hy
   have hy2:=q0c (g:=q0G) hy
   have hr:=ih (D-1) (by omega) (by omega) y (by have:=L.kids y hym; omega)
   have h1:=q3R (qdi d) x.a (k+1)
   have h2:=q6P (qdi d) x.a k y hy
   have h3:=qby (d+1) x
   rw[q5b] at h3
   rw[q0r] at hy2 hr
   (repeat' first|simp (disch:=omega) only[go_sem,hy2,Ka]|refine q00 _ (hr) ?_|(apply spl<;>intro h<;>try simp (disch:=omega) only[go_sem,h]))
   all_goals try omega
   refine ⟨(k+1,n+qdi d y),?_,⟨hlt,by simp only; omega⟩,by simp only; omega⟩
   simp only[Int.natCast_add,q0r x]
   rfl
  ·have hk2:k=x.a.length:=by omega
   rw[hk2,Kz] at hn
   rw[q5b,←hn]
   (repeat' first|simp (disch:=omega) only[go_sem,Ka])
theorem qcs (x:Pat) (hx:x.bulk≤2^24):q0k CS 357 [q0G x] (.int .i64 (qdi 48 x)):=by
 have hr:=qbd 48 48 rfl (by decide) x hx
 refine q04 qnQ rfl ?_
 rw[q0r] at hr ⊢
 (repeat' first|simp (disch:=omega) only[go_sem,qnQ,enter]|refine q00 _ (hr) ?_)
theorem qj4 (x:Sch) (hx:x.bulk≤2^24) : ∃ b,q0k CS 560 [q03 x] (.bool b):=by
 have L:=Sch.lens hx
 have hr:=qcs x.s.pat (by have:=L.pat; omega)
 have hc:=qby 48 x.s.pat
 have hpb:=L.pat
 have l1:=L.vals
 have l2:=L.props
 have l3:=L.args
 have l4:=L.parts
 have h:=q4H (C:=CS) (f:=560) (ts:=[q03 x]) (k:=fun w=>∃ b,w = .bool b) qnM rfl (by
  rw[q02]
  rw[q0r] at hr
  (repeat' first|simp (disch:=omega) only[go_sem,qnM,enter,Ka]|refine q00 _ (hr) ?_|(apply spl<;>intro h<;>try simp (disch:=omega) only[go_sem,h]))
  all_goals first | exact ⟨_,rfl⟩ | omega | skip
  refine q07 (α:=Nat) (fun a=>{ tmps:=q0q 47 [(1,.ptr 15 0 0 0),(3,.int .i64 a)],heap:=[.row 15 [q03 x] false true 0],base:=0 }) (fun a=>a≤x.s.vals.length) (fun a=>x.s.vals.length-a) 0 (by rw[q02]; rfl) (Kp _) ?_
  intro k hk
  rw[q02]
  by_cases hlt:k<x.s.vals.length
  ·obtain ⟨y,hy⟩:=q06 hlt
   have hym:=Kc hy
   have hy2:=q0c (g:=q0u) hy
   obtain ⟨b,hb⟩:=qfB y (by have:=L.val y hym; omega) 20 5 (by decide) (by decide) (by decide) (by decide)
   have hb:=upS hb
   rw[q08] at hy2 hb
   cases b with
   | true=>
    (repeat' first|simp (disch:=omega) only[go_sem,hy2,Ka]|refine q00 _ (hb) ?_|(apply spl<;>intro h<;>try simp (disch:=omega) only[go_sem,h]))
    all_goals try omega
    exact ⟨k+1,rfl,hlt,by omega⟩
   | false=>
    (repeat' first|simp (disch:=omega) only[go_sem,hy2,Ka]|refine q00 _ (hb) ?_|(apply spl<;>intro h<;>try simp (disch:=omega) only[go_sem,h]))
    all_goals first | exact ⟨_,rfl⟩ | omega
  ·(repeat' first|simp (disch:=omega) only[go_sem,Ka]|(apply spl<;>intro h<;>try simp (disch:=omega) only[go_sem,h]))
   all_goals first | exact ⟨_,rfl⟩ | omega)
 obtain ⟨w,k1,b,rfl⟩:=h
 exact ⟨b,k1⟩
theorem qu4 : ∀ (d:Nat) (D:Int),D≤d→-(2^30)<D→d<2^30→∀ x:Sch,x.bulk≤2^24→∃ b,q0k CS 508 [q03 x,.int .i64 D] (.bool b):=by
 intro d
 induction d with
 | zero=>
  intro D hD hD2 hd x hx
  obtain ⟨b,hb⟩:=qj4 x hx
  have hp:=q4b x hx
  have hkl:=q5A x
  cases b with
  | false=>
   refine ⟨false,q04 qa7 rfl ?_⟩
   rw[q02] at hb ⊢
   (repeat' first|simp (disch:=omega) only[go_sem,qa7,enter,Ka]|refine q00 _ (hb) ?_)
  | true=>
   refine ⟨true,q04 qa7 rfl ?_⟩
   rw[q02] at hb hp ⊢
   (repeat' first|simp (disch:=omega) only[go_sem,qa7,enter,Ka]|refine q00 _ (hb) ?_|refine q00 _ (hp) ?_|(apply spl<;>intro h<;>try simp (disch:=omega) only[go_sem,h]))
   refine q07 (α:=Nat) (fun a=>{ tmps:=q0q 30 [(1,.int .i64 D),(5,.tsl 15 (x.kids.map q03)),(6,.int .i64 a)],heap:=[],base:=0 }) (fun a=>a≤x.kids.length) (fun a=>x.kids.length-a) 0 rfl (Kp _) ?_
   intro k hk
   by_cases hlt:k<x.kids.length
   ·obtain ⟨y,hy⟩:=q06 hlt
    (repeat' first|simp (disch:=omega) only[go_sem,Ka])
    all_goals omega
   ·(repeat' first|simp (disch:=omega) only[go_sem,Ka])
    all_goals omega
 | succ d ih=>
  intro D hD hD2 hd x hx
  obtain ⟨b,hb⟩:=qj4 x hx
  have hp:=q4b x hx
  have hkl:=q5A x
  cases b with
  | false=>
   refine ⟨false,q04 qa7 rfl ?_⟩
   rw[q02] at hb ⊢
   (repeat' first|simp (disch:=omega) only[go_sem,qa7,enter,Ka]|refine q00 _ (hb) ?_)
  | true=>
   have h:=q4H (C:=CS) (f:=508) (ts:=[q03 x,.int .i64 D]) (k:=fun w=>∃ b,w = .bool b) qa7 rfl (by
    rw[q02] at hb hp ⊢
    (repeat' first|simp (disch:=omega) only[go_sem,qa7,enter,Ka]|refine q00 _ (hb) ?_|refine q00 _ (hp) ?_|(apply spl<;>intro h<;>try simp (disch:=omega) only[go_sem,h]))
    refine q07 (α:=Nat) (fun a=>{ tmps:=q0q 30 [(1,.int .i64 D),(5,.tsl 15 (x.kids.map q03)),(6,.int .i64 a)],heap:=[],base:=0 }) (fun a=>a≤x.kids.length) (fun a=>x.kids.length-a) 0 rfl (Kp _) ?_
    intro k hk
    by_cases hlt:k<x.kids.length∧1<D
    ·obtain ⟨hlt,hD1⟩:=hlt
     obtain ⟨y,hy⟩:=q06 hlt
     have hym:=Kc hy
     have hy2:=q0c (g:=q03) hy
     obtain ⟨c,hc⟩:=ih (D-1) (by omega) (by omega) (by omega) y (by have:=Sch.kids_bulk hym; omega)
     rw[q02] at hy2 hc
     cases c with
     | true=>
      (repeat' first|simp (disch:=omega) only[go_sem,hy2,Ka]|refine q00 _ (hc) ?_|(apply spl<;>intro h<;>try simp (disch:=omega) only[go_sem,h]))
      all_goals try omega
      exact ⟨k+1,rfl,hlt,by omega⟩
     | false=>
      (repeat' first|simp (disch:=omega) only[go_sem,hy2,Ka]|refine q00 _ (hc) ?_|(apply spl<;>intro h<;>try simp (disch:=omega) only[go_sem,h]))
      all_goals first | exact ⟨_,rfl⟩ | omega
    ·by_cases hlt2:k<x.kids.length
     ·(repeat' first|simp (disch:=omega) only[go_sem,Ka]|(apply spl<;>intro h<;>try simp (disch:=omega) only[go_sem,h]))
      all_goals first | exact ⟨_,rfl⟩ | omega
     ·(repeat' first|simp (disch:=omega) only[go_sem,Ka]|(apply spl<;>intro h<;>try simp (disch:=omega) only[go_sem,h]))
      all_goals first | exact ⟨_,rfl⟩ | omega)
   obtain ⟨w,k1,c,rfl⟩:=h
   exact ⟨c,k1⟩
theorem qnp (x:Sch) (hx:x.bulk≤2^24) : ∃ b,q0k CS 480 [q03 x] (.bool b):=by
 obtain ⟨b,hb⟩:=qu4 50 50 (by decide) (by decide) (by decide) x hx
 have hr:=qeN x hx
 have hc:=q7N 48 x
 cases b with
 | false=>
  refine ⟨false,q04 qcY rfl ?_⟩
  rw[q02] at hb ⊢
  (repeat' first|simp (disch:=omega) only[go_sem,qcY,enter]|refine q00 _ (hb) ?_)
 | true=>
  by_cases h:q7E 48 x≤1100
  ·refine ⟨true,q04 qcY rfl ?_⟩
   rw[q02] at hb hr ⊢
   (repeat' first|simp (disch:=omega) only[go_sem,qcY,enter]|refine q00 _ (hb) ?_|refine q00 _ (hr) ?_)
   all_goals omega
  ·refine ⟨false,q04 qcY rfl ?_⟩
   rw[q02] at hb hr ⊢
   (repeat' first|simp (disch:=omega) only[go_sem,qcY,enter]|refine q00 _ (hb) ?_|refine q00 _ (hr) ?_)
   all_goals omega
end Ago
set_option maxRecDepth 100000
set_option maxHeartbeats 4000000
namespace Ago
open Go (IntKind)
structure Cl (H:Heap):Prop where
 refs : ∀ b,b∈H→∀ r,r∈b.refs→r<H.length
 ren : ∀ b,b∈H→∀ f g,(∀ r,r<H.length→f r=some r)→(∀ r,r<H.length→g r=r)→Blk.ren f g b=b
theorem Cl.nil:Cl []:=⟨fun b h=>(by cases h),fun b h=>(by cases h)⟩
theorem Cl.push {H:Heap} (h:Cl H) (n:Nat) (els:List AV) (ro:Bool) (fam:Nat) (hf:fam≤H.length):Cl (H++[.row n els ro true fam]):=by
 refine ⟨fun b hb r hr=>?_,fun b hb f g hf2 hg2=>?_⟩
 ·rcases K9.1 hb with hb | hb
  ·have:=h.refs b hb r hr
   simp
   omega
  ·rw[KR.1 hb] at hr
   simp [Blk.refs] at hr
 ·rcases K9.1 hb with hb | hb
  ·exact h.ren b hb f g (fun r hr=>hf2 r (by simp; omega)) (fun r hr=>hg2 r (by simp; omega))
  ·rw[KR.1 hb]
   simp [Blk.ren,hg2 fam (by simp; omega)]
def qta (base:Nat) (res:List ResV) (v:AV) (H':Heap) (e:Ex) (s:St):Prop:=(e = .normal∨e = .ret)∧∃ u,results res s=some u∧(q9T base u s.heap).tmps.getD 0 .dead=v∧(q9T base u s.heap).heap=H'
theorem qpK {C:Ctx} {f:Nat} (fn:AFn) {args:List AV} {H H':Heap} {v:AV} (hf:C.code f=some fn) (h : @q0N (enter fn args H) ⟨aw (q1u C) (q0k C) fn.body (qta H.length fn.res v H')⟩):q1u C f args H v H':=by
 unfold q0N at h
 obtain ⟨e,s,h1,he,u,h2,rfl,rfl⟩:=q2q _ _ _ h
 exact .run hf h1 he h2
end Ago
set_option maxRecDepth 100000
set_option maxHeartbeats 4000000
namespace Ago
open Go (IntKind)
theorem qu9 {P:Prop} [Decidable P] (h : ¬ P):some (AV.bool false)=some (AV.bool (decide P)):=by simp [h]
theorem qsS {P:Prop} [Decidable P] (h:P):some (AV.bool true)=some (AV.bool (decide P)):=by simp [h]
theorem qlQ {P Q:Prop} [Decidable P] [Decidable Q] (h:Q↔P):some (AV.bool (decide Q))=some (AV.bool (decide P)):=by simp [h]
theorem qsy {P Q:Prop} [Decidable P] [Decidable Q] (h : ¬ Q↔P):some (AV.bool (!decide Q))=some (AV.bool (decide P)):=by
 by_cases q:Q<;>simp [q,←h]
theorem qtg {a b:Int} {P:Prop} [Decidable P] (h:a=b↔P):some (AV.bool (a == b))=some (AV.bool (decide P)):=by
 rw[qbN]
 exact qlQ h
theorem qp8 {a b:Int} {P:Prop} [Decidable P] (h : ¬ a=b↔P):some (AV.bool (a != b))=some (AV.bool (decide P)):=by
 rw[qbe]
 exact qlQ h
def q9E (p:Pat):Bool:=decide ((p.s.op=2∨p.s.lo=0∧p.s.hi=0)∧(p.s.op=5∨p.s.min=0∧p.s.max=0) ∧
 ((p.s.op=0∨p.s.op=1)∧p.a.length=0∨p.s.op=2∧p.a.length=0∧0≤p.s.lo∧p.s.lo≤p.s.hi∧p.s.hi≤255∨(p.s.op=3∨p.s.op=4∨p.s.op=6)∧2≤p.a.length∨p.s.op=7∧p.a.length=1 ∨
  p.s.op=5∧p.a.length=1∧0≤p.s.min∧p.s.min≤64∧(p.s.max = -1∨p.s.min≤p.s.max∧p.s.max≤64)))
theorem qe3 (p:Pat) (hp:p.bulk≤2^24):q0k CS 396 [q0G p] (.bool (q9E p)):=by
 have L:=Pat.lens hp
 have hal:=L.args
 refine q04 qnd rfl ?_
 rw[q0r]
 unfold q9E
 (repeat' first|simp (disch:=omega) only[go_sem,qnd,enter,Ka]|(apply spl<;>intro h<;>try simp (disch:=omega) only[go_sem,h]))
 all_goals first
  | exact qu9 (by omega)
  | exact qsS (by omega)
  | exact qlQ (by omega)
  | exact qtg (by omega)
  | exact qp8 (by omega)
  | exact qsy (by omega)
  | skip
def q3f:Nat→Pat→Bool
 | 0,_=>false
 | d+1,x=>q9E x && x.a.all (q3f d)
theorem qbs (x:Pat):q3f 0 x=false:=(rfl)
theorem q6J (d:Nat) (x:Pat):q3f (d+1) x=(q9E x && x.a.all (q3f d)):=(rfl)
theorem qiv : ∀ (d:Nat) (D:Int),D=d→d<2^30→∀ x:Pat,x.bulk≤2^24→q0k CS 377 [q0G x,.int .i64 D] (.bool (q3f d x)):=by
 intro d
 induction d with
 | zero=>
  intro D hD hd x hx
  refine q04 qeL rfl ?_
  rw[q0r,qbs]
  (repeat' first|simp (disch:=omega) only[go_sem,qeL,enter,Ka])
  all_goals omega
 | succ d ih=>
  intro D hD hd x hx
  have L:=Pat.lens hx
  have hal:=L.args
  have hf:=qe3 x hx
  rw[q6J]
  refine q04 qeL rfl ?_
  rw[q0r] at hf ⊢
  cases hb:q9E x with
  | false=>
   rw[hb] at hf
   rw[K2]
   (repeat' first|simp (disch:=omega) only[go_sem,qeL,enter,Ka]|refine q00 _ (hf) ?_)
   all_goals omega
  | true=>
   rw[hb] at hf
   rw[KH]
   (repeat' first|simp (disch:=omega) only[go_sem,qeL,enter,Ka]|refine q00 _ (hf) ?_|(apply spl<;>intro h<;>try simp (disch:=omega) only[go_sem,h]))
   all_goals try omega
   refine q07 (α:=Nat) (fun k=>{ tmps:=q0q 27 [(1,.int .i64 D),(15,.tsl 6 (x.a.map q0G)),(16,.int .i64 x.a.length),(17,.int .i64 k)],heap:=[],base:=0 }) (fun k=>k≤x.a.length∧(x.a.take k).all (q3f d)=true) (fun k=>x.a.length-k) 0 rfl ⟨Kp _,rfl⟩ ?_
   rintro k ⟨hk,ha⟩
   try rw[q0r]
   by_cases hlt:k<x.a.length
   ·obtain ⟨y,hy⟩:=q06 hlt
    have hym:=Kc hy
    have hy2:=q0c (g:=q0G) hy
    have hr:=ih (D-1) (by omega) (by omega) y (by have:=L.kids y hym; omega)
    rw[q0r] at hy2 hr
    cases hc:q3f d y with
    | true=>
     rw[hc] at hr
     (repeat' first|simp (disch:=omega) only[go_sem,hy2,Ka]|refine q00 _ (hr) ?_|(apply spl<;>intro h<;>try simp (disch:=omega) only[go_sem,h]))
     all_goals try omega
     refine ⟨k+1,?_,⟨hlt,q0M hy ha hc⟩,by omega⟩
     try rw[q0r x]
     rfl
    | false=>
     rw[hc] at hr
     rw[q7j hy hc]
     (repeat' first|simp (disch:=omega) only[go_sem,hy2,Ka]|refine q00 _ (hr) ?_)
     all_goals omega
   ·rw[q1j hlt hk] at ha
    rw[ha]
    (repeat' first|simp (disch:=omega) only[go_sem,Ka])
def qla (p:Pat):Bool:=q3f 48 p && decide ((qdi 48 p:Int)≤512)
theorem qcX (x:Pat) (hx:x.bulk≤2^24):q0k CS 358 [q0G x] (.bool (qla x)):=by
 have h1:=qiv 48 48 rfl (by decide) x hx
 have h2:=qkv 48 48 rfl (by decide) x hx
 refine q04 qjY rfl ?_
 unfold qla
 rw[q0r] at h1 h2 ⊢
 cases hb:q3f 48 x<;>rw[hb] at h1
 ·(repeat' first|simp (disch:=omega) only[go_sem,qjY,enter]|refine q00 _ (h1) ?_|refine q00 _ (h2) ?_)
 ·(repeat' first|simp (disch:=omega) only[go_sem,qjY,enter]|refine q00 _ (h1) ?_|refine q00 _ (h2) ?_)
def q1Y (p:Pat):Bool:=decide (p.s.op=0∧p.s.lo=0∧p.s.hi=0∧p.s.min=0∧p.s.max=0∧p.a.length=0)
end Ago
set_option maxRecDepth 100000
set_option maxHeartbeats 4000000
namespace Ago
open Go (IntKind)
def q3V (b:Bnd):Bool:=if b.set=true then q0a b.num else !b.num.neg && b.num.digits == [] && b.num.exp == 0 && !b.opn
def q3o (p:Prt):Bool:=q3V p.lo && q3V p.hi && decide (0≤p.sort) && decide (p.sort≤2)
def q7W (l:List Prt):Bool:=decide (l.length≤256) && l.all q3o
theorem qgx (b:Bnd) (hs:b.num.digits.length<2^31):q0k CS 262 [q5j b] (.bool (q3V b)):=by
 have hd:=upS (q34 b.num hs)
 refine q04 qb0 rfl ?_
 obtain ⟨set,⟨neg,ds,exp⟩,opn⟩:=b
 simp only[q5j,q0h] at *
 cases set
 ·(repeat' first|simp (disch:=omega) only[go_sem,qb0,enter]|(apply spl<;>intro h<;>try simp (disch:=omega) only[go_sem,h]))
  all_goals (try simp [q3V,Bool.and_assoc])
 ·(repeat' first|simp (disch:=omega) only[go_sem,qb0,enter]|refine q00 _ (hd) ?_|(apply spl<;>intro h<;>try simp (disch:=omega) only[go_sem,h]))
  all_goals (try simp [q3V,Bool.and_assoc])
theorem qnk (p:Prt) (h1:p.lo.num.digits.length<2^31) (h2:p.hi.num.digits.length<2^31):q0k CS 250 [q0m p] (.bool (q3o p)):=by
 have h1:=qgx p.lo h1
 have h2:=qgx p.hi h2
 refine q04 q8K rfl ?_
 obtain ⟨⟨s1,⟨n1,d1,e1⟩,o1⟩,⟨s2,⟨n2,d2,e2⟩,o2⟩,sort⟩:=p
 simp only[q5j,q0m] at *
 unfold q3o
 cases hb1:q3V ⟨s1,⟨n1,d1,e1⟩,o1⟩
 ·rw[hb1] at h1
  (repeat' first|simp (disch:=omega) only[go_sem,q8K,enter]|refine q00 _ (h1) ?_)
 ·rw[hb1] at h1
  cases hb2:q3V ⟨s2,⟨n2,d2,e2⟩,o2⟩
  ·rw[hb2] at h2
   (repeat' first|simp (disch:=omega) only[go_sem,q8K,enter]|refine q00 _ (h1) ?_|refine q00 _ (h2) ?_)
  ·rw[hb2] at h2
   (repeat' first|simp (disch:=omega) only[go_sem,q8K,enter]|refine q00 _ (h1) ?_|refine q00 _ (h2) ?_|(apply spl<;>intro h<;>try simp (disch:=omega) only[go_sem,h]))
   all_goals (simp; try omega)
def qpq (l:List Prt):Prop:=l.length<2^24∧∀ p,p∈l→p.lo.num.digits.length<2^31∧p.hi.num.digits.length<2^31
theorem qmh (l:List Prt) (hl:qpq l):q0k CS 229 [q81 l] (.bool (q7W l)):=by
 obtain ⟨hl1,hl2⟩:=hl
 refine q04 qbA rfl ?_
 unfold q81 q7W
 by_cases h256:l.length≤256
 case neg=>
  rw[decide_eq_false h256]
  (repeat' first|simp (disch:=omega) only[go_sem,qbA,enter,Ka])
  all_goals omega
 rw[decide_eq_true h256,KH]
 (repeat' first|simp (disch:=omega) only[go_sem,qbA,enter,Ka]|(apply spl<;>intro h<;>try simp (disch:=omega) only[go_sem,h]))
 all_goals try omega
 refine q07 (α:=Nat) (fun k=>{ tmps:=q0q 20 [(10,.tsl 11 (l.map q0m)),(11,.int .i64 l.length),(12,.int .i64 k)],heap:=[],base:=0 }) (fun k=>k≤l.length∧(l.take k).all q3o=true) (fun k=>l.length-k) 0 rfl ⟨Kp _,rfl⟩ ?_
 rintro k ⟨hk,hd⟩
 by_cases hlt:k<l.length
 ·obtain ⟨p,hp⟩:=q06 hlt
  have hp2:=q0c (g:=q0m) hp
  obtain ⟨q1,q2⟩:=hl2 p (Kc hp)
  have hr:=qnk p q1 q2
  simp only[q0m] at hp2 hr
  cases hb:q3o p with
  | true=>
   rw[hb] at hr
   (repeat' first|simp (disch:=omega) only[go_sem,hp2,Ka]|refine q00 _ (hr) ?_|(apply spl<;>intro h<;>try simp (disch:=omega) only[go_sem,h]))
   all_goals try omega
   exact ⟨k+1,rfl,⟨hlt,q0M hp hd hb⟩,by omega⟩
  | false=>
   rw[hb] at hr
   have hn:l.all q3o=false:=q7j hp hb
   rw[hn]
   (repeat' first|simp (disch:=omega) only[go_sem,hp2,Ka]|refine q00 _ (hr) ?_)
   all_goals omega
 ·rw[q1j hlt hk] at hd
  rw[hd]
  (repeat' first|simp (disch:=omega) only[go_sem,Ka])
  all_goals omega
end Ago
