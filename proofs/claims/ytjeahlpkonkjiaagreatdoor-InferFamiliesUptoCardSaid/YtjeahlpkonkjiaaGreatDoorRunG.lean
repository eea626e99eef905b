/- Schemas: the schemas in a node,how many nodes there are. -/
import Derived.Test.YtjeahlpkonkjiaaGreatDoorCode
import Derived.Test.YtjeahlpkonkjiaaGreatDoorRunA
import Derived.Test.YtjeahlpkonkjiaaGreatDoorMachE
import Derived.Test.YtjeahlpkonkjiaaGreatDoorRunE
import Derived.Test.YtjeahlpkonkjiaaGreatDoorRunX
set_option linter.unusedSimpArgs false
set_option linter.unusedVariables false
set_option maxRecDepth 100000
set_option maxHeartbeats 4000000
namespace Ago
open Go (IntKind)
theorem qem (v:Sch) (hv:v.bulk≤2^24):q0e CS 514 [q03 v] (.tsl 15 (v.kids.map q03)):=by
 have L:=Sch.lens hv
 refine q04 qpU rfl ?_
 rw[q01]
 (repeat' first|simp (disch:=omega) only[go_sem,qpU,enter,Ka]|(apply spl<;>intro h<;>try simp (disch:=omega) only[go_sem,h]))
 refine q06 (α:=Nat × List AV) (fun a=>{ tmps:=q0h 23 [(1,.ptr 15 0 0 0),(3,q0K 15 1 a.2),(7,.tsl 17 (v.p.map q0g)),(8,.int .i64 v.p.length),(9,.int .i64 a.1)],heap:=[.row 15 [q03 v] false true 0]++q0J 15 1 a.2,base:=0 }) (fun a=>a.1≤v.p.length∧a.2=(v.p.take a.1).map fun x=>q03 x.2) (fun a=>v.p.length-a.1) (0,[]) (by rw[q01]; rfl) (by simp) ?_
 rintro ⟨k,els⟩ ⟨hk,hl⟩
 simp only at hk hl
 rw[q01]
 by_cases hlt:k<v.p.length
 ·obtain ⟨x,hx⟩:=q05 hlt
  have hx2:=q09 (g:=q0g) hx
  rw[q0f] at hx2
  have hnew:els++[q03 x.2]=(v.p.take (k+1)).map fun x=>q03 x.2:=by rw[hl,KB,hx]; simp
  rw[q01 x.2] at hnew
  have hlen:els.length=k:=by rw[hl]; simp; omega
  have hfl:=L.props
  cases els with
  | nil=>
   (repeat' first|simp (disch:=omega) only[go_sem,hx2,Ka,q0K,q0J]|(apply spl<;>intro h<;>try simp (disch:=omega) only[go_sem,h]))
   refine ⟨(k+1,(v.p.take (k+1)).map fun x=>q03 x.2),?_,⟨hlt,rfl⟩,by simp only; omega⟩
   simp only[←hnew]
   rfl
  | cons y els=>
   simp only[Kb] at hlen
   (repeat' first|simp (disch:=omega) only[go_sem,hx2,Ka,q0K,q0J]|(apply spl<;>intro h<;>try simp (disch:=omega) only[go_sem,h]))
   refine ⟨(k+1,(v.p.take (k+1)).map fun x=>q03 x.2),?_,⟨hlt,rfl⟩,by simp only; omega⟩
   simp only[←hnew,Ko,q0K,q0J,Kh,Kb,Kd]
   rfl
 ·have hf:els++v.a.map q03=v.kids.map q03:=by
   rw[hl,q0M hlt hk]
   simp [Sch.kids]
  rw[←hf]
  have hal:=L.args
  have hpl:=L.props
  have hlen:els.length=v.p.length:=by rw[hl,q0M hlt hk]; simp
  cases ha:v.a with
  | nil=>
   cases els with
   | nil=>(repeat' first|simp (disch:=omega) only[go_sem,Ka,q0K,q0J,Kt,KW])
   | cons y els=>
    simp only[Kb] at hlen
    (repeat' first|simp (disch:=omega) only[go_sem,Ka,q0K,q0J,Kx,Kt,KW,Kh,Kb])
    all_goals (simp; try exact KG (by simp; try omega))
  | cons z zs=>
   rw[ha] at hal
   simp only[Kb] at hal
   cases els with
   | nil=>
    (repeat' first|simp (disch:=omega) only[go_sem,Ka,q0K,q0J,Kx,Kj,Ks,Kb]|(apply spl<;>intro h<;>try simp (disch:=omega) only[go_sem,h]))
    all_goals (simp; try exact KG (by simp; try omega))
   | cons y els=>
    simp only[Kb] at hlen
    (repeat' first|simp (disch:=omega) only[go_sem,Ka,q0K,q0J,Kx,Kj,Kh,Kb,Ko]|(apply spl<;>intro h<;>try simp (disch:=omega) only[go_sem,h]))
    all_goals (simp; try exact KG (by simp; try omega))
theorem q2P (v:Sch) (hv:v.bulk≤2^24):q0e CS 515 [q03 v] (.tsl 15 (v.kids.map q03)):=by
 have L:=Sch.lens hv
 refine q04 qpc rfl ?_
 rw[q01]
 (repeat' first|simp (disch:=omega) only[go_sem,qpc,enter,Ka]|(apply spl<;>intro h<;>try simp (disch:=omega) only[go_sem,h]))
 refine q06 (α:=Nat × List AV) (fun a=>{ tmps:=q0h 25 [(1,.ptr 15 0 0 0),(3,q0K 15 1 a.2),(4,.int .i64 a.1)],heap:=[.row 15 [q03 v] false true 0]++q0J 15 1 a.2,base:=0 }) (fun a=>a.1≤v.p.length∧a.2=(v.p.take a.1).map fun x=>q03 x.2) (fun a=>v.p.length-a.1) (0,[]) (by rw[q01]; rfl) (by simp) ?_
 rintro ⟨k,els⟩ ⟨hk,hl⟩
 simp only at hk hl
 rw[q01]
 by_cases hlt:k<v.p.length
 ·obtain ⟨x,hx⟩:=q05 hlt
  have hx2:=q09 (g:=q0g) hx
  rw[q0f] at hx2
  have hnew:els++[q03 x.2]=(v.p.take (k+1)).map fun x=>q03 x.2:=by rw[hl,KB,hx]; simp
  rw[q01 x.2] at hnew
  have hlen:els.length=k:=by rw[hl]; simp; omega
  have hfl:=L.props
  cases els with
  | nil=>
   (repeat' first|simp (disch:=omega) only[go_sem,hx2,Ka,q0K,q0J]|(apply spl<;>intro h<;>try simp (disch:=omega) only[go_sem,h]))
   refine ⟨(k+1,(v.p.take (k+1)).map fun x=>q03 x.2),?_,⟨hlt,rfl⟩,by simp only; omega⟩
   simp only[←hnew]
   rfl
  | cons y els=>
   simp only[Kb] at hlen
   (repeat' first|simp (disch:=omega) only[go_sem,hx2,Ka,q0K,q0J]|(apply spl<;>intro h<;>try simp (disch:=omega) only[go_sem,h]))
   refine ⟨(k+1,(v.p.take (k+1)).map fun x=>q03 x.2),?_,⟨hlt,rfl⟩,by simp only; omega⟩
   simp only[←hnew,Ko,q0K,q0J,Kh,Kb,Kd]
   rfl
 ·have hf:els++v.a.map q03=v.kids.map q03:=by
   rw[hl,q0M hlt hk]
   simp [Sch.kids]
  rw[←hf]
  have hal:=L.args
  have hpl:=L.props
  have hlen:els.length=v.p.length:=by rw[hl,q0M hlt hk]; simp
  cases ha:v.a with
  | nil=>
   cases els with
   | nil=>(repeat' first|simp (disch:=omega) only[go_sem,Ka,q0K,q0J,Kt,KW])
   | cons y els=>
    simp only[Kb] at hlen
    (repeat' first|simp (disch:=omega) only[go_sem,Ka,q0K,q0J,Kx,Kt,KW,Kh,Kb])
    all_goals (simp; try exact KG (by simp; try omega))
  | cons z zs=>
   rw[ha] at hal
   simp only[Kb] at hal
   cases els with
   | nil=>
    (repeat' first|simp (disch:=omega) only[go_sem,Ka,q0K,q0J,Kx,Kj,Ks,Kb]|(apply spl<;>intro h<;>try simp (disch:=omega) only[go_sem,h]))
    all_goals (simp; try exact KG (by simp; try omega))
   | cons y els=>
    simp only[Kb] at hlen
    (repeat' first|simp (disch:=omega) only[go_sem,Ka,q0K,q0J,Kx,Kj,Kh,Kb,Ko]|(apply spl<;>intro h<;>try simp (disch:=omega) only[go_sem,h]))
    all_goals (simp; try exact KG (by simp; try omega))
def q63:Nat→Sch→Nat
 | 0,_=>0
 | d+1,x=>1+(x.kids.map (q63 d)).sum
theorem q9R (x:Sch):q63 0 x=0:=(rfl)
theorem q5O (d:Nat) (x:Sch):q63 (d+1) x=1+(x.kids.map (q63 d)).sum:=(rfl)
theorem qm1 {α:Type} {f g:α→Nat} : ∀ (l:List α),(∀ x,x∈l→f x≤g x)→(l.map f).sum≤(l.map g).sum
 | [],_=>by simp
 | x::l,h=>by
  have:=h x (Kn ..)
  have:=qm1 l fun y hy=>h y (Kp _ hy)
  simp only[Kj,List.sum_cons]
  omega
theorem qdN : ∀ l:List Sch,AV.bulks (l.map q03)=(l.map Sch.bulk).sum
 | []=>by simp [AV.bulks]
 | x::l=>by simp [AV.bulks,qdN l,Sch.bulk]
theorem qkx (x:Sch):(x.kids.map Sch.bulk).sum<x.bulk:=by
 have h1:=x.kids_sum
 have h2:=x.bulk_eq
 have h3:=qdN x.kids
 omega
theorem q7p : ∀ (d:Nat) (x:Sch),q63 d x≤x.bulk
 | 0,x=>by simp [q9R]
 | d+1,x=>by
  rw[q5O]
  have:=qkx x
  have:=qm1 x.kids (fun y _=>q7p d y)
  omega
theorem q4x (x:Sch):x.kids.length<x.bulk:=by
 have h1:=qkx x
 have h2 : ∀ l:List Sch,l.length≤(l.map Sch.bulk).sum:=by
  intro l
  induction l with
  | nil=>simp
  | cons y l ih=>
   have:1≤y.bulk:=q1r _
   simp only[Kb,Kj,List.sum_cons]
   omega
 have:=h2 x.kids
 omega
theorem q7l {α:Type} (f:α→Nat) (l:List α) (k:Nat) (x:α) (hx:l[k]?=some x):((l.take (k+1)).map f).sum=((l.take k).map f).sum+f x:=by
 rw[KB,hx]
 simp
theorem q4j {α:Type} (f:α→Nat) (l:List α) (k:Nat):((l.take k).map f).sum≤(l.map f).sum:=by
 have:(l.map f).sum=((l.take k).map f).sum+((l.drop k).map f).sum:=by
  rw[←List.sum_append,←V8,Ve]
 omega
theorem qq7 : ∀ (d:Nat) (D:Int),D=d→d<2^30→∀ x:Sch,x.bulk≤2^24→q0e CS 509 [q03 x,.int .i64 D] (.int .i64 (q63 d x)):=by
 intro d
 induction d with
 | zero=>
  intro D hD hd x hx
  refine q04 qjU rfl ?_
  rw[q01,q9R]
  (repeat' first|simp (disch:=omega) only[go_sem,qjU,enter,Ka])
  all_goals omega
 | succ d ih=>
  intro D hD hd x hx
  have L:=Sch.lens hx
  have hp:=qem x hx
  have hkl:=q4x x
  refine q04 qjU rfl ?_
  rw[q01] at hp ⊢
  (repeat' first|simp (disch:=omega) only[go_sem,qjU,enter,Ka]|refine q00 _ (hp) ?_|(apply spl<;>intro h<;>try simp (disch:=omega) only[go_sem,h]))
  all_goals try omega
  refine q06 (α:=Nat × Nat) (fun a=>{ tmps:=q0h 25 [(1,.int .i64 D),(5,.int .i64 a.2),(11,.tsl 15 (x.kids.map q03)),(12,.int .i64 x.kids.length),(13,.int .i64 a.1)],heap:=[],base:=0 }) (fun a=>a.1≤x.kids.length∧a.2=1+((x.kids.take a.1).map (q63 d)).sum) (fun a=>x.kids.length-a.1) (0,1) rfl ⟨Km _,by simp⟩ ?_
  rintro ⟨k,n⟩ ⟨hk,hn⟩
  simp only at hk hn
  by_cases hlt:k<x.kids.length
  ·obtain ⟨y,hy⟩:=q05 hlt
   have hym:=Kc hy
   have hy2:=q09 (g:=q03) hy
   have hr:=ih (D-1) (by omega) (by omega) y (by have:=Sch.kids_bulk hym; omega)
   have h1:=q4j (q63 d) x.kids (k+1)
   have h2:=q7l (q63 d) x.kids k y hy
   have h3:=q7p (d+1) x
   rw[q5O] at h3
   rw[q01] at hy2 hr
   (repeat' first|simp (disch:=omega) only[go_sem,hy2,Ka]|refine q00 _ (hr) ?_|(apply spl<;>intro h<;>try simp (disch:=omega) only[go_sem,h]))
   all_goals try omega
   refine ⟨(k+1,n+q63 d y),?_,⟨hlt,by simp only; omega⟩,by simp only; omega⟩
   simp only[Int.natCast_add]
   rfl
  ·have hk2:k=x.kids.length:=by omega
   rw[hk2,Kx] at hn
   rw[q5O,←hn]
   (repeat' first|simp (disch:=omega) only[go_sem,Ka])
theorem qdG : ∀ (d:Nat) (D:Int),D=d→d<2^30→∀ x:Sch,x.bulk≤2^24→q0e CS 507 [q03 x,.int .i64 D] (.int .i64 (q63 d x)):=by
 intro d
 induction d with
 | zero=>
  intro D hD hd x hx
  refine q04 qiH rfl ?_
  rw[q01,q9R]
  (repeat' first|simp (disch:=omega) only[go_sem,qiH,enter,Ka])
  all_goals omega
 | succ d ih=>
  intro D hD hd x hx
  have L:=Sch.lens hx
  have hp:=q2P x hx
  have hkl:=q4x x
  refine q04 qiH rfl ?_
  rw[q01] at hp ⊢
  (repeat' first|simp (disch:=omega) only[go_sem,qiH,enter,Ka]|refine q00 _ (hp) ?_|(apply spl<;>intro h<;>try simp (disch:=omega) only[go_sem,h]))
  all_goals try omega
  refine q06 (α:=Nat × Nat) (fun a=>{ tmps:=q0h 28 [(1,.int .i64 D),(5,.int .i64 a.2),(6,.tsl 15 (x.kids.map q03)),(7,.int .i64 a.1)],heap:=[],base:=0 }) (fun a=>a.1≤x.kids.length∧a.2=1+((x.kids.take a.1).map (q63 d)).sum) (fun a=>x.kids.length-a.1) (0,1) rfl ⟨Km _,by simp⟩ ?_
  rintro ⟨k,n⟩ ⟨hk,hn⟩
  simp only at hk hn
  by_cases hlt:k<x.kids.length
  ·obtain ⟨y,hy⟩:=q05 hlt
   have hym:=Kc hy
   have hy2:=q09 (g:=q03) hy
   have hr:=ih (D-1) (by omega) (by omega) y (by have:=Sch.kids_bulk hym; omega)
   have h1:=q4j (q63 d) x.kids (k+1)
   have h2:=q7l (q63 d) x.kids k y hy
   have h3:=q7p (d+1) x
   rw[q5O] at h3
   rw[q01] at hy2 hr
   (repeat' first|simp (disch:=omega) only[go_sem,hy2,Ka]|refine q00 _ (hr) ?_|(apply spl<;>intro h<;>try simp (disch:=omega) only[go_sem,h]))
   all_goals try omega
   refine ⟨(k+1,n+q63 d y),?_,⟨hlt,by simp only; omega⟩,by simp only; omega⟩
   simp only[Int.natCast_add]
   rfl
  ·have hk2:k=x.kids.length:=by omega
   rw[hk2,Kx] at hn
   rw[q5O,←hn]
   (repeat' first|simp (disch:=omega) only[go_sem,Ka])
theorem qi2 (x:Sch) (hx:x.bulk≤2^24):q0e CS 481 [q03 x] (.int .i64 (q63 48 x)):=by
 have hr:=qq7 48 48 rfl (by decide) x hx
 refine q04 qoV rfl ?_
 rw[q01] at hr ⊢
 (repeat' first|simp (disch:=omega) only[go_sem,qoV,enter]|refine q00 _ (hr) ?_)
theorem q6I (x:Sch) (hx:x.bulk≤2^24):q0e CS 474 [q03 x] (.int .i64 (q63 48 x)):=by
 have hr:=qdG 48 48 rfl (by decide) x hx
 refine q04 qq8 rfl ?_
 rw[q01] at hr ⊢
 (repeat' first|simp (disch:=omega) only[go_sem,qq8,enter]|refine q00 _ (hr) ?_)
end Ago
set_option maxRecDepth 100000
set_option maxHeartbeats 4000000
namespace Ago
open Go (IntKind)
theorem upS {f:Nat} {ts:List AV} {v:AV} (h:q0e C0 f ts v):q0e CS f ts v:=
 qmz (qbG (C:=C0) (C':=q6F qaW qgj qhB) (fun f fn h=>by
  have h:code f=some fn:=h
  show qaW f=some fn
  unfold qaW
  rw[h]) (fun _ _ _ _ _ h=>by
   obtain ⟨p,x,h,h2⟩:=h
   refine ⟨p,x,?_,h2⟩
   unfold clR at h
   split at h
   ·exact h
   ·cases h) (fun f t v h=>by
   obtain ⟨p,l,h,h2⟩:=h
   refine ⟨p,l,?_,h2⟩
   unfold clP at h
   split at h
   ·exact h
   ·cases h) h)
def qfp:Nat→Pat→Nat
 | 0,_=>0
 | d+1,x=>1+(x.a.map (qfp d)).sum
theorem q9F (x:Pat):qfp 0 x=0:=(rfl)
theorem q5L (d:Nat) (x:Pat):qfp (d+1) x=1+(x.a.map (qfp d)).sum:=(rfl)
theorem qc4 : ∀ l:List Pat,AV.bulks (l.map q0B)=(l.map Pat.bulk).sum
 | []=>by simp [AV.bulks]
 | x::l=>by simp [AV.bulks,qc4 l,Pat.bulk]
theorem qcc : ∀ (d:Nat) (x:Pat),qfp d x≤x.bulk
 | 0,x=>by simp [q9F]
 | d+1,x=>by
  rw[q5L]
  have h1:=x.bulk_eq
  have h2:=qc4 x.a
  have:=qm1 x.a (fun y _=>qcc d y)
  omega
theorem qld : ∀ (d:Nat) (D:Int),D=d→d<2^30→∀ x:Pat,x.bulk≤2^24→q0e CS 378 [q0B x,.int .i64 D] (.int .i64 (qfp d x)):=by
 intro d
 induction d with
 | zero=>
  intro D hD hd x hx
  refine q04 qjF rfl ?_
  rw[q0i,q9F]
  (repeat' first|simp (disch:=omega) only[go_sem,qjF,enter,Ka])
  all_goals omega
 | succ d ih=>
  intro D hD hd x hx
  have L:=Pat.lens hx
  have hal:=L.args
  refine q04 qjF rfl ?_
  rw[q0i]
  (repeat' first|simp (disch:=omega) only[go_sem,qjF,enter,Ka]|(apply spl<;>intro h<;>try simp (disch:=omega) only[go_sem,h]))
  all_goals try omega
  refine q06 (α:=Nat × Nat) (fun a=>{ tmps:=q0h 25 [(1,.int .i64 D),(5,.int .i64 a.2),(11,.tsl 6 (x.a.map q0B)),(12,.int .i64 x.a.length),(13,.int .i64 a.1)],heap:=[],base:=0 }) (fun a=>a.1≤x.a.length∧a.2=1+((x.a.take a.1).map (qfp d)).sum) (fun a=>x.a.length-a.1) (0,1) rfl ⟨Km _,by simp⟩ ?_
  rintro ⟨k,n⟩ ⟨hk,hn⟩
  simp only at hk hn
  try rw[q0i]
  by_cases hlt:k<x.a.length
  ·obtain ⟨y,hy⟩:=q05 hlt
   have hym:=Kc hy
   have hy2:=q09 (g:=q0B) hy
   have hr:=ih (D-1) (by omega) (by omega) y (by have:=L.kids y hym; omega)
   have h1:=q4j (qfp d) x.a (k+1)
   have h2:=q7l (qfp d) x.a k y hy
   have h3:=qcc (d+1) x
   rw[q5L] at h3
   rw[q0i] at hy2 hr
   (repeat' first|simp (disch:=omega) only[go_sem,hy2,Ka]|refine q00 _ (hr) ?_|(apply spl<;>intro h<;>try simp (disch:=omega) only[go_sem,h]))
   all_goals try omega
   refine ⟨(k+1,n+qfp d y),?_,⟨hlt,by simp only; omega⟩,by simp only; omega⟩
   simp only[Int.natCast_add,q0i x]
   rfl
  ·have hk2:k=x.a.length:=by omega
   rw[hk2,Kx] at hn
   rw[q5L,←hn]
   (repeat' first|simp (disch:=omega) only[go_sem,Ka])
theorem qdj : ∀ (d:Nat) (D:Int),D=d→d<2^30→∀ x:Pat,x.bulk≤2^24→q0e CS 376 [q0B x,.int .i64 D] (.int .i64 (qfp d x)):=by
 intro d
 induction d with
 | zero=>
  intro D hD hd x hx
  refine q04 qiD rfl ?_
  rw[q0i,q9F]
  (repeat' first|simp (disch:=omega) only[go_sem,qiD,enter,Ka])
  all_goals omega
 | succ d ih=>
  intro D hD hd x hx
  have L:=Pat.lens hx
  have hal:=L.args
  refine q04 qiD rfl ?_
  rw[q0i]
  (repeat' first|simp (disch:=omega) only[go_sem,qiD,enter,Ka]|(apply spl<;>intro h<;>try simp (disch:=omega) only[go_sem,h]))
  all_goals try omega
  refine q06 (α:=Nat × Nat) (fun a=>{ tmps:=q0h 27 [(1,.int .i64 D),(2,.ptr 6 0 0 0),(5,.int .i64 a.2),(6,.int .i64 a.1)],heap:=[.row 6 [q0B x] false true 0],base:=0 }) (fun a=>a.1≤x.a.length∧a.2=1+((x.a.take a.1).map (qfp d)).sum) (fun a=>x.a.length-a.1) (0,1) (by rw[q0i]; rfl) ⟨Km _,by simp⟩ ?_
  rintro ⟨k,n⟩ ⟨hk,hn⟩
  simp only at hk hn
  try rw[q0i]
  by_cases hlt:k<x.a.length
  ·obtain ⟨y,hy⟩:=q05 hlt
   have hym:=Kc hy
   have hy2:=q09 (g:=q0B) hy
   have hr:=ih (D-1) (by omega) (by omega) y (by have:=L.kids y hym; omega)
   have h1:=q4j (qfp d) x.a (k+1)
   have h2:=q7l (qfp d) x.a k y hy
   have h3:=qcc (d+1) x
   rw[q5L] at h3
   rw[q0i] at hy2 hr
   (repeat' first|simp (disch:=omega) only[go_sem,hy2,Ka]|refine q00 _ (hr) ?_|(apply spl<;>intro h<;>try simp (disch:=omega) only[go_sem,h]))
   all_goals try omega
   refine ⟨(k+1,n+qfp d y),?_,⟨hlt,by simp only; omega⟩,by simp only; omega⟩
   simp only[Int.natCast_add,q0i x]
   rfl
  ·have hk2:k=x.a.length:=by omega
   rw[hk2,Kx] at hn
   rw[q5L,←hn]
   (repeat' first|simp (disch:=omega) only[go_sem,Ka])
theorem q8N (x:Pat) (hx:x.bulk≤2^24):q0e CS 357 [q0B x] (.int .i64 (qfp 48 x)):=by
 have hr:=qdj 48 48 rfl (by decide) x hx
 refine q04 qot rfl ?_
 rw[q0i] at hr ⊢
 (repeat' first|simp (disch:=omega) only[go_sem,qot,enter]|refine q00 _ (hr) ?_)
theorem qmx (x:Sch) (hx:x.bulk≤2^24) : ∃ b,q0e CS 560 [q03 x] (.bool b):=by
 have L:=Sch.lens hx
 have hr:=q8N x.s.pat (by have:=L.pat; omega)
 have hc:=qcc 48 x.s.pat
 have hpb:=L.pat
 have l1:=L.vals
 have l2:=L.props
 have l3:=L.args
 have l4:=L.parts
 have h:=q4y (C:=CS) (f:=560) (ts:=[q03 x]) (k:=fun w=>∃ b,w = .bool b) qnI rfl (by
  rw[q01]
  rw[q0i] at hr
  (repeat' first|simp (disch:=omega) only[go_sem,qnI,enter,Ka]|refine q00 _ (hr) ?_|(apply spl<;>intro h<;>try simp (disch:=omega) only[go_sem,h]))
  all_goals first | exact ⟨_,rfl⟩ | omega | skip
  refine q06 (α:=Nat) (fun a=>{ tmps:=q0h 47 [(1,.ptr 15 0 0 0),(3,.int .i64 a)],heap:=[.row 15 [q03 x] false true 0],base:=0 }) (fun a=>a≤x.s.vals.length) (fun a=>x.s.vals.length-a) 0 (by rw[q01]; rfl) (Km _) ?_
  intro k hk
  rw[q01]
  by_cases hlt:k<x.s.vals.length
  ·obtain ⟨y,hy⟩:=q05 hlt
   have hym:=Kc hy
   have hy2:=q09 (g:=q0u) hy
   obtain ⟨b,hb⟩:=qpG y (by have:=L.val y hym; omega) 20 5 (by decide) (by decide) (by decide) (by decide)
   have hb:=upS hb
   rw[q0a] at hy2 hb
   cases b with
   | true=>
    (repeat' first|simp (disch:=omega) only[go_sem,hy2,Ka]|refine q00 _ (hb) ?_|(apply spl<;>intro h<;>try simp (disch:=omega) only[go_sem,h]))
    all_goals try omega
    exact ⟨k+1,rfl,hlt,by omega⟩
   | false=>
    (repeat' first|simp (disch:=omega) only[go_sem,hy2,Ka]|refine q00 _ (hb) ?_|(apply spl<;>intro h<;>try simp (disch:=omega) only[go_sem,h]))
    all_goals first | exact ⟨_,rfl⟩ | omega
  ·(repeat' first|simp (disch:=omega) only[go_sem,Ka]|(apply spl<;>intro h<;>try simp (disch:=omega) only[go_sem,h]))
   all_goals first | exact ⟨_,rfl⟩ | omega)
 obtain ⟨w,k1,b,rfl⟩:=h
 exact ⟨b,k1⟩
theorem qtI : ∀ (d:Nat) (D:Int),D≤d→-(2^30)<D→d<2^30→∀ x:Sch,x.bulk≤2^24→∃ b,q0e CS 508 [q03 x,.int .i64 D] (.bool b):=by
 intro d
 induction d with
 | zero=>
  intro D hD hD2 hd x hx
  obtain ⟨b,hb⟩:=qmx x hx
  have hp:=q2P x hx
  have hkl:=q4x x
  cases b with
  | false=>
   refine ⟨false,q04 qb1 rfl ?_⟩
   rw[q01] at hb ⊢
   (repeat' first|simp (disch:=omega) only[go_sem,qb1,enter,Ka]|refine q00 _ (hb) ?_)
  | true=>
   refine ⟨true,q04 qb1 rfl ?_⟩
   rw[q01] at hb hp ⊢
   (repeat' first|simp (disch:=omega) only[go_sem,qb1,enter,Ka]|refine q00 _ (hb) ?_|refine q00 _ (hp) ?_|(apply spl<;>intro h<;>try simp (disch:=omega) only[go_sem,h]))
   refine q06 (α:=Nat) (fun a=>{ tmps:=q0h 30 [(1,.int .i64 D),(5,.tsl 15 (x.kids.map q03)),(6,.int .i64 a)],heap:=[],base:=0 }) (fun a=>a≤x.kids.length) (fun a=>x.kids.length-a) 0 rfl (Km _) ?_
   intro k hk
   by_cases hlt:k<x.kids.length
   ·obtain ⟨y,hy⟩:=q05 hlt
    (repeat' first|simp (disch:=omega) only[go_sem,Ka])
    all_goals omega
   ·(repeat' first|simp (disch:=omega) only[go_sem,Ka])
    all_goals omega
 | succ d ih=>
  intro D hD hD2 hd x hx
  obtain ⟨b,hb⟩:=qmx x hx
  have hp:=q2P x hx
  have hkl:=q4x x
  cases b with
  | false=>
   refine ⟨false,q04 qb1 rfl ?_⟩
   rw[q01] at hb ⊢
   (repeat' first|simp (disch:=omega) only[go_sem,qb1,enter,Ka]|refine q00 _ (hb) ?_)
  | true=>
   have h:=q4y (C:=CS) (f:=508) (ts:=[q03 x,.int .i64 D]) (k:=fun w=>∃ b,w = .bool b) qb1 rfl (by
    rw[q01] at hb hp ⊢
    (repeat' first|simp (disch:=omega) only[go_sem,qb1,enter,Ka]|refine q00 _ (hb) ?_|refine q00 _ (hp) ?_|(apply spl<;>intro h<;>try simp (disch:=omega) only[go_sem,h]))
    refine q06 (α:=Nat) (fun a=>{ tmps:=q0h 30 [(1,.int .i64 D),(5,.tsl 15 (x.kids.map q03)),(6,.int .i64 a)],heap:=[],base:=0 }) (fun a=>a≤x.kids.length) (fun a=>x.kids.length-a) 0 rfl (Km _) ?_
    intro k hk
    by_cases hlt:k<x.kids.length∧1<D
    ·obtain ⟨hlt,hD1⟩:=hlt
     obtain ⟨y,hy⟩:=q05 hlt
     have hym:=Kc hy
     have hy2:=q09 (g:=q03) hy
     obtain ⟨c,hc⟩:=ih (D-1) (by omega) (by omega) (by omega) y (by have:=Sch.kids_bulk hym; omega)
     rw[q01] at hy2 hc
     cases c with
     | true=>
      (repeat' first|simp (disch:=omega) only[go_sem,hy2,Ka]|refine q00 _ (hc) ?_|(apply spl<;>intro h<;>try simp (disch:=omega) only[go_sem,h]))
      all_goals try omega
      exact ⟨k+1,rfl,hlt,by omega⟩
     | false=>
      (repeat' first|simp (disch:=omega) only[go_sem,hy2,Ka]|refine q00 _ (hc) ?_|(apply spl<;>intro h<;>try simp (disch:=omega) only[go_sem,h]))
      all_goals first | exact ⟨_,rfl⟩ | omega
    ·by_cases hlt2:k<x.kids.length
     ·(repeat' first|simp (disch:=omega) only[go_sem,Ka]|(apply spl<;>intro h<;>try simp (disch:=omega) only[go_sem,h]))
      all_goals first | exact ⟨_,rfl⟩ | omega
     ·(repeat' first|simp (disch:=omega) only[go_sem,Ka]|(apply spl<;>intro h<;>try simp (disch:=omega) only[go_sem,h]))
      all_goals first | exact ⟨_,rfl⟩ | omega)
   obtain ⟨w,k1,c,rfl⟩:=h
   exact ⟨c,k1⟩
theorem q9e (x:Sch) (hx:x.bulk≤2^24) : ∃ b,q0e CS 480 [q03 x] (.bool b):=by
 obtain ⟨b,hb⟩:=qtI 50 50 (by decide) (by decide) (by decide) x hx
 have hr:=q6I x hx
 have hc:=q7p 48 x
 cases b with
 | false=>
  refine ⟨false,q04 qfi rfl ?_⟩
  rw[q01] at hb ⊢
  (repeat' first|simp (disch:=omega) only[go_sem,qfi,enter]|refine q00 _ (hb) ?_)
 | true=>
  by_cases h:q63 48 x≤1100
  ·refine ⟨true,q04 qfi rfl ?_⟩
   rw[q01] at hb hr ⊢
   (repeat' first|simp (disch:=omega) only[go_sem,qfi,enter]|refine q00 _ (hb) ?_|refine q00 _ (hr) ?_)
   all_goals omega
  ·refine ⟨false,q04 qfi rfl ?_⟩
   rw[q01] at hb hr ⊢
   (repeat' first|simp (disch:=omega) only[go_sem,qfi,enter]|refine q00 _ (hb) ?_|refine q00 _ (hr) ?_)
   all_goals omega
end Ago
set_option maxRecDepth 100000
set_option maxHeartbeats 4000000
namespace Ago
open Go (IntKind)
structure Cl (H:Heap):Prop where
 refs : ∀ b,b∈H→∀ r,r∈b.refs→r<H.length
 ren : ∀ b,b∈H→∀ f g,(∀ r,r<H.length→f r=some r)→(∀ r,r<H.length→g r=r)→Blk.ren f g b=b
theorem Cl.nil:Cl []:=⟨fun b h=>(by cases h),fun b h=>(by cases h)⟩
theorem Cl.push {H:Heap} (h:Cl H) (n:Nat) (els:List AV) (ro:Bool) (fam:Nat) (hf:fam≤H.length):Cl (H++[.row n els ro true fam]):=by
 refine ⟨fun b hb r hr=>?_,fun b hb f g hf2 hg2=>?_⟩
 ·rcases K7.1 hb with hb | hb
  ·have:=h.refs b hb r hr
   simp
   omega
  ·rw[KM.1 hb] at hr
   simp [Blk.refs] at hr
 ·rcases K7.1 hb with hb | hb
  ·exact h.ren b hb f g (fun r hr=>hf2 r (by simp; omega)) (fun r hr=>hg2 r (by simp; omega))
  ·rw[KM.1 hb]
   simp [Blk.ren,hg2 fam (by simp; omega)]
def qu6 (base:Nat) (res:List ResV) (v:AV) (H':Heap) (e:Ex) (s:St):Prop:=(e = .normal∨e = .ret)∧∃ u,results res s=some u∧(qaK base u s.heap).tmps.getD 0 .dead=v∧(qaK base u s.heap).heap=H'
theorem qrY {C:Ctx} {f:Nat} (fn:AFn) {args:List AV} {H H':Heap} {v:AV} (hf:C.code f=some fn) (h : @q0V (enter fn args H) ⟨aw (q1K C) (q0e C) fn.body (qu6 H.length fn.res v H')⟩):q1K C f args H v H':=by
 unfold q0V at h
 obtain ⟨e,s,h1,he,u,h2,rfl,rfl⟩:=q2E _ _ _ h
 exact .run hf h1 he h2
end Ago
set_option maxRecDepth 100000
set_option maxHeartbeats 4000000
namespace Ago
open Go (IntKind)
theorem qjI {P:Prop} [Decidable P] (h : ¬ P):some (AV.bool false)=some (AV.bool (decide P)):=by simp [h]
theorem qiO {P:Prop} [Decidable P] (h:P):some (AV.bool true)=some (AV.bool (decide P)):=by simp [h]
theorem qcl {P Q:Prop} [Decidable P] [Decidable Q] (h:Q↔P):some (AV.bool (decide Q))=some (AV.bool (decide P)):=by simp [h]
theorem qjP {P Q:Prop} [Decidable P] [Decidable Q] (h : ¬ Q↔P):some (AV.bool (!decide Q))=some (AV.bool (decide P)):=by
 by_cases q:Q<;>simp [q,←h]
theorem qjb {a b:Int} {P:Prop} [Decidable P] (h:a=b↔P):some (AV.bool (a == b))=some (AV.bool (decide P)):=by
 rw[q83]
 exact qcl h
theorem qbq {a b:Int} {P:Prop} [Decidable P] (h : ¬ a=b↔P):some (AV.bool (a != b))=some (AV.bool (decide P)):=by
 rw[qa4]
 exact qcl h
def q5B (p:Pat):Bool:=decide ((p.s.op=2∨p.s.lo=0∧p.s.hi=0)∧(p.s.op=5∨p.s.min=0∧p.s.max=0) ∧
 ((p.s.op=0∨p.s.op=1)∧p.a.length=0∨p.s.op=2∧p.a.length=0∧0≤p.s.lo∧p.s.lo≤p.s.hi∧p.s.hi≤255∨(p.s.op=3∨p.s.op=4∨p.s.op=6)∧2≤p.a.length∨p.s.op=7∧p.a.length=1 ∨
  p.s.op=5∧p.a.length=1∧0≤p.s.min∧p.s.min≤64∧(p.s.max = -1∨p.s.min≤p.s.max∧p.s.max≤64)))
theorem qfK (p:Pat) (hp:p.bulk≤2^24):q0e CS 396 [q0B p] (.bool (q5B p)):=by
 have L:=Pat.lens hp
 have hal:=L.args
 refine q04 qqn rfl ?_
 rw[q0i]
 unfold q5B
 (repeat' first|simp (disch:=omega) only[go_sem,qqn,enter,Ka]|(apply spl<;>intro h<;>try simp (disch:=omega) only[go_sem,h]))
 all_goals first
  | exact qjI (by omega)
  | exact qiO (by omega)
  | exact qcl (by omega)
  | exact qjb (by omega)
  | exact qbq (by omega)
  | exact qjP (by omega)
  | skip
theorem qaP (p:Pat) (hp:p.bulk≤2^24):q0e CS 384 [q0B p] (.bool (q5B p)):=by
 have L:=Pat.lens hp
 have hal:=L.args
 refine q04 qpY rfl ?_
 rw[q0i]
 unfold q5B
 (repeat' first|simp (disch:=omega) only[go_sem,qpY,enter,Ka]|(apply spl<;>intro h<;>try simp (disch:=omega) only[go_sem,h]))
 all_goals first
  | exact qjI (by omega)
  | exact qiO (by omega)
  | exact qcl (by omega)
  | exact qjb (by omega)
  | exact qbq (by omega)
  | exact qjP (by omega)
  | skip
def q28:Nat→Pat→Bool
 | 0,_=>false
 | d+1,x=>q5B x && x.a.all (q28 d)
theorem q7b (x:Pat):q28 0 x=false:=(rfl)
theorem q51 (d:Nat) (x:Pat):q28 (d+1) x=(q5B x && x.a.all (q28 d)):=(rfl)
theorem qkB : ∀ (d:Nat) (D:Int),D=d→d<2^30→∀ x:Pat,x.bulk≤2^24→q0e CS 377 [q0B x,.int .i64 D] (.bool (q28 d x)):=by
 intro d
 induction d with
 | zero=>
  intro D hD hd x hx
  refine q04 qfG rfl ?_
  rw[q0i,q7b]
  (repeat' first|simp (disch:=omega) only[go_sem,qfG,enter,Ka])
  all_goals omega
 | succ d ih=>
  intro D hD hd x hx
  have L:=Pat.lens hx
  have hal:=L.args
  have hf:=qfK x hx
  rw[q51]
  refine q04 qfG rfl ?_
  rw[q0i] at hf ⊢
  cases hb:q5B x with
  | false=>
   rw[hb] at hf
   rw[KD]
   (repeat' first|simp (disch:=omega) only[go_sem,qfG,enter,Ka]|refine q00 _ (hf) ?_)
   all_goals omega
  | true=>
   rw[hb] at hf
   rw[Kw]
   (repeat' first|simp (disch:=omega) only[go_sem,qfG,enter,Ka]|refine q00 _ (hf) ?_|(apply spl<;>intro h<;>try simp (disch:=omega) only[go_sem,h]))
   all_goals try omega
   refine q06 (α:=Nat) (fun k=>{ tmps:=q0h 27 [(1,.int .i64 D),(15,.tsl 6 (x.a.map q0B)),(16,.int .i64 x.a.length),(17,.int .i64 k)],heap:=[],base:=0 }) (fun k=>k≤x.a.length∧(x.a.take k).all (q28 d)=true) (fun k=>x.a.length-k) 0 rfl ⟨Km _,rfl⟩ ?_
   rintro k ⟨hk,ha⟩
   try rw[q0i]
   by_cases hlt:k<x.a.length
   ·obtain ⟨y,hy⟩:=q05 hlt
    have hym:=Kc hy
    have hy2:=q09 (g:=q0B) hy
    have hr:=ih (D-1) (by omega) (by omega) y (by have:=L.kids y hym; omega)
    rw[q0i] at hy2 hr
    cases hc:q28 d y with
    | true=>
     rw[hc] at hr
     (repeat' first|simp (disch:=omega) only[go_sem,hy2,Ka]|refine q00 _ (hr) ?_|(apply spl<;>intro h<;>try simp (disch:=omega) only[go_sem,h]))
     all_goals try omega
     refine ⟨k+1,?_,⟨hlt,q0v hy ha hc⟩,by omega⟩
     try rw[q0i x]
     rfl
    | false=>
     rw[hc] at hr
     rw[q3R hy hc]
     (repeat' first|simp (disch:=omega) only[go_sem,hy2,Ka]|refine q00 _ (hr) ?_)
     all_goals omega
   ·rw[q0M hlt hk] at ha
    rw[ha]
    (repeat' first|simp (disch:=omega) only[go_sem,Ka])
theorem qfe : ∀ (d:Nat) (D:Int),D=d→d<2^30→∀ x:Pat,x.bulk≤2^24→q0e CS 360 [q0B x,.int .i64 D] (.bool (q28 d x)):=by
 intro d
 induction d with
 | zero=>
  intro D hD hd x hx
  refine q04 qgC rfl ?_
  rw[q0i,q7b]
  (repeat' first|simp (disch:=omega) only[go_sem,qgC,enter,Ka])
  all_goals omega
 | succ d ih=>
  intro D hD hd x hx
  have L:=Pat.lens hx
  have hal:=L.args
  have hf:=qaP x hx
  rw[q51]
  refine q04 qgC rfl ?_
  rw[q0i] at hf ⊢
  cases hb:q5B x with
  | false=>
   rw[hb] at hf
   rw[KD]
   (repeat' first|simp (disch:=omega) only[go_sem,qgC,enter,Ka]|refine q00 _ (hf) ?_)
   all_goals omega
  | true=>
   rw[hb] at hf
   rw[Kw]
   (repeat' first|simp (disch:=omega) only[go_sem,qgC,enter,Ka]|refine q00 _ (hf) ?_|(apply spl<;>intro h<;>try simp (disch:=omega) only[go_sem,h]))
   all_goals try omega
   refine q06 (α:=Nat) (fun k=>{ tmps:=q0h 29 [(1,.int .i64 D),(2,.ptr 6 0 0 0),(5,.int .i64 k)],heap:=[.row 6 [q0B x] false true 0],base:=0 }) (fun k=>k≤x.a.length∧(x.a.take k).all (q28 d)=true) (fun k=>x.a.length-k) 0 (by rw[q0i]; rfl) ⟨Km _,rfl⟩ ?_
   rintro k ⟨hk,ha⟩
   try rw[q0i]
   by_cases hlt:k<x.a.length
   ·obtain ⟨y,hy⟩:=q05 hlt
    have hym:=Kc hy
    have hy2:=q09 (g:=q0B) hy
    have hr:=ih (D-1) (by omega) (by omega) y (by have:=L.kids y hym; omega)
    rw[q0i] at hy2 hr
    cases hc:q28 d y with
    | true=>
     rw[hc] at hr
     (repeat' first|simp (disch:=omega) only[go_sem,hy2,Ka]|refine q00 _ (hr) ?_|(apply spl<;>intro h<;>try simp (disch:=omega) only[go_sem,h]))
     all_goals try omega
     refine ⟨k+1,?_,⟨hlt,q0v hy ha hc⟩,by omega⟩
     try rw[q0i x]
     rfl
    | false=>
     rw[hc] at hr
     rw[q3R hy hc]
     (repeat' first|simp (disch:=omega) only[go_sem,hy2,Ka]|refine q00 _ (hr) ?_)
     all_goals omega
   ·rw[q0M hlt hk] at ha
    rw[ha]
    (repeat' first|simp (disch:=omega) only[go_sem,Ka])
def qgT (p:Pat):Bool:=q28 48 p && decide ((qfp 48 p:Int)≤512)
theorem qdL (x:Pat) (hx:x.bulk≤2^24):q0e CS 358 [q0B x] (.bool (qgT x)):=by
 have h1:=qkB 48 48 rfl (by decide) x hx
 have h2:=qld 48 48 rfl (by decide) x hx
 refine q04 qlL rfl ?_
 unfold qgT
 rw[q0i] at h1 h2 ⊢
 cases hb:q28 48 x<;>rw[hb] at h1
 ·(repeat' first|simp (disch:=omega) only[go_sem,qlL,enter]|refine q00 _ (h1) ?_|refine q00 _ (h2) ?_)
 ·(repeat' first|simp (disch:=omega) only[go_sem,qlL,enter]|refine q00 _ (h1) ?_|refine q00 _ (h2) ?_)
theorem qaf (x:Pat) (hx:x.bulk≤2^24):q0e CS 340 [q0B x] (.bool (qgT x)):=by
 have h1:=qfe 48 48 rfl (by decide) x hx
 have h2:=q8N x hx
 refine q04 qlA rfl ?_
 unfold qgT
 rw[q0i] at h1 h2 ⊢
 cases hb:q28 48 x<;>rw[hb] at h1
 ·(repeat' first|simp (disch:=omega) only[go_sem,qlA,enter]|refine q00 _ (h1) ?_|refine q00 _ (h2) ?_)
 ·(repeat' first|simp (disch:=omega) only[go_sem,qlA,enter]|refine q00 _ (h1) ?_|refine q00 _ (h2) ?_)
def q1M (p:Pat):Bool:=decide (p.s.op=0∧p.s.lo=0∧p.s.hi=0∧p.s.min=0∧p.s.max=0∧p.a.length=0)
theorem qb3 (x:Pat) (hx:x.bulk≤2^24):q0e CS 523 [q0B x,.agg [.int .i64 0,.int .i64 0,.int .i64 0,.int .i64 0,.int .i64 0,.tsl 6 []]] (.bool (q1M x)):=by
 have L:=Pat.lens hx
 have hal:=L.args
 have h:q0e CS 567 [q0B x,.agg [.int .i64 0,.int .i64 0,.int .i64 0,.int .i64 0,.int .i64 0,.tsl 6 []],.int .i64 48] (.bool (q1M x)):=by
  refine q04 qiL rfl ?_
  rw[q0i]
  unfold q1M
  (repeat' first|simp (disch:=omega) only[go_sem,qiL,enter,Ka]|(apply spl<;>intro h<;>try simp (disch:=omega) only[go_sem,h]))
  all_goals first
   | exact qjI (by omega)
   | exact qiO (by omega)
   | exact qcl (by omega)
   | exact qjb (by omega)
   | exact qbq (by omega)
   | exact qjP (by omega)
   | skip
  refine q06 (α:=Unit) (fun _=>{ tmps:=q0h 75 [(2,.int .i64 48),(3,.ptr 6 0 0 0),(4,.ptr 6 1 0 0),(7,.int .i64 0)],heap:=[.row 6 [.agg [.int .i64 0,.int .i64 0,.int .i64 0,.int .i64 0,.int .i64 0,.tsl 6 (x.a.map q0B)]] false true 0,.row 6 [.agg [.int .i64 0,.int .i64 0,.int .i64 0,.int .i64 0,.int .i64 0,.tsl 6 []]] false true 1],base:=0 }) (fun _=>True) (fun _=>0) () rfl trivial ?_
  intro _ _
  (repeat' first|simp (disch:=omega) only[go_sem,Ka]|(apply spl<;>intro h<;>try simp (disch:=omega) only[go_sem,h]))
  all_goals first
   | exact qjI (by omega)
   | exact qiO (by omega)
   | exact qcl (by omega)
   | exact qjb (by omega)
   | exact qbq (by omega)
   | exact qjP (by omega)
   | skip
 refine q04 qje rfl ?_
 rw[q0i] at h ⊢
 (repeat' first|simp (disch:=omega) only[go_sem,qje,enter]|refine q00 _ (h) ?_)
end Ago
set_option maxRecDepth 100000
set_option maxHeartbeats 4000000
namespace Ago
open Go (IntKind)
def q3g (b:Bnd):Bool:=if b.set=true then q0c b.num else !b.num.neg && b.num.digits == [] && b.num.exp == 0 && !b.opn
def q2z (p:Prt):Bool:=q3g p.lo && q3g p.hi && decide (0≤p.sort) && decide (p.sort≤2)
def q7s (l:List Prt):Bool:=decide (l.length≤256) && l.all q2z
theorem qhL (b:Bnd) (hs:b.num.digits.length<2^31):q0e CS 262 [q4z b] (.bool (q3g b)):=by
 have hd:=upS (q3y b.num hs)
 refine q04 qd0 rfl ?_
 obtain ⟨set,⟨neg,ds,exp⟩,opn⟩:=b
 simp only[q4z,q0b] at *
 cases set
 ·(repeat' first|simp (disch:=omega) only[go_sem,qd0,enter]|(apply spl<;>intro h<;>try simp (disch:=omega) only[go_sem,h]))
  all_goals (try simp [q3g,Wf])
 ·(repeat' first|simp (disch:=omega) only[go_sem,qd0,enter]|refine q00 _ (hd) ?_|(apply spl<;>intro h<;>try simp (disch:=omega) only[go_sem,h]))
  all_goals (try simp [q3g,Wf])
theorem qlY (b:Bnd) (hs:b.num.digits.length<2^31):q0e CS 638 [q4z b] (.bool (q3g b)):=by
 have hd:=upS (qeX b.num hs)
 refine q04 qiN rfl ?_
 obtain ⟨set,⟨neg,ds,exp⟩,opn⟩:=b
 simp only[q4z,q0b] at *
 cases set
 ·(repeat' first|simp (disch:=omega) only[go_sem,qiN,enter]|(apply spl<;>intro h<;>try simp (disch:=omega) only[go_sem,h]))
  all_goals (try simp [q3g,Wf])
 ·(repeat' first|simp (disch:=omega) only[go_sem,qiN,enter]|refine q00 _ (hd) ?_|(apply spl<;>intro h<;>try simp (disch:=omega) only[go_sem,h]))
  all_goals (try simp [q3g,Wf])
theorem qoh (p:Prt) (h1:p.lo.num.digits.length<2^31) (h2:p.hi.num.digits.length<2^31):q0e CS 250 [q0n p] (.bool (q2z p)):=by
 have h1:=qhL p.lo h1
 have h2:=qhL p.hi h2
 refine q04 qay rfl ?_
 obtain ⟨⟨s1,⟨n1,d1,e1⟩,o1⟩,⟨s2,⟨n2,d2,e2⟩,o2⟩,sort⟩:=p
 simp only[q4z,q0n] at *
 unfold q2z
 cases hb1:q3g ⟨s1,⟨n1,d1,e1⟩,o1⟩
 ·rw[hb1] at h1
  (repeat' first|simp (disch:=omega) only[go_sem,qay,enter]|refine q00 _ (h1) ?_)
 ·rw[hb1] at h1
  cases hb2:q3g ⟨s2,⟨n2,d2,e2⟩,o2⟩
  ·rw[hb2] at h2
   (repeat' first|simp (disch:=omega) only[go_sem,qay,enter]|refine q00 _ (h1) ?_|refine q00 _ (h2) ?_)
  ·rw[hb2] at h2
   (repeat' first|simp (disch:=omega) only[go_sem,qay,enter]|refine q00 _ (h1) ?_|refine q00 _ (h2) ?_|(apply spl<;>intro h<;>try simp (disch:=omega) only[go_sem,h]))
   all_goals (simp; try omega)
theorem qsf (p:Prt) (h1:p.lo.num.digits.length<2^31) (h2:p.hi.num.digits.length<2^31):q0e CS 625 [q0n p] (.bool (q2z p)):=by
 have h1:=qlY p.lo h1
 have h2:=qlY p.hi h2
 refine q04 qfB rfl ?_
 obtain ⟨⟨s1,⟨n1,d1,e1⟩,o1⟩,⟨s2,⟨n2,d2,e2⟩,o2⟩,sort⟩:=p
 simp only[q4z,q0n] at *
 unfold q2z
 cases hb1:q3g ⟨s1,⟨n1,d1,e1⟩,o1⟩
 ·rw[hb1] at h1
  (repeat' first|simp (disch:=omega) only[go_sem,qfB,enter]|refine q00 _ (h1) ?_)
 ·rw[hb1] at h1
  cases hb2:q3g ⟨s2,⟨n2,d2,e2⟩,o2⟩
  ·rw[hb2] at h2
   (repeat' first|simp (disch:=omega) only[go_sem,qfB,enter]|refine q00 _ (h1) ?_|refine q00 _ (h2) ?_)
  ·rw[hb2] at h2
   (repeat' first|simp (disch:=omega) only[go_sem,qfB,enter]|refine q00 _ (h1) ?_|refine q00 _ (h2) ?_|(apply spl<;>intro h<;>try simp (disch:=omega) only[go_sem,h]))
   all_goals (simp; try omega)
def qpb (l:List Prt):Prop:=l.length<2^24∧∀ p,p∈l→p.lo.num.digits.length<2^31∧p.hi.num.digits.length<2^31
theorem qoe (l:List Prt) (hl:qpb l):q0e CS 229 [q3I l] (.bool (q7s l)):=by
 obtain ⟨hl1,hl2⟩:=hl
 refine q04 qdo rfl ?_
 unfold q3I q7s
 by_cases h256:l.length≤256
 case neg=>
  rw[decide_eq_false h256]
  (repeat' first|simp (disch:=omega) only[go_sem,qdo,enter,Ka])
  all_goals omega
 rw[decide_eq_true h256,Kw]
 (repeat' first|simp (disch:=omega) only[go_sem,qdo,enter,Ka]|(apply spl<;>intro h<;>try simp (disch:=omega) only[go_sem,h]))
 all_goals try omega
 refine q06 (α:=Nat) (fun k=>{ tmps:=q0h 20 [(10,.tsl 11 (l.map q0n)),(11,.int .i64 l.length),(12,.int .i64 k)],heap:=[],base:=0 }) (fun k=>k≤l.length∧(l.take k).all q2z=true) (fun k=>l.length-k) 0 rfl ⟨Km _,rfl⟩ ?_
 rintro k ⟨hk,hd⟩
 by_cases hlt:k<l.length
 ·obtain ⟨p,hp⟩:=q05 hlt
  have hp2:=q09 (g:=q0n) hp
  obtain ⟨q1,q2⟩:=hl2 p (Kc hp)
  have hr:=qoh p q1 q2
  simp only[q0n] at hp2 hr
  cases hb:q2z p with
  | true=>
   rw[hb] at hr
   (repeat' first|simp (disch:=omega) only[go_sem,hp2,Ka]|refine q00 _ (hr) ?_|(apply spl<;>intro h<;>try simp (disch:=omega) only[go_sem,h]))
   all_goals try omega
   exact ⟨k+1,rfl,⟨hlt,q0v hp hd hb⟩,by omega⟩
  | false=>
   rw[hb] at hr
   have hn:l.all q2z=false:=q3R hp hb
   rw[hn]
   (repeat' first|simp (disch:=omega) only[go_sem,hp2,Ka]|refine q00 _ (hr) ?_)
   all_goals omega
 ·rw[q0M hlt hk] at hd
  rw[hd]
  (repeat' first|simp (disch:=omega) only[go_sem,Ka])
  all_goals omega
theorem qsR (l:List Prt) (hl:qpb l):q0e CS 600 [q3I l] (.bool (q7s l)):=by
 obtain ⟨hl1,hl2⟩:=hl
 refine q04 qmC rfl ?_
 unfold q3I q7s
 (repeat' first|simp (disch:=omega) only[go_sem,qmC,enter,Ka]|(apply spl<;>intro h<;>try simp (disch:=omega) only[go_sem,h]))
 refine q06 (α:=Nat) (fun k=>{ tmps:=q0h 22 [(1,.ptr 1 0 0 0),(3,.int .i64 k)],heap:=[.row 1 [.agg [.tsl 11 (l.map q0n)]] false true 0],base:=0 }) (fun k=>k≤l.length∧(l.take k).all q2z=true) (fun k=>l.length-k) 0 rfl ⟨Km _,rfl⟩ ?_
 rintro k ⟨hk,hd⟩
 by_cases hlt:k<l.length
 ·obtain ⟨p,hp⟩:=q05 hlt
  have hp2:=q09 (g:=q0n) hp
  obtain ⟨q1,q2⟩:=hl2 p (Kc hp)
  have hr:=qsf p q1 q2
  simp only[q0n] at hp2 hr
  cases hb:q2z p with
  | true=>
   rw[hb] at hr
   (repeat' first|simp (disch:=omega) only[go_sem,hp2,Ka]|refine q00 _ (hr) ?_|(apply spl<;>intro h<;>try simp (disch:=omega) only[go_sem,h]))
   all_goals try omega
   exact ⟨k+1,rfl,⟨hlt,q0v hp hd hb⟩,by omega⟩
  | false=>
   rw[hb] at hr
   have hn:l.all q2z=false:=q3R hp hb
   rw[hn,Vi]
   (repeat' first|simp (disch:=omega) only[go_sem,hp2,Ka]|refine q00 _ (hr) ?_)
   all_goals omega
 ·rw[q0M hlt hk] at hd
  rw[hd,VJ]
  (repeat' first|simp (disch:=omega) only[go_sem,Ka]|(apply spl<;>intro h<;>try simp (disch:=omega) only[go_sem,h]))
  all_goals (first | omega | (simp; omega))
end Ago
