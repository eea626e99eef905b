/- Schemas: the schemas in a node,how many nodes there are. -/
import Derived.Test.YtkibapblgbdhmaaGreatDoorCode
import Derived.Test.YtkibapblgbdhmaaGreatDoorRunA
import Derived.Test.YtkibapblgbdhmaaGreatDoorMachE
import Derived.Test.YtkibapblgbdhmaaGreatDoorRunF
set_option linter.unusedSimpArgs false
set_option linter.unusedVariables false
set_option maxRecDepth 100000
set_option maxHeartbeats 4000000
namespace Ago
open Go (IntKind)
theorem qbD (v:Sch) (hv:v.bulk≤2^24):q0f CS 514 [q03 v] (.tsl 15 (v.kids.map q03)):=by
 have L:=Sch.lens hv
 refine q04 qkG rfl ?_
 rw[q01]
 (repeat' first|simp (disch:=omega) only[go_sem,qkG,enter,List.length_map]|(apply spl<;>intro h<;>try simp (disch:=omega) only[go_sem,h]))
 refine q08 (α:=Nat × List AV) (fun a=>{ tmps:=q0i 23 [(1,.ptr 15 0 0 0),(3,q0x 15 1 a.2),(7,.tsl 17 (v.p.map q0h)),(8,.int .i64 v.p.length),(9,.int .i64 a.1)],heap:=[.row 15 [q03 v] false true 0]++q0y 15 1 a.2,base:=0 }) (fun a=>a.1≤v.p.length∧a.2=(v.p.take a.1).map fun x=>q03 x.2) (fun a=>v.p.length-a.1) (0,[]) (by rw[q01]; rfl) (by simp) ?_
 rintro ⟨k,els⟩ ⟨hk,hl⟩
 simp only at hk hl
 rw[q01]
 by_cases hlt:k<v.p.length
 ·obtain ⟨x,hx⟩:=q06 hlt
  have hx2:=q09 (g:=q0h) hx
  rw[q0m] at hx2
  have hnew:els++[q03 x.2]=(v.p.take (k+1)).map fun x=>q03 x.2:=by rw[hl,List.take_add_one,hx]; simp
  rw[q01 x.2] at hnew
  have hlen:els.length=k:=by rw[hl]; simp; omega
  have hfl:=L.props
  cases els with
  | nil=>
   (repeat' first|simp (disch:=omega) only[go_sem,hx2,List.length_map,q0x,q0y]|(apply spl<;>intro h<;>try simp (disch:=omega) only[go_sem,h]))
   refine ⟨(k+1,(v.p.take (k+1)).map fun x=>q03 x.2),?_,⟨hlt,rfl⟩,by simp only; omega⟩
   simp only[←hnew]
   rfl
  | cons y els=>
   simp only[List.length_cons] at hlen
   (repeat' first|simp (disch:=omega) only[go_sem,hx2,List.length_map,q0x,q0y]|(apply spl<;>intro h<;>try simp (disch:=omega) only[go_sem,h]))
   refine ⟨(k+1,(v.p.take (k+1)).map fun x=>q03 x.2),?_,⟨hlt,rfl⟩,by simp only; omega⟩
   simp only[←hnew,List.cons_append,q0x,q0y,List.length_append,List.length_cons,List.length_nil]
   rfl
 ·have hf:els++v.a.map q03=v.kids.map q03:=by
   rw[hl,q0C hlt hk]
   simp [Sch.kids]
  rw[←hf]
  have hal:=L.args
  have hpl:=L.props
  have hlen:els.length=v.p.length:=by rw[hl,q0C hlt hk]; simp
  cases ha:v.a with
  | nil=>
   cases els with
   | nil=>(repeat' first|simp (disch:=omega) only[go_sem,List.length_map,q0x,q0y,List.map_nil,List.append_nil]|(apply spl<;>intro h<;>try simp (disch:=omega) only[go_sem,h]))
   | cons y els=>
    simp only[List.length_cons] at hlen
    (repeat' first|simp (disch:=omega) only[go_sem,List.length_map,q0x,q0y,List.take_length,List.map_nil,List.append_nil,List.length_append,List.length_cons]|(apply spl<;>intro h<;>try simp (disch:=omega) only[go_sem,h]))
    all_goals (simp; try exact List.take_of_length_le (by simp; try omega))
  | cons z zs=>
   rw[ha] at hal
   simp only[List.length_cons] at hal
   cases els with
   | nil=>
    (repeat' first|simp (disch:=omega) only[go_sem,List.length_map,q0x,q0y,List.take_length,List.map_cons,List.nil_append,List.length_cons]|(apply spl<;>intro h<;>try simp (disch:=omega) only[go_sem,h]))
    all_goals (simp; try exact List.take_of_length_le (by simp; try omega))
   | cons y els=>
    simp only[List.length_cons] at hlen
    (repeat' first|simp (disch:=omega) only[go_sem,List.length_map,q0x,q0y,List.take_length,List.map_cons,List.length_append,List.length_cons,List.cons_append]|(apply spl<;>intro h<;>try simp (disch:=omega) only[go_sem,h]))
    all_goals (simp; try exact List.take_of_length_le (by simp; try omega))
theorem q3G (v:Sch) (hv:v.bulk≤2^24):q0f CS 515 [q03 v] (.tsl 15 (v.kids.map q03)):=by
 have L:=Sch.lens hv
 refine q04 qiZ rfl ?_
 rw[q01]
 (repeat' first|simp (disch:=omega) only[go_sem,qiZ,enter,List.length_map]|(apply spl<;>intro h<;>try simp (disch:=omega) only[go_sem,h]))
 refine q08 (α:=Nat × List AV) (fun a=>{ tmps:=q0i 25 [(1,.ptr 15 0 0 0),(3,q0x 15 1 a.2),(4,.int .i64 a.1)],heap:=[.row 15 [q03 v] false true 0]++q0y 15 1 a.2,base:=0 }) (fun a=>a.1≤v.p.length∧a.2=(v.p.take a.1).map fun x=>q03 x.2) (fun a=>v.p.length-a.1) (0,[]) (by rw[q01]; rfl) (by simp) ?_
 rintro ⟨k,els⟩ ⟨hk,hl⟩
 simp only at hk hl
 rw[q01]
 by_cases hlt:k<v.p.length
 ·obtain ⟨x,hx⟩:=q06 hlt
  have hx2:=q09 (g:=q0h) hx
  rw[q0m] at hx2
  have hnew:els++[q03 x.2]=(v.p.take (k+1)).map fun x=>q03 x.2:=by rw[hl,List.take_add_one,hx]; simp
  rw[q01 x.2] at hnew
  have hlen:els.length=k:=by rw[hl]; simp; omega
  have hfl:=L.props
  cases els with
  | nil=>
   (repeat' first|simp (disch:=omega) only[go_sem,hx2,List.length_map,q0x,q0y]|(apply spl<;>intro h<;>try simp (disch:=omega) only[go_sem,h]))
   refine ⟨(k+1,(v.p.take (k+1)).map fun x=>q03 x.2),?_,⟨hlt,rfl⟩,by simp only; omega⟩
   simp only[←hnew]
   rfl
  | cons y els=>
   simp only[List.length_cons] at hlen
   (repeat' first|simp (disch:=omega) only[go_sem,hx2,List.length_map,q0x,q0y]|(apply spl<;>intro h<;>try simp (disch:=omega) only[go_sem,h]))
   refine ⟨(k+1,(v.p.take (k+1)).map fun x=>q03 x.2),?_,⟨hlt,rfl⟩,by simp only; omega⟩
   simp only[←hnew,List.cons_append,q0x,q0y,List.length_append,List.length_cons,List.length_nil]
   rfl
 ·have hf:els++v.a.map q03=v.kids.map q03:=by
   rw[hl,q0C hlt hk]
   simp [Sch.kids]
  rw[←hf]
  have hal:=L.args
  have hpl:=L.props
  have hlen:els.length=v.p.length:=by rw[hl,q0C hlt hk]; simp
  cases ha:v.a with
  | nil=>
   cases els with
   | nil=>(repeat' first|simp (disch:=omega) only[go_sem,List.length_map,q0x,q0y,List.map_nil,List.append_nil]|(apply spl<;>intro h<;>try simp (disch:=omega) only[go_sem,h]))
   | cons y els=>
    simp only[List.length_cons] at hlen
    (repeat' first|simp (disch:=omega) only[go_sem,List.length_map,q0x,q0y,List.take_length,List.map_nil,List.append_nil,List.length_append,List.length_cons]|(apply spl<;>intro h<;>try simp (disch:=omega) only[go_sem,h]))
    all_goals (simp; try exact List.take_of_length_le (by simp; try omega))
  | cons z zs=>
   rw[ha] at hal
   simp only[List.length_cons] at hal
   cases els with
   | nil=>
    (repeat' first|simp (disch:=omega) only[go_sem,List.length_map,q0x,q0y,List.take_length,List.map_cons,List.nil_append,List.length_cons]|(apply spl<;>intro h<;>try simp (disch:=omega) only[go_sem,h]))
    all_goals (simp; try exact List.take_of_length_le (by simp; try omega))
   | cons y els=>
    simp only[List.length_cons] at hlen
    (repeat' first|simp (disch:=omega) only[go_sem,List.length_map,q0x,q0y,List.take_length,List.map_cons,List.length_append,List.length_cons,List.cons_append]|(apply spl<;>intro h<;>try simp (disch:=omega) only[go_sem,h]))
    all_goals (simp; try exact List.take_of_length_le (by simp; try omega))
def q53:Nat→Sch→Nat
 | 0,_=>0
 | d+1,x=>1+(x.kids.map (q53 d)).sum
theorem q8v (x:Sch):q53 0 x=0:=(rfl)
theorem q4E (d:Nat) (x:Sch):q53 (d+1) x=1+(x.kids.map (q53 d)).sum:=(rfl)
theorem qhV {α:Type} {f g:α→Nat} : ∀ (l:List α),(∀ x,x∈l→f x≤g x)→(l.map f).sum≤(l.map g).sum
 | [],_=>by simp
 | x::l,h=>by
  have:=h x (List.mem_cons_self ..)
  have:=qhV l fun y hy=>h y (List.mem_cons_of_mem _ hy)
  simp only[List.map_cons,List.sum_cons]
  omega
theorem qaM : ∀ l:List Sch,AV.bulks (l.map q03)=(l.map Sch.bulk).sum
 | []=>by simp [AV.bulks]
 | x::l=>by simp [AV.bulks,qaM l,Sch.bulk]
theorem qgJ (x:Sch):(x.kids.map Sch.bulk).sum<x.bulk:=by
 have h1:=x.kids_sum
 have h2:=x.bulk_eq
 have h3:=qaM x.kids
 omega
theorem q6J : ∀ (d:Nat) (x:Sch),q53 d x≤x.bulk
 | 0,x=>by simp [q8v]
 | d+1,x=>by
  rw[q4E]
  have:=qgJ x
  have:=qhV x.kids (fun y _=>q6J d y)
  omega
theorem q4S (x:Sch):x.kids.length<x.bulk:=by
 have h1:=qgJ x
 have h2 : ∀ l:List Sch,l.length≤(l.map Sch.bulk).sum:=by
  intro l
  induction l with
  | nil=>simp
  | cons y l ih=>
   have:1≤y.bulk:=q1b _
   simp only[List.length_cons,List.map_cons,List.sum_cons]
   omega
 have:=h2 x.kids
 omega
theorem q5C {α:Type} (f:α→Nat) (l:List α) (k:Nat) (x:α) (hx:l[k]?=some x):((l.take (k+1)).map f).sum=((l.take k).map f).sum+f x:=by
 rw[List.take_add_one,hx]
 simp
theorem q3h {α:Type} (f:α→Nat) (l:List α) (k:Nat):((l.take k).map f).sum≤(l.map f).sum:=by
 have:(l.map f).sum=((l.take k).map f).sum+((l.drop k).map f).sum:=by
  rw[←List.sum_append,←List.map_append,List.take_append_drop]
 omega
theorem qjA : ∀ (d:Nat) (D:Int),D=d→d<2^30→∀ x:Sch,x.bulk≤2^24→q0f CS 509 [q03 x,.int .i64 D] (.int .i64 (q53 d x)):=by
 intro d
 induction d with
 | zero=>
  intro D hD hd x hx
  refine q04 qf0 rfl ?_
  rw[q01,q8v]
  (repeat' first|simp (disch:=omega) only[go_sem,qf0,enter,List.length_map]|(apply spl<;>intro h<;>try simp (disch:=omega) only[go_sem,h]))
  all_goals omega
 | succ d ih=>
  intro D hD hd x hx
  have L:=Sch.lens hx
  have hp:=qbD x hx
  have hkl:=q4S x
  refine q04 qf0 rfl ?_
  rw[q01] at hp ⊢
  (repeat' first|simp (disch:=omega) only[go_sem,qf0,enter,List.length_map]|refine q00 _ (hp) ?_|(apply spl<;>intro h<;>try simp (disch:=omega) only[go_sem,h]))
  all_goals try omega
  refine q08 (α:=Nat × Nat) (fun a=>{ tmps:=q0i 25 [(1,.int .i64 D),(5,.int .i64 a.2),(11,.tsl 15 (x.kids.map q03)),(12,.int .i64 x.kids.length),(13,.int .i64 a.1)],heap:=[],base:=0 }) (fun a=>a.1≤x.kids.length∧a.2=1+((x.kids.take a.1).map (q53 d)).sum) (fun a=>x.kids.length-a.1) (0,1) rfl ⟨Nat.zero_le _,by simp⟩ ?_
  rintro ⟨k,n⟩ ⟨hk,hn⟩
  simp only at hk hn
  by_cases hlt:k<x.kids.length
  ·obtain ⟨y,hy⟩:=q06 hlt
   have hym:=List.mem_of_getElem? hy
   have hy2:=q09 (g:=q03) hy
   have hr:=ih (D-1) (by omega) (by omega) y (by have:=Sch.kids_bulk hym; omega)
   have h1:=q3h (q53 d) x.kids (k+1)
   have h2:=q5C (q53 d) x.kids k y hy
   have h3:=q6J (d+1) x
   rw[q4E] at h3
   rw[q01] at hy2 hr
   (repeat' first|simp (disch:=omega) only[go_sem,hy2,List.length_map]|refine q00 _ (hr) ?_|(apply spl<;>intro h<;>try simp (disch:=omega) only[go_sem,h]))
   all_goals try omega
   refine ⟨(k+1,n+q53 d y),?_,⟨hlt,by simp only; omega⟩,by simp only; omega⟩
   simp only[Int.natCast_add]
   rfl
  ·have hk2:k=x.kids.length:=by omega
   rw[hk2,List.take_length] at hn
   rw[q4E,←hn]
   (repeat' first|simp (disch:=omega) only[go_sem,List.length_map]|(apply spl<;>intro h<;>try simp (disch:=omega) only[go_sem,h]))
theorem qch : ∀ (d:Nat) (D:Int),D=d→d<2^30→∀ x:Sch,x.bulk≤2^24→q0f CS 507 [q03 x,.int .i64 D] (.int .i64 (q53 d x)):=by
 intro d
 induction d with
 | zero=>
  intro D hD hd x hx
  refine q04 qgh rfl ?_
  rw[q01,q8v]
  (repeat' first|simp (disch:=omega) only[go_sem,qgh,enter,List.length_map]|(apply spl<;>intro h<;>try simp (disch:=omega) only[go_sem,h]))
  all_goals omega
 | succ d ih=>
  intro D hD hd x hx
  have L:=Sch.lens hx
  have hp:=q3G x hx
  have hkl:=q4S x
  refine q04 qgh rfl ?_
  rw[q01] at hp ⊢
  (repeat' first|simp (disch:=omega) only[go_sem,qgh,enter,List.length_map]|refine q00 _ (hp) ?_|(apply spl<;>intro h<;>try simp (disch:=omega) only[go_sem,h]))
  all_goals try omega
  refine q08 (α:=Nat × Nat) (fun a=>{ tmps:=q0i 28 [(1,.int .i64 D),(5,.int .i64 a.2),(6,.tsl 15 (x.kids.map q03)),(7,.int .i64 a.1)],heap:=[],base:=0 }) (fun a=>a.1≤x.kids.length∧a.2=1+((x.kids.take a.1).map (q53 d)).sum) (fun a=>x.kids.length-a.1) (0,1) rfl ⟨Nat.zero_le _,by simp⟩ ?_
  rintro ⟨k,n⟩ ⟨hk,hn⟩
  simp only at hk hn
  by_cases hlt:k<x.kids.length
  ·obtain ⟨y,hy⟩:=q06 hlt
   have hym:=List.mem_of_getElem? hy
   have hy2:=q09 (g:=q03) hy
   have hr:=ih (D-1) (by omega) (by omega) y (by have:=Sch.kids_bulk hym; omega)
   have h1:=q3h (q53 d) x.kids (k+1)
   have h2:=q5C (q53 d) x.kids k y hy
   have h3:=q6J (d+1) x
   rw[q4E] at h3
   rw[q01] at hy2 hr
   (repeat' first|simp (disch:=omega) only[go_sem,hy2,List.length_map]|refine q00 _ (hr) ?_|(apply spl<;>intro h<;>try simp (disch:=omega) only[go_sem,h]))
   all_goals try omega
   refine ⟨(k+1,n+q53 d y),?_,⟨hlt,by simp only; omega⟩,by simp only; omega⟩
   simp only[Int.natCast_add]
   rfl
  ·have hk2:k=x.kids.length:=by omega
   rw[hk2,List.take_length] at hn
   rw[q4E,←hn]
   (repeat' first|simp (disch:=omega) only[go_sem,List.length_map]|(apply spl<;>intro h<;>try simp (disch:=omega) only[go_sem,h]))
theorem qe7 (x:Sch) (hx:x.bulk≤2^24):q0f CS 481 [q03 x] (.int .i64 (q53 48 x)):=by
 have hr:=qjA 48 48 rfl (by decide) x hx
 refine q04 ql6 rfl ?_
 rw[q01] at hr ⊢
 (repeat' first|simp (disch:=omega) only[go_sem,ql6,enter]|refine q00 _ (hr) ?_|(apply spl<;>intro h<;>try simp (disch:=omega) only[go_sem,h]))
theorem q7R (x:Sch) (hx:x.bulk≤2^24):q0f CS 474 [q03 x] (.int .i64 (q53 48 x)):=by
 have hr:=qch 48 48 rfl (by decide) x hx
 refine q04 ql8 rfl ?_
 rw[q01] at hr ⊢
 (repeat' first|simp (disch:=omega) only[go_sem,ql8,enter]|refine q00 _ (hr) ?_|(apply spl<;>intro h<;>try simp (disch:=omega) only[go_sem,h]))
end Ago
set_option maxRecDepth 100000
set_option maxHeartbeats 4000000
namespace Ago
open Go (IntKind)
theorem upS {f:Nat} {ts:List AV} {v:AV} (h:q0f C0 f ts v):q0f CS f ts v:=
 qhX (q8W (C:=C0) (C':=q5g q8H qd3 qdJ) (fun f fn h=>by
  have h:code f=some fn:=h
  show q8H f=some fn
  unfold q8H
  rw[h]) (fun _ _ _ _ _ h=>by
   obtain ⟨p,x,h,h2⟩:=h
   refine ⟨p,x,?_,h2⟩
   unfold clR at h
   split at h
   ·exact h
   ·cases h) (fun f t v h=>by
   obtain ⟨p,l,h,h2⟩:=h
   refine ⟨p,l,?_,h2⟩
   unfold clP at h
   split at h
   ·exact h
   ·cases h) h)
def qbc:Nat→Pat→Nat
 | 0,_=>0
 | d+1,x=>1+(x.a.map (qbc d)).sum
theorem q7O (x:Pat):qbc 0 x=0:=(rfl)
theorem q4K (d:Nat) (x:Pat):qbc (d+1) x=1+(x.a.map (qbc d)).sum:=(rfl)
theorem q96 : ∀ l:List Pat,AV.bulks (l.map q0v)=(l.map Pat.bulk).sum
 | []=>by simp [AV.bulks]
 | x::l=>by simp [AV.bulks,q96 l,Pat.bulk]
theorem qdE : ∀ (d:Nat) (x:Pat),qbc d x≤x.bulk
 | 0,x=>by simp [q7O]
 | d+1,x=>by
  rw[q4K]
  have h1:=x.bulk_eq
  have h2:=q96 x.a
  have:=qhV x.a (fun y _=>qdE d y)
  omega
theorem qgm : ∀ (d:Nat) (D:Int),D=d→d<2^30→∀ x:Pat,x.bulk≤2^24→q0f CS 378 [q0v x,.int .i64 D] (.int .i64 (qbc d x)):=by
 intro d
 induction d with
 | zero=>
  intro D hD hd x hx
  refine q04 qfn rfl ?_
  rw[q0e,q7O]
  (repeat' first|simp (disch:=omega) only[go_sem,qfn,enter,List.length_map]|(apply spl<;>intro h<;>try simp (disch:=omega) only[go_sem,h]))
  all_goals omega
 | succ d ih=>
  intro D hD hd x hx
  have L:=Pat.lens hx
  have hal:=L.args
  refine q04 qfn rfl ?_
  rw[q0e]
  (repeat' first|simp (disch:=omega) only[go_sem,qfn,enter,List.length_map]|(apply spl<;>intro h<;>try simp (disch:=omega) only[go_sem,h]))
  all_goals try omega
  refine q08 (α:=Nat × Nat) (fun a=>{ tmps:=q0i 25 [(1,.int .i64 D),(5,.int .i64 a.2),(11,.tsl 6 (x.a.map q0v)),(12,.int .i64 x.a.length),(13,.int .i64 a.1)],heap:=[],base:=0 }) (fun a=>a.1≤x.a.length∧a.2=1+((x.a.take a.1).map (qbc d)).sum) (fun a=>x.a.length-a.1) (0,1) rfl ⟨Nat.zero_le _,by simp⟩ ?_
  rintro ⟨k,n⟩ ⟨hk,hn⟩
  simp only at hk hn
  try rw[q0e]
  by_cases hlt:k<x.a.length
  ·obtain ⟨y,hy⟩:=q06 hlt
   have hym:=List.mem_of_getElem? hy
   have hy2:=q09 (g:=q0v) hy
   have hr:=ih (D-1) (by omega) (by omega) y (by have:=L.kids y hym; omega)
   have h1:=q3h (qbc d) x.a (k+1)
   have h2:=q5C (qbc d) x.a k y hy
   have h3:=qdE (d+1) x
   rw[q4K] at h3
   rw[q0e] at hy2 hr
   (repeat' first|simp (disch:=omega) only[go_sem,hy2,List.length_map]|refine q00 _ (hr) ?_|(apply spl<;>intro h<;>try simp (disch:=omega) only[go_sem,h]))
   all_goals try omega
   refine ⟨(k+1,n+qbc d y),?_,⟨hlt,by simp only; omega⟩,by simp only; omega⟩
   simp only[Int.natCast_add,q0e x]
   rfl
  ·have hk2:k=x.a.length:=by omega
   rw[hk2,List.take_length] at hn
   rw[q4K,←hn]
   (repeat' first|simp (disch:=omega) only[go_sem,List.length_map]|(apply spl<;>intro h<;>try simp (disch:=omega) only[go_sem,h]))
theorem q9M : ∀ (d:Nat) (D:Int),D=d→d<2^30→∀ x:Pat,x.bulk≤2^24→q0f CS 376 [q0v x,.int .i64 D] (.int .i64 (qbc d x)):=by
 intro d
 induction d with
 | zero=>
  intro D hD hd x hx
  refine q04 qfG rfl ?_
  rw[q0e,q7O]
  (repeat' first|simp (disch:=omega) only[go_sem,qfG,enter,List.length_map]|(apply spl<;>intro h<;>try simp (disch:=omega) only[go_sem,h]))
  all_goals omega
 | succ d ih=>
  intro D hD hd x hx
  have L:=Pat.lens hx
  have hal:=L.args
  refine q04 qfG rfl ?_
  rw[q0e]
  (repeat' first|simp (disch:=omega) only[go_sem,qfG,enter,List.length_map]|(apply spl<;>intro h<;>try simp (disch:=omega) only[go_sem,h]))
  all_goals try omega
  refine q08 (α:=Nat × Nat) (fun a=>{ tmps:=q0i 27 [(1,.int .i64 D),(2,.ptr 6 0 0 0),(5,.int .i64 a.2),(6,.int .i64 a.1)],heap:=[.row 6 [q0v x] false true 0],base:=0 }) (fun a=>a.1≤x.a.length∧a.2=1+((x.a.take a.1).map (qbc d)).sum) (fun a=>x.a.length-a.1) (0,1) (by rw[q0e]; rfl) ⟨Nat.zero_le _,by simp⟩ ?_
  rintro ⟨k,n⟩ ⟨hk,hn⟩
  simp only at hk hn
  try rw[q0e]
  by_cases hlt:k<x.a.length
  ·obtain ⟨y,hy⟩:=q06 hlt
   have hym:=List.mem_of_getElem? hy
   have hy2:=q09 (g:=q0v) hy
   have hr:=ih (D-1) (by omega) (by omega) y (by have:=L.kids y hym; omega)
   have h1:=q3h (qbc d) x.a (k+1)
   have h2:=q5C (qbc d) x.a k y hy
   have h3:=qdE (d+1) x
   rw[q4K] at h3
   rw[q0e] at hy2 hr
   (repeat' first|simp (disch:=omega) only[go_sem,hy2,List.length_map]|refine q00 _ (hr) ?_|(apply spl<;>intro h<;>try simp (disch:=omega) only[go_sem,h]))
   all_goals try omega
   refine ⟨(k+1,n+qbc d y),?_,⟨hlt,by simp only; omega⟩,by simp only; omega⟩
   simp only[Int.natCast_add,q0e x]
   rfl
  ·have hk2:k=x.a.length:=by omega
   rw[hk2,List.take_length] at hn
   rw[q4K,←hn]
   (repeat' first|simp (disch:=omega) only[go_sem,List.length_map]|(apply spl<;>intro h<;>try simp (disch:=omega) only[go_sem,h]))
theorem qbm (x:Pat) (hx:x.bulk≤2^24):q0f CS 357 [q0v x] (.int .i64 (qbc 48 x)):=by
 have hr:=q9M 48 48 rfl (by decide) x hx
 refine q04 qjj rfl ?_
 rw[q0e] at hr ⊢
 (repeat' first|simp (disch:=omega) only[go_sem,qjj,enter]|refine q00 _ (hr) ?_|(apply spl<;>intro h<;>try simp (disch:=omega) only[go_sem,h]))
end Ago
set_option maxRecDepth 100000
set_option maxHeartbeats 4000000
namespace Ago
open Go (IntKind)
structure Cl (H:Heap):Prop where
 refs : ∀ b,b∈H→∀ r,r∈b.refs→r<H.length
 ren : ∀ b,b∈H→∀ f g,(∀ r,r<H.length→f r=some r)→(∀ r,r<H.length→g r=r)→Blk.ren f g b=b
theorem Cl.nil:Cl []:=⟨fun b h=>(by cases h),fun b h=>(by cases h)⟩
theorem Cl.push {H:Heap} (h:Cl H) (n:Nat) (els:List AV) (ro:Bool) (fam:Nat) (hf:fam≤H.length):Cl (H++[.row n els ro true fam]):=by
 refine ⟨fun b hb r hr=>?_,fun b hb f g hf2 hg2=>?_⟩
 ·rcases List.mem_append.1 hb with hb | hb
  ·have:=h.refs b hb r hr
   simp
   omega
  ·rw[List.mem_singleton.1 hb] at hr
   simp [Blk.refs] at hr
 ·rcases List.mem_append.1 hb with hb | hb
  ·exact h.ren b hb f g (fun r hr=>hf2 r (by simp; omega)) (fun r hr=>hg2 r (by simp; omega))
  ·rw[List.mem_singleton.1 hb]
   simp [Blk.ren,hg2 fam (by simp; omega)]
def qoS (base:Nat) (res:List ResV) (v:AV) (H':Heap) (e:Ex) (s:St):Prop:=(e = .normal∨e = .ret)∧∃ u,results res s=some u∧(q8D base u s.heap).tmps.getD 0 .dead=v∧(q8D base u s.heap).heap=H'
theorem qmP {C:Ctx} {f:Nat} (fn:AFn) {args:List AV} {H H':Heap} {v:AV} (hf:C.code f=some fn) (h : @q0Y (enter fn args H) ⟨aw (q1M C) (q0f C) fn.body (qoS H.length fn.res v H')⟩):q1M C f args H v H':=by
 unfold q0Y at h
 obtain ⟨e,s,h1,he,u,h2,rfl,rfl⟩:=q22 _ _ _ h
 exact .run hf h1 he h2
end Ago
set_option maxRecDepth 100000
set_option maxHeartbeats 4000000
namespace Ago
open Go (IntKind)
theorem qgf {P:Prop} [Decidable P] (h : ¬ P):some (AV.bool false)=some (AV.bool (decide P)):=by simp [h]
theorem qfp {P:Prop} [Decidable P] (h:P):some (AV.bool true)=some (AV.bool (decide P)):=by simp [h]
theorem qas {P Q:Prop} [Decidable P] [Decidable Q] (h:Q↔P):some (AV.bool (decide Q))=some (AV.bool (decide P)):=by simp [h]
theorem qgg {P Q:Prop} [Decidable P] [Decidable Q] (h : ¬ Q↔P):some (AV.bool (!decide Q))=some (AV.bool (decide P)):=by
 by_cases q:Q<;>simp [q,←h]
theorem qge {a b:Int} {P:Prop} [Decidable P] (h:a=b↔P):some (AV.bool (a == b))=some (AV.bool (decide P)):=by
 rw[q6B]
 exact qas h
theorem q9I {a b:Int} {P:Prop} [Decidable P] (h : ¬ a=b↔P):some (AV.bool (a != b))=some (AV.bool (decide P)):=by
 rw[q7t]
 exact qas h
def q4H (p:Pat):Bool:=decide ((p.s.op=2∨p.s.lo=0∧p.s.hi=0)∧(p.s.op=5∨p.s.min=0∧p.s.max=0) ∧
 ((p.s.op=0∨p.s.op=1)∧p.a.length=0∨p.s.op=2∧p.a.length=0∧0≤p.s.lo∧p.s.lo≤p.s.hi∧p.s.hi≤255∨(p.s.op=3∨p.s.op=4∨p.s.op=6)∧2≤p.a.length∨p.s.op=7∧p.a.length=1 ∨
  p.s.op=5∧p.a.length=1∧0≤p.s.min∧p.s.min≤64∧(p.s.max = -1∨p.s.min≤p.s.max∧p.s.max≤64)))
theorem qcJ (p:Pat) (hp:p.bulk≤2^24):q0f CS 396 [q0v p] (.bool (q4H p)):=by
 have L:=Pat.lens hp
 have hal:=L.args
 refine q04 qkC rfl ?_
 rw[q0e]
 unfold q4H
 (repeat' first|simp (disch:=omega) only[go_sem,qkC,enter,List.length_map]|(apply spl<;>intro h<;>try simp (disch:=omega) only[go_sem,h]))
 all_goals first
  | exact qgf (by omega)
  | exact qfp (by omega)
  | exact qas (by omega)
  | exact qge (by omega)
  | exact q9I (by omega)
  | exact qgg (by omega)
  | skip
theorem q8J (p:Pat) (hp:p.bulk≤2^24):q0f CS 384 [q0v p] (.bool (q4H p)):=by
 have L:=Pat.lens hp
 have hal:=L.args
 refine q04 qk9 rfl ?_
 rw[q0e]
 unfold q4H
 (repeat' first|simp (disch:=omega) only[go_sem,qk9,enter,List.length_map]|(apply spl<;>intro h<;>try simp (disch:=omega) only[go_sem,h]))
 all_goals first
  | exact qgf (by omega)
  | exact qfp (by omega)
  | exact qas (by omega)
  | exact qge (by omega)
  | exact q9I (by omega)
  | exact qgg (by omega)
  | skip
def q1L:Nat→Pat→Bool
 | 0,_=>false
 | d+1,x=>q4H x && x.a.all (q1L d)
theorem q6b (x:Pat):q1L 0 x=false:=(rfl)
theorem q4a (d:Nat) (x:Pat):q1L (d+1) x=(q4H x && x.a.all (q1L d)):=(rfl)
theorem qid : ∀ (d:Nat) (D:Int),D=d→d<2^30→∀ x:Pat,x.bulk≤2^24→q0f CS 377 [q0v x,.int .i64 D] (.bool (q1L d x)):=by
 intro d
 induction d with
 | zero=>
  intro D hD hd x hx
  refine q04 qdD rfl ?_
  rw[q0e,q6b]
  (repeat' first|simp (disch:=omega) only[go_sem,qdD,enter,List.length_map]|(apply spl<;>intro h<;>try simp (disch:=omega) only[go_sem,h]))
  all_goals omega
 | succ d ih=>
  intro D hD hd x hx
  have L:=Pat.lens hx
  have hal:=L.args
  have hf:=qcJ x hx
  rw[q4a]
  refine q04 qdD rfl ?_
  rw[q0e] at hf ⊢
  cases hb:q4H x with
  | false=>
   rw[hb] at hf
   rw[Bool.false_and]
   (repeat' first|simp (disch:=omega) only[go_sem,qdD,enter,List.length_map]|refine q00 _ (hf) ?_|(apply spl<;>intro h<;>try simp (disch:=omega) only[go_sem,h]))
   all_goals omega
  | true=>
   rw[hb] at hf
   rw[Bool.true_and]
   (repeat' first|simp (disch:=omega) only[go_sem,qdD,enter,List.length_map]|refine q00 _ (hf) ?_|(apply spl<;>intro h<;>try simp (disch:=omega) only[go_sem,h]))
   all_goals try omega
   refine q08 (α:=Nat) (fun k=>{ tmps:=q0i 27 [(1,.int .i64 D),(15,.tsl 6 (x.a.map q0v)),(16,.int .i64 x.a.length),(17,.int .i64 k)],heap:=[],base:=0 }) (fun k=>k≤x.a.length∧(x.a.take k).all (q1L d)=true) (fun k=>x.a.length-k) 0 rfl ⟨Nat.zero_le _,rfl⟩ ?_
   rintro k ⟨hk,ha⟩
   try rw[q0e]
   by_cases hlt:k<x.a.length
   ·obtain ⟨y,hy⟩:=q06 hlt
    have hym:=List.mem_of_getElem? hy
    have hy2:=q09 (g:=q0v) hy
    have hr:=ih (D-1) (by omega) (by omega) y (by have:=L.kids y hym; omega)
    rw[q0e] at hy2 hr
    cases hc:q1L d y with
    | true=>
     rw[hc] at hr
     (repeat' first|simp (disch:=omega) only[go_sem,hy2,List.length_map]|refine q00 _ (hr) ?_|(apply spl<;>intro h<;>try simp (disch:=omega) only[go_sem,h]))
     all_goals try omega
     refine ⟨k+1,?_,⟨hlt,q0A hy ha hc⟩,by omega⟩
     try rw[q0e x]
     rfl
    | false=>
     rw[hc] at hr
     rw[q3o hy hc]
     (repeat' first|simp (disch:=omega) only[go_sem,hy2,List.length_map]|refine q00 _ (hr) ?_|(apply spl<;>intro h<;>try simp (disch:=omega) only[go_sem,h]))
     all_goals omega
   ·rw[q0C hlt hk] at ha
    rw[ha]
    (repeat' first|simp (disch:=omega) only[go_sem,List.length_map]|(apply spl<;>intro h<;>try simp (disch:=omega) only[go_sem,h]))
theorem qbw : ∀ (d:Nat) (D:Int),D=d→d<2^30→∀ x:Pat,x.bulk≤2^24→q0f CS 360 [q0v x,.int .i64 D] (.bool (q1L d x)):=by
 intro d
 induction d with
 | zero=>
  intro D hD hd x hx
  refine q04 qcQ rfl ?_
  rw[q0e,q6b]
  (repeat' first|simp (disch:=omega) only[go_sem,qcQ,enter,List.length_map]|(apply spl<;>intro h<;>try simp (disch:=omega) only[go_sem,h]))
  all_goals omega
 | succ d ih=>
  intro D hD hd x hx
  have L:=Pat.lens hx
  have hal:=L.args
  have hf:=q8J x hx
  rw[q4a]
  refine q04 qcQ rfl ?_
  rw[q0e] at hf ⊢
  cases hb:q4H x with
  | false=>
   rw[hb] at hf
   rw[Bool.false_and]
   (repeat' first|simp (disch:=omega) only[go_sem,qcQ,enter,List.length_map]|refine q00 _ (hf) ?_|(apply spl<;>intro h<;>try simp (disch:=omega) only[go_sem,h]))
   all_goals omega
  | true=>
   rw[hb] at hf
   rw[Bool.true_and]
   (repeat' first|simp (disch:=omega) only[go_sem,qcQ,enter,List.length_map]|refine q00 _ (hf) ?_|(apply spl<;>intro h<;>try simp (disch:=omega) only[go_sem,h]))
   all_goals try omega
   refine q08 (α:=Nat) (fun k=>{ tmps:=q0i 29 [(1,.int .i64 D),(2,.ptr 6 0 0 0),(5,.int .i64 k)],heap:=[.row 6 [q0v x] false true 0],base:=0 }) (fun k=>k≤x.a.length∧(x.a.take k).all (q1L d)=true) (fun k=>x.a.length-k) 0 (by rw[q0e]; rfl) ⟨Nat.zero_le _,rfl⟩ ?_
   rintro k ⟨hk,ha⟩
   try rw[q0e]
   by_cases hlt:k<x.a.length
   ·obtain ⟨y,hy⟩:=q06 hlt
    have hym:=List.mem_of_getElem? hy
    have hy2:=q09 (g:=q0v) hy
    have hr:=ih (D-1) (by omega) (by omega) y (by have:=L.kids y hym; omega)
    rw[q0e] at hy2 hr
    cases hc:q1L d y with
    | true=>
     rw[hc] at hr
     (repeat' first|simp (disch:=omega) only[go_sem,hy2,List.length_map]|refine q00 _ (hr) ?_|(apply spl<;>intro h<;>try simp (disch:=omega) only[go_sem,h]))
     all_goals try omega
     refine ⟨k+1,?_,⟨hlt,q0A hy ha hc⟩,by omega⟩
     try rw[q0e x]
     rfl
    | false=>
     rw[hc] at hr
     rw[q3o hy hc]
     (repeat' first|simp (disch:=omega) only[go_sem,hy2,List.length_map]|refine q00 _ (hr) ?_|(apply spl<;>intro h<;>try simp (disch:=omega) only[go_sem,h]))
     all_goals omega
   ·rw[q0C hlt hk] at ha
    rw[ha]
    (repeat' first|simp (disch:=omega) only[go_sem,List.length_map]|(apply spl<;>intro h<;>try simp (disch:=omega) only[go_sem,h]))
def qcM (p:Pat):Bool:=q1L 48 p && decide ((qbc 48 p:Int)≤512)
theorem qaV (x:Pat) (hx:x.bulk≤2^24):q0f CS 358 [q0v x] (.bool (qcM x)):=by
 have h1:=qid 48 48 rfl (by decide) x hx
 have h2:=qgm 48 48 rfl (by decide) x hx
 refine q04 qhz rfl ?_
 unfold qcM
 rw[q0e] at h1 h2 ⊢
 cases hb:q1L 48 x<;>rw[hb] at h1
 ·(repeat' first|simp (disch:=omega) only[go_sem,qhz,enter]|refine q00 _ (h1) ?_|refine q00 _ (h2) ?_|(apply spl<;>intro h<;>try simp (disch:=omega) only[go_sem,h]))
 ·(repeat' first|simp (disch:=omega) only[go_sem,qhz,enter]|refine q00 _ (h1) ?_|refine q00 _ (h2) ?_|(apply spl<;>intro h<;>try simp (disch:=omega) only[go_sem,h]))
theorem q85 (x:Pat) (hx:x.bulk≤2^24):q0f CS 340 [q0v x] (.bool (qcM x)):=by
 have h1:=qbw 48 48 rfl (by decide) x hx
 have h2:=qbm x hx
 refine q04 qgy rfl ?_
 unfold qcM
 rw[q0e] at h1 h2 ⊢
 cases hb:q1L 48 x<;>rw[hb] at h1
 ·(repeat' first|simp (disch:=omega) only[go_sem,qgy,enter]|refine q00 _ (h1) ?_|refine q00 _ (h2) ?_|(apply spl<;>intro h<;>try simp (disch:=omega) only[go_sem,h]))
 ·(repeat' first|simp (disch:=omega) only[go_sem,qgy,enter]|refine q00 _ (h1) ?_|refine q00 _ (h2) ?_|(apply spl<;>intro h<;>try simp (disch:=omega) only[go_sem,h]))
def q1E (p:Pat):Bool:=decide (p.s.op=0∧p.s.lo=0∧p.s.hi=0∧p.s.min=0∧p.s.max=0∧p.a.length=0)
theorem q8T (x:Pat) (hx:x.bulk≤2^24):q0f CS 523 [q0v x,.agg [.int .i64 0,.int .i64 0,.int .i64 0,.int .i64 0,.int .i64 0,.tsl 6 []]] (.bool (q1E x)):=by
 have L:=Pat.lens hx
 have hal:=L.args
 have h:q0f CS 567 [q0v x,.agg [.int .i64 0,.int .i64 0,.int .i64 0,.int .i64 0,.int .i64 0,.tsl 6 []],.int .i64 48] (.bool (q1E x)):=by
  refine q04 qg1 rfl ?_
  rw[q0e]
  unfold q1E
  (repeat' first|simp (disch:=omega) only[go_sem,qg1,enter,List.length_map]|(apply spl<;>intro h<;>try simp (disch:=omega) only[go_sem,h]))
  all_goals first
   | exact qgf (by omega)
   | exact qfp (by omega)
   | exact qas (by omega)
   | exact qge (by omega)
   | exact q9I (by omega)
   | exact qgg (by omega)
   | skip
  refine q08 (α:=Unit) (fun _=>{ tmps:=q0i 75 [(2,.int .i64 48),(3,.ptr 6 0 0 0),(4,.ptr 6 1 0 0),(7,.int .i64 0)],heap:=[.row 6 [.agg [.int .i64 0,.int .i64 0,.int .i64 0,.int .i64 0,.int .i64 0,.tsl 6 (x.a.map q0v)]] false true 0,.row 6 [.agg [.int .i64 0,.int .i64 0,.int .i64 0,.int .i64 0,.int .i64 0,.tsl 6 []]] false true 1],base:=0 }) (fun _=>True) (fun _=>0) () rfl trivial ?_
  intro _ _
  (repeat' first|simp (disch:=omega) only[go_sem,List.length_map]|(apply spl<;>intro h<;>try simp (disch:=omega) only[go_sem,h]))
  all_goals first
   | exact qgf (by omega)
   | exact qfp (by omega)
   | exact qas (by omega)
   | exact qge (by omega)
   | exact q9I (by omega)
   | exact qgg (by omega)
   | skip
 refine q04 qg4 rfl ?_
 rw[q0e] at h ⊢
 (repeat' first|simp (disch:=omega) only[go_sem,qg4,enter]|refine q00 _ (h) ?_|(apply spl<;>intro h<;>try simp (disch:=omega) only[go_sem,h]))
end Ago
set_option maxRecDepth 100000
set_option maxHeartbeats 4000000
namespace Ago
open Go (IntKind)
def q6S (b:Bnd):Bool:=if b.set=true then q0Q b.num else !b.num.neg && b.num.digits == [] && b.num.exp == 0 && !b.opn
def q86 (p:Prt):Bool:=q6S p.lo && q6S p.hi && decide (0≤p.sort) && decide (p.sort≤2)
def qga (l:List Prt):Bool:=decide (l.length≤256) && l.all q86
theorem qej (b:Bnd) (hs:b.num.digits.length<2^31):q0f CS 262 [q9C b] (.bool (q6S b)):=by
 have hd:=upS (q4T b.num hs)
 refine q04 qfy rfl ?_
 obtain ⟨set,⟨neg,ds,exp⟩,opn⟩:=b
 simp only[q9C,q11] at *
 cases set
 ·(repeat' first|simp (disch:=omega) only[go_sem,qfy,enter]|(apply spl<;>intro h<;>try simp (disch:=omega) only[go_sem,h]))
  all_goals (try simp [q6S,Bool.and_assoc])
 ·(repeat' first|simp (disch:=omega) only[go_sem,qfy,enter]|refine q00 _ (hd) ?_|(apply spl<;>intro h<;>try simp (disch:=omega) only[go_sem,h]))
  all_goals (try simp [q6S,Bool.and_assoc])
theorem qhf (b:Bnd) (hs:b.num.digits.length<2^31):q0f CS 638 [q9C b] (.bool (q6S b)):=by
 have hd:=upS (qbh b.num hs)
 refine q04 qfB rfl ?_
 obtain ⟨set,⟨neg,ds,exp⟩,opn⟩:=b
 simp only[q9C,q11] at *
 cases set
 ·(repeat' first|simp (disch:=omega) only[go_sem,qfB,enter]|(apply spl<;>intro h<;>try simp (disch:=omega) only[go_sem,h]))
  all_goals (try simp [q6S,Bool.and_assoc])
 ·(repeat' first|simp (disch:=omega) only[go_sem,qfB,enter]|refine q00 _ (hd) ?_|(apply spl<;>intro h<;>try simp (disch:=omega) only[go_sem,h]))
  all_goals (try simp [q6S,Bool.and_assoc])
theorem qkQ (p:Prt) (h1:p.lo.num.digits.length<2^31) (h2:p.hi.num.digits.length<2^31):q0f CS 250 [q0p p] (.bool (q86 p)):=by
 have h1:=qej p.lo h1
 have h2:=qej p.hi h2
 refine q04 qcF rfl ?_
 obtain ⟨⟨s1,⟨n1,d1,e1⟩,o1⟩,⟨s2,⟨n2,d2,e2⟩,o2⟩,sort⟩:=p
 simp only[q9C,q0p] at *
 unfold q86
 cases hb1:q6S ⟨s1,⟨n1,d1,e1⟩,o1⟩
 ·rw[hb1] at h1
  (repeat' first|simp (disch:=omega) only[go_sem,qcF,enter]|refine q00 _ (h1) ?_|(apply spl<;>intro h<;>try simp (disch:=omega) only[go_sem,h]))
 ·rw[hb1] at h1
  cases hb2:q6S ⟨s2,⟨n2,d2,e2⟩,o2⟩
  ·rw[hb2] at h2
   (repeat' first|simp (disch:=omega) only[go_sem,qcF,enter]|refine q00 _ (h1) ?_|refine q00 _ (h2) ?_|(apply spl<;>intro h<;>try simp (disch:=omega) only[go_sem,h]))
  ·rw[hb2] at h2
   (repeat' first|simp (disch:=omega) only[go_sem,qcF,enter]|refine q00 _ (h1) ?_|refine q00 _ (h2) ?_|(apply spl<;>intro h<;>try simp (disch:=omega) only[go_sem,h]))
   all_goals (simp; try omega)
theorem qmR (p:Prt) (h1:p.lo.num.digits.length<2^31) (h2:p.hi.num.digits.length<2^31):q0f CS 625 [q0p p] (.bool (q86 p)):=by
 have h1:=qhf p.lo h1
 have h2:=qhf p.hi h2
 refine q04 qdA rfl ?_
 obtain ⟨⟨s1,⟨n1,d1,e1⟩,o1⟩,⟨s2,⟨n2,d2,e2⟩,o2⟩,sort⟩:=p
 simp only[q9C,q0p] at *
 unfold q86
 cases hb1:q6S ⟨s1,⟨n1,d1,e1⟩,o1⟩
 ·rw[hb1] at h1
  (repeat' first|simp (disch:=omega) only[go_sem,qdA,enter]|refine q00 _ (h1) ?_|(apply spl<;>intro h<;>try simp (disch:=omega) only[go_sem,h]))
 ·rw[hb1] at h1
  cases hb2:q6S ⟨s2,⟨n2,d2,e2⟩,o2⟩
  ·rw[hb2] at h2
   (repeat' first|simp (disch:=omega) only[go_sem,qdA,enter]|refine q00 _ (h1) ?_|refine q00 _ (h2) ?_|(apply spl<;>intro h<;>try simp (disch:=omega) only[go_sem,h]))
  ·rw[hb2] at h2
   (repeat' first|simp (disch:=omega) only[go_sem,qdA,enter]|refine q00 _ (h1) ?_|refine q00 _ (h2) ?_|(apply spl<;>intro h<;>try simp (disch:=omega) only[go_sem,h]))
   all_goals (simp; try omega)
def qmd (l:List Prt):Prop:=l.length<2^24∧∀ p,p∈l→p.lo.num.digits.length<2^31∧p.hi.num.digits.length<2^31
theorem qjm (l:List Prt) (hl:qmd l):q0f CS 229 [q5N l] (.bool (qga l)):=by
 obtain ⟨hl1,hl2⟩:=hl
 refine q04 qg3 rfl ?_
 unfold q5N qga
 by_cases h256:l.length≤256
 case neg=>
  rw[decide_eq_false h256]
  (repeat' first|simp (disch:=omega) only[go_sem,qg3,enter,List.length_map]|(apply spl<;>intro h<;>try simp (disch:=omega) only[go_sem,h]))
  all_goals omega
 rw[decide_eq_true h256,Bool.true_and]
 (repeat' first|simp (disch:=omega) only[go_sem,qg3,enter,List.length_map]|(apply spl<;>intro h<;>try simp (disch:=omega) only[go_sem,h]))
 all_goals try omega
 refine q08 (α:=Nat) (fun k=>{ tmps:=q0i 20 [(10,.tsl 11 (l.map q0p)),(11,.int .i64 l.length),(12,.int .i64 k)],heap:=[],base:=0 }) (fun k=>k≤l.length∧(l.take k).all q86=true) (fun k=>l.length-k) 0 rfl ⟨Nat.zero_le _,rfl⟩ ?_
 rintro k ⟨hk,hd⟩
 by_cases hlt:k<l.length
 ·obtain ⟨p,hp⟩:=q06 hlt
  have hp2:=q09 (g:=q0p) hp
  obtain ⟨q1,q2⟩:=hl2 p (List.mem_of_getElem? hp)
  have hr:=qkQ p q1 q2
  simp only[q0p] at hp2 hr
  cases hb:q86 p with
  | true=>
   rw[hb] at hr
   (repeat' first|simp (disch:=omega) only[go_sem,hp2,List.length_map]|refine q00 _ (hr) ?_|(apply spl<;>intro h<;>try simp (disch:=omega) only[go_sem,h]))
   all_goals try omega
   exact ⟨k+1,rfl,⟨hlt,q0A hp hd hb⟩,by omega⟩
  | false=>
   rw[hb] at hr
   have hn:l.all q86=false:=q3o hp hb
   rw[hn]
   (repeat' first|simp (disch:=omega) only[go_sem,hp2,List.length_map]|refine q00 _ (hr) ?_|(apply spl<;>intro h<;>try simp (disch:=omega) only[go_sem,h]))
   all_goals omega
 ·rw[q0C hlt hk] at hd
  rw[hd]
  (repeat' first|simp (disch:=omega) only[go_sem,List.length_map]|(apply spl<;>intro h<;>try simp (disch:=omega) only[go_sem,h]))
  all_goals omega
theorem qlS (l:List Prt) (hl:qmd l):q0f CS 600 [q5N l] (.bool (qga l)):=by
 obtain ⟨hl1,hl2⟩:=hl
 refine q04 qiq rfl ?_
 unfold q5N qga
 (repeat' first|simp (disch:=omega) only[go_sem,qiq,enter,List.length_map]|(apply spl<;>intro h<;>try simp (disch:=omega) only[go_sem,h]))
 refine q08 (α:=Nat) (fun k=>{ tmps:=q0i 22 [(1,.ptr 1 0 0 0),(3,.int .i64 k)],heap:=[.row 1 [.agg [.tsl 11 (l.map q0p)]] false true 0],base:=0 }) (fun k=>k≤l.length∧(l.take k).all q86=true) (fun k=>l.length-k) 0 rfl ⟨Nat.zero_le _,rfl⟩ ?_
 rintro k ⟨hk,hd⟩
 by_cases hlt:k<l.length
 ·obtain ⟨p,hp⟩:=q06 hlt
  have hp2:=q09 (g:=q0p) hp
  obtain ⟨q1,q2⟩:=hl2 p (List.mem_of_getElem? hp)
  have hr:=qmR p q1 q2
  simp only[q0p] at hp2 hr
  cases hb:q86 p with
  | true=>
   rw[hb] at hr
   (repeat' first|simp (disch:=omega) only[go_sem,hp2,List.length_map]|refine q00 _ (hr) ?_|(apply spl<;>intro h<;>try simp (disch:=omega) only[go_sem,h]))
   all_goals try omega
   exact ⟨k+1,rfl,⟨hlt,q0A hp hd hb⟩,by omega⟩
  | false=>
   rw[hb] at hr
   have hn:l.all q86=false:=q3o hp hb
   rw[hn,Bool.and_false]
   (repeat' first|simp (disch:=omega) only[go_sem,hp2,List.length_map]|refine q00 _ (hr) ?_|(apply spl<;>intro h<;>try simp (disch:=omega) only[go_sem,h]))
   all_goals omega
 ·rw[q0C hlt hk] at hd
  rw[hd,Bool.and_true]
  (repeat' first|simp (disch:=omega) only[go_sem,List.length_map]|(apply spl<;>intro h<;>try simp (disch:=omega) only[go_sem,h]))
  all_goals (first | omega | (simp; omega))
end Ago
