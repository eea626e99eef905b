/- Infer: the context in which schemas,decimals and the functions of Infer live. -/
import Derived.Test.YtjeahlpkonkjiaaGreatDoorCodeI
import Derived.Test.YtjeahlpkonkjiaaGreatDoorRunJ
import Derived.Test.YtjeahlpkonkjiaaGreatDoorRunG
import Derived.Test.YtjeahlpkonkjiaaGreatDoorRunD
import Derived.Test.YtjeahlpkonkjiaaGreatDoorRunC
import Derived.Test.YtjeahlpkonkjiaaGreatDoorRunA
import Derived.Test.YtjeahlpkonkjiaaGreatDoorRunZ
set_option linter.unusedSimpArgs false
set_option linter.unusedVariables false
set_option maxRecDepth 100000
set_option maxHeartbeats 4000000
namespace Ago
open Go (IntKind)
theorem qxH {g:J} (h:BS CS g):BS CI0 g:=qbG (C:=CS) (C':=CI0) (fun f fn h=>by
 have h:qaW f=some fn:=h
 show qaR f=some fn
 unfold qaR qi7
 rw[h]) (fun _ _ _ _ _ h=>h) (fun f ts v h=>by
 rcases h with h | ⟨h1,a,b,rfl,rfl⟩ | ⟨h1,h2⟩
 ·exact Or.inl (Or.inl h)
 ·refine Or.inr ⟨quI,?_,rfl⟩
  have h1:f=272:=by simpa [csQ] using h1
  rw[h1]
  rfl
 ·refine Or.inl (Or.inr (Or.inr ⟨?_,h2⟩))
  have h1:f=551:=by simpa [lnQ] using h1
  rw[h1]
  rfl) h
theorem qtC {f:Nat} {ts:List AV} {v:AV} (h:q0e CS f ts v):q0e CI0 f ts v:=qxH h
theorem qsp {f:Nat} {fn:AFn} (h:qgc f=some fn):qaR f=some fn:=by
 have h2:qi7 f=some fn:=by
  unfold qi7
  unfold qgc at h
  cases hc:code f with
  | some a=>
   rw[hc] at h
   simp only at h
   have:qaW f=some a:=by
    unfold qaW
    rw[hc]
   rw[this]
   exact h
  | none=>
   rw[hc] at h
   simp only at h
   unfold qqB at h
   split at h<;>first | (cases h; rfl) | cases h
 unfold qaR
 rw[h2]
theorem qxN {f:Nat} {ts:List AV} {v:AV} (h:q0e CN f ts v):q0e CI0 f ts v:=qbG (C:=CN) (C':=CI0) (fun f fn h=>qsp h) (fun f x v H H' h=>by
 obtain ⟨p,x,h,h2⟩:=h
 refine Or.inl ⟨p,x,?_,h2⟩
 unfold qxC at h
 split at h
 ·exact h
 ·cases h) (fun f ts v h=>by
 rcases h with ⟨p,l,h,h2⟩ | h
 ·refine Or.inl (Or.inl ⟨p,l,?_,h2⟩)
  unfold qym at h
  split at h
  ·exact h
  ·cases h
 ·exact Or.inr h) h
theorem qy3 {f:Nat} {ts:List AV} {v:AV} (h:q0e CI0 f ts v):q0e CI f ts v:=qad (qgs h)
theorem qei {f:Nat} {ts:List AV} {v:AV} (h:q0e CS f ts v):q0e CI f ts v:=qy3 (qtC h)
theorem q9h {f:Nat} {ts:List AV} {v:AV} (h:q0e CN f ts v):q0e CI f ts v:=qy3 (qxN h)
theorem qrz {f:Nat} {a:List AV} {H H':Heap} {v:AV} (hf:qaW f=none) (h:q1K CS f a H v H'):q1K CC f a H v H':=by
 cases h with
 | prim h=>exact .prim h
 | run hf2 _ _ _=>
  have hf2:qaW f=some _:=hf2
  rw[hf] at hf2
  cases hf2
theorem qkj {cs:List AV} {k:Int} {H:Heap} (hk:k≠4∨H.length≠3) (h:q0e CC 985 [.agg (.int .i64 k::cs)] (.agg (.int .i64 k::cs))) (hf:frz H 6 (.agg (.int .i64 k::cs))=some (.agg (.int .i64 k::cs))) (ha:q0F H [.agg (.int .i64 k::cs)] (.agg (.int .i64 k::cs))=H) :
  q1K CI 985 [.agg (.int .i64 k::cs)] H (.agg (.int .i64 k::cs)) H:=by
 refine qnd (.inr ⟨?_,h,?_,ha.symm⟩)
 ·rcases hk with hk | hk
  ·have:qoB [.agg (.int .i64 k::cs)]=false:=by
    unfold qoB
    split
    ·rename_i h
     cases h
     exact absurd rfl hk
    ·rfl
   rw[this]
   rfl
  ·have:(H.length == 3)=false:=by simpa using hk
   rw[this,Vi]
 ·simp only[q1N,hf]
theorem qqp {cs:List AV} {H H':Heap} {v:AV} (hl:H.length=3) (h:q1K CC 985 [.agg (.int .i64 4::cs)] H v H'):q1K CI 985 [.agg (.int .i64 4::cs)] H v H':=by
 refine qnd (.inl ⟨?_,h⟩)
 rw[hl]
 rfl
end Ago
set_option maxRecDepth 100000
set_option maxHeartbeats 4000000
namespace Ago
open Go (IntKind)
def q1d (x:Sch):Int:=
 if x.s.op=3 then (if x.s.mask=1 then 0 else if x.s.mask=2 then 1 else if x.s.mask=8 then 3 else if x.s.mask=32 then 5 else -1)
 else if x.s.op=4 then 2 else if x.s.op=5 then 4 else if x.s.op=9 then 6 else if x.s.op=10 then 7 else -1
theorem q4k (x:Sch):q0e CI 995 [q03 x] (.int .i64 (q1d x)):=by
 refine q04 qnF rfl ?_
 rw[q01]
 unfold q1d
 (repeat' first|simp (disch:=omega) only[go_sem,qnF,enter]|(apply spl<;>intro h<;>try simp (disch:=omega) only[go_sem,h]))
 all_goals simp_all
def kfM (x:Sch) (k:Int):Option Sch:=x.a.find? fun y=>decide (q1d y=k)
theorem qpf:IntKind.i64.wrap (1 * 2^min 0 64)=1:=by decide
theorem qoI:IntKind.i64.wrap (1 * 2^min 1 64)=2:=by decide
theorem qo0:IntKind.i64.wrap (1 * 2^min 3 64)=8:=by decide
theorem qoN:IntKind.i64.wrap (1 * 2^min 5 64)=32:=by decide
theorem q8k (x:Sch):q0e CI 993 [q03 x] (.int .i64 (q1d x)):=by
 refine q04 ql6 rfl ?_
 unfold q1d
 by_cases h3:x.s.op=3
 ·rw[if_pos h3,q01]
  (repeat' first|simp (disch:=omega) only[go_sem,ql6,enter,h3]|(apply spl<;>intro h<;>try simp (disch:=omega) only[go_sem,h]))
  refine q06 (α:=Nat) (fun a=>{ tmps:=q0h 30 [(1,.ptr 15 0 0 0),(9,.sref 1 1 0 4),(10,.int .i64 4),(11,.int .i64 a)],heap:=[.row 15 [q03 x] false true 0,.row 1 [.int .i64 0,.int .i64 1,.int .i64 3,.int .i64 5] false true 1],base:=0 })
   (fun a=>a≤4∧(0<a→x.s.mask≠1)∧(1<a→x.s.mask≠2)∧(2<a→x.s.mask≠8)∧(3<a→x.s.mask≠32)) (fun a=>4-a) 0 (by rw[q01,h3]; rfl) (by omega) ?_
  rintro k ⟨hk,k1,k2,k3,k4⟩
  rw[q01]
  obtain rfl | rfl | rfl | rfl | rfl:k=0∨k=1∨k=2∨k=3∨k=4:=by omega
  ·by_cases hm:x.s.mask=1
   ·(repeat' first|simp (disch:=omega) only[go_sem,hm,qpf,qoI,qo0,qoN])
   ·(repeat' first|simp (disch:=omega) only[go_sem,hm,qpf,qoI,qo0,qoN]|(apply spl<;>intro h<;>try simp (disch:=omega) only[go_sem,h]))
    exact ⟨1,rfl,by refine ⟨?_,?_,?_,?_,?_⟩<;>first | omega | simp_all,by omega⟩
  ·have:=k1 (by omega)
   by_cases hm:x.s.mask=2
   ·(repeat' first|simp (disch:=omega) only[go_sem,hm,qpf,qoI,qo0,qoN])
   ·(repeat' first|simp (disch:=omega) only[go_sem,hm,qpf,qoI,qo0,qoN]|(apply spl<;>intro h<;>try simp (disch:=omega) only[go_sem,h]))
    exact ⟨2,rfl,by refine ⟨?_,?_,?_,?_,?_⟩<;>first | omega | simp_all,by omega⟩
  ·have:=k1 (by omega)
   have:=k2 (by omega)
   by_cases hm:x.s.mask=8
   ·(repeat' first|simp (disch:=omega) only[go_sem,hm,qpf,qoI,qo0,qoN])
   ·(repeat' first|simp (disch:=omega) only[go_sem,hm,qpf,qoI,qo0,qoN]|(apply spl<;>intro h<;>try simp (disch:=omega) only[go_sem,h]))
    exact ⟨3,rfl,by refine ⟨?_,?_,?_,?_,?_⟩<;>first | omega | simp_all,by omega⟩
  ·have:=k1 (by omega)
   have:=k2 (by omega)
   have:=k3 (by omega)
   by_cases hm:x.s.mask=32
   ·(repeat' first|simp (disch:=omega) only[go_sem,hm,qpf,qoI,qo0,qoN])
   ·(repeat' first|simp (disch:=omega) only[go_sem,hm,qpf,qoI,qo0,qoN]|(apply spl<;>intro h<;>try simp (disch:=omega) only[go_sem,h]))
    exact ⟨4,rfl,by refine ⟨?_,?_,?_,?_,?_⟩<;>first | omega | simp_all,by omega⟩
  ·have e1:=k1 (by omega)
   have e2:=k2 (by omega)
   have e3:=k3 (by omega)
   have e4:=k4 (by omega)
   (repeat' first|simp (disch:=omega) only[go_sem,qpf,qoI,qo0,qoN,e1,e2,e3,e4])
 ·rw[if_neg h3,q01]
  (repeat' first|simp (disch:=omega) only[go_sem,ql6,enter,h3]|(apply spl<;>intro h<;>try simp (disch:=omega) only[go_sem,h]))
  all_goals simp_all
def q14:AV:=.agg [.int .i64 0,.int .i64 0,.int .i64 0,.int .i64 0,.str [],.snil 11,.int .i64 0,.int .i64 0,.int .i64 0,.int .i64 0,.int .i64 0,.snil 6,.snil 13,.snil 17,.snil 15]
theorem qh8 {x:Sch} {k:Int} (h : ∀ y,y∈x.a→q1d y≠k):kfM x k=none:=by
 unfold kfM
 rw[List.find?_eq_none]
 intro y hy
 simpa using h y hy
theorem qr3 {x:Sch} {k:Int} {i:Nat} {y:Sch} (hy:x.a[i]?=some y) (hk:q1d y=k) (h : ∀ z,z∈x.a.take i→q1d z≠k):kfM x k=some y:=by
 unfold kfM
 have e:x.a=x.a.take i++x.a.drop i:=(Ve i x.a).symm
 rw[e,List.find?_append,List.find?_eq_none.2 (by intro z hz; simpa using h z hz),q6n hy]
 simp [hk]
theorem qg7 (x:Sch) (k:Int) (hx:x.bulk≤2^24):q0e CI 986 [q03 x,.int .i64 k] (.tup [q03 ((kfM x k).getD zeroX),.bool (kfM x k).isSome]):=by
 have L:=Sch.lens hx
 have hal:=L.args
 refine q04 qo6 rfl ?_
 rw[q01]
 (repeat' first|simp (disch:=omega) only[go_sem,qo6,enter,Ka]|(apply spl<;>intro h<;>try simp (disch:=omega) only[go_sem,h]))
 refine q06 (α:=Nat) (fun a=>{ tmps:=q0h 22 [(1,.int .i64 k),(4,.ptr 15 0 0 0),(9,.tsl 15 (x.a.map q03)),(10,.int .i64 x.a.length),(11,.int .i64 a)],heap:=[.row 15 [q14] false true 0],base:=0 })
  (fun a=>a≤x.a.length∧∀ z,z∈x.a.take a→q1d z≠k) (fun a=>x.a.length-a) 0 rfl ⟨Km _,by simp⟩ ?_
 rintro i ⟨hi,hz⟩
 by_cases hlt:i<x.a.length
 ·obtain ⟨y,hy⟩:=q05 hlt
  have hy2:=q09 (g:=q03) hy
  have hk:=q8k y
  rw[q01 y] at hy2 hk
  by_cases hkk:q1d y=k
  ·rw[qr3 hy hkk hz,K4]
   rw[hkk] at hk
   rw[q01 y]
   (repeat' first|simp (disch:=omega) only[go_sem,hy2,Ka,q14]|refine q00 _ (hk) ?_|(apply spl<;>intro h<;>try simp (disch:=omega) only[go_sem,h]))
   all_goals rfl
  ·(repeat' first|simp (disch:=omega) only[go_sem,hy2,Ka,q14,hkk]|refine q00 _ (hk) ?_|(apply spl<;>intro h<;>try simp (disch:=omega) only[go_sem,h]))
   refine ⟨i+1,rfl,⟨hlt,fun z hm=>?_⟩,by omega⟩
   rw[KB,hy] at hm
   rcases K7.1 hm with hm | hm
   ·exact hz z hm
   ·obtain rfl:z=y:=by simpa using hm
    exact hkk
 ·rw[qh8 (x:=x) (k:=k) (by rw[q0M hlt hi] at hz; exact hz),VU,q1e]
  (repeat' first|simp (disch:=omega) only[go_sem,Ka,q14]|(apply spl<;>intro h<;>try simp (disch:=omega) only[go_sem,h]))
  all_goals rfl
end Ago
set_option maxRecDepth 100000
set_option maxHeartbeats 32000000
namespace Ago
open Go (IntKind)
theorem q6C (x:Sch) (k:Int) (hx:x.bulk≤2^24):q0e CI 990 [q03 x,.int .i64 k] (.tup [q03 ((kfM x k).getD zeroX),.bool (kfM x k).isSome]):=by
 have L:=Sch.lens hx
 have hal:=L.args
 refine q04 qnE rfl ?_
 rw[q01]
 (repeat' first|simp (disch:=omega) only[go_sem,qnE,enter,Ka]|(apply spl<;>intro h<;>try simp (disch:=omega) only[go_sem,h]))
 refine q06 (α:=Nat) (fun a=>{ tmps:=q0h 28 [(1,.int .i64 k),(2,.ptr 15 0 0 0),(4,.ptr 15 1 0 0),(6,.int .i64 a)],heap:=[.row 15 [q03 x] false true 0,.row 15 [q14] false true 1],base:=0 })
  (fun a=>a≤x.a.length∧∀ z,z∈x.a.take a→q1d z≠k) (fun a=>x.a.length-a) 0 (by rw[q01]; rfl) ⟨Km _,by simp⟩ ?_
 rintro i ⟨hi,hz⟩
 by_cases hlt:i<x.a.length
 ·obtain ⟨y,hy⟩:=q05 hlt
  have hy2:=q09 (g:=q03) hy
  have hk:=q4k y
  rw[q01 y] at hy2 hk
  by_cases hkk:q1d y=k
  ·rw[qr3 hy hkk hz,K4]
   rw[hkk] at hk
   rw[q01 x,q01 y]
   (repeat' first|simp (disch:=omega) only[go_sem,hy2,Ka,q14]|refine q00 _ (hk) ?_|(apply spl<;>intro h<;>try simp (disch:=omega) only[go_sem,h]))
   all_goals rfl
  ·rw[q01 x]
   (repeat' first|simp (disch:=omega) only[go_sem,hy2,Ka,q14,hkk]|refine q00 _ (hk) ?_|(apply spl<;>intro h<;>try simp (disch:=omega) only[go_sem,h]))
   refine ⟨i+1,rfl,⟨hlt,fun z hm=>?_⟩,by omega⟩
   rw[KB,hy] at hm
   rcases K7.1 hm with hm | hm
   ·exact hz z hm
   ·obtain rfl:z=y:=by simpa using hm
    exact hkk
 ·rw[qh8 (x:=x) (k:=k) (by rw[q0M hlt hi] at hz; exact hz),VU,q1e,q01 x]
  (repeat' first|simp (disch:=omega) only[go_sem,Ka,q14]|(apply spl<;>intro h<;>try simp (disch:=omega) only[go_sem,h]))
  all_goals rfl
def noneX:Sch:=.mk ⟨2,0,0,0,[],[],.mk ⟨0,0,0,0,0⟩ [],[]⟩ [] []
theorem q0T:q03 noneX = .agg [.int .i64 2,.int .i64 0,.int .i64 0,.int .i64 0,.str [],.tsl 11 [],.int .i64 0,.int .i64 0,.int .i64 0,.int .i64 0,.int .i64 0,.tsl 6 [],.tsl 13 [],.tsl 17 [],.tsl 15 []]:=by
 rw[q01]
 rfl
theorem qcP:q0e CI 977 [] (q03 noneX):=by
 rw[q0T]
 refine q04 (C:=CI) qpW rfl ?_
 (repeat' first|simp (disch:=omega) only[go_sem,qpW,enter])
def qqJ (n0:Nat) (ahead:Heap) (t:List (Nat × AV)) (pre:List (Nat × Bool × List AV)) (cells:List AV→List AV):St:=
 { tmps:=q0h 54 ([(2,.ptr 15 n0 0 0),(3,.ptr 15 (n0+1) 0 0)]++t),heap:=ahead++[.row 15 [q14] false true n0,.row 15 [.agg (cells (qcF (n0+2) pre).1)] false (pre.all fun p=>p.2.1) (n0+1)]++(qcF (n0+2) pre).2,base:=0 }
theorem qgz : ∀ (n:Nat) (x:Sch),x.bulk≤n→n≤2^24→q0e CC 985 [q03 x] (q03 x):=by
 intro n
 induction n with
 | zero=>
  intro x h1 h2
  have:1≤x.bulk:=q1r _
  omega
 | succ n ih=>
  intro x h1 h2
  have L:=Sch.lens (v:=x) (N:=2^24) (by omega)
  have l1:=L.parts
  have l3:=L.props
  have l4:=L.args
  have c1:=fun (H:Heap) (z:AV) (zs:List AV) (h:zs.length<2^24)=>qrz rfl (q9O (f:=216) (n:=11) (b:=104) rfl (by decide) H z zs h)
  have d1:=fun (H:Heap)=>qrz rfl (q8o (f:=216) (n:=11) (b:=104) rfl H)
  have ml1:(x.s.parts.map q0n).length=x.s.parts.length:=Ka ..
  refine q04 qjA rfl ?_
  rw[q01]
  rcases q5R q0n x.s.parts with ⟨hp,ep,np⟩ | ⟨p0,ps,hp,ep,np⟩
  all_goals
   rw[hp]
   (repeat' first|simp (disch:=omega) only[go_sem,qjA,enter,Ka]|(refine q0l _ _ (d1 _) ?_)|(refine q0l _ _ (c1 _ _ _ (by omega)) ?_)|(apply spl<;>intro h<;>try simp (disch:=omega) only[go_sem,h]))
   refine q06 (α:=Nat × List AV) (fun a=>qqJ 1 [.row 15 [q03 x] false true 0] [(1,.ptr 15 0 0 0),(18,.tsl 17 (x.p.map q0g)),(19,.int .i64 x.p.length),(20,.int .i64 a.1)] [(11,(x.s.parts.map q0n).isEmpty,x.s.parts.map q0n),(17,a.2.isEmpty,a.2)] fun c=>q3b x (c.getD 0 .dead) (.tsl 13 (x.s.vals.map q0u)) (c.getD 1 .dead) (.snil 15))
    (fun a=>a.1≤x.p.length∧a.2=(x.p.take a.1).map q0g) (fun a=>x.p.length-a.1) (0,[]) (by
     simp only[qqJ,hp,Ku,Kq,q1s,q3m,q3K,Kb,Kd]
     rw[q01,hp]
     rfl) ⟨Km _,by simp⟩ ?_
   rintro ⟨k,E⟩ ⟨hk,hE⟩
   simp only at hk hE
   rcases hEe:E with _ | ⟨e0,es⟩
   all_goals
    simp only[qqJ,q3b,hp,ep,hEe,Ku,Kq,q1s,q3m,q3K,Kb,Kd,VW,VX,Vc,VO,VJ,Vi,Kw,Ko,Ks]
    rw[q01,hp]
    by_cases hlt:k<x.p.length
    ·obtain ⟨y,hy⟩:=q05 hlt
     have hym:=Kc hy
     have hy2:=q09 (g:=q0g) hy
     have hr:=ih y.2 (by have:=(L.pkids y hym).1; omega) (by omega)
     have hnew:E++[q0g y]=(x.p.take (k+1)).map q0g:=by rw[hE,KB,hy]; simp
     have hEl:E.length=k:=by rw[hE]; simp; omega
     rw[hEe] at hnew hEl
     simp only[Kb,Kd] at hEl
     rw[q0f] at hy2
     rw[q01] at hr
     (repeat' first|simp (disch:=omega) only[go_sem,hy2,Ka,q14,Kb,Kd]|refine q00 _ (hr) ?_|(apply spl<;>intro h<;>try simp (disch:=omega) only[go_sem,h]))
     refine ⟨(k+1,_++[q0g y]),?_,⟨hlt,hnew⟩,by simp only; omega⟩
     simp only[qqJ,q3b,hp,ep,Ku,Kq,q1s,q3m,q3K,Kb,Kd,Kh,VW,VX,Vc,VO,VJ,Vi,Kw,Ko,Ks]
     rw[q0f y]
     rfl
    ·have hkl:k=x.p.length:=by omega
     have hE2:E=x.p.map q0g:=by rw[hE,hkl,Kx]
     have hEl:E.length=x.p.length:=by rw[hE2]; simp
     rw[hEe] at hEl hE2
     simp only[Kb,Kd] at hEl
     (repeat' first|simp (disch:=omega) only[go_sem,q14,Ka]|(apply spl<;>intro h<;>try simp (disch:=omega) only[go_sem,h]))
     refine q06 (α:=Nat × List AV) (fun a=>qqJ 0 [] [(39,.tsl 15 (x.a.map q03)),(40,.int .i64 x.a.length),(41,.int .i64 a.1)] [(11,(x.s.parts.map q0n).isEmpty,x.s.parts.map q0n),(17,(x.p.map q0g).isEmpty,x.p.map q0g),(15,a.2.isEmpty,a.2)] fun c=>q3b x (c.getD 0 .dead) (.tsl 13 (x.s.vals.map q0u)) (c.getD 1 .dead) (c.getD 2 .dead))
      (fun a=>a.1≤x.a.length∧a.2=(x.a.take a.1).map q03) (fun a=>x.a.length-a.1) (0,[]) (by
       simp only[qqJ,hp,←hE2,Ku,Kq,q1s,q3m,q3K,Kb,Kd]
       rfl) ⟨Km _,by simp⟩ ?_
     rintro ⟨j,F⟩ ⟨hj,hF⟩
     simp only at hj hF
     rcases hFe:F with _ | ⟨f0,fs⟩
     all_goals
      simp only[qqJ,q3b,hp,ep,←hE2,hFe,Ku,Kq,q1s,q3m,q3K,Kb,Kd,VW,VX,Vc,VO,VJ,Vi,Kw,Ko,Ks]
      by_cases hlt2:j<x.a.length
      ·obtain ⟨y,hy⟩:=q05 hlt2
       have hym:=Kc hy
       have hy2:=q09 (g:=q03) hy
       have hr:=ih y (by have:=L.kids y hym; omega) (by omega)
       have hnew:F++[q03 y]=(x.a.take (j+1)).map q03:=by rw[hF,KB,hy]; simp
       have hFl:F.length=j:=by rw[hF]; simp; omega
       rw[hFe] at hnew hFl
       simp only[Kb,Kd] at hFl
       rw[q01] at hy2 hr
       (repeat' first|simp (disch:=omega) only[go_sem,hy2,Ka,q14,Kb,Kd]|refine q00 _ (hr) ?_|(apply spl<;>intro h<;>try simp (disch:=omega) only[go_sem,h]))
       refine ⟨(j+1,_++[q03 y]),?_,⟨hlt2,hnew⟩,by simp only; omega⟩
       simp only[qqJ,q3b,hp,ep,←hE2,Ku,Kq,q1s,q3m,q3K,Kb,Kd,Kh,VW,VX,Vc,VO,VJ,Vi,Kw,Ko,Ks]
       rw[q01 y]
       rfl
      ·have hjl:j=x.a.length:=by omega
       have hF2:F=x.a.map q03:=by rw[hF,hjl,Kx]
       have hFl:F.length=x.a.length:=by rw[hF2]; simp
       rw[hFe] at hFl hF2
       simp only[Kb,Kd] at hFl
       rw[←hF2]
       (repeat' first|simp (disch:=omega) only[go_sem,q14,Kx,Ka,Kb])
       all_goals first | rfl | (simp; done)
end Ago
set_option maxRecDepth 100000
set_option maxHeartbeats 4000000
namespace Ago
open Go (IntKind)
def qgG:Pat:=.mk ⟨0,0,0,0,0⟩ []
def q1J (l:List Sch):Sch:=.mk ⟨12,0,0,0,[],[],qgG,[]⟩ [] l
def q4S (p:Prt):Sch:=.mk ⟨4,0,0,0,[],[p],qgG,[]⟩ [] []
def q2j (a b:Int):Sch:=.mk ⟨5,0,a,b,[],[],qgG,[]⟩ [] []
def q1X (a b:Int) (e:Sch):Sch:=.mk ⟨9,0,a,b,[],[],qgG,[]⟩ [] [e]
def q3T (p:List (PK × Sch)):Sch:=.mk ⟨10,0,0,0,[],[],qgG,[]⟩ p [noneX]
def q2Z (m:Int):Sch:=.mk ⟨3,m,0,0,[],[],qgG,[]⟩ [] []
def q5W (p q:Prt):Prt:=⟨if q24 q.lo.num p.lo.num<0 then q.lo else p.lo,if 0<q24 q.hi.num p.hi.num then q.hi else p.hi,if q.sort=0 then 0 else p.sort⟩
def q0Z (f:Sch→Sch→Sch):List (PK × Sch)→List (PK × Sch)→List (PK × Sch)
 | [],[]=>[]
 | x::a,[]=>(⟨x.1.key,false⟩,x.2)::q0Z f a []
 | [],y::b=>(⟨y.1.key,false⟩,y.2)::q0Z f [] b
 | x::a,y::b=>
  if Go.Op.bytesLess x.1.key y.1.key=true then (⟨x.1.key,false⟩,x.2)::q0Z f a (y::b)
  else if Go.Op.bytesLess y.1.key x.1.key=true then (⟨y.1.key,false⟩,y.2)::q0Z f (x::a) b
  else (⟨x.1.key,x.1.req && y.1.req⟩,f x.2 y.2)::q0Z f a b
termination_by a b=>a.length+b.length
def qlg (x:Sch):Sch:=x.a.headD noneX
def qeW (x:Sch):Prt:=x.s.parts.headD ⟨⟨false,⟨false,[],0⟩,false⟩,⟨false,⟨false,[],0⟩,false⟩,0⟩
def q3M (f:Sch→Sch→Sch) (x y:Sch):Sch:=
 if x.s.op=4 then q4S (q5W (qeW x) (qeW y))
 else if x.s.op=5 then q2j (min x.s.min y.s.min) (max x.s.max y.s.max)
 else if x.s.op=9 then q1X (min x.s.min y.s.min) (max x.s.max y.s.max) (f (qlg x) (qlg y))
 else if x.s.op=10 then q3T (q0Z f x.p y.p)
 else x
def q3i (f:Sch→Sch→Sch):Option Sch→Option Sch→List Sch
 | some x,some y=>[q3M f x y]
 | some x,none=>[x]
 | none,some y=>[y]
 | none,none=>[]
def q2w:Nat→Sch→Sch→Sch
 | 0,a,_=>a
 | n+1,a,b=>if a.s.op=2 then b else if b.s.op=2 then a else q1J ((List.range 8).flatMap fun (k:Nat)=>q3i (q2w n) (kfM a (k:Int)) (kfM b (k:Int)))
inductive MemF:Sch→Prop where
 | kind (m:Int):MemF (q2Z m)
 | num (p:Prt):q0c p.lo.num=true→q0c p.hi.num=true→MemF (q4S p)
 | text (a b:Int):MemF (q2j a b)
 | list0 (a b:Int):MemF (q1X a b noneX)
 | list (a b:Int) (l:List Sch):(∀ y,y∈l→MemF y)→MemF (q1X a b (q1J l))
 | map (p:List (PK × List Sch)):(∀ y,y∈p→∀ z,z∈y.2→MemF z)→MemF (q3T (p.map fun y=>(y.1,q1J y.2)))
def FamF (x:Sch):Prop:=∃ l,x=q1J l∧∀ y,y∈l→MemF y
def FamN (x:Sch):Prop:=x=noneX∨FamF x
end Ago
set_option maxRecDepth 100000
set_option maxHeartbeats 4000000
namespace Ago
open Go (IntKind)
section
variable {R:Nat→List AV→Heap→AV→Heap→Prop} {PR:Nat→List AV→AV→Prop}
def qx7 (R:Nat→List AV→Heap→AV→Heap→Prop) (PR:Nat→List AV→AV→Prop) (s s':St) (ls:List (List AOper)):Prop:=∀ l,l∈ls→q1a R PR l (fun t=>t=s') s
theorem q33 {s s':St}:qx7 R PR s s' []:=fun _ h=>by cases h
theorem q2i {s s':St} {l:List AOper} {ls:List (List AOper)} (h : @q0V s ⟨q1a R PR l fun t=>t=s'⟩) (h2:qx7 R PR s s' ls):qx7 R PR s s' (l::ls):=fun x hx=>by
 unfold q0V at h
 rcases KI.1 hx with rfl | hx
 ·exact h
 ·exact h2 x hx
theorem q39 {k:Nat} {l:List AOper} {ls:List (List AOper)} {Q:Ex→St→Prop} {s:St} (s':St) (h:qx7 R PR (s.keep k) s' (l::ls)) (h3 : @q0V { s' with rb:=0 } ⟨Q .normal⟩):aw R PR (.draw k (l::ls)) Q s:=by
 unfold q0V at h3
 exact ⟨s',by simp,h,h3⟩
end
def qax (d:Dec):Prt:=⟨⟨true,d,false⟩,⟨true,d,false⟩,if 0≤d.exp then 1 else 0⟩
theorem qlc (p q:Prt) (h1:q0c p.lo.num=true) (h2:q0c p.hi.num=true) (h3:q0c q.lo.num=true) (h4:q0c q.hi.num=true):q0e CI 1000 [q3I [p],q3I [q]] (q3I [q5W p q]):=by
 have c1:=q9h (q3J q.lo.num p.lo.num h3 h1)
 have c2:=q9h (q3J q.hi.num p.hi.num h4 h2)
 unfold q5W
 unfold q0b at c1 c2
 generalize q24 q.lo.num p.lo.num=k1 at *
 generalize q24 q.hi.num p.hi.num=k2 at *
 refine q04 qhW rfl ?_
 simp only[q3I,q0n,Kj,Kt]
 (repeat' first|simp (disch:=omega) only[go_sem,qhW,enter]|(apply spl<;>intro h<;>try simp (disch:=omega) only[go_sem,h]))
 refine q39 ?s1 ?g1 ?g2
 rotate_left
 case g1=>
  repeat' first | exact q33 | refine q2i ?_ ?_
  all_goals
   (repeat' first|simp (disch:=omega) only[go_sem,q3B]|(apply spl<;>intro h<;>try simp (disch:=omega) only[go_sem,h]))
   all_goals first | rfl | omega
 case g2=>
  by_cases e1:k1<0<;>by_cases e2:0<k2<;>by_cases e3:q.sort=0
  all_goals
   simp only[e1,e2,e3,if_true,if_false]
   (repeat' first|simp (disch:=omega) only[go_sem,e1,e2,e3]|refine q00 _ (c1) ?_|refine q00 _ (c2) ?_|(apply spl<;>intro h<;>try simp (disch:=omega) only[go_sem,h]))
   all_goals first | rfl | trace_state
end Ago
set_option maxRecDepth 100000
set_option maxHeartbeats 4000000
namespace Ago
open Go (IntKind)
theorem q45 (m:Int):q1d (q2Z m)≠2∧q1d (q2Z m)≠4∧q1d (q2Z m)≠6∧q1d (q2Z m)≠7:=by
 unfold q1d q2Z Sch.s
 simp only[if_true]
 repeat' split
 all_goals omega
theorem qh5 {l:List Sch} (h : ∀ y,y∈l→MemF y):FamF (q1J l):=⟨l,rfl,h⟩
theorem qcS {p:List (PK × Sch)} (h : ∀ y,y∈p→FamF y.2):MemF (q3T p):=by
 obtain ⟨q,rfl,hq⟩ : ∃ q:List (PK × List Sch),p=q.map (fun y=>(y.1,q1J y.2))∧∀ y,y∈q→∀ z,z∈y.2→MemF z:=by
  induction p with
  | nil=>exact ⟨[],rfl,fun y hy=>by cases hy⟩
  | cons x p ih=>
   obtain ⟨l,h1,h2⟩:=h x (Kn ..)
   obtain ⟨q,h3,h4⟩:=ih fun y hy=>h y (Kp _ hy)
   refine ⟨(x.1,l)::q,?_,fun y hy=>?_⟩
   ·rw[Kj,←h3,←h1]
   ·rcases KI.1 hy with rfl | hy
    ·exact h2
    ·exact h4 y hy
 exact .map q hq
theorem qh9 {p:List (PK × Sch)} (h:MemF (q3T p)) : ∀ y,y∈p→FamF y.2:=by
 generalize hx:q3T p=x at h
 cases h with
 | map q hq=>
  have hp:p=q.map fun y=>(y.1,q1J y.2):=congrArg Sch.p hx
  rw[hp]
  intro y hy
  obtain ⟨z,hz,rfl⟩:=K0.1 hy
  exact ⟨z.2,rfl,hq z hz⟩
 | _=>cases congrArg (fun x=>x.s.op) hx
def qn2 (f:Sch→Sch→Sch):Prop:=∀ a b,FamN a→FamN b→FamN (f a b)∧(FamF a→FamF b→FamF (f a b))
theorem q42 {f:Sch→Sch→Sch} (hf:qn2 f) : ∀ (n:Nat) (p q:List (PK × Sch)),p.length+q.length≤n→(∀ y,y∈p→FamF y.2)→(∀ y,y∈q→FamF y.2)→∀ y,y∈q0Z f p q→FamF y.2
 | n,[],[],_,_,_=>fun y hy=>by
  rw[q0Z] at hy
  cases hy
 | 0,x::p,q,hn,_,_=>by simp at hn
 | 0,[],x::q,hn,_,_=>by simp at hn
 | n+1,x::p,[],hn,hp,hq=>fun y hy=>by
  rw[q0Z] at hy
  rcases KI.1 hy with rfl | hy
  ·exact hp x (Kn ..)
  ·exact q42 hf n p [] (by simp at hn ⊢; omega) (fun y h=>hp y (Kp _ h)) hq y hy
 | n+1,[],x::q,hn,hp,hq=>fun y hy=>by
  rw[q0Z] at hy
  rcases KI.1 hy with rfl | hy
  ·exact hq x (Kn ..)
  ·exact q42 hf n [] q (by simp at hn ⊢; omega) hp (fun y h=>hq y (Kp _ h)) y hy
 | n+1,x::p,z::q,hn,hp,hq=>fun y hy=>by
  rw[q0Z] at hy
  simp only[Kb] at hn
  split at hy
  ·rcases KI.1 hy with rfl | hy
   ·exact hp x (Kn ..)
   ·exact q42 hf n p (z::q) (by simp; omega) (fun y h=>hp y (Kp _ h)) hq y hy
  ·split at hy
   ·rcases KI.1 hy with rfl | hy
    ·exact hq z (Kn ..)
    ·exact q42 hf n (x::p) q (by simp; omega) hp (fun y h=>hq y (Kp _ h)) y hy
   ·rcases KI.1 hy with rfl | hy
    ·have h1:=hp x (Kn ..)
     have h2:=hq z (Kn ..)
     exact (hf _ _ (.inr h1) (.inr h2)).2 h1 h2
    ·exact q42 hf n p q (by omega) (fun y h=>hp y (Kp _ h)) (fun y h=>hq y (Kp _ h)) y hy
theorem q9P {a b:Int} {e:Sch} (h:FamN e):MemF (q1X a b e):=by
 rcases h with rfl | ⟨l,rfl,h⟩
 ·exact .list0 a b
 ·exact .list a b l h
inductive Two:Sch→Sch→Prop where
 | kind (m:Int) (y:Sch):Two (q2Z m) y
 | num (p q:Prt):q0c p.lo.num=true→q0c p.hi.num=true→q0c q.lo.num=true→q0c q.hi.num=true→Two (q4S p) (q4S q)
 | text (a b c d:Int):Two (q2j a b) (q2j c d)
 | list (a b c d:Int) (x y:Sch):FamN x→FamN y→Two (q1X a b x) (q1X c d y)
 | map (p q:List (PK × Sch)):(∀ y,y∈p→FamF y.2)→(∀ y,y∈q→FamF y.2)→Two (q3T p) (q3T q)
theorem qfd {x y:Sch} (hx:MemF x) (hy:MemF y) (hk:q1d x=q1d y):Two x y:=by
 cases hx with
 | kind m=>exact .kind m y
 | num p h1 h2=>
  cases hy with
  | num q h3 h4=>exact .num p q h1 h2 h3 h4
  | kind m=>exact absurd hk.symm (q45 m).1
  | _=>cases hk
 | text a b=>
  cases hy with
  | text c d=>exact .text a b c d
  | kind m=>exact absurd hk.symm (q45 m).2.1
  | _=>cases hk
 | list0 a b=>
  cases hy with
  | list0 c d=>exact .list a b c d _ _ (.inl rfl) (.inl rfl)
  | list c d l hl=>exact .list a b c d _ _ (.inl rfl) (.inr ⟨l,rfl,hl⟩)
  | kind m=>exact absurd hk.symm (q45 m).2.2.1
  | _=>cases hk
 | list a b l hl=>
  cases hy with
  | list0 c d=>exact .list a b c d _ _ (.inr ⟨l,rfl,hl⟩) (.inl rfl)
  | list c d l' hl'=>exact .list a b c d _ _ (.inr ⟨l,rfl,hl⟩) (.inr ⟨l',rfl,hl'⟩)
  | kind m=>exact absurd hk.symm (q45 m).2.2.1
  | _=>cases hk
 | map p hp=>
  cases hy with
  | map q hq=>exact .map _ _ (qh9 (.map p hp)) (qh9 (.map q hq))
  | kind m=>exact absurd hk.symm (q45 m).2.2.2
  | _=>cases hk
theorem qdU {p q:Prt} (h1:q0c p.lo.num=true) (h2:q0c p.hi.num=true) (h3:q0c q.lo.num=true) (h4:q0c q.hi.num=true):q0c (q5W p q).lo.num=true∧q0c (q5W p q).hi.num=true:=by
 unfold q5W
 refine ⟨?_,?_⟩
 ·show q0c (if q24 q.lo.num p.lo.num<0 then q.lo else p.lo).num=true
  split<;>assumption
 ·show q0c (if 0<q24 q.hi.num p.hi.num then q.hi else p.hi).num=true
  split<;>assumption
theorem q7t (f:Sch→Sch→Sch) (p q:Prt):q3M f (q4S p) (q4S q)=q4S (q5W p q):=(rfl)
theorem q87 (f:Sch→Sch→Sch) (a b c d:Int):q3M f (q2j a b) (q2j c d)=q2j (min a c) (max b d):=(rfl)
theorem q5Y (f:Sch→Sch→Sch) (a b c d:Int) (x y:Sch):q3M f (q1X a b x) (q1X c d y)=q1X (min a c) (max b d) (f x y):=(rfl)
theorem q7O (f:Sch→Sch→Sch) (p q:List (PK × Sch)):q3M f (q3T p) (q3T q)=q3T (q0Z f p q):=(rfl)
theorem q88 (f:Sch→Sch→Sch) (m:Int) (y:Sch):q3M f (q2Z m) y=q2Z m:=(rfl)
theorem qlD {f:Sch→Sch→Sch} (hf:qn2 f) {x y:Sch} (h:Two x y):MemF (q3M f x y):=by
 cases h with
 | kind m y=>exact .kind m
 | num p q h1 h2 h3 h4=>
  rw[q7t]
  exact .num _ (qdU h1 h2 h3 h4).1 (qdU h1 h2 h3 h4).2
 | text a b c d=>exact .text _ _
 | list a b c d x y hx hy=>
  rw[q5Y]
  exact q9P (hf x y hx hy).1
 | map p q hp hq=>
  rw[q7O]
  exact qcS (q42 hf _ p q (Kr _) hp hq)
theorem q1t {x y:Sch} {k:Int} (h:kfM x k=some y):y∈x.a∧q1d y=k:=by
 unfold kfM at h
 exact ⟨List.mem_of_find?_eq_some h,by simpa using List.find?_some h⟩
theorem qkJ {f:Sch→Sch→Sch} (hf:qn2 f) {a b:Sch} (ha : ∀ y,y∈a.a→MemF y) (hb : ∀ y,y∈b.a→MemF y) (k:Int) : ∀ y,y∈q3i f (kfM a k) (kfM b k)→MemF y:=by
 intro y hy
 cases h1:kfM a k with
 | none=>
  cases h2:kfM b k with
  | none=>rw[h1,h2] at hy; cases hy
  | some v=>
   rw[h1,h2] at hy
   obtain rfl:y=v:=by simpa [q3i] using hy
   exact hb _ (q1t h2).1
 | some u=>
  cases h2:kfM b k with
  | none=>
   rw[h1,h2] at hy
   obtain rfl:y=u:=by simpa [q3i] using hy
   exact ha _ (q1t h1).1
  | some v=>
   rw[h1,h2] at hy
   obtain rfl:y=q3M f u v:=by simpa [q3i] using hy
   exact qlD hf (qfd (ha _ (q1t h1).1) (hb _ (q1t h2).1) ((q1t h1).2.trans (q1t h2).2.symm))
theorem q65 (n:Nat) (b:Sch):q2w (n+1) noneX b=b:=(rfl)
theorem q3D (n:Nat) (l:List Sch):q2w (n+1) (q1J l) noneX=q1J l:=(rfl)
theorem q7q (n:Nat) (l m:List Sch):q2w (n+1) (q1J l) (q1J m)=q1J ((List.range 8).flatMap fun (k:Nat)=>q3i (q2w n) (kfM (q1J l) (k:Int)) (kfM (q1J m) (k:Int))):=(rfl)
theorem qfh : ¬ FamF noneX:=by
 rintro ⟨l,h,_⟩
 cases congrArg (fun x=>x.s.op) h
theorem qa8 : ∀ n,qn2 (q2w n)
 | 0=>fun a b ha hb=>⟨ha,fun h _=>h⟩
 | n+1=>fun a b ha hb=>by
  rcases ha with rfl | ⟨l,rfl,hl⟩
  ·rw[q65]
   exact ⟨hb,fun h _=>absurd h qfh⟩
  ·rcases hb with rfl | ⟨m,rfl,hm⟩
   ·rw[q3D]
    exact ⟨.inr ⟨l,rfl,hl⟩,fun h _=>h⟩
   ·rw[q7q]
    have:FamF (q1J ((List.range 8).flatMap fun (k:Nat)=>q3i (q2w n) (kfM (q1J l) (k:Int)) (kfM (q1J m) (k:Int)))):=qh5 fun y hy=>by
     obtain ⟨k,_,h⟩:=KQ.1 hy
     exact qkJ (qa8 n) (a:=q1J l) (b:=q1J m) hl hm k y h
    exact ⟨.inr this,fun _ _=>this⟩
end Ago
set_option maxRecDepth 100000
set_option maxHeartbeats 4000000
namespace Ago
open Go (IntKind)
def sb (l:List Sch):Nat:=AV.bulks (l.map q03)
def pb (l:List (PK × Sch)):Nat:=AV.bulks (l.map q0g)
theorem q4C (x:Sch) (l:List Sch):sb (x::l)=x.bulk+sb l:=(rfl)
theorem q4P (l m:List Sch):sb (l++m)=sb l+sb m:=by
 unfold sb
 rw[V8,q3H]
theorem qbT (x:PK × Sch):(q0g x).bulk=x.2.bulk+x.1.key.length+2:=by
 unfold Sch.bulk q0g
 rw[q01]
 simp [AV.bulk,AV.bulks,AV.cells]
 omega
theorem q3Q (x:PK × Sch) (l:List (PK × Sch)):pb (x::l)=x.2.bulk+x.1.key.length+2+pb l:=by
 show (q0g x).bulk+pb l=_
 rw[qbT]
theorem q7o (l:List Sch):(q1J l).bulk=sb l+16:=by
 rw[Sch.bulk_eq]
 simp [q1J,Sch.s,Sch.p,Sch.a,qgG,Pat.a,Pat.s,AV.bulks,sb]
theorem q2X:noneX.bulk=16:=by
 rw[Sch.bulk_eq]
 simp [noneX,Sch.s,Sch.p,Sch.a,Pat.a,Pat.s,AV.bulks]
theorem q7L (p:Prt):(q4S p).bulk=p.lo.num.digits.length+p.hi.num.digits.length+28:=by
 rw[Sch.bulk_eq]
 simp [q4S,Sch.s,Sch.p,Sch.a,qgG,Pat.a,Pat.s,AV.bulks,q9V]
theorem q4W (a b:Int):(q2j a b).bulk=16:=by
 rw[Sch.bulk_eq]
 simp [q2j,Sch.s,Sch.p,Sch.a,qgG,Pat.a,Pat.s,AV.bulks]
theorem qbH (a:Int):(q2Z a).bulk=16:=by
 rw[Sch.bulk_eq]
 simp [q2Z,Sch.s,Sch.p,Sch.a,qgG,Pat.a,Pat.s,AV.bulks]
theorem q2T (a b:Int) (e:Sch):(q1X a b e).bulk=e.bulk+16:=by
 have:(q03 e).bulk=e.bulk:=rfl
 rw[Sch.bulk_eq]
 simp [q1X,Sch.s,Sch.p,Sch.a,qgG,Pat.a,Pat.s,AV.bulks,this]
theorem q3L (p:List (PK × Sch)):(q3T p).bulk=pb p+32:=by
 have:(q03 noneX).bulk=16:=q2X
 rw[Sch.bulk_eq]
 simp [q3T,Sch.s,Sch.p,Sch.a,qgG,Pat.a,Pat.s,AV.bulks,this,pb]
theorem qgD (p q:Prt):(q4S (q5W p q)).bulk≤(q4S p).bulk+(q4S q).bulk:=by
 rw[q7L,q7L,q7L]
 have h1:(q5W p q).lo.num.digits.length≤p.lo.num.digits.length+q.lo.num.digits.length:=by
  show (if q24 q.lo.num p.lo.num<0 then q.lo else p.lo).num.digits.length≤_
  split<;>omega
 have h2:(q5W p q).hi.num.digits.length≤p.hi.num.digits.length+q.hi.num.digits.length:=by
  show (if 0<q24 q.hi.num p.hi.num then q.hi else p.hi).num.digits.length≤_
  split<;>omega
 omega
def qeF (f:Sch→Sch→Sch):Prop:=∀ a b,FamN a→FamN b→(f a b).bulk≤a.bulk+b.bulk
theorem q3t {f:Sch→Sch→Sch} (hf:qeF f) : ∀ (n:Nat) (p q:List (PK × Sch)),p.length+q.length≤n→(∀ y,y∈p→FamF y.2)→(∀ y,y∈q→FamF y.2)→pb (q0Z f p q)≤pb p+pb q
 | n,[],[],_,_,_=>by
  rw[q0Z]
  show 0≤_
  omega
 | 0,x::p,q,hn,_,_=>by simp at hn
 | 0,[],x::q,hn,_,_=>by simp at hn
 | n+1,x::p,[],hn,hp,hq=>by
  have ih:=q3t hf n p [] (by simp at hn ⊢; omega) (fun y h=>hp y (Kp _ h)) hq
  rw[q0Z]
  rw[q3Q,q3Q]
  show x.2.bulk+x.1.key.length+2+_≤_
  omega
 | n+1,[],x::q,hn,hp,hq=>by
  have ih:=q3t hf n [] q (by simp at hn ⊢; omega) hp (fun y h=>hq y (Kp _ h))
  rw[q0Z]
  rw[q3Q,q3Q]
  show x.2.bulk+x.1.key.length+2+_≤_
  omega
 | n+1,x::p,z::q,hn,hp,hq=>by
  simp only[Kb] at hn
  rw[q0Z]
  split
  ·have ih:=q3t hf n p (z::q) (by simp; omega) (fun y h=>hp y (Kp _ h)) hq
   rw[q3Q,q3Q x p]
   show x.2.bulk+x.1.key.length+2+_≤_
   omega
  ·split
   ·have ih:=q3t hf n (x::p) q (by simp; omega) hp (fun y h=>hq y (Kp _ h))
    rw[q3Q,q3Q z q]
    show z.2.bulk+z.1.key.length+2+_≤_
    omega
   ·have ih:=q3t hf n p q (by omega) (fun y h=>hp y (Kp _ h)) (fun y h=>hq y (Kp _ h))
    have h3:=hf x.2 z.2 (.inr (hp x (Kn ..))) (.inr (hq z (Kn ..)))
    rw[q3Q,q3Q,q3Q]
    show (f x.2 z.2).bulk+x.1.key.length+2+_≤_
    omega
theorem qjk {f:Sch→Sch→Sch} (hf:qeF f) {x y:Sch} (h:Two x y):(q3M f x y).bulk≤x.bulk+y.bulk:=by
 cases h with
 | kind m y=>
  rw[q88]
  omega
 | num p q h1 h2 h3 h4=>
  rw[q7t]
  exact qgD p q
 | text a b c d=>
  rw[q87,q4W,q4W,q4W]
  omega
 | list a b c d x y hx hy=>
  rw[q5Y,q2T,q2T,q2T]
  have:=hf x y hx hy
  omega
 | map p q hp hq=>
  rw[q7O,q3L,q3L,q3L]
  have:=q3t hf _ p q (Kr _) hp hq
  omega
def ob:Option Sch→Nat
 | none=>0
 | some x=>x.bulk
theorem qkX (c:Int) (B:Nat) : ∀ ks:List Nat,ks.Nodup→(ks.map fun (k:Nat)=>if c=(k:Int) then B else 0).sum≤B
 | [],_=>by simp
 | k::ks,h=>by
  rw[List.nodup_cons] at h
  rw[Kj,List.sum_cons]
  by_cases hc:c=(k:Int)
  ·have:(ks.map fun (j:Nat)=>if c=(j:Int) then B else 0).sum=0:=by
    have : ∀ l:List Nat,k∉l→(l.map fun (j:Nat)=>if c=(j:Int) then B else 0).sum=0:=by
     intro l
     induction l with
     | nil=>simp
     | cons j l ih=>
      intro hj
      rw[Kj,List.sum_cons,ih (fun h=>hj (Kp _ h)),if_neg]
      intro e
      exact hj (by rw[show k=j by omega]; exact Kn ..)
    exact this ks h.1
   rw[this,if_pos hc]
   omega
  ·rw[if_neg hc]
   have:=qkX c B ks h.2
   omega
theorem qcv (ks:List Nat) (hk:ks.Nodup) : ∀ l:List Sch,(ks.map fun (k:Nat)=>ob (kfM (q1J l) (k:Int))).sum≤sb l
 | []=>by
  have : ∀ k:Nat,ob (kfM (q1J []) (k:Int))=0:=fun k=>rfl
  simp only[this]
  have : ∀ ks:List Nat,(ks.map fun _=>0).sum=0:=by
   intro ks
   induction ks with
   | nil=>rfl
   | cons k ks ih=>simpa using ih
  rw[this]
  omega
 | y::l=>by
  have ih:=qcv ks hk l
  have hy:=qkX (q1d y) y.bulk ks hk
  have h1 : ∀ k:Nat,ob (kfM (q1J (y::l)) (k:Int))≤(if q1d y=(k:Int) then y.bulk else 0)+ob (kfM (q1J l) (k:Int)):=fun k=>by
   show ob ((y::l).find? fun y=>decide (q1d y=(k:Int)))≤_
   rw[List.find?_cons]
   by_cases h:q1d y=(k:Int)
   ·rw[if_pos h,decide_eq_true h]
    show y.bulk≤_
    omega
   ·rw[if_neg h,decide_eq_false h]
    show ob (l.find? fun y=>decide (q1d y=(k:Int)))≤0+ob (l.find? fun y=>decide (q1d y=(k:Int)))
    omega
  have h2 : ∀ js:List Nat,(js.map fun (k:Nat)=>ob (kfM (q1J (y::l)) (k:Int))).sum≤(js.map fun (k:Nat)=>if q1d y=(k:Int) then y.bulk else 0).sum+(js.map fun (k:Nat)=>ob (kfM (q1J l) (k:Int))).sum:=by
   intro js
   induction js with
   | nil=>simp
   | cons k js ih2=>
    simp only[Kj,List.sum_cons]
    have:=h1 k
    omega
  have:=h2 ks
  rw[q4C]
  omega
theorem qk3 {f:Sch→Sch→Sch} (hf:qeF f) {a b:Sch} (ha : ∀ y,y∈a.a→MemF y) (hb : ∀ y,y∈b.a→MemF y) (k:Int):sb (q3i f (kfM a k) (kfM b k))≤ob (kfM a k)+ob (kfM b k):=by
 cases h1:kfM a k with
 | none=>
  cases h2:kfM b k with
  | none=>
   show 0≤_
   omega
  | some v=>
   show v.bulk+0≤0+v.bulk
   omega
 | some u=>
  cases h2:kfM b k with
  | none=>
   show u.bulk+0≤u.bulk+0
   omega
  | some v=>
   have:=qjk hf (qfd (ha _ (q1t h1).1) (hb _ (q1t h2).1) ((q1t h1).2.trans (q1t h2).2.symm))
   show (q3M f u v).bulk+0≤u.bulk+v.bulk
   omega
theorem qbg : ∀ n,qeF (q2w n)
 | 0=>fun a b ha hb=>by
  show a.bulk≤_
  omega
 | n+1=>fun a b ha hb=>by
  rcases ha with rfl | ⟨l,rfl,hl⟩
  ·rw[q65]
   omega
  ·rcases hb with rfl | ⟨m,rfl,hm⟩
   ·rw[q3D]
    omega
   ·rw[q7q,q7o,q7o,q7o]
    have h1 : ∀ ks:List Nat,sb (ks.flatMap fun (k:Nat)=>q3i (q2w n) (kfM (q1J l) (k:Int)) (kfM (q1J m) (k:Int)))≤(ks.map fun (k:Nat)=>ob (kfM (q1J l) (k:Int))).sum+(ks.map fun (k:Nat)=>ob (kfM (q1J m) (k:Int))).sum:=by
     intro ks
     induction ks with
     | nil=>
      show 0≤_
      omega
     | cons k ks ih=>
      rw[List.flatMap_cons,q4P]
      simp only[Kj,List.sum_cons]
      have:=qk3 (qbg n) (a:=q1J l) (b:=q1J m) hl hm k
      omega
    have h2:=h1 (List.range 8)
    have h3:=qcv (List.range 8) List.nodup_range l
    have h4:=qcv (List.range 8) List.nodup_range m
    omega
def jn:Nat:=2^24
theorem qwl:jn=2^24:=(rfl)
def jM (a b:Sch):Sch:=q2w jn a b
theorem qh6:qn2 jM:=qa8 jn
theorem qgb:qeF jM:=qbg jn
attribute [irreducible] jn
def ofM:Nat→V→Sch
 | 0,_=>noneX
 | n+1,v=>q1J [if v.s.kind=2 then q4S (qax v.s.num) else if v.s.kind=4 then q2j (qfv v.s.text:Nat) (qfv v.s.text:Nat) else if v.s.kind=6 then q1X v.l.length v.l.length ((v.l.map (ofM n)).foldl jM noneX)
   else if v.s.kind=7 then q3T ((q3Y v.f).map fun y=>(⟨y.1,true⟩,ofM n y.2)) else q2Z (IntKind.i64.wrap (1 * 2^min v.s.kind.toNat 64))]
theorem q5P {l:List Sch} : ∀ {e:Sch},FamN e→(∀ y,y∈l→FamF y)→FamN (l.foldl jM e):=by
 induction l with
 | nil=>intro e h _; exact h
 | cons x l ih=>
  intro e h hl
  exact ih (qh6 e x h (.inr (hl x (Kn ..)))).1 fun y hy=>hl y (Kp _ hy)
theorem q3A {l:List Sch} : ∀ {e:Sch},FamN e→(∀ y,y∈l→FamF y)→(l.foldl jM e).bulk≤e.bulk+sb l:=by
 induction l with
 | nil=>intro e h _; show e.bulk≤e.bulk+0; omega
 | cons x l ih=>
  intro e h hl
  have h1:=ih (qh6 e x h (.inr (hl x (Kn ..)))).1 fun y hy=>hl y (Kp _ hy)
  have h2:=qgb e x h (.inr (hl x (Kn ..)))
  rw[q4C]
  show (l.foldl jM (jM e x)).bulk≤_
  omega
inductive Fit:Nat→V→Prop where
 | mk {n:Nat} {v:V} (h1:0≤v.s.kind∧v.s.kind≤7) (h2:q0c v.s.num=true) (h3:utf v.s.text=true) (hk : ∀ x,x∈v.kids→Fit n x):Fit (n+1) v
theorem Fit.kids {n:Nat} {v:V} (h:Fit (n+1) v) : ∀ x,x∈v.kids→Fit n x:=by
 cases h with
 | mk _ _ _ hk=>exact hk
theorem Fit.num {n:Nat} {v:V} (h:Fit n v):q0c v.s.num=true:=by
 cases h with
 | mk _ h _ _=>exact h
theorem Fit.kind {n:Nat} {v:V} (h:Fit n v):0≤v.s.kind∧v.s.kind≤7:=by
 cases h with
 | mk h _ _ _=>exact h
theorem Fit.text {n:Nat} {v:V} (h:Fit n v):utf v.s.text=true:=by
 cases h with
 | mk _ _ h _=>exact h
theorem qhd {v:V} (h:ownM v=true):0≤v.s.kind∧v.s.kind≤7:=by
 unfold ownM at h
 simp only[Kf,decide_eq_true_eq] at h
 omega
theorem Gd.fit : ∀ {n:Nat} {v:V},Gd n v→Fit n v
 | 0,v,h=>by cases h
 | n+1,v,h=>by
  have hk:=h.kids
  cases h with
  | mk h _=>
   obtain ⟨a,b,_,c,_⟩:=qcf h
   exact .mk (qhd a) b c fun x hx=>(hk x hx).fit
theorem Fit.sort : ∀ (m:Nat) {n:Nat} {v:V},Fit n v→Fit n (q1h m v)
 | 0,_,_,h=>h
 | m+1,0,v,h=>by cases h
 | m+1,n+1,v,h=>by
  refine .mk h.kind h.num h.text fun x hx=>?_
  have hx:x∈(if v.s.kind=7 then ((q3Y v.f).map fun y=>(y.1,q1h m y.2)).map (·.2) else v.l.map (q1h m)):=hx
  by_cases h7:v.s.kind=7
  ·rw[if_pos h7,VD] at hx
   obtain ⟨y,hy,rfl⟩:=K0.1 hx
   exact Fit.sort m (h.kids y.2 (by unfold V.kids; rw[if_pos h7]; exact K0.2 ⟨y,(q34 v.f).mem_iff.1 hy,rfl⟩))
  ·rw[if_neg h7] at hx
   obtain ⟨y,hy,rfl⟩:=K0.1 hx
   exact Fit.sort m (h.kids y (by unfold V.kids; rw[if_neg h7]; exact hy))
theorem q5N : ∀ (n k:Nat) (v:V),Fit k v→k≤n→FamF (ofM n v)
 | 0,k,v,h,hk=>by
  cases h
  omega
 | n+1,0,v,h,hk=>by cases h
 | n+1,k+1,v,h,hk=>by
  have hkids:=h.kids
  have hone:=h.num
  refine qh5 fun y hy=>?_
  rw[KM.1 hy]
  split
  ·exact .num _ hone hone
  ·split
   ·exact .text _ _
   ·split
    ·refine q9P (q5P (.inl rfl) fun y hy=>?_)
     obtain ⟨x,hx,rfl⟩:=K0.1 hy
     exact q5N n k x (hkids x (by unfold V.kids; rw[if_neg (by omega)]; exact hx)) (by omega)
    ·split
     ·refine qcS fun y hy=>?_
      obtain ⟨x,hx,rfl⟩:=K0.1 hy
      exact q5N n k x.2 (hkids x.2 (by unfold V.kids; rw[if_pos (by assumption)]; exact K0.2 ⟨x,(q34 v.f).mem_iff.1 hx,rfl⟩)) (by omega)
     ·exact .kind _
theorem q8w : ∀ (n k:Nat) (v:V),Fit k v→k≤n→(ofM n v).bulk≤4 * v.bulk
 | 0,k,v,h,hk=>by
  cases h
  omega
 | n+1,0,v,h,hk=>by cases h
 | n+1,k+1,v,h,hk=>by
  have hkids:=h.kids
  have hb:=v.bulk_eq
  unfold ofM
  rw[q7o,q4C]
  show _+0+16≤_
  split
  ·rw[q7L]
   show v.s.num.digits.length+v.s.num.digits.length+28+0+16≤_
   omega
  ·split
   ·rw[q4W]
    omega
   ·split
    ·rw[q2T]
     have h1:=q3A (l:=v.l.map (ofM n)) (e:=noneX) (.inl rfl) fun y hy=>by
      obtain ⟨x,hx,rfl⟩:=K0.1 hy
      exact q5N n k x (hkids x (by unfold V.kids; rw[if_neg (by omega)]; exact hx)) (by omega)
     have h2 : ∀ l:List V,(∀ x,x∈l→(ofM n x).bulk≤4 * x.bulk)→sb (l.map (ofM n))≤4 * AV.bulks (l.map q0u):=by
      intro l
      induction l with
      | nil=>intro _; show 0≤_; omega
      | cons x l ih=>
       intro hl
       have a1:=ih fun y hy=>hl y (Kp _ hy)
       have a2:=hl x (Kn ..)
       rw[Kj,q4C]
       simp only[Kj,AV.bulks]
       have a3:(q0u x).bulk=x.bulk:=rfl
       omega
     have h3:=h2 v.l fun x hx=>q8w n k x (hkids x (by unfold V.kids; rw[if_neg (by omega)]; exact hx)) (by omega)
     rw[q2X] at h1
     omega
    ·split
     ·rw[q3L]
      have h2 : ∀ l:List (List UInt8 × V),(∀ x,x∈l→(ofM n x.2).bulk≤4 * x.2.bulk)→pb (l.map fun y=>(⟨y.1,true⟩,ofM n y.2))≤4 * AV.bulks (l.map q0C):=by
       intro l
       induction l with
       | nil=>intro _; show 0≤_; omega
       | cons x l ih=>
        intro hl
        have a1:=ih fun y hy=>hl y (Kp _ hy)
        have a2:=hl x (Kn ..)
        rw[Kj,q3Q]
        simp only[Kj,AV.bulks,qc7]
        omega
      have h3:=h2 (q3Y v.f) fun x hx=>q8w n k x.2 (hkids x.2 (by unfold V.kids; rw[if_pos (by assumption)]; exact K0.2 ⟨x,(q34 v.f).mem_iff.1 hx,rfl⟩)) (by omega)
      have h4:AV.bulks ((q3Y v.f).map q0C)=AV.bulks (v.f.map q0C):=qbi ((q34 v.f).map _)
      omega
     ·rw[qbH]
      omega
end Ago
set_option maxRecDepth 100000
set_option maxHeartbeats 4000000
namespace Ago
open Go (IntKind)
theorem q2I (p:Prt):q03 (q4S p) = .agg [.int .i64 4,.int .i64 0,.int .i64 0,.int .i64 0,.str [],.tsl 11 [q0n p],.int .i64 0,.int .i64 0,.int .i64 0,.int .i64 0,.int .i64 0,.tsl 6 [],.tsl 13 [],.tsl 17 [],.tsl 15 []]:=by
 rw[q01]
 rfl
theorem q2p (a b:Int):q03 (q2j a b) = .agg [.int .i64 5,.int .i64 0,.int .i64 a,.int .i64 b,.str [],.tsl 11 [],.int .i64 0,.int .i64 0,.int .i64 0,.int .i64 0,.int .i64 0,.tsl 6 [],.tsl 13 [],.tsl 17 [],.tsl 15 []]:=by
 rw[q01]
 rfl
theorem q2t (a b:Int) (e:Sch):q03 (q1X a b e) = .agg [.int .i64 9,.int .i64 0,.int .i64 a,.int .i64 b,.str [],.tsl 11 [],.int .i64 0,.int .i64 0,.int .i64 0,.int .i64 0,.int .i64 0,.tsl 6 [],.tsl 13 [],.tsl 17 [],.tsl 15 [q03 e]]:=by
 rw[q01]
 rfl
theorem q0A (p:List (PK × Sch)):q03 (q3T p) = .agg [.int .i64 10,.int .i64 0,.int .i64 0,.int .i64 0,.str [],.tsl 11 [],.int .i64 0,.int .i64 0,.int .i64 0,.int .i64 0,.int .i64 0,.tsl 6 [],.tsl 13 [],.tsl 17 (p.map q0g),.tsl 15 [q03 noneX]]:=by
 rw[q01]
 rfl
theorem q59 (m:Int):q03 (q2Z m) = .agg [.int .i64 3,.int .i64 m,.int .i64 0,.int .i64 0,.str [],.tsl 11 [],.int .i64 0,.int .i64 0,.int .i64 0,.int .i64 0,.int .i64 0,.tsl 6 [],.tsl 13 [],.tsl 17 [],.tsl 15 []]:=by
 rw[q01]
 rfl
theorem q1P (l:List Sch):q03 (q1J l) = .agg [.int .i64 12,.int .i64 0,.int .i64 0,.int .i64 0,.str [],.tsl 11 [],.int .i64 0,.int .i64 0,.int .i64 0,.int .i64 0,.int .i64 0,.tsl 6 [],.tsl 13 [],.tsl 17 [],.tsl 15 (l.map q03)]:=by
 rw[q01]
 rfl
theorem qss (a c:Int):(if c<a then c else a)=min a c:=by split<;>omega
theorem qrJ (b d:Int):(if d>b then d else b)=max b d:=by split<;>omega
theorem qgS (f:Sch→Sch→Sch) (p q:Prt) (h1:q0c p.lo.num=true) (h2:q0c p.hi.num=true) (h3:q0c q.lo.num=true) (h4:q0c q.hi.num=true):q0e CI 991 [q03 (q4S p),q03 (q4S q)] (q03 (q3M f (q4S p) (q4S q))):=by
 have hw:=qlc p q h1 h2 h3 h4
 rw[q7t,q2I,q2I,q2I]
 unfold q3I at hw
 simp only[Kj,Kt] at hw
 unfold q0n at hw ⊢
 refine q04 q8Q rfl ?_
 (repeat' first|simp (disch:=omega) only[go_sem,q8Q,enter]|refine q00 _ (hw) ?_)
 all_goals rfl
theorem qfa (f:Sch→Sch→Sch) (a b c d:Int):q0e CI 991 [q03 (q2j a b),q03 (q2j c d)] (q03 (q3M f (q2j a b) (q2j c d))):=by
 rw[q87,q2p,q2p,q2p]
 refine q04 q8Q rfl ?_
 (repeat' first|simp (disch:=omega) only[go_sem,q8Q,enter]|(apply spl<;>intro h<;>try simp (disch:=omega) only[go_sem,h]))
 all_goals first | rfl | (simp; omega) | trace_state
theorem qdw (f:Sch→Sch→Sch) (m:Int) (y:Sch):q0e CI 991 [q03 (q2Z m),q03 y] (q03 (q3M f (q2Z m) y)):=by
 rw[q88,q59,q01 y]
 refine q04 q8Q rfl ?_
 (repeat' first|simp (disch:=omega) only[go_sem,q8Q,enter])
 all_goals rfl
theorem qfz (f:Sch→Sch→Sch) (p q:List (PK × Sch)) (h:q0e CI 1001 [.tsl 17 (p.map q0g),.tsl 17 (q.map q0g)] (.tsl 17 ((q0Z f p q).map q0g))):q0e CI 991 [q03 (q3T p),q03 (q3T q)] (q03 (q3M f (q3T p) (q3T q))):=by
 rw[q7O,q0A,q0A,q0A]
 have hn:=qcP
 rw[q0T] at hn ⊢
 refine q04 q8Q rfl ?_
 (repeat' first|simp (disch:=omega) only[go_sem,q8Q,enter]|refine q00 _ (h) ?_|refine q00 _ (hn) ?_)
 all_goals first | rfl | trace_state
theorem qdX (f:Sch→Sch→Sch) (a b c d:Int) (x y:Sch) (h:q0e CI 978 [q03 x,q03 y] (q03 (f x y))):q0e CI 991 [q03 (q1X a b x),q03 (q1X c d y)] (q03 (q3M f (q1X a b x) (q1X c d y))):=by
 rw[q5Y,q2t,q2t,q2t]
 rw[q01 x,q01 y,q01 (f x y)] at h ⊢
 refine q04 q8Q rfl ?_
 (repeat' first|simp (disch:=omega) only[go_sem,q8Q,enter]|refine q00 _ (h) ?_|(apply spl<;>intro h<;>try simp (disch:=omega) only[go_sem,h]))
 all_goals rw[qss,qrJ]
 all_goals rfl
end Ago
set_option maxRecDepth 100000
set_option maxHeartbeats 4000000
namespace Ago
open Go (IntKind)
theorem q1g (x:Sch) (hx:x.bulk≤2^24) (H:Heap) (h:x.s.op≠4∨H.length≠3):q1K CI 985 [q03 x] H (q03 x) H:=by
 have h1:=qgz _ x (Kr _) hx
 rw[q01] at h1 ⊢
 exact qkj h h1 (by simp only[go_sem]) (by simp only[go_sem])
def qs5 (r:Nat):AV:=.agg [.int .i64 4,.int .i64 0,.int .i64 0,.int .i64 0,.str [],.sref 11 r 0 1,.int .i64 0,.int .i64 0,.int .i64 0,.int .i64 0,.int .i64 0,.tsl 6 [],.tsl 13 [],.snil 17,.snil 15]
theorem qjy (p:Prt) (a b c:AV):q1K CI 985 [q03 (q4S p)] [.row 15 [a] false true 0,.row 15 [b] false true 1,.row 15 [c] false true 2] (qs5 3) [.row 15 [a] false true 0,.row 15 [b] false true 1,.row 15 [c] false true 2,.row 11 [q0n p] false true 3]:=by
 have c1:=fun (H:Heap) (z:AV) (zs:List AV) (h:zs.length<2^24)=>qrz rfl (q9O (f:=216) (n:=11) (b:=104) rfl (by decide) H z zs h)
 have h:q1K CC 985 [q03 (q4S p)] [.row 15 [a] false true 0,.row 15 [b] false true 1,.row 15 [c] false true 2] (qs5 3) [.row 15 [a] false true 0,.row 15 [b] false true 1,.row 15 [c] false true 2,.row 11 [q0n p] false true 3]:=by
  rw[q2I]
  refine qrY qjA rfl ?_
  (repeat' first|simp (disch:=omega) only[go_sem,qjA,enter]|(refine q0l _ _ (c1 _ _ _ (by simp)) ?_)|(apply spl<;>intro h<;>try simp (disch:=omega) only[go_sem,h]))
  refine q06 (α:=Unit) (fun _=>{ tmps:=q0h 54 [(1,.ptr 15 3 0 0),(2,.ptr 15 4 0 0),(3,.ptr 15 5 0 0),(18,.tsl 17 []),(19,.int .i64 0),(20,.int .i64 0)],heap:=[.row 15 [a] false true 0,.row 15 [b] false true 1,.row 15 [c] false true 2,.row 15 [.agg [.int .i64 4,.int .i64 0,.int .i64 0,.int .i64 0,.str [],.tsl 11 [q0n p],.int .i64 0,.int .i64 0,.int .i64 0,.int .i64 0,.int .i64 0,.tsl 6 [],.tsl 13 [],.tsl 17 [],.tsl 15 []]] false true 3,.row 15 [q14] false true 4,.row 15 [qs5 6] false false 5,.row 11 [q0n p] false true 6],base:=3 }) (fun _=>True) (fun _=>0) () rfl trivial ?_
  intro _ _
  unfold qs5
  (repeat' first|simp (disch:=omega) only[go_sem]|(apply spl<;>intro h<;>try simp (disch:=omega) only[go_sem,h]))
  refine q06 (α:=Unit) (fun _=>{ tmps:=q0h 54 [(2,.ptr 15 3 0 0),(3,.ptr 15 4 0 0),(39,.tsl 15 []),(40,.int .i64 0),(41,.int .i64 0)],heap:=[.row 15 [a] false true 0,.row 15 [b] false true 1,.row 15 [c] false true 2,.row 15 [q14] false true 3,.row 15 [qs5 5] false false 4,.row 11 [q0n p] false true 5],base:=3 }) (fun _=>True) (fun _=>0) () rfl trivial ?_
  intro _ _
  unfold qs5 q14
  (repeat' first|simp (disch:=omega) only[go_sem,qu6]|(apply spl<;>intro h<;>try simp (disch:=omega) only[go_sem,h]))
  refine ⟨_,rfl,?_,?_⟩
  ·rfl
  ·rfl
 rw[q2I] at h ⊢
 exact qqp rfl h
end Ago
set_option maxRecDepth 100000
set_option maxHeartbeats 4000000
namespace Ago
open Go (IntKind)
theorem qkH (f:Sch→Sch→Sch) (m:Int) (y:Sch):q0e CI 987 [q03 (q2Z m),q03 y] (q03 (q3M f (q2Z m) y)):=by
 have cp:=fun H=>q1g (q2Z m) (by rw[qbH]; decide) H (.inl (show (3:Int)≠4 by decide))
 rw[q88,q59] at *
 rw[q01 y]
 refine q04 q8X rfl ?_
 (repeat' first|simp (disch:=omega) only[go_sem,q8X,enter]|(refine q0l _ _ (cp _) ?_))
 all_goals rfl
theorem qnr (f:Sch→Sch→Sch) (a b c d:Int):q0e CI 987 [q03 (q2j a b),q03 (q2j c d)] (q03 (q3M f (q2j a b) (q2j c d))):=by
 have cp:=fun H=>q1g (q2j a b) (by rw[q4W]; decide) H (.inl (show (5:Int)≠4 by decide))
 rw[q87,q2p,q2p,q2p] at *
 refine q04 q8X rfl ?_
 (repeat' first|simp (disch:=omega) only[go_sem,q8X,enter]|(refine q0l _ _ (cp _) ?_)|(apply spl<;>intro h<;>try simp (disch:=omega) only[go_sem,h]))
 refine q39 ?s1 ?g1 ?g2
 rotate_left
 case g1=>
  repeat' first | exact q33 | refine q2i ?_ ?_
  all_goals
   (repeat' first|simp (disch:=omega) only[go_sem,q3B]|(apply spl<;>intro h<;>try simp (disch:=omega) only[go_sem,h]))
   all_goals rfl
 (repeat' first|simp (disch:=omega) only[go_sem]|(apply spl<;>intro h<;>try simp (disch:=omega) only[go_sem,h]))
 all_goals rw[qss,qrJ]
 all_goals rfl
theorem qo2 (f:Sch→Sch→Sch) (p q:List (PK × Sch)) (hp:(q3T p).bulk≤2^24) (h:q0e CI 999 [.tsl 17 (p.map q0g),.tsl 17 (q.map q0g)] (.tsl 17 ((q0Z f p q).map q0g))):q0e CI 987 [q03 (q3T p),q03 (q3T q)] (q03 (q3M f (q3T p) (q3T q))):=by
 have cp:=fun H=>q1g (q3T p) hp H (.inl (show (10:Int)≠4 by decide))
 rw[q7O,q0A,q0A,q0A] at *
 refine q04 q8X rfl ?_
 (repeat' first|simp (disch:=omega) only[go_sem,q8X,enter]|refine q00 _ (h) ?_|(refine q0l _ _ (cp _) ?_))
 all_goals rfl
theorem qnu (f:Sch→Sch→Sch) (a b c d:Int) (x y:Sch) (hp:(q1X a b x).bulk≤2^24) (h:q0e CI 974 [q03 x,q03 y] (q03 (f x y))):q0e CI 987 [q03 (q1X a b x),q03 (q1X c d y)] (q03 (q3M f (q1X a b x) (q1X c d y))):=by
 have cp:=fun H=>q1g (q1X a b x) hp H (.inl (show (9:Int)≠4 by decide))
 rw[q5Y,q2t,q2t,q2t] at *
 rw[q01 x,q01 y,q01 (f x y)] at *
 refine q04 q8X rfl ?_
 (repeat' first|simp (disch:=omega) only[go_sem,q8X,enter]|(refine q0l _ _ (cp _) ?_)|(apply spl<;>intro h<;>try simp (disch:=omega) only[go_sem,h]))
 refine q39 ?s1 ?g1 ?g2
 rotate_left
 case g1=>
  repeat' first | exact q33 | refine q2i ?_ ?_
  all_goals
   (repeat' first|simp (disch:=omega) only[go_sem,q3B]|(apply spl<;>intro h<;>try simp (disch:=omega) only[go_sem,h]))
   all_goals rfl
 (repeat' first|simp (disch:=omega) only[go_sem]|refine q00 _ (h) ?_|(apply spl<;>intro h<;>try simp (disch:=omega) only[go_sem,h]))
 all_goals rw[qss,qrJ]
 all_goals rfl
theorem qql (f:Sch→Sch→Sch) (p q:Prt) (h1:q0c p.lo.num=true) (h2:q0c p.hi.num=true) (h3:q0c q.lo.num=true) (h4:q0c q.hi.num=true):q0e CI 987 [q03 (q4S p),q03 (q4S q)] (q03 (q3M f (q4S p) (q4S q))):=by
 have cp:=qjy p (q03 (q4S p)) (q03 (q4S q)) q14
 have c1:=q9h (q5l q.lo.num p.lo.num h3 h1)
 have c2:=q9h (q5l q.hi.num p.hi.num h4 h2)
 rw[q7t]
 unfold q5W
 unfold q0b at c1 c2
 generalize q24 q.lo.num p.lo.num=k1 at *
 generalize q24 q.hi.num p.hi.num=k2 at *
 rw[q2I,q2I,q2I] at *
 unfold qs5 q14 q0n at *
 refine q04 q8X rfl ?_
 (repeat' first|simp (disch:=omega) only[go_sem,q8X,enter]|(refine q0l _ _ cp ?_)|(apply spl<;>intro h<;>try simp (disch:=omega) only[go_sem,h]))
 by_cases e1:k1<0<;>by_cases e2:0<k2<;>by_cases e3:q.sort=0
 all_goals
  try simp only[e1,e2,e3,if_true,if_false]
  (repeat' first|simp (disch:=omega) only[go_sem,e1,e2,e3,gt_iff_lt]|refine q00 _ (c1) ?_|refine q00 _ (c2) ?_)
  all_goals first | rfl | trace_state
end Ago
