/- Decimals of the reference: Sum,Less,normal,Add,Sub. -/
import Derived.Test.YtjeahlpkonkjiaaGreatDoorRunI
import Derived.Test.YtjeahlpkonkjiaaGreatDoorRunP
import Derived.Test.YtjeahlpkonkjiaaGreatDoorRunH
import Derived.Test.YtjeahlpkonkjiaaGreatDoorRunN
import Derived.Test.YtjeahlpkonkjiaaGreatDoorRunO
set_option linter.unusedSimpArgs false
set_option linter.unusedVariables false
set_option maxRecDepth 100000
set_option exponentiation.threshold 2000
set_option maxHeartbeats 4000000
namespace Ago
open Go (IntKind)
def qdg (n:Nat):AV:=.int .i64 n
theorem q8i (s:List UInt8) (i:Nat) (h:digits s=true) (hs:s.length<2^24) (hi:i<2^24):q0e CI 610 [.str s,.int .i64 i] (.int .i64 (atD s i)):=by
 have hr:=q1Y h i
 refine q04 qkY rfl ?_
 unfold atD at *
 by_cases hlt:i<s.length
 ·rw[if_pos hlt] at hr ⊢
  obtain ⟨c,hc⟩:=q05 (s:=s) (k:=s.length-1-i) (by omega)
  have e:((s.length:Int)-1-i).toNat=s.length-1-i:=by omega
  have hg:s.getD (s.length-1-i) 48=c:=by rw[KH,hc]; rfl
  rw[hg] at hr ⊢
  (repeat' first|simp (disch:=omega) only[go_sem,qkY,enter,e,hc])
  all_goals first | omega | rfl
 ·rw[if_neg hlt]
  (repeat' first|simp (disch:=omega) only[go_sem,qkY,enter])
  all_goals first | omega | rfl
theorem q80 (s:List UInt8) (hs:s.length<2^31):q0e CI 612 [.str s] (.str (q1q s)):=by
 refine q04 qiW rfl ?_
 simp (disch:=omega) only[go_sem,qiW,enter]
 refine q06 (α:=Nat) (fun k=>{ tmps:=q0h 19 [(0,.str s),(3,.int .i64 k)],heap:=[],base:=0 }) (fun k=>k≤s.length∧(s.take k).all (· == 48)=true) (fun k=>s.length-k) 0 rfl ⟨Km _,rfl⟩ ?_
 rintro k ⟨hk,hd⟩
 by_cases hlt:k<s.length
 ·obtain ⟨c,hc⟩:=q05 hlt
  by_cases h48:c=48
  ·have h48i:(c.toNat:Int)=48:=(q6r c).2 h48
   (repeat' first|simp (disch:=omega) only[go_sem,hc,h48i]|(apply spl<;>intro h<;>try simp (disch:=omega) only[go_sem,h]))
   all_goals first | omega | skip
   exact ⟨k+1,rfl,⟨hlt,q0v hc hd (by simpa using h48)⟩,by omega⟩
  ·have h48i : ¬ (c.toNat:Int)=48:=fun e=>h48 ((q6r c).1 e)
   rw[q74 hk hd (fun _=>⟨c,hc,h48⟩)]
   (repeat' first|simp (disch:=omega) only[go_sem,hc,h48i,Kx])
   all_goals first | omega | rfl
 ·rw[q74 hk hd (fun h=>absurd h hlt)]
  (repeat' first|simp (disch:=omega) only[go_sem,Kx])
  all_goals first | omega | rfl
def qd4:List Nat→Int
 | []=>0
 | x::l=>x+10 * qd4 l
theorem q5T (x:Nat) : ∀ l:List Nat,qd4 (l++[x])=qd4 l+x * 10^l.length
 | []=>by simp [qd4]
 | y::l=>by
  rw[Ko,qd4,qd4,q5T x l,Kb,VH,Int.mul_add,Int.add_assoc]
  congr 2
  rw[←Vp,Vx 10,Vp,Vx 10]
theorem q7I (l:List Nat) (hl:l.length<2^20) (h9 : ∀ x,x∈l→x≤9):q0e CI 611 [.tsl 1 (l.map qdg)] (.str (dg (qd4 l))):=by
 refine q04 qnt rfl ?_
 obtain ⟨n,hn⟩ : ∃ n,l.length=n:=⟨_,rfl⟩
 by_cases hn0:n=0
 ·have hl0:l=[]:=KU.1 (by omega)
  subst hl0
  have hr:=q80 [] (by simp)
  rw[show q1q []=dg (qd4 []) by rw[qd4,dg_zero]; rfl] at hr
  (repeat' first|simp (disch:=omega) only[go_sem,qnt,enter,Ka,Kd]|(apply spl<;>intro h<;>try simp (disch:=omega) only[go_sem,h]))
  all_goals first | omega | skip
  refine q06 (α:=Unit) (fun _=>{ tmps:=q0h 30 [(0,.tsl 1 []),(3,.snil 1),(4,.int .i64 0)],heap:=[],base:=0 }) (fun _=>True) (fun _=>0) () rfl trivial ?_
  rintro _ _
  (repeat' first|simp (disch:=omega) only[go_sem,Kd]|refine q00 _ (hr) ?_)
  all_goals first | omega | rfl
 have hn0' : ¬ (n:Int)=0:=by omega
 (repeat' first|simp (disch:=omega) only[go_sem,qnt,enter,Ka,hn,hn0',VM]|(apply spl<;>intro h<;>try simp (disch:=omega) only[go_sem,h]))
 all_goals first | omega | skip
 refine q06 (α:=Nat × List UInt8) (fun s=>{ tmps:=q0h 30 [(0,.tsl 1 (l.map qdg)),(3,.sref 1 0 0 n),(4,.int .i64 s.1)],heap:=[.row 1 (q3f (q8m n s.2)) false true 0],base:=0 })
  (fun s=>s.1≤n∧s.2.length=s.1∧digits s.2=true∧q08 s.2=qd4 (l.take s.1)) (fun s=>n-s.1) (0,[]) (by
   unfold q8m q3f
   simp only[Kd,Wd,KW,List.map_replicate]
   rfl) ⟨Km _,rfl,rfl,by simp [qd4,q08]⟩ ?_
 rintro ⟨i,D⟩ ⟨hi,hD,hdig,hsum⟩
 simp only at hi hD hdig hsum
 by_cases hlt:i<n
 ·obtain ⟨x,hx⟩:=q05 (s:=l) (k:=i) (by omega)
  have hx2:(l.map qdg)[i]?=some (.int .i64 x):=q09 (g:=qdg) hx
  have hx9:=h9 x (Kc hx)
  obtain ⟨ch,k1,k2,k3⟩:=q9d (x:=(x:Int)) (by omega) (by omega)
  have hset:=qcG (n:=n) (D:=D) (by omega) ch
  rw[hD] at hset
  have hpl:(q3f (q8m n D)).length=n:=by rw[q3n,q6k (by omega)]
  obtain ⟨old,hold⟩:=qgL (l:=q8m n D) (i:=n-1-i) (by rw[q6k (by omega)]; omega)
  have e1:((n:Int)-1-i).toNat=n-1-i:=by omega
  have k2':(48+x:Int)=ch.toNat:=k2.symm
  have hT:l.take (i+1)=l.take i++[x]:=by rw[KB,hx]; rfl
  have hTl:(l.take i).length=i:=by rw[K3]; omega
  generalize hR:q3f (q8m n D)=R at *
  (repeat' first|simp (disch:=omega) only[go_sem,e1,hold,hpl,hx2,k2',hset,Ka,hn]|(apply spl<;>intro h<;>try simp (disch:=omega) only[go_sem,h]))
  all_goals first | omega | skip
  refine ⟨(i+1,ch::D),rfl,⟨hlt,by simp [hD],?_,?_⟩,by simp only; omega⟩
  ·simp only[digits,Vc,k1,Kw]
   exact hdig
  ·simp only
   rw[q1B,k3,hD,hT,q5T,hTl,hsum,Int.add_comm]
 ·have hin:i=n:=by omega
  subst hin
  rw[KG (by omega)] at hsum
  have hpd:q8m i D=D:=by unfold q8m; rw[hD,V0]; rfl
  have hr:=q80 D (by omega)
  rw[q73 hdig,hsum] at hr
  rw[hpd]
  have hel:(q3f D).length=i:=by rw[q3n,hD]
  have htk:List.take i (q3f D)=q3f D:=KG (by omega)
  have hob:=q4K D
  generalize q3f D=R at *
  (repeat' first|simp (disch:=omega) only[go_sem,hel,htk,hob,Vh,Ka,hn]|refine q00 _ (hr) ?_)
  all_goals first | omega | rfl
def qbb (m:Nat) (L:List Nat):List AV:=L.map qdg++List.replicate (m-L.length) (.int .i64 0)
theorem qcW {m:Nat} {L:List Nat} (h:L.length≤m):(qbb m L).length=m:=by
 simp [qbb]
 omega
theorem qg5 {m:Nat} {L:List Nat} (h:L.length<m):(qbb m L)[L.length]?=some (.int .i64 0):=by
 unfold qbb
 rw[Vt (by simp),Ka,V0,List.getElem?_replicate,if_pos (by omega)]
theorem qd9 {m:Nat} {L:List Nat} (h:L.length<m) (x:Nat):(qbb m L).set L.length (.int .i64 x)=qbb m (L++[x]):=by
 unfold qbb
 rw[VZ _ _ (by simp),Ka,V0,show m-L.length=(m-(L++[x]).length)+1 by simp; omega,Vr,List.set_cons_zero,V8,Kv]
 rfl
theorem qd7 {m:Nat} {L:List Nat} (h:L.length=m):qbb m L=L.map qdg:=by
 unfold qbb
 rw[h,V0,List.replicate_zero,KW]
theorem qch (m:Nat):qbb m []=List.replicate m (.int .i64 0):=by
 unfold qbb
 rw[Kt,Ks,Kd,Wd]
theorem q8n {L:List Nat} (h : ∀ x,x∈L→x≤9):0≤qd4 L∧qd4 L<10^L.length:=by
 induction L with
 | nil=>simp [qd4]
 | cons x L ih=>
  obtain ⟨h1,h2⟩:=ih fun y hy=>h y (Kp _ hy)
  have hx:=h x (Kn ..)
  rw[qd4,Kb,VH]
  generalize (10:Int)^L.length=P at *
  omega
theorem qnY (a b:List UInt8) (ha:digits a=true) (hb:digits b=true) (la:a.length<2^18) (lb:b.length<2^18):q0e CI 580 [.str a,.str b] (.str (dg (q08 a+q08 b))):=by
 refine q04 qlK rfl ?_
 obtain ⟨n,hn⟩ : ∃ n,max a.length b.length=n:=⟨_,rfl⟩
 have han:a.length≤n:=by omega
 have hbn:b.length≤n:=by omega
 have hn20:n<2^18:=by omega
 have hnn:(n:Int)<2^18:=by omega
 have en:((n:Int)+1).toNat=n+1:=by omega
 have hn0 : ¬ ((n:Int)+1=0):=by omega
 by_cases hab:a.length<b.length
 ·have hbe:b.length=n:=by omega
  have hab2:(a.length:Int)<n:=by omega
  (repeat' first|simp (disch:=omega) only[go_sem,qlK,enter,hbe,hab2,en,hn0]|(apply spl<;>intro h<;>try simp (disch:=omega) only[go_sem,h]))
  all_goals first | omega | skip
  refine q06 (α:=Nat × Nat × List Nat) (fun s=>{ tmps:=q0h 44 [(0,.str a),(1,.str b),(5,.int .i64 n),(6,.sref 1 0 0 (n+1)),(7,.int .i64 s.2.1),(8,.int .i64 s.1)],heap:=[.row 1 (qbb (n+1) s.2.2) false true 0],base:=0 })
   (fun s=>s.1≤n+1∧s.2.2.length=s.1∧s.2.1≤1∧(∀ x,x∈s.2.2→x≤9)∧qd4 s.2.2+s.2.1 * 10^s.1=qeJ a s.1+qeJ b s.1) (fun s=>n+1-s.1) (0,0,[]) (by rw[qch]; rfl) ⟨Km _,rfl,Km _,fun x h=>(nomatch h),by rw[q2C,q2C]; rfl⟩ ?_
  rintro ⟨i,c,L⟩ ⟨hi,hL,hc1,h9,hsum⟩
  simp only at hi hL hc1 h9 hsum
  by_cases hlt:i≤n
  ·have r1:=q8i a i ha (by omega) (by omega)
   have r2:=q8i b i hb (by omega) (by omega)
   obtain ⟨x0,x9⟩:=q1Y ha i
   obtain ⟨y0,y9⟩:=q1Y hb i
   have ea:=q2A a i
   have eb:=q2A b i
   generalize atD a i=x at *
   generalize atD b i=y at *
   obtain ⟨q,hq⟩ : ∃ q:Nat,(x+y+c) / 10=(q:Int):=⟨((x+y+c) / 10).toNat,by omega⟩
   obtain ⟨r,hr⟩ : ∃ r:Nat,(x+y+c) % 10=(r:Int):=⟨((x+y+c) % 10).toNat,by omega⟩
   have hqt:Int.tdiv (x+y+c) 10=q:=by rw[Int.tdiv_eq_ediv_of_nonneg (by omega)]; exact hq
   have hrt:Int.tmod (x+y+c) 10=r:=by rw[Int.tmod_eq_emod_of_nonneg (by omega)]; exact hr
   have hset:=qd9 (m:=n+1) (L:=L) (by omega) r
   have hold:=qg5 (m:=n+1) (L:=L) (by omega)
   rw[hL] at hset hold
   have hpl:(qbb (n+1) L).length=n+1:=qcW (by omega)
   generalize hR:qbb (n+1) L=R at *
   (repeat' first|simp (disch:=omega) only[go_sem,hold,hpl,hqt,hrt,hset]|refine q00 _ (r1) ?_|refine q00 _ (r2) ?_|(apply spl<;>intro h<;>try simp (disch:=omega) only[go_sem,h]))
   all_goals first | omega | skip
   refine ⟨(i+1,q,L++[r]),rfl,⟨by omega,by simp [hL],by simp only; omega,fun z hz=>?_,?_⟩,by simp only; omega⟩
   ·rcases K7.1 hz with hz | hz
    ·exact h9 z hz
    ·rw[KM.1 hz]
     omega
   ·simp only
    rw[q5T,hL,ea,eb,VH]
    generalize (10:Int)^i=P at *
    have h1:x+y+c=10 * q+r:=by omega
    have h2:=congrArg (· * P) h1
    simp only[Int.add_mul,Vp] at h2
    rw[show (q:Int) * (P * 10)=10 * (q * P) by rw[←Vp,Vx]]
    omega
  ·have hin:i=n+1:=by omega
   subst hin
   rw[q2F (by omega),q2F (by omega)] at hsum
   have hA:=q0o a ha
   have hB:=q0o b hb
   have hDb:=q8n h9
   rw[hL] at hDb
   have p1:=q29 (show a.length≤n by omega)
   have p2:=q29 (show b.length≤n by omega)
   have p3:(10:Int)^(n+1)=10 * 10^n:=by
    rw[VH,Vx]
   have p4:=q2e n
   have hc:c=0:=by
    rcases (show c=0∨c=1 by omega) with h | h
    ·exact h
    ·rw[h] at hsum
     omega
   subst hc
   rw[show ((0:Nat):Int) * 10^(n+1)=0 from Int.zero_mul _,Int.add_zero] at hsum
   have hr:=q7I L (by omega) h9
   rw[hsum] at hr
   rw[qd7 hL]
   have htk:List.take (n+1) (L.map qdg)=L.map qdg:=KG (by rw[Ka]; omega)
   have hnl : ¬ ((n:Int)+1≤n):=by omega
   have hel:(L.map qdg).length=n+1:=by rw[Ka]; exact hL
   generalize L.map qdg=R at *
   (repeat' first|simp (disch:=omega) only[go_sem,hel,htk,Vh,hnl]|refine q00 _ (hr) ?_)
   all_goals first | omega | rfl
 ·have hae:a.length=n:=by omega
  have hab2 : ¬ (n:Int)<b.length:=by omega
  (repeat' first|simp (disch:=omega) only[go_sem,qlK,enter,hae,hab2,en,hn0]|(apply spl<;>intro h<;>try simp (disch:=omega) only[go_sem,h]))
  all_goals first | omega | skip
  refine q06 (α:=Nat × Nat × List Nat) (fun s=>{ tmps:=q0h 44 [(0,.str a),(1,.str b),(5,.int .i64 n),(6,.sref 1 0 0 (n+1)),(7,.int .i64 s.2.1),(8,.int .i64 s.1)],heap:=[.row 1 (qbb (n+1) s.2.2) false true 0],base:=0 })
   (fun s=>s.1≤n+1∧s.2.2.length=s.1∧s.2.1≤1∧(∀ x,x∈s.2.2→x≤9)∧qd4 s.2.2+s.2.1 * 10^s.1=qeJ a s.1+qeJ b s.1) (fun s=>n+1-s.1) (0,0,[]) (by rw[qch]; rfl) ⟨Km _,rfl,Km _,fun x h=>(nomatch h),by rw[q2C,q2C]; rfl⟩ ?_
  rintro ⟨i,c,L⟩ ⟨hi,hL,hc1,h9,hsum⟩
  simp only at hi hL hc1 h9 hsum
  by_cases hlt:i≤n
  ·have r1:=q8i a i ha (by omega) (by omega)
   have r2:=q8i b i hb (by omega) (by omega)
   obtain ⟨x0,x9⟩:=q1Y ha i
   obtain ⟨y0,y9⟩:=q1Y hb i
   have ea:=q2A a i
   have eb:=q2A b i
   generalize atD a i=x at *
   generalize atD b i=y at *
   obtain ⟨q,hq⟩ : ∃ q:Nat,(x+y+c) / 10=(q:Int):=⟨((x+y+c) / 10).toNat,by omega⟩
   obtain ⟨r,hr⟩ : ∃ r:Nat,(x+y+c) % 10=(r:Int):=⟨((x+y+c) % 10).toNat,by omega⟩
   have hqt:Int.tdiv (x+y+c) 10=q:=by rw[Int.tdiv_eq_ediv_of_nonneg (by omega)]; exact hq
   have hrt:Int.tmod (x+y+c) 10=r:=by rw[Int.tmod_eq_emod_of_nonneg (by omega)]; exact hr
   have hset:=qd9 (m:=n+1) (L:=L) (by omega) r
   have hold:=qg5 (m:=n+1) (L:=L) (by omega)
   rw[hL] at hset hold
   have hpl:(qbb (n+1) L).length=n+1:=qcW (by omega)
   generalize hR:qbb (n+1) L=R at *
   (repeat' first|simp (disch:=omega) only[go_sem,hold,hpl,hqt,hrt,hset]|refine q00 _ (r1) ?_|refine q00 _ (r2) ?_|(apply spl<;>intro h<;>try simp (disch:=omega) only[go_sem,h]))
   all_goals first | omega | skip
   refine ⟨(i+1,q,L++[r]),rfl,⟨by omega,by simp [hL],by simp only; omega,fun z hz=>?_,?_⟩,by simp only; omega⟩
   ·rcases K7.1 hz with hz | hz
    ·exact h9 z hz
    ·rw[KM.1 hz]
     omega
   ·simp only
    rw[q5T,hL,ea,eb,VH]
    generalize (10:Int)^i=P at *
    have h1:x+y+c=10 * q+r:=by omega
    have h2:=congrArg (· * P) h1
    simp only[Int.add_mul,Vp] at h2
    rw[show (q:Int) * (P * 10)=10 * (q * P) by rw[←Vp,Vx]]
    omega
  ·have hin:i=n+1:=by omega
   subst hin
   rw[q2F (by omega),q2F (by omega)] at hsum
   have hA:=q0o a ha
   have hB:=q0o b hb
   have hDb:=q8n h9
   rw[hL] at hDb
   have p1:=q29 (show a.length≤n by omega)
   have p2:=q29 (show b.length≤n by omega)
   have p3:(10:Int)^(n+1)=10 * 10^n:=by
    rw[VH,Vx]
   have p4:=q2e n
   have hc:c=0:=by
    rcases (show c=0∨c=1 by omega) with h | h
    ·exact h
    ·rw[h] at hsum
     omega
   subst hc
   rw[show ((0:Nat):Int) * 10^(n+1)=0 from Int.zero_mul _,Int.add_zero] at hsum
   have hr:=q7I L (by omega) h9
   rw[hsum] at hr
   rw[qd7 hL]
   have htk:List.take (n+1) (L.map qdg)=L.map qdg:=KG (by rw[Ka]; omega)
   have hnl : ¬ ((n:Int)+1≤n):=by omega
   have hel:(L.map qdg).length=n+1:=by rw[Ka]; exact hL
   generalize L.map qdg=R at *
   (repeat' first|simp (disch:=omega) only[go_sem,hel,htk,Vh,hnl]|refine q00 _ (hr) ?_)
   all_goals first | omega | rfl
theorem qf8 (a b:List UInt8) (ha:digits a=true) (hb:digits b=true) (la:a.length<2^18) (lb:b.length≤a.length) (hle:q08 b≤q08 a):q0e CI 1014 [.str a,.str b] (.str (dg (q08 a-q08 b))):=by
 refine q04 qea rfl ?_
 obtain ⟨n,hn⟩ : ∃ n,a.length=n:=⟨_,rfl⟩
 have hnn:(n:Int)<2^18:=by omega
 by_cases hn0:n=0
 ·have ha0:a=[]:=KU.1 (by omega)
  have hb0:b=[]:=KU.1 (by omega)
  subst ha0
  subst hb0
  have hr:=q7I [] (by simp) (fun x h=>(nomatch h))
  rw[show dg (qd4 [])=dg (q08 []-q08 []) from rfl,show ([]:List Nat).map qdg=[] from rfl] at hr
  (repeat' first|simp (disch:=omega) only[go_sem,qea,enter,Kd]|(apply spl<;>intro h<;>try simp (disch:=omega) only[go_sem,h]))
  all_goals first | omega | skip
  refine q06 (α:=Unit) (fun _=>{ tmps:=q0h 38 [(0,.str []),(1,.str []),(5,.snil 1),(6,.int .i64 0),(7,.int .i64 0)],heap:=[],base:=0 }) (fun _=>True) (fun _=>0) () rfl trivial ?_
  rintro _ _
  (repeat' first|simp (disch:=omega) only[go_sem,Kd]|refine q00 _ (hr) ?_)
  all_goals first | omega | rfl
 have hn0' : ¬ (n:Int)=0:=by omega
 (repeat' first|simp (disch:=omega) only[go_sem,qea,enter,hn,hn0',VM]|(apply spl<;>intro h<;>try simp (disch:=omega) only[go_sem,h]))
 all_goals first | omega | skip
 refine q06 (α:=Nat × Nat × List Nat) (fun s=>{ tmps:=q0h 38 [(0,.str a),(1,.str b),(5,.sref 1 0 0 n),(6,.int .i64 s.2.1),(7,.int .i64 s.1)],heap:=[.row 1 (qbb n s.2.2) false true 0],base:=0 })
  (fun s=>s.1≤n∧s.2.2.length=s.1∧s.2.1≤1∧(∀ x,x∈s.2.2→x≤9)∧qd4 s.2.2=qeJ a s.1-qeJ b s.1+s.2.1 * 10^s.1) (fun s=>n-s.1) (0,0,[]) (by rw[qch]; rfl) ⟨Km _,rfl,Km _,fun x h=>(nomatch h),by rw[q2C,q2C]; rfl⟩ ?_
 rintro ⟨i,c,L⟩ ⟨hi,hL,hc1,h9,hsum⟩
 simp only at hi hL hc1 h9 hsum
 by_cases hlt:i<n
 ·have r1:=q8i a i ha (by omega) (by omega)
  have r2:=q8i b i hb (by omega) (by omega)
  obtain ⟨x0,x9⟩:=q1Y ha i
  obtain ⟨y0,y9⟩:=q1Y hb i
  have ea:=q2A a i
  have eb:=q2A b i
  generalize atD a i=x at *
  generalize atD b i=y at *
  obtain ⟨q,hq⟩ : ∃ q:Nat,1-(x-y-c+10) / 10=(q:Int):=⟨(1-(x-y-c+10) / 10).toNat,by omega⟩
  obtain ⟨r,hr⟩ : ∃ r:Nat,(x-y-c+10) % 10=(r:Int):=⟨((x-y-c+10) % 10).toNat,by omega⟩
  have hqt:1-Int.tdiv (x-y-c+10) 10=q:=by rw[Int.tdiv_eq_ediv_of_nonneg (by omega)]; exact hq
  have hrt:Int.tmod (x-y-c+10) 10=r:=by rw[Int.tmod_eq_emod_of_nonneg (by omega)]; exact hr
  have hset:=qd9 (m:=n) (L:=L) (by omega) r
  have hold:=qg5 (m:=n) (L:=L) (by omega)
  rw[hL] at hset hold
  have hpl:(qbb n L).length=n:=qcW (by omega)
  generalize hR:qbb n L=R at *
  (repeat' first|simp (disch:=omega) only[go_sem,hn,hold,hpl,hqt,hrt,hset]|refine q00 _ (r1) ?_|refine q00 _ (r2) ?_|(apply spl<;>intro h<;>try simp (disch:=omega) only[go_sem,h]))
  all_goals first | omega | skip
  refine ⟨(i+1,q,L++[r]),rfl,⟨by omega,by simp [hL],by simp only; omega,fun z hz=>?_,?_⟩,by simp only; omega⟩
  ·rcases K7.1 hz with hz | hz
   ·exact h9 z hz
   ·rw[KM.1 hz]
    omega
  ·simp only
   rw[q5T,hL,ea,eb,VH,hsum]
   generalize (10:Int)^i=P at *
   have h1:x-y-c+10=10 * (1-q)+r:=by omega
   have h2:=congrArg (· * P) h1
   simp only[Int.add_mul,Int.sub_mul,Int.mul_sub,Vp] at h2
   rw[show (q:Int) * (P * 10)=10 * (q * P) by rw[←Vp,Vx]]
   omega
 ·have hin:i=n:=by omega
  subst hin
  rw[q2F (by omega),q2F (by omega)] at hsum
  have hA:=q0o a ha
  have hB:=q0o b hb
  have hDb:=q8n h9
  rw[hL] at hDb
  rw[hn] at hA
  have hc:c=0:=by
   rcases (show c=0∨c=1 by omega) with h | h
   ·exact h
   ·rw[h] at hsum
    omega
  subst hc
  rw[show ((0:Nat):Int) * 10^i=0 from Int.zero_mul _,Int.add_zero] at hsum
  have hr:=q7I L (by omega) h9
  rw[hsum] at hr
  rw[qd7 hL]
  have htk:List.take i (L.map qdg)=L.map qdg:=KG (by rw[Ka]; omega)
  have hel:(L.map qdg).length=i:=by rw[Ka]; exact hL
  generalize L.map qdg=R at *
  (repeat' first|simp (disch:=omega) only[go_sem,hel,htk,hn,Vh]|refine q00 _ (hr) ?_)
  all_goals first | omega | rfl
theorem qgp (neg:Bool) (s:List UInt8) (e:Int) (hs:s.length<2^24) (he : -(2^24)≤e∧e≤2^24):q0e CI 581 [.bool neg,.str s,.int .i64 e] (.tup [q0b (q20 neg (q1q s) e).1,.int .i64 (q20 neg (q1q s) e).2]):=by
 have h1:=q80 s (by omega)
 have hl:(q1q s).length≤s.length:=(List.dropWhile_sublist _).length_le
 obtain ⟨t,ht⟩ : ∃ t,q1q s=t:=⟨_,rfl⟩
 rw[ht] at h1 hl ⊢
 have hz:=qei (upS (qaH t (by omega)))
 have zl:=q9n t
 refine q04 qaz rfl ?_
 unfold q20 q0b
 by_cases h0:t=[]
 ·subst h0
  rw[if_pos rfl]
  (repeat' first|simp (disch:=omega) only[go_sem,qaz,enter]|refine q00 _ (h1) ?_)
  all_goals first | omega | rfl
 ·rw[if_neg h0]
  have hb:(t == ([]:List UInt8))=false:=by simp [h0]
  have hlen:(t.take (t.length-q0G t)).length=t.length-q0G t:=by simp
  have e1:((t.length:Int)-q0G t).toNat=t.length-q0G t:=by omega
  by_cases hbad:e>400-q0G t∨e < -400-q0G t∨120<t.length-q0G t
  ·rw[if_pos hbad]
   by_cases b1:(120:Int)<t.length-q0G t
   ·(repeat' first|simp (disch:=omega) only[go_sem,qaz,enter,hb,hlen,e1,b1]|refine q00 _ (h1) ?_|refine q00 _ (hz) ?_)
    all_goals first | omega | rfl
   ·by_cases b2:400<e
    ·(repeat' first|simp (disch:=omega) only[go_sem,qaz,enter,hb,hlen,e1,b1,b2]|refine q00 _ (h1) ?_|refine q00 _ (hz) ?_)
     all_goals first | omega | rfl
    ·by_cases b3:400<e+q0G t
     ·(repeat' first|simp (disch:=omega) only[go_sem,qaz,enter,hb,hlen,e1,b1,b2,b3]|refine q00 _ (h1) ?_|refine q00 _ (hz) ?_)
      all_goals first | omega | rfl
     ·have b4:e+q0G t < -400:=by omega
      (repeat' first|simp (disch:=omega) only[go_sem,qaz,enter,hb,hlen,e1,b1,b2,b3,b4]|refine q00 _ (h1) ?_|refine q00 _ (hz) ?_)
      all_goals first | omega | rfl
  ·rw[if_neg hbad]
   have b1 : ¬ (120:Int)<t.length-q0G t:=by omega
   have b2 : ¬ 400<e:=by omega
   have b3 : ¬ 400<e+q0G t:=by omega
   have b4 : ¬ e+q0G t < -400:=by omega
   (repeat' first|simp (disch:=omega) only[go_sem,qaz,enter,hb,hlen,e1,b1,b2,b3,b4]|refine q00 _ (h1) ?_|refine q00 _ (hz) ?_)
   all_goals first | omega | rfl
theorem qlG (d:Dec) (e:Int) (hd:d.digits.length<2^20) (he:0≤d.exp-e∧d.exp-e<2^20) (hx : -(2^24)≤d.exp∧d.exp≤2^24):q0e CI 1013 [q0b d,.int .i64 e] (.str (pad d.digits (d.exp-e).toNat)):=by
 obtain ⟨k,hk⟩ : ∃ k:Nat,d.exp-e=k:=⟨(d.exp-e).toNat,by omega⟩
 have hr:=qei (upS (q6S k (by omega)))
 have hl:(List.replicate k (48:UInt8)).length=k:=by simp
 rw[hk,VM]
 unfold q0b pad
 refine q04 qi3 rfl ?_
 (repeat' first|simp (disch:=omega) only[go_sem,qi3,enter,hk,hl]|refine q00 _ (hr) ?_)
 all_goals first | omega | rfl
theorem qja (a b:Dec):q0e CI 1012 [q0b a,q0b b] (.int .i64 (if a.exp≤b.exp then a.exp else b.exp)):=by
 unfold q0b
 refine q04 qbn rfl ?_
 by_cases h:a.exp≤b.exp
 ·rw[if_pos h]
  rcases Int.lt_or_eq_of_le h with h1 | h1
  ·(repeat' first|simp (disch:=omega) only[go_sem,qbn,enter,h1])
   all_goals first | omega | rfl
  ·have h2 : ¬ a.exp<b.exp:=by omega
   rw[h1] at h2 ⊢
   (repeat' first|simp (disch:=omega) only[go_sem,qbn,enter,h1,h2])
   all_goals first | omega | rfl
 ·rw[if_neg h]
  have h2 : ¬ a.exp<b.exp:=by omega
  (repeat' first|simp (disch:=omega) only[go_sem,qbn,enter,h2])
  all_goals first | omega | rfl
theorem q89 {n:Int} (h:0≤n):q1q (dg n)=dg n:=by
 obtain ⟨h1,h2,_⟩:=qjX h
 rw[q73 h1,h2]
theorem qhU (a b:Dec) (ha:q0c a=true) (hb:q0c b=true) (na:a.digits≠[]) (nb:b.digits≠[]):q0e CI 1009 [q0b a,q0b b] (.tup [q0b (q6M a b).1,.int .i64 (q6M a b).2]):=by
 obtain ⟨c1,c2,l1,l2,e1,e2,_⟩:=q9X ha hb
 obtain ⟨g1,g2,g3⟩:=qmd c1 c2
 obtain ⟨fa1,fa2,fa3⟩:=q0O ha
 obtain ⟨fb1,fb2,fb3⟩:=q0O hb
 have hlo:=qja a b
 have hA:q0m a b=(pad a.digits (a.exp-(if a.exp≤b.exp then a.exp else b.exp)).toNat,pad b.digits (b.exp-(if a.exp≤b.exp then a.exp else b.exp)).toNat,(if a.exp≤b.exp then a.exp else b.exp)):=by
  unfold q0m
  rw[if_neg na,if_neg nb]
  split<;>rfl
 obtain ⟨m,hm⟩ : ∃ m,(if a.exp≤b.exp then a.exp else b.exp)=m:=⟨_,rfl⟩
 have hm2:m≤a.exp∧m≤b.exp∧-400≤m:=by
  rw[←hm]
  split<;>omega
 rw[hm] at hA hlo
 have t1:=qlG a m (by omega) (by omega) (by omega)
 have t2:=qlG b m (by omega) (by omega) (by omega)
 have ex:(q0m a b).1=pad a.digits (a.exp-m).toNat:=by rw[hA]
 have ey:(q0m a b).2.1=pad b.digits (b.exp-m).toNat:=by rw[hA]
 have ee:(q0m a b).2.2=m:=by rw[hA]
 rw[←ex] at t1
 rw[←ey] at t2
 have hcmp:=q9h (q9v (q0m a b).1 (q0m a b).2.1 (by omega) (by omega))
 have b1:=q0o _ c1.dig
 have b2:=q0o _ c2.dig
 have p1:=q29 l1
 have p2:=q29 l2
 have p3:=qba
 have hsum:=qnY _ _ c1.dig c2.dig (by omega) (by omega)
 have hn:=fun neg n (h1:0≤n) (h2:n<10^1001)=>qgp neg (dg n) (q0m a b).2.2 (by have:=qkn h1 h2; omega) (by omega)
 have n1:=hn a.neg (q08 (q0m a b).1+q08 (q0m a b).2.1) (by omega) (by omega)
 rw[q89 (by omega)] at n1
 have d1:=fun h:q08 (q0m a b).2.1≤q08 (q0m a b).1=>qf8 _ _ c1.dig c2.dig (by omega) (g2 (g1.2 h)) h
 have d2:=fun h : ¬ q08 (q0m a b).2.1≤q08 (q0m a b).1=>qf8 _ _ c2.dig c1.dig (by omega) (g3 (fun k=>h (g1.1 k))) (by omega)
 have n2:=fun h:q08 (q0m a b).2.1≤q08 (q0m a b).1=>hn a.neg (q08 (q0m a b).1-q08 (q0m a b).2.1) (by omega) (by omega)
 have n3:=fun h : ¬ q08 (q0m a b).2.1≤q08 (q0m a b).1=>hn b.neg (q08 (q0m a b).2.1-q08 (q0m a b).1) (by omega) (by omega)
 have s2:=fun h:q08 (q0m a b).2.1≤q08 (q0m a b).1=>q89 (n:=q08 (q0m a b).1-q08 (q0m a b).2.1) (by omega)
 have s3:=fun h : ¬ q08 (q0m a b).2.1≤q08 (q0m a b).1=>q89 (n:=q08 (q0m a b).2.1-q08 (q0m a b).1) (by omega)
 unfold q6M
 clear hn b1 b2 p1 p2 p3 c1 c2 l1 l2 g2 g3 ha hb hA ex ey hm hm2 fa1 fa2 fa3 fb1 fb2 fb3
 generalize q7X (q0m a b).1 (q0m a b).2.1=c at *
 generalize q08 (q0m a b).1=X at *
 generalize q08 (q0m a b).2.1=Y at *
 generalize q0m a b=al at *
 obtain ⟨x,y,e⟩:=al
 simp only at *
 subst ee
 obtain ⟨na',da,ea⟩:=a
 obtain ⟨nb',db,eb⟩:=b
 simp only at na nb
 have hda:(da == ([]:List UInt8))=false:=by simp [na]
 have hdb:(db == ([]:List UInt8))=false:=by simp [nb]
 simp only[q0b] at *
 refine q04 qc1 rfl ?_
 by_cases hne:na'=nb'
 ·subst hne
  rw[if_pos rfl]
  generalize q20 na' (dg (X+Y)) e=r at *
  cases na'
  all_goals
   (repeat' first|simp (disch:=omega) only[go_sem,qc1,enter,hda,hdb]|refine q00 _ (hlo) ?_|refine q00 _ (t1) ?_|refine q00 _ (t2) ?_|refine q00 _ (hsum) ?_|refine q00 _ (n1) ?_)
   all_goals first | omega | rfl
 ·rw[if_neg hne]
  by_cases hle:Y≤X
  ·rw[if_pos hle]
   have hc:=g1.2 hle
   have hc2 : ¬ c<0:=by omega
   have d1:=d1 hle
   have n2:=n2 hle
   rw[s2 hle] at n2
   generalize q20 na' (dg (X-Y)) e=r at *
   cases na'<;>cases nb'<;>first | exact absurd rfl hne | skip
   all_goals
    (repeat' first|simp (disch:=omega) only[go_sem,qc1,enter,hda,hdb,hc2]|refine q00 _ (hlo) ?_|refine q00 _ (t1) ?_|refine q00 _ (t2) ?_|refine q00 _ (hcmp) ?_|refine q00 _ (d1) ?_|refine q00 _ (n2) ?_)
    all_goals first | omega | rfl
  ·rw[if_neg hle]
   have hc : ¬ 0≤c:=fun k=>hle (g1.1 k)
   have hc2:c<0:=by omega
   have d2:=d2 hle
   have n3:=n3 hle
   rw[s3 hle] at n3
   generalize q20 nb' (dg (Y-X)) e=r at *
   cases na'<;>cases nb'<;>first | exact absurd rfl hne | skip
   all_goals
    (repeat' first|simp (disch:=omega) only[go_sem,qc1,enter,hda,hdb,hc2]|refine q00 _ (hlo) ?_|refine q00 _ (t1) ?_|refine q00 _ (t2) ?_|refine q00 _ (hcmp) ?_|refine q00 _ (d2) ?_|refine q00 _ (n3) ?_)
    all_goals first | omega | rfl
end Ago
set_option maxRecDepth 100000
set_option exponentiation.threshold 2000
set_option maxHeartbeats 4000000
namespace Ago
open Go (IntKind)
theorem qpM:q0e CI 1010 [] (q0b (q5o false)):=by
 refine q04 qh0 rfl ?_
 (repeat' first|simp (disch:=omega) only[go_sem,qh0,enter]|(apply spl<;>intro h<;>try simp (disch:=omega) only[go_sem,h]))
 all_goals rfl
theorem qqi (d:Dec) (hd:d.digits≠[]):q0e CI 1015 [q0b d] (q0b ⟨!d.neg,d.digits,d.exp⟩):=by
 obtain ⟨n,s,e⟩:=d
 have hs:(s == ([]:List UInt8))=false:=by simpa using hd
 unfold q0b
 refine q04 qh2 rfl ?_
 (repeat' first|simp (disch:=omega) only[go_sem,qh2,enter,hs])
 all_goals rfl
theorem qg8 (a:Dec) (ha:q0c a=true) (na:a.digits≠[]):q0e CI 1011 [q0b a,q0b (q5o false)] (.tup [q0b (q6M a (q5o true)).1,.int .i64 (q6M a (q5o true)).2]):=by
 have h1:=qqi (q5o false) (by decide)
 have h2:=qhU a (q5o true) ha (q4w true).1 na (by decide)
 generalize q6M a (q5o true)=r at *
 refine q04 qhP rfl ?_
 unfold q5o q0b at *
 (repeat' first|simp (disch:=omega) only[go_sem,qhP,enter]|refine q00 _ (h1) ?_|refine q00 _ (h2) ?_)
 all_goals rfl
theorem qlf (lo hi:Dec) (h1:q0c lo=true) (h2:q0c hi=true) (hle:q0x lo≤q0x hi):q0e CI 1008 [q0b lo,q0b hi] (.bool (qph lo hi)):=by
 have w1:=q9h (q5C lo)
 have w2:=q9h (q5C hi)
 have hz:q0c ⟨false,[],0⟩=true:=by decide
 have k1:=q9h (q3J lo hi h1 h2)
 have k2:=q9h (q3J lo ⟨false,[],0⟩ h1 hz)
 have k3:=q9h (q3J hi ⟨false,[],0⟩ h2 hz)
 have hh:=qpM
 have a1:=qhU lo (q5o false) h1 (q4w false).1
 have a2:=qg8 hi h2
 have vz:q0x ⟨false,[],0⟩=0:=by simp [q0x,q30,q08]
 have c2:=q2o h1 hz
 have c3:=q2o h2 hz
 rw[vz] at c2 c3
 have nil0 : ∀ d:Dec,d.digits=[]→q0x d=0:=fun d hd=>by simp [q0x,q30,hd,q08]
 unfold qph
 refine q04 q7i rfl ?_
 by_cases e1:0≤lo.exp
 ·by_cases e2:0≤hi.exp
  ·rw[if_neg (by simpa using And.intro e1 e2)]
   rw[decide_eq_true e1] at w1
   rw[decide_eq_true e2] at w2
   by_cases m0:q24 lo hi=0
   ·rw[if_pos m0]
    rw[m0] at k1
    clear a1 a2 c2 c3 nil0
    unfold q0b at *
    (repeat' first|simp (disch:=omega) only[go_sem,q7i,enter]|refine q00 _ (w1) ?_|refine q00 _ (w2) ?_|refine q00 _ (k1) ?_)
    all_goals first | omega | rfl
   ·rw[if_neg m0]
    by_cases m1:q24 lo ⟨false,[],0⟩≤0∧0≤q24 hi ⟨false,[],0⟩
    ·rw[if_pos m1]
     obtain ⟨m1,m2⟩:=m1
     clear a1 a2 c2 c3 nil0
     generalize q24 lo hi=x1 at *
     generalize q24 lo ⟨false,[],0⟩=x2 at *
     generalize q24 hi ⟨false,[],0⟩=x3 at *
     unfold q0b at *
     (repeat' first|simp (disch:=omega) only[go_sem,q7i,enter,m0,m1,m2]|refine q00 _ (w1) ?_|refine q00 _ (w2) ?_|refine q00 _ (k1) ?_|refine q00 _ (k2) ?_|refine q00 _ (k3) ?_)
     all_goals first | omega | rfl
    ·rw[if_neg m1]
     have a1:=a1 (fun hd=>by
      have:=nil0 lo hd
      have:=c2.1
      have:=c2.2.1
      have:=c3.1
      omega) (by decide)
     have a2:=a2 (fun hd=>by
      have:=nil0 hi hd
      have:=c2.1
      have:=c2.2.1
      have:=c3.1
      omega)
     clear c2 c3 nil0
     generalize q24 lo hi=x1 at *
     generalize q24 lo ⟨false,[],0⟩=x2 at *
     generalize q24 hi ⟨false,[],0⟩=x3 at *
     generalize q6M lo (q5o false)=r1 at *
     generalize q6M hi (q5o true)=r2 at *
     obtain ⟨r1,f1⟩:=r1
     obtain ⟨r2,f2⟩:=r2
     simp only at a1 a2 ⊢
     unfold q5o q0b at *
     by_cases m2:x2≤0
     ·have m3 : ¬ 0≤x3:=fun h=>m1 ⟨m2,h⟩
      by_cases z1:f1=0<;>by_cases z2:f2=0
      all_goals
       first
        | rw[decide_eq_true (show f1=0∨f2=0 from .inl z1)]
        | rw[decide_eq_true (show f1=0∨f2=0 from .inr z2)]
        | rw[decide_eq_false (show ¬ (f1=0∨f2=0) from fun h=>h.elim z1 z2)]
       (repeat' first|simp (disch:=omega) only[go_sem,q7i,enter,m0,m2,m3,z1,z2]|refine q00 _ (w1) ?_|refine q00 _ (w2) ?_|refine q00 _ (k1) ?_|refine q00 _ (k2) ?_|refine q00 _ (k3) ?_|refine q00 _ (hh) ?_|refine q00 _ (a1) ?_|refine q00 _ (a2) ?_)
       all_goals first | omega | rfl
     ·by_cases z1:f1=0<;>by_cases z2:f2=0
      all_goals
       first
        | rw[decide_eq_true (show f1=0∨f2=0 from .inl z1)]
        | rw[decide_eq_true (show f1=0∨f2=0 from .inr z2)]
        | rw[decide_eq_false (show ¬ (f1=0∨f2=0) from fun h=>h.elim z1 z2)]
       (repeat' first|simp (disch:=omega) only[go_sem,q7i,enter,m0,m2,z1,z2]|refine q00 _ (w1) ?_|refine q00 _ (w2) ?_|refine q00 _ (k1) ?_|refine q00 _ (k2) ?_|refine q00 _ (k3) ?_|refine q00 _ (hh) ?_|refine q00 _ (a1) ?_|refine q00 _ (a2) ?_)
       all_goals first | omega | rfl
  ·rw[if_pos (by simp [e2])]
   rw[decide_eq_true e1] at w1
   rw[decide_eq_false e2] at w2
   clear a1 a2 c2 c3 nil0
   unfold q0b at *
   (repeat' first|simp (disch:=omega) only[go_sem,q7i,enter]|refine q00 _ (w1) ?_|refine q00 _ (w2) ?_)
   all_goals first | omega | rfl
 ·rw[if_pos (by simp [e1])]
  rw[decide_eq_false e1] at w1
  clear a1 a2 c2 c3 nil0
  unfold q0b at *
  (repeat' first|simp (disch:=omega) only[go_sem,q7i,enter]|refine q00 _ (w1) ?_)
  all_goals first | omega | rfl
def qoQ (p:Prt):Bool:=p.lo.set && p.hi.set && !p.lo.opn && !p.hi.opn && decide (q24 p.lo.num p.hi.num≤0) && (if p.sort=1 then decide (0≤p.lo.num.exp) && decide (0≤p.hi.num.exp) else decide (p.sort=0) && qph p.lo.num p.hi.num)
def qua:List Prt→Bool
 | [p]=>qoQ p
 | _=>false
theorem qgg (l:List Prt) (hl:l.length<2^24) (hok : ∀ p,p∈l→q2z p=true):q0e CI 1007 [q3I l] (.bool (qua l)):=by
 obtain ⟨R,hR⟩ : ∃ R,qua l=R:=⟨_,rfl⟩
 rw[hR]
 refine q04 q5q rfl ?_
 unfold q3I
 by_cases h1:l.length=1
 ·match l,h1 with
  | [p],_=>
  have hp:=hok p (KM.2 rfl)
  have hlo:=qhr hp
  have hhi:=qgY hp
  have w1:=q9h (q5C p.lo.num)
  have w2:=q9h (q5C p.hi.num)
  have k1:=fun a b=>q9h (q3J p.lo.num p.hi.num (hlo a) (hhi b))
  have km:=fun a b (h:q24 p.lo.num p.hi.num≤0)=>qlf p.lo.num p.hi.num (hlo a) (hhi b) (by
   have:=q2o (hlo a) (hhi b)
   have:=qcH (hlo a) (hhi b)
   omega)
  have hR:qoQ p=R:=hR
  clear hlo hhi hp hok
  obtain ⟨⟨s1,d1,o1⟩,⟨s2,d2,o2⟩,sort⟩:=p
  simp only[q0n,Kj,Kt] at *
  cases s1 with
  | false=>
   have hR:false=R:=hR
   subst hR
   (repeat' first|simp (disch:=omega) only[go_sem,q5q,enter,Kb,Kd])
   all_goals first | omega | rfl
  | true=>
  cases s2 with
  | false=>
   have hR:false=R:=hR
   subst hR
   (repeat' first|simp (disch:=omega) only[go_sem,q5q,enter,Kb,Kd])
   all_goals first | omega | rfl
  | true=>
  cases o1 with
  | true=>
   have hR:false=R:=hR
   subst hR
   (repeat' first|simp (disch:=omega) only[go_sem,q5q,enter,Kb,Kd])
   all_goals first | omega | rfl
  | false=>
  cases o2 with
  | true=>
   have hR:false=R:=hR
   subst hR
   (repeat' first|simp (disch:=omega) only[go_sem,q5q,enter,Kb,Kd])
   all_goals first | omega | rfl
  | false=>
   have k1:=k1 rfl rfl
   have km:=km rfl rfl
   have hv : ∀ b,(if sort=1 then decide (0≤d1.exp) && decide (0≤d2.exp) else decide (sort=0) && qph d1 d2)=b→q24 d1 d2≤0→b=R:=fun b h1 h2=>by
    rw[←hR,←h1]
    unfold qoQ
    simp [h2]
   have hv0 : ¬ q24 d1 d2≤0→false=R:=fun h2=>by
    rw[←hR]
    unfold qoQ
    simp [h2]
   generalize q24 d1 d2=x1 at *
   generalize qph d1 d2=mx at *
   clear hR
   unfold q0b at *
   by_cases hx:x1≤0
   ·have km:=km hx
    have hx2 : ¬ 0<x1:=by omega
    by_cases hs:sort=1
    ·subst hs
     by_cases z1:0≤d1.exp<;>by_cases z2:0≤d2.exp
     all_goals
      have hv:=hv _ rfl hx
      simp only[z1,z2,decide_true,decide_false,if_true,Bool.and_self,Vi,VJ,KD] at w1 w2 hv
      subst hv
      (repeat' first|simp (disch:=omega) only[go_sem,q5q,enter,Kb,Kd,hx2]|refine q00 _ (k1) ?_|refine q00 _ (w1) ?_|refine q00 _ (w2) ?_)
      all_goals first | omega | rfl
    ·by_cases hs0:sort=0
     ·subst hs0
      have hv:mx=R:=hv _ (by simp) hx
      subst hv
      (repeat' first|simp (disch:=omega) only[go_sem,q5q,enter,Kb,Kd,hx2]|refine q00 _ (k1) ?_|refine q00 _ (km) ?_)
      all_goals first | omega | rfl | (cases mx<;>rfl)
     ·have hv:false=R:=hv _ (by simp [hs,hs0]) hx
      subst hv
      (repeat' first|simp (disch:=omega) only[go_sem,q5q,enter,Kb,Kd,hx2,hs,hs0]|refine q00 _ (k1) ?_)
      all_goals first | omega | rfl
   ·have hx2:0<x1:=by omega
    have hv:=hv0 hx
    subst hv
    (repeat' first|simp (disch:=omega) only[go_sem,q5q,enter,Kb,Kd,hx2]|refine q00 _ (k1) ?_)
    all_goals first | omega | rfl
 ·have hn:false=R:=by
   match l,h1,hR with
   | [],_,h=>exact h
   | [_],h,_=>exact absurd rfl h
   | _::_::_,_,h=>exact h
  subst hn
  have h1' : ¬ (l.length:Int)=1:=by omega
  (repeat' first|simp (disch:=omega) only[go_sem,q5q,enter,Ka,h1'])
  all_goals first | omega | rfl
end Ago
set_option maxRecDepth 100000
set_option exponentiation.threshold 2000
set_option maxHeartbeats 4000000
namespace Ago
open Go (IntKind)
inductive Nod:Sch→Prop where
 | mk (x:Sch) (h:q1n x=true) (hk : ∀ y,y∈x.kids→Nod y):Nod x
theorem qkw {s:Schs} {x:Sch} (h:q5x s x=0):q1n x=true:=by
 cases hb:q1n x with
 | true=>rfl
 | false=>
  unfold q5x at h
  rw[if_pos hb] at h
  cases h
theorem qqP (s:Schs) : ∀ (d:Nat) (x:Sch),q0R s d x=0→q1Z d x=false→Nod x
 | 0,x,_,h2=>by rw[q6e] at h2; cases h2
 | d+1,x,h1,h2=>by
  rw[q4Z] at h1
  rw[q61] at h2
  have hn:q5x s x=0:=by
   by_cases hn:q5x s x=0
   ·exact hn
   ·rw[if_neg hn] at h1
    exact h1
  rw[if_pos hn] at h1
  refine .mk x (qkw hn) fun y hy=>qqP s d y (q8p h1 y hy) ?_
  have:=List.any_eq_false.1 h2 y hy
  simpa using this
theorem Nod.form {x:Sch} (h:Nod x):q1n x=true:=by
 cases h with
 | mk _ h _=>exact h
theorem Nod.kid {x:Sch} (h:Nod x) : ∀ y,y∈x.kids→Nod y:=by
 cases h with
 | mk _ _ h=>exact h
theorem Nod.blank {x:Sch} (h:Nod x):q1D x=true:=by
 have:=h.form
 unfold q1n at this
 rw[Kf,Kf] at this
 exact this.1.2
theorem Nod.arg {x:Sch} (h:Nod x) (ho:x.s.op=9∨x.s.op=10) : ∃ e,x.a=[e]∧Nod e∧qlg x=e:=by
 have hb:=h.blank
 unfold q1D at hb
 rw[Kf,Kf] at hb
 have hb:=of_decide_eq_true hb.1.1
 have h1:x.a.length=1:=by omega
 match ha:x.a,h1 with
 | [e],_=>exact ⟨e,rfl,h.kid e (by unfold Sch.kids; rw[ha]; simp),by unfold qlg; rw[ha]; rfl⟩
theorem Nod.set {x:Sch} (h:Nod x) (ho:x.s.op=4):q7s x.s.parts=true:=by
 have:=h.form
 unfold q1n at this
 rw[Kf] at this
 have:=this.2
 rw[if_neg (by omega),if_pos ho] at this
 exact this
def q6U (f:Sch→Bool):Option (List UInt8)→List (PK × Sch)→Bool
 | _,[]=>true
 | k,p::l=>(match k with
  | none=>true
  | some k0=>Go.Op.bytesLess k0 p.1.key) && f p.2 && q6U f (some p.1.key) l
def qaM (f:Sch→Bool) (x:Sch):Bool:=
 if x.s.op=4 then qua x.s.parts
 else if x.s.op=5 then decide (0≤x.s.max)
 else if x.s.op=9 then (if x.s.max=0 then decide ((qlg x).s.op=2) else decide (0<x.s.max) && f (qlg x))
 else if x.s.op=10 then q6U f none x.p && decide ((qlg x).s.op=2)
 else true
def q78 (f:Sch→Bool):Int→List Sch→Bool
 | _,[]=>true
 | k,a::l=>!decide (q1d a≤k) && qaM f a && q78 f (q1d a) l
def qfx:Nat→Sch→Bool
 | 0,_=>false
 | n+1,x=>decide (x.s.op=12) && q78 (qfx n) (-1) x.a
theorem qkm (x:Sch):qfx 0 x=false:=(rfl)
theorem qah (n:Nat) (x:Sch):qfx (n+1) x=(decide (x.s.op=12) && q78 (qfx n) (-1) x.a):=(rfl)
def qqU (g:Nat) (n:Nat):Prop:=∀ x:Sch,x.bulk≤n→Nod x→q0e CI g [q03 x] (.bool (qfx n x))
def qex (l:List (PK × Sch)):Nat→Option (List UInt8)
 | 0=>none
 | i+1=>(l[i]?).map fun p=>p.1.key
theorem q8b {l:List Prt} (h:q7s l=true):l.length≤256∧∀ p,p∈l→q2z p=true:=by
 unfold q7s at h
 rw[Kf] at h
 exact ⟨of_decide_eq_true h.1,fun p hp=>Kk.1 h.2 p hp⟩
theorem qjp (x:Sch) (ho:x.s.op=4) (hs:q7s x.s.parts=true):q0e CI 997 [q03 x] (.bool (qua x.s.parts)):=by
 obtain ⟨hl,hok⟩:=q8b hs
 obtain ⟨R,hR⟩ : ∃ R,qua x.s.parts=R:=⟨_,rfl⟩
 rw[hR]
 refine q04 q4m rfl ?_
 rw[q01,ho]
 generalize x.s.parts=l at *
 by_cases h1:l.length=1
 ·match l,h1 with
  | [p],_=>
  have hp:=hok p (KM.2 rfl)
  have hlo:=qhr hp
  have hhi:=qgY hp
  have w1:=q9h (q40 p.lo.num)
  have w2:=q9h (q40 p.hi.num)
  have k1:=fun a b=>q9h (q5l p.lo.num p.hi.num (hlo a) (hhi b))
  have kf:=fun a b=>q9h (qiz p.lo.num p.hi.num (hlo a) (hhi b))
  have ko:=fun (a:p.lo.set=true) (b:p.hi.set=true)=>q9h (qr9 ⟨true,p.lo.num,false⟩ ⟨true,p.hi.num,false⟩ 2 (by have:=q0O (hlo a); show p.lo.num.digits.length<_; omega) (by have:=q0O (hhi b); show p.hi.num.digits.length<_; omega))
  have ke:=fun a b (h:q24 p.lo.num p.hi.num≤0)=>qpQ (hlo a) (hhi b) (by
   have:=q2o (hlo a) (hhi b)
   have:=qcH (hlo a) (hhi b)
   omega)
  have kp:=fun a b=>q9a (lo:=p.lo.num) (hi:=p.hi.num) (hlo a) (hhi b)
  have hR:qoQ p=R:=hR
  clear hlo hhi hp hok hs
  obtain ⟨⟨s1,d1,o1⟩,⟨s2,d2,o2⟩,sort⟩:=p
  simp only[q0n,Kj,Kt] at *
  cases s1 with
  | false=>
   have hR:false=R:=hR
   subst hR
   (repeat' first|simp (disch:=omega) only[go_sem,q4m,enter,Kb,Kd])
   all_goals first | omega | rfl
  | true=>
  cases s2 with
  | false=>
   have hR:false=R:=hR
   subst hR
   (repeat' first|simp (disch:=omega) only[go_sem,q4m,enter,Kb,Kd])
   all_goals first | omega | rfl
  | true=>
  cases o1 with
  | true=>
   have hR:false=R:=hR
   subst hR
   (repeat' first|simp (disch:=omega) only[go_sem,q4m,enter,Kb,Kd])
   all_goals first | omega | rfl
  | false=>
  cases o2 with
  | true=>
   have hR:false=R:=hR
   subst hR
   (repeat' first|simp (disch:=omega) only[go_sem,q4m,enter,Kb,Kd])
   all_goals first | omega | rfl
  | false=>
   have k1:=k1 rfl rfl
   have kf:=kf rfl rfl
   have ko:=ko rfl rfl
   have ke:=ke rfl rfl
   have kp:=kp rfl rfl
   rw[show qwA ⟨⟨true,d1,false⟩,⟨true,d2,false⟩,2⟩=([q4V d1 d2],0) by unfold qwA; rw[show (⟨⟨true,d1,false⟩,⟨true,d2,false⟩,2⟩:Prt)=q4V d1 d2 from rfl,if_pos kp]] at ko
   clear kp
   have hv : ∀ b,(if sort=1 then decide (0≤d1.exp) && decide (0≤d2.exp) else decide (sort=0) && qph d1 d2)=b→q24 d1 d2≤0→b=R:=fun b h1 h2=>by
    rw[←hR,←h1]
    unfold qoQ
    simp [h2]
   have hv0 : ¬ q24 d1 d2≤0→false=R:=fun h2=>by
    rw[←hR]
    unfold qoQ
    simp [h2]
   clear hR
   generalize q24 d1 d2=x1 at *
   by_cases hx:x1≤0
   ·rw[ke hx] at kf
    clear ke
    generalize qph d1 d2=mx at *
    unfold qrv q3I q4V q0b at *
    simp only[q0n,Kj,Kt,q4z] at kf ko
    have hx2 : ¬ 0<x1:=by omega
    by_cases hs:sort=1
    ·subst hs
     by_cases z1:0≤d1.exp<;>by_cases z2:0≤d2.exp
     all_goals
      have hv:=hv _ rfl hx
      simp only[z1,z2,decide_true,decide_false,if_true,Bool.and_self,Vi,VJ,KD] at w1 w2 hv
      subst hv
      (repeat' first|simp (disch:=omega) only[go_sem,q4m,enter,Kb,Kd,hx2]|refine q00 _ (k1) ?_|refine q00 _ (w1) ?_|refine q00 _ (w2) ?_)
      all_goals first | omega | rfl
    ·by_cases hs0:sort=0
     ·subst hs0
      have hv:mx=R:=hv _ (by simp) hx
      subst hv
      (repeat' first|simp (disch:=omega) only[go_sem,q4m,enter,Kb,Kd,hx2]|refine q00 _ (k1) ?_|refine q00 _ (ko) ?_|refine q00 _ (kf) ?_|(apply spl<;>intro h<;>try simp (disch:=omega) only[go_sem,h]))
      all_goals first | omega | rfl | (cases mx<;>rfl)
     ·have hv:false=R:=hv _ (by simp [hs,hs0]) hx
      subst hv
      (repeat' first|simp (disch:=omega) only[go_sem,q4m,enter,Kb,Kd,hx2,hs,hs0]|refine q00 _ (k1) ?_)
      all_goals first | omega | rfl
   ·have hv:=hv0 hx
    subst hv
    unfold q0b at *
    have hx2:0<x1:=by omega
    (repeat' first|simp (disch:=omega) only[go_sem,q4m,enter,Kb,Kd,hx2]|refine q00 _ (k1) ?_)
    all_goals first | omega | rfl
 ·have hn:false=R:=by
   match l,h1,hR with
   | [],_,h=>exact h
   | [_],h,_=>exact absurd rfl h
   | _::_::_,_,h=>exact h
  subst hn
  have h1' : ¬ (l.length:Int)=1:=by omega
  (repeat' first|simp (disch:=omega) only[go_sem,q4m,enter,Ka,h1'])
  all_goals first | omega | rfl
end Ago
set_option maxRecDepth 100000
set_option exponentiation.threshold 2000
set_option maxHeartbeats 4000000
namespace Ago
open Go (IntKind)
theorem q7G (l:List (PK × Sch)):qex l 0=none:=(rfl)
theorem qhN {l:List (PK × Sch)} {i:Nat} {q:PK × Sch} (hi:0<i) (h:l[i-1]?=some q):qex l i=some q.1.key:=by
 obtain ⟨k,rfl⟩ : ∃ k,i=k+1:=⟨i-1,by omega⟩
 show (l[k]?).map _=_
 rw[show l[k]?=some q from h]
 rfl
theorem qbO (f:Sch→Bool) (k:Option (List UInt8)) (p:PK × Sch) (l:List (PK × Sch)):q6U f k (p::l)=((match k with
  | none=>true
  | some k0=>Go.Op.bytesLess k0 p.1.key) && f p.2 && q6U f (some p.1.key) l):=by
 cases k<;>rfl
theorem qc3 {f:Sch→Bool} {l:List (PK × Sch)} {i:Nat} {p:PK × Sch} (h:l[i]?=some p):q6U f (qex l i) (l.drop i)=((match qex l i with
  | none=>true
  | some k0=>Go.Op.bytesLess k0 p.1.key) && f p.2 && q6U f (qex l (i+1)) (l.drop (i+1))):=by
 rw[q6n h,qbO,show qex l (i+1)=some p.1.key by show (l[i]?).map _=_; rw[h]; rfl]
theorem qbs {f:Sch→Bool} {l:List Sch} {i:Nat} {k:Int} {a:Sch} (h:l[i]?=some a):q78 f k (l.drop i)=(!decide (q1d a≤k) && qaM f a && q78 f (q1d a) (l.drop (i+1))):=by
 rw[q6n h,q78]
theorem qjE (f:Sch→Bool) (x:Sch) (hb:x.bulk≤2^24) (hx:Nod x) (ho:x.s.op=10) (hf : ∀ p,p∈x.p→q0e CI 983 [q03 p.2] (.bool (f p.2))):q0e CI 997 [q03 x] (.bool (q6U f none x.p && decide ((qlg x).s.op=2))):=by
 have L:=Sch.lens hb
 have hpl:=L.props
 obtain ⟨e,he,_,he2⟩:=hx.arg (.inr ho)
 rw[he2]
 refine q04 q4m rfl ?_
 obtain ⟨R,hR⟩ : ∃ R,q6U f none x.p=R:=⟨_,rfl⟩
 rw[hR,q01,ho]
 (repeat' first|simp (disch:=omega) only[go_sem,q4m,enter,Ka]|(apply spl<;>intro h<;>try simp (disch:=omega) only[go_sem,h]))
 all_goals first | omega | skip
 refine q06 (α:=Nat) (fun i=>{ tmps:=q0h 150 [(1,.ptr 15 0 0 0),(116,.tsl 17 (x.p.map q0g)),(117,.int .i64 x.p.length),(118,.int .i64 i)],heap:=[.row 15 [q03 x] false true 0],base:=0 }) (fun i=>i≤x.p.length∧q6U f (qex x.p i) (x.p.drop i)=R) (fun i=>x.p.length-i) 0 (by rw[q01,ho]; rfl) ⟨Km _,by rw[q7G,Vh,hR]⟩ ?_
 rintro i ⟨hi,hk⟩
 by_cases hlt:i<x.p.length
 ·obtain ⟨p,hp⟩:=q05 hlt
  have hp2:=q09 (g:=q0g) hp
  have hfp:=hf p (Kc hp)
  rw[qc3 hp] at hk
  rw[q01] at hfp
  rw[q0f] at hp2
  obtain ⟨b,hfb⟩ : ∃ b,f p.2=b:=⟨_,rfl⟩
  rw[hfb] at hfp hk
  by_cases h0:i=0
  ·subst h0
   have h00 : ¬ (0:Int)<((0:Nat):Int):=by decide
   rw[q7G] at hk
   simp only[Kw] at hk
   cases b with
   | false=>
    rw[KD] at hk
    rw[←hk,q01,ho]
    (repeat' first|simp (disch:=omega) only[go_sem,hp2,Ka,h00]|refine q00 _ (hfp) ?_)
    all_goals first | omega | rfl
   | true=>
    rw[Kw] at hk
    rw[q01,ho]
    (repeat' first|simp (disch:=omega) only[go_sem,hp2,Ka,h00]|refine q00 _ (hfp) ?_|(apply spl<;>intro h<;>try simp (disch:=omega) only[go_sem,h]))
    all_goals first | omega | skip
    exact ⟨1,by first | rfl | (rw[q01,ho]; rfl),⟨by omega,hk⟩,by omega⟩
  ·obtain ⟨q,hq⟩:=q05 (s:=x.p) (k:=i-1) (by omega)
   have hq2:=q09 (g:=q0g) hq
   rw[q0f] at hq2
   rw[qhN (by omega) hq] at hk
   have e1:((i:Int)-1).toNat=i-1:=by omega
   have h00:(0:Int)<i:=by omega
   simp only at hk
   obtain ⟨c,hc⟩ : ∃ c,Go.Op.bytesLess q.1.key p.1.key=c:=⟨_,rfl⟩
   rw[hc] at hk
   cases c with
   | false=>
    rw[KD,KD] at hk
    rw[←hk,q01,ho]
    (repeat' first|simp (disch:=omega) only[go_sem,hp2,hq2,Ka,h00,e1,hc])
    all_goals first | omega | rfl
   | true=>
    cases b with
    | false=>
     rw[Kw,KD] at hk
     rw[←hk,q01,ho]
     (repeat' first|simp (disch:=omega) only[go_sem,hp2,hq2,Ka,h00,e1,hc]|refine q00 _ (hfp) ?_)
     all_goals first | omega | rfl
    | true=>
     rw[Kw,Kw] at hk
     rw[q01,ho]
     (repeat' first|simp (disch:=omega) only[go_sem,hp2,hq2,Ka,h00,e1,hc]|refine q00 _ (hfp) ?_|(apply spl<;>intro h<;>try simp (disch:=omega) only[go_sem,h]))
     all_goals first | omega | skip
     exact ⟨i+1,by first | rfl | (rw[q01,ho]; rfl),⟨by omega,hk⟩,by omega⟩
 ·rw[K1 (by omega),q6U] at hk
  rw[←hk,Kw,q01,ho,he,Kj,Kt,q01 e]
  (repeat' first|simp (disch:=omega) only[go_sem,Ka,Kb,Kd]|(apply spl<;>intro h<;>try simp (disch:=omega) only[go_sem,h]))
  all_goals first | omega | rfl
theorem qde (f:Sch→Bool) (x:Sch) (hb:x.bulk≤2^24) (hx:Nod x) (ho:x.s.op=10) (hf : ∀ p,p∈x.p→q0e CI 984 [q03 p.2] (.bool (f p.2))):q0e CI 998 [q03 x] (.bool (q6U f none x.p && decide ((qlg x).s.op=2))):=by
 have L:=Sch.lens hb
 have hpl:=L.props
 obtain ⟨e,he,_,he2⟩:=hx.arg (.inr ho)
 rw[he2]
 refine q04 q6L rfl ?_
 obtain ⟨R,hR⟩ : ∃ R,q6U f none x.p=R:=⟨_,rfl⟩
 rw[hR,q01,ho]
 (repeat' first|simp (disch:=omega) only[go_sem,q6L,enter,Ka]|(apply spl<;>intro h<;>try simp (disch:=omega) only[go_sem,h]))
 all_goals first | omega | skip
 refine q06 (α:=Nat) (fun i=>{ tmps:=q0h 83 [(1,.ptr 15 0 0 0),(3,.int .i64 i)],heap:=[.row 15 [q03 x] false true 0],base:=0 }) (fun i=>i≤x.p.length∧q6U f (qex x.p i) (x.p.drop i)=R) (fun i=>x.p.length-i) 0 (by rw[q01,ho]; rfl) ⟨Km _,by rw[q7G,Vh,hR]⟩ ?_
 rintro i ⟨hi,hk⟩
 by_cases hlt:i<x.p.length
 ·obtain ⟨p,hp⟩:=q05 hlt
  have hp2:=q09 (g:=q0g) hp
  have hfp:=hf p (Kc hp)
  rw[qc3 hp] at hk
  rw[q01] at hfp
  rw[q0f] at hp2
  obtain ⟨b,hfb⟩ : ∃ b,f p.2=b:=⟨_,rfl⟩
  rw[hfb] at hfp hk
  by_cases h0:i=0
  ·subst h0
   have h00 : ¬ (0:Int)<((0:Nat):Int):=by decide
   rw[q7G] at hk
   simp only[Kw] at hk
   cases b with
   | false=>
    rw[KD] at hk
    rw[←hk,q01,ho]
    (repeat' first|simp (disch:=omega) only[go_sem,hp2,Ka,h00]|refine q00 _ (hfp) ?_)
    all_goals first | omega | rfl
   | true=>
    rw[Kw] at hk
    rw[q01,ho]
    (repeat' first|simp (disch:=omega) only[go_sem,hp2,Ka,h00]|refine q00 _ (hfp) ?_|(apply spl<;>intro h<;>try simp (disch:=omega) only[go_sem,h]))
    all_goals first | omega | skip
    exact ⟨1,by first | rfl | (rw[q01,ho]; rfl),⟨by omega,hk⟩,by omega⟩
  ·obtain ⟨q,hq⟩:=q05 (s:=x.p) (k:=i-1) (by omega)
   have hq2:=q09 (g:=q0g) hq
   rw[q0f] at hq2
   rw[qhN (by omega) hq] at hk
   have e1:((i:Int)-1).toNat=i-1:=by omega
   have h00:(0:Int)<i:=by omega
   simp only at hk
   obtain ⟨c,hc⟩ : ∃ c,Go.Op.bytesLess q.1.key p.1.key=c:=⟨_,rfl⟩
   rw[hc] at hk
   cases c with
   | false=>
    rw[KD,KD] at hk
    rw[←hk,q01,ho]
    (repeat' first|simp (disch:=omega) only[go_sem,hp2,hq2,Ka,h00,e1,hc])
    all_goals first | omega | rfl
   | true=>
    cases b with
    | false=>
     rw[Kw,KD] at hk
     rw[←hk,q01,ho]
     (repeat' first|simp (disch:=omega) only[go_sem,hp2,hq2,Ka,h00,e1,hc]|refine q00 _ (hfp) ?_)
     all_goals first | omega | rfl
    | true=>
     rw[Kw,Kw] at hk
     rw[q01,ho]
     (repeat' first|simp (disch:=omega) only[go_sem,hp2,hq2,Ka,h00,e1,hc]|refine q00 _ (hfp) ?_|(apply spl<;>intro h<;>try simp (disch:=omega) only[go_sem,h]))
     all_goals first | omega | skip
     exact ⟨i+1,by first | rfl | (rw[q01,ho]; rfl),⟨by omega,hk⟩,by omega⟩
 ·rw[K1 (by omega),q6U] at hk
  rw[←hk,Kw,q01,ho,he,Kj,Kt,q01 e]
  (repeat' first|simp (disch:=omega) only[go_sem,Ka,Kb,Kd]|(apply spl<;>intro h<;>try simp (disch:=omega) only[go_sem,h]))
  all_goals first | omega | rfl
theorem qj3 (f:Sch→Bool) (x:Sch) (hb:x.bulk≤2^24) (hx:Nod x) (hkd:0≤q1d x) (hf : ∀ y,y∈x.kids→q0e CI 983 [q03 y] (.bool (f y))):q0e CI 997 [q03 x] (.bool (qaM f x)):=by
 unfold qaM
 by_cases h4:x.s.op=4
 ·rw[if_pos h4]
  exact qjp x h4 (hx.set h4)
 rw[if_neg h4]
 by_cases h5:x.s.op=5
 ·rw[if_pos h5]
  refine q04 q4m rfl ?_
  rw[q01,h5]
  (repeat' first|simp (disch:=omega) only[go_sem,q4m,enter])
  all_goals first | omega | rfl
 rw[if_neg h5]
 by_cases h9:x.s.op=9
 ·rw[if_pos h9]
  obtain ⟨e,he,_,he2⟩:=hx.arg (.inl h9)
  have hfe:=hf e (by unfold Sch.kids; rw[he]; simp)
  rw[he2]
  refine q04 q4m rfl ?_
  rw[q01] at hfe
  rw[q01,h9,he,Kj,Kt,q01 e]
  by_cases hm:x.s.max=0
  ·rw[if_pos hm,hm]
   by_cases h2:e.s.op=2
   ·rw[h2] at hfe ⊢
    (repeat' first|simp (disch:=omega) only[go_sem,q4m,enter,Kb,Kd]|refine q00 _ (hfe) ?_)
    all_goals first | omega | rfl
   ·(repeat' first|simp (disch:=omega) only[go_sem,q4m,enter,Kb,Kd,h2]|refine q00 _ (hfe) ?_)
    all_goals first | omega | rfl | simp [h2]
  ·rw[if_neg hm]
   by_cases hp:0<x.s.max
   ·(repeat' first|simp (disch:=omega) only[go_sem,q4m,enter,Kb,Kd,hm,hp]|refine q00 _ (hfe) ?_)
    all_goals first | omega | rfl | simp [hp]
   ·(repeat' first|simp (disch:=omega) only[go_sem,q4m,enter,Kb,Kd,hm,hp]|refine q00 _ (hfe) ?_)
    all_goals first | omega | rfl | simp [hp]
 rw[if_neg h9]
 by_cases h10:x.s.op=10
 ·rw[if_pos h10]
  exact qjE f x hb hx h10 fun p hp=>hf p.2 (by unfold Sch.kids; exact List.mem_append_left _ (Vf hp))
 rw[if_neg h10]
 have hr:=q4k x
 refine q04 q4m rfl ?_
 rw[q01] at hr ⊢
 (repeat' first|simp (disch:=omega) only[go_sem,q4m,enter,h4,h5,h9,h10])
 all_goals first | omega | rfl | simp [hkd]
theorem qcq (f:Sch→Bool) (x:Sch) (hb:x.bulk≤2^24) (hx:Nod x) (hkd:0≤q1d x) (hf : ∀ y,y∈x.kids→q0e CI 984 [q03 y] (.bool (f y))):q0e CI 998 [q03 x] (.bool (qaM f x)):=by
 unfold qaM
 by_cases h4:x.s.op=4
 ·rw[if_pos h4]
  obtain ⟨hl,hok⟩:=q8b (hx.set h4)
  have hn:=qgg x.s.parts (by omega) hok
  unfold q3I at hn
  refine q04 q6L rfl ?_
  rw[q01,h4]
  (repeat' first|simp (disch:=omega) only[go_sem,q6L,enter]|refine q00 _ (hn) ?_)
  all_goals first | omega | rfl
 rw[if_neg h4]
 by_cases h5:x.s.op=5
 ·rw[if_pos h5]
  refine q04 q6L rfl ?_
  rw[q01,h5]
  (repeat' first|simp (disch:=omega) only[go_sem,q6L,enter])
  all_goals first | omega | rfl
 rw[if_neg h5]
 by_cases h9:x.s.op=9
 ·rw[if_pos h9]
  obtain ⟨e,he,_,he2⟩:=hx.arg (.inl h9)
  have hfe:=hf e (by unfold Sch.kids; rw[he]; simp)
  rw[he2]
  refine q04 q6L rfl ?_
  rw[q01] at hfe
  rw[q01,h9,he,Kj,Kt,q01 e]
  by_cases hm:x.s.max=0
  ·rw[if_pos hm,hm]
   by_cases h2:e.s.op=2
   ·rw[h2] at hfe ⊢
    (repeat' first|simp (disch:=omega) only[go_sem,q6L,enter,Kb,Kd]|refine q00 _ (hfe) ?_)
    all_goals first | omega | rfl
   ·(repeat' first|simp (disch:=omega) only[go_sem,q6L,enter,Kb,Kd,h2]|refine q00 _ (hfe) ?_)
    all_goals first | omega | rfl | simp [h2]
  ·rw[if_neg hm]
   by_cases hp:0<x.s.max
   ·(repeat' first|simp (disch:=omega) only[go_sem,q6L,enter,Kb,Kd,hm,hp]|refine q00 _ (hfe) ?_)
    all_goals first | omega | rfl | simp [hp]
   ·(repeat' first|simp (disch:=omega) only[go_sem,q6L,enter,Kb,Kd,hm,hp]|refine q00 _ (hfe) ?_)
    all_goals first | omega | rfl | simp [hp]
 rw[if_neg h9]
 by_cases h10:x.s.op=10
 ·rw[if_pos h10]
  exact qde f x hb hx h10 fun p hp=>hf p.2 (by unfold Sch.kids; exact List.mem_append_left _ (Vf hp))
 rw[if_neg h10]
 have hr:=q4k x
 refine q04 q6L rfl ?_
 rw[q01] at hr ⊢
 (repeat' first|simp (disch:=omega) only[go_sem,q6L,enter,h4,h5,h9,h10]|refine q00 _ (hr) ?_)
 all_goals first | omega | rfl | simp [hkd]
theorem qmg : ∀ n,n≤2^24→qqU 983 n
 | 0,_,x,hb,_=>by
  have:=x.bulk_eq
  omega
 | n+1,hn,x,hb,hx=>by
  have ih:=qmg n (by omega)
  have L:=Sch.lens (KZ hb hn)
  have hal:=L.args
  rw[qah]
  refine q04 ql9 rfl ?_
  by_cases h12:x.s.op=12
  ·rw[decide_eq_true h12,Kw]
   obtain ⟨R,hR⟩ : ∃ R,q78 (qfx n) (-1) x.a=R:=⟨_,rfl⟩
   rw[hR,q01,h12]
   (repeat' first|simp (disch:=omega) only[go_sem,ql9,enter,Ka]|(apply spl<;>intro h<;>try simp (disch:=omega) only[go_sem,h]))
   all_goals first | omega | skip
   refine q06 (α:=Nat × Int) (fun a=>{ tmps:=q0h 29 [(3,.int .i64 a.2),(11,.tsl 15 (x.a.map q03)),(12,.int .i64 x.a.length),(13,.int .i64 a.1)],heap:=[],base:=0 }) (fun a=>a.1≤x.a.length∧-1≤a.2∧q78 (qfx n) a.2 (x.a.drop a.1)=R) (fun a=>x.a.length-a.1) (0,-1) (by rfl) ⟨Km _,Int.le_refl _,hR⟩ ?_
   rintro ⟨i,k⟩ ⟨hi,hk1,hk⟩
   simp only at hi hk1 hk
   by_cases hlt:i<x.a.length
   ·obtain ⟨a,ha⟩:=q05 hlt
    have ha2:=q09 (g:=q03) ha
    have ham:=Kc ha
    have hab:=L.kids a ham
    have hna:=hx.kid a (by unfold Sch.kids; exact List.mem_append_right _ ham)
    have hkr:=q8k a
    rw[qbs ha] at hk
    have hm:=fun h0=>qj3 (qfx n) a (by omega) hna h0 fun y hy=>ih y (by have:=Sch.kids_bulk hy; omega) (hna.kid y hy)
    rw[q01] at ha2 hkr hm
    obtain ⟨kk,hkk⟩ : ∃ kk,q1d a=kk:=⟨_,rfl⟩
    rw[hkk] at hk hkr hm
    by_cases hle:kk≤k
    ·rw[decide_eq_true hle] at hk
     rw[←hk]
     (repeat' first|simp (disch:=omega) only[go_sem,ha2,Ka,hle]|refine q00 _ (hkr) ?_)
     all_goals first | omega | rfl
    ·rw[decide_eq_false hle] at hk
     have hm:=hm (by omega)
     obtain ⟨b,hb2⟩ : ∃ b,qaM (qfx n) a=b:=⟨_,rfl⟩
     rw[hb2] at hk hm
     cases b with
     | false=>
      simp only[Vq,Kw,KD] at hk
      rw[←hk]
      (repeat' first|simp (disch:=omega) only[go_sem,ha2,Ka,hle]|refine q00 _ (hkr) ?_|refine q00 _ (hm) ?_)
      all_goals first | omega | rfl
     | true=>
      simp only[Vq,Kw] at hk
      (repeat' first|simp (disch:=omega) only[go_sem,ha2,Ka,hle]|refine q00 _ (hkr) ?_|refine q00 _ (hm) ?_|(apply spl<;>intro h<;>try simp (disch:=omega) only[go_sem,h]))
      all_goals first | omega | skip
      exact ⟨(i+1,kk),by rfl,⟨by simp only; omega,by simp only; omega,hk⟩,by simp only; omega⟩
   ·rw[K1 (by omega),q78] at hk
    rw[←hk]
    (repeat' first|simp (disch:=omega) only[go_sem,Ka])
    all_goals first | omega | rfl
  ·rw[decide_eq_false h12,KD,q01]
   (repeat' first|simp (disch:=omega) only[go_sem,ql9,enter,h12])
   all_goals first | omega | rfl
theorem qbe : ∀ n,n≤2^24→qqU 984 n
 | 0,_,x,hb,_=>by
  have:=x.bulk_eq
  omega
 | n+1,hn,x,hb,hx=>by
  have ih:=qbe n (by omega)
  have L:=Sch.lens (KZ hb hn)
  have hal:=L.args
  rw[qah]
  refine q04 qmD rfl ?_
  by_cases h12:x.s.op=12
  ·rw[decide_eq_true h12,Kw]
   obtain ⟨R,hR⟩ : ∃ R,q78 (qfx n) (-1) x.a=R:=⟨_,rfl⟩
   rw[hR,q01,h12]
   (repeat' first|simp (disch:=omega) only[go_sem,qmD,enter,Ka]|(apply spl<;>intro h<;>try simp (disch:=omega) only[go_sem,h]))
   all_goals first | omega | skip
   refine q06 (α:=Nat × Int) (fun a=>{ tmps:=q0h 35 [(1,.ptr 15 0 0 0),(3,.int .i64 a.2),(4,.int .i64 a.1)],heap:=[.row 15 [q03 x] false true 0],base:=0 }) (fun a=>a.1≤x.a.length∧-1≤a.2∧q78 (qfx n) a.2 (x.a.drop a.1)=R) (fun a=>x.a.length-a.1) (0,-1) (by rw[q01,h12]; rfl) ⟨Km _,Int.le_refl _,hR⟩ ?_
   rintro ⟨i,k⟩ ⟨hi,hk1,hk⟩
   simp only at hi hk1 hk
   by_cases hlt:i<x.a.length
   ·obtain ⟨a,ha⟩:=q05 hlt
    have ha2:=q09 (g:=q03) ha
    have ham:=Kc ha
    have hab:=L.kids a ham
    have hna:=hx.kid a (by unfold Sch.kids; exact List.mem_append_right _ ham)
    have hkr:=q4k a
    rw[qbs ha] at hk
    have hm:=fun h0=>qcq (qfx n) a (by omega) hna h0 fun y hy=>ih y (by have:=Sch.kids_bulk hy; omega) (hna.kid y hy)
    rw[q01] at ha2 hkr hm
    obtain ⟨kk,hkk⟩ : ∃ kk,q1d a=kk:=⟨_,rfl⟩
    rw[hkk] at hk hkr hm
    by_cases hle:kk≤k
    ·rw[decide_eq_true hle] at hk
     rw[←hk,q01,h12]
     (repeat' first|simp (disch:=omega) only[go_sem,ha2,Ka,hle]|refine q00 _ (hkr) ?_)
     all_goals first | omega | rfl
    ·rw[decide_eq_false hle] at hk
     have hm:=hm (by omega)
     obtain ⟨b,hb2⟩ : ∃ b,qaM (qfx n) a=b:=⟨_,rfl⟩
     rw[hb2] at hk hm
     cases b with
     | false=>
      simp only[Vq,Kw,KD] at hk
      rw[←hk,q01,h12]
      (repeat' first|simp (disch:=omega) only[go_sem,ha2,Ka,hle]|refine q00 _ (hkr) ?_|refine q00 _ (hm) ?_)
      all_goals first | omega | rfl
     | true=>
      simp only[Vq,Kw] at hk
      rw[q01,h12]
      (repeat' first|simp (disch:=omega) only[go_sem,ha2,Ka,hle]|refine q00 _ (hkr) ?_|refine q00 _ (hm) ?_|(apply spl<;>intro h<;>try simp (disch:=omega) only[go_sem,h]))
      all_goals first | omega | skip
      exact ⟨(i+1,kk),by first | rfl | (rw[q01,h12]; rfl),⟨by simp only; omega,by simp only; omega,hk⟩,by simp only; omega⟩
   ·rw[K1 (by omega),q78] at hk
    rw[←hk,q01,h12]
    (repeat' first|simp (disch:=omega) only[go_sem,Ka])
    all_goals first | omega | rfl
  ·rw[decide_eq_false h12,KD,q01]
   (repeat' first|simp (disch:=omega) only[go_sem,qmD,enter,h12])
   all_goals first | omega | rfl
end Ago
set_option maxRecDepth 100000
set_option exponentiation.threshold 2000
set_option maxHeartbeats 4000000
namespace Ago
open Go (IntKind)
theorem qsj {p:Pat} (h:q1M p=true):p=qgG:=by
 unfold q1M at h
 have hp:=of_decide_eq_true h
 obtain ⟨⟨o,lo,hi,mi,ma⟩,pa⟩:=p
 simp only[Pat.s,Pat.a] at hp
 obtain ⟨p1,p2,p3,p4,p5,p6⟩:=hp
 have p6:=KU.1 p6
 subst p1 p2 p3 p4 p5 p6
 rfl
theorem q85 {x:Sch} (h:q1D x=true) (ho:x.s.op≠6∧x.s.op≠7∧x.s.op≠8∧x.s.op≠14) :
  x = .mk ⟨x.s.op,x.s.mask,x.s.min,x.s.max,[],x.s.parts,qgG,[]⟩ x.p x.a∧(x.s.op≠3→x.s.mask=0)∧(x.s.op≠5→x.s.op≠9→x.s.min=0∧x.s.max=0)∧(x.s.op≠4→x.s.parts=[])∧(x.s.op≠10→x.p=[]) ∧
   (x.s.op<9→x.a=[]):=by
 obtain ⟨⟨op,mask,min,max,name,parts,pat,vals⟩,p,a⟩:=x
 unfold q1D at h
 rw[Kf,Kf,KS,KS] at h
 obtain ⟨⟨hb,hn⟩,hp⟩:=h
 have hb:=of_decide_eq_true hb
 simp only[Sch.s,Sch.p,Sch.a] at hb hn hp ho ⊢
 obtain ⟨b1,b2,b3,b4,b5,b6⟩:=hb
 have hname:name=[]:=by
  rcases hn with hn | hn
  ·have:=of_decide_eq_true hn
   omega
  ·simpa using hn
 have hpat:pat=qgG:=by
  rcases hp with hp | hp
  ·have:=of_decide_eq_true hp
   omega
  ·exact qsj hp
 have c4:=KU.1 (show vals.length=0 by omega)
 subst hname hpat c4
 exact ⟨rfl,fun h=>by omega,fun h1 h2=>by omega,fun h=>KU.1 (by omega),fun h=>KU.1 (by omega),fun h=>KU.1 (by omega)⟩
theorem qe0 {x:Sch} (h:Nod x) (ho:x.s.op=2):x=noneX:=by
 obtain ⟨e,h1,h2,h3,h4,h5⟩:=q85 h.blank (by omega)
 rw[e,h1 (by omega),(h2 (by omega) (by omega)).1,(h2 (by omega) (by omega)).2,h3 (by omega),h4 (by omega),h5 (by omega),ho]
 rfl
theorem qoF {x:Sch} (h:0≤q1d x):x.s.op=3∨x.s.op=4∨x.s.op=5∨x.s.op=9∨x.s.op=10:=by
 unfold q1d at h
 by_cases h3:x.s.op=3
 ·exact .inl h3
 ·rw[if_neg h3] at h
  by_cases h4:x.s.op=4
  ·exact .inr (.inl h4)
  ·rw[if_neg h4] at h
   by_cases h5:x.s.op=5
   ·exact .inr (.inr (.inl h5))
   ·rw[if_neg h5] at h
    by_cases h9:x.s.op=9
    ·exact .inr (.inr (.inr (.inl h9)))
    ·rw[if_neg h9] at h
     by_cases h10:x.s.op=10
     ·exact .inr (.inr (.inr (.inr h10)))
     ·rw[if_neg h10] at h
      omega
theorem qdV {f:Sch→Bool} : ∀ {k:Option (List UInt8)} {l:List (PK × Sch)},q6U f k l=true→∀ p,p∈l→f p.2=true
 | _,[],_,p,hp=>by cases hp
 | k,q::l,h,p,hp=>by
  rw[qbO,Kf,Kf] at h
  rcases KI.1 hp with rfl | hp
  ·exact h.1.2
  ·exact qdV h.2 p hp
theorem qmR {f:Sch→Bool} (hf : ∀ y,Nod y→f y=true→FamF y) {x:Sch} (hx:Nod x) (hk:0≤q1d x) (h:qaM f x=true):MemF x:=by
 have ho:=qoF hk
 obtain ⟨e,h1,h2,h3,h4,h5⟩:=q85 hx.blank (by omega)
 unfold qaM at h
 rcases ho with ho | ho | ho | ho | ho
 ·rw[e,(h2 (by omega) (by omega)).1,(h2 (by omega) (by omega)).2,h3 (by omega),h4 (by omega),h5 (by omega),ho]
  exact .kind _
 ·rw[if_pos ho] at h
  obtain ⟨_,hok⟩:=q8b (hx.set ho)
  match hp:x.s.parts,h with
  | [p],h=>
   have hpo:=hok p (by rw[hp]; simp)
   have h:qoQ p=true:=h
   unfold qoQ at h
   simp only[Kf] at h
   rw[e,h1 (by omega),(h2 (by omega) (by omega)).1,(h2 (by omega) (by omega)).2,hp,h4 (by omega),h5 (by omega),ho]
   exact .num p (qhr hpo h.1.1.1.1.1) (qgY hpo h.1.1.1.1.2)
 ·rw[e,h1 (by omega),h3 (by omega),h4 (by omega),h5 (by omega),ho]
  exact .text _ _
 ·rw[if_neg (by omega),if_neg (by omega),if_pos ho] at h
  obtain ⟨a,ha,hna,ha2⟩:=hx.arg (.inl ho)
  rw[ha2] at h
  rw[e,h1 (by omega),h3 (by omega),h4 (by omega),ha,ho]
  by_cases hm:x.s.max=0
  ·rw[if_pos hm] at h
   rw[qe0 hna (of_decide_eq_true h)]
   exact .list0 _ _
  ·rw[if_neg hm,Kf] at h
   exact q9P (.inr (hf a hna h.2))
 ·rw[if_neg (by omega),if_neg (by omega),if_neg (by omega),if_pos ho,Kf] at h
  obtain ⟨a,ha,hna,ha2⟩:=hx.arg (.inr ho)
  rw[ha2] at h
  rw[e,h1 (by omega),(h2 (by omega) (by omega)).1,(h2 (by omega) (by omega)).2,h3 (by omega),ha,qe0 hna (of_decide_eq_true h.2),ho]
  refine qcS fun p hp=>hf p.2 (hx.kid p.2 ?_) (qdV h.1 p hp)
  unfold Sch.kids
  exact List.mem_append_left _ (Vf hp)
theorem qbo {f:Sch→Bool} (hf : ∀ y,Nod y→f y=true→FamF y) : ∀ (l:List Sch) (k:Int),-1≤k→(∀ y,y∈l→Nod y)→q78 f k l=true→∀ y,y∈l→MemF y
 | [],_,_,_,_,y,hy=>by cases hy
 | a::l,k,hk,hn,h,y,hy=>by
  rw[q78,Kf,Kf] at h
  have hlt:k<q1d a:=by
   have:=h.1.1
   simp only[Wb,decide_eq_false_iff_not] at this
   omega
  rcases KI.1 hy with rfl | hy
  ·exact qmR hf (hn _ (Kn ..)) (by omega) h.1.2
  ·exact qbo hf l (q1d a) (by omega) (fun z hz=>hn z (Kp _ hz)) h.2 y hy
theorem qif : ∀ (n:Nat) (x:Sch),Nod x→qfx n x=true→FamF x
 | 0,x,_,h=>by
  rw[qkm] at h
  cases h
 | n+1,x,hx,h=>by
  rw[qah,Kf] at h
  have ho:=of_decide_eq_true h.1
  obtain ⟨e,h1,h2,h3,h4,_⟩:=q85 hx.blank (by omega)
  refine ⟨x.a,?_,qbo (qif n) x.a (-1) (Int.le_refl _) (fun y hy=>hx.kid y (by unfold Sch.kids; exact List.mem_append_right _ hy)) h.2⟩
  conv=>lhs; rw[e,h1 (by omega),(h2 (by omega) (by omega)).1,(h2 (by omega) (by omega)).2,h3 (by omega),h4 (by omega),ho]
  rfl
theorem qcZ {x:Sch} (h:qb5 x=0):Nod x:=by
 unfold qb5 q3j at h
 have h0:q8P (q79 x) [] (q79 x).defs=0:=rfl
 rw[if_pos h0] at h
 by_cases h1:q0R (q79 x) 48 (q79 x).root=0
 ·rw[if_pos h1] at h
  refine qqP (q79 x) 48 x h1 ?_
  cases hd:q1Z 48 x with
  | false=>rfl
  | true=>
   have:(q4F (q79 x).defs || q1Z 48 (q79 x).root)=true:=by
    show (q4F (q79 x).defs || q1Z 48 x)=true
    rw[hd,Bool.or_true]
   rw[if_pos this] at h
   cases h
 ·rw[if_neg h1] at h
  exact (h1 h).elim
def qgi (x:Sch):Bool:=decide (qb5 x=0) && qfx x.bulk x
theorem q2Y (x:Sch) (hx:x.bulk<2^24):q0e CI 972 [q03 x] (.bool (qgi x))∧q0e CI 973 [q03 x] (.bool (qgi x)):=by
 have h1:=qei (qdC (q79 x) (by rw[q7c]; omega) [] true (qb9 x))
 have h2:=qei (q8G (q79 x) (by rw[q7c]; omega) [] true (q7T x))
 have f1:=fun h=>qmg x.bulk (by omega) x (Kr _) (qcZ h)
 have f2:=fun h=>qbe x.bulk (by omega) x (Kr _) (qcZ h)
 unfold qgi
 rw[q5E] at h1 h2
 unfold qb5 at *
 generalize q3j (q79 x) true=e at *
 generalize qfx x.bulk x=b at *
 by_cases he:e=0
 ·subst he
  have f1:=f1 rfl
  have f2:=f2 rfl
  rw[q01 x] at f1 f2 ⊢
  refine ⟨q04 qiA rfl ?_,q04 qiw rfl ?_⟩
  ·(repeat' first|simp (disch:=omega) only[go_sem,qiA,enter]|refine q00 _ (h1) ?_|refine q00 _ (f1) ?_)
   all_goals rfl
  ·(repeat' first|simp (disch:=omega) only[go_sem,qiw,enter]|refine q00 _ (h2) ?_|refine q00 _ (f2) ?_)
   all_goals rfl
 ·rw[decide_eq_false he,KD,q01 x]
  refine ⟨q04 qiA rfl ?_,q04 qiw rfl ?_⟩
  ·(repeat' first|simp (disch:=omega) only[go_sem,qiA,enter,he]|refine q00 _ (h1) ?_)
   all_goals rfl
  ·(repeat' first|simp (disch:=omega) only[go_sem,qiw,enter,he]|refine q00 _ (h2) ?_)
   all_goals rfl
theorem q4s {x:Sch} (h:qgi x=true):FamF x:=by
 unfold qgi at h
 rw[Kf] at h
 exact qif _ x (qcZ (of_decide_eq_true h.1)) h.2
def qd6 (a b:Sch):Sch × Int:=if qgi a=true∧qgi b=true then qk9 (jM a b) else (zeroX,1)
theorem qih (a b:Sch) (h:a.bulk+b.bulk<2^23):q0e CI 968 [q03 a,q03 b] (.tup [q03 (qd6 a b).1,.int .i64 (qd6 a b).2])∧q0e CI 969 [q03 a,q03 b] (.tup [q03 (qd6 a b).1,.int .i64 (qd6 a b).2]):=by
 obtain ⟨p1,p2⟩:=q2Y a (by omega)
 obtain ⟨q1,q2⟩:=q2Y b (by omega)
 unfold qd6
 cases ha:qgi a with
 | false=>
  rw[if_neg (by simp),q1e]
  rw[ha] at p1 p2
  rw[q01 a] at p1 p2 ⊢
  rw[q01 b] at q1 q2 ⊢
  refine ⟨q04 qf9 rfl ?_,q04 qdZ rfl ?_⟩
  ·(repeat' first|simp (disch:=omega) only[go_sem,qf9,enter]|refine q00 _ (p1) ?_|refine q00 _ (q1) ?_)
   all_goals rfl
  ·(repeat' first|simp (disch:=omega) only[go_sem,qdZ,enter]|refine q00 _ (p2) ?_|refine q00 _ (q2) ?_)
   all_goals rfl
 | true=>
 cases hb:qgi b with
 | false=>
  rw[if_neg (by simp),q1e]
  rw[ha] at p1 p2
  rw[hb] at q1 q2
  rw[q01 a] at p1 p2 ⊢
  rw[q01 b] at q1 q2 ⊢
  refine ⟨q04 qf9 rfl ?_,q04 qdZ rfl ?_⟩
  ·(repeat' first|simp (disch:=omega) only[go_sem,qf9,enter]|refine q00 _ (p1) ?_|refine q00 _ (q1) ?_)
   all_goals rfl
  ·(repeat' first|simp (disch:=omega) only[go_sem,qdZ,enter]|refine q00 _ (p2) ?_|refine q00 _ (q2) ?_)
   all_goals rfl
 | true=>
  rw[if_pos ⟨rfl,rfl⟩]
  obtain ⟨j1,j2⟩:=qeM (.inr (q4s ha)) (.inr (q4s hb)) (by omega)
  obtain ⟨c1,c2⟩:=q6R (jM a b) (by
   have:=qgb (a:=a) (b:=b) (.inr (q4s ha)) (.inr (q4s hb))
   omega)
  rw[ha] at p1 p2
  rw[hb] at q1 q2
  generalize qk9 (jM a b)=r at *
  generalize jM a b=j at *
  rw[q01 a] at p1 p2 j1 j2 ⊢
  rw[q01 b] at q1 q2 j1 j2 ⊢
  rw[q01 j] at j1 j2 c1 c2
  rw[q01 r.1] at c1 c2 ⊢
  refine ⟨q04 qf9 rfl ?_,q04 qdZ rfl ?_⟩
  ·(repeat' first|simp (disch:=omega) only[go_sem,qf9,enter]|refine q00 _ (p1) ?_|refine q00 _ (q1) ?_|refine q00 _ (j1) ?_|refine q00 _ (c1) ?_)
   all_goals rfl
  ·(repeat' first|simp (disch:=omega) only[go_sem,qdZ,enter]|refine q00 _ (p2) ?_|refine q00 _ (q2) ?_|refine q00 _ (j2) ?_|refine q00 _ (c2) ?_)
   all_goals rfl
theorem qj5 (a b:Sch) (h:a.bulk+b.bulk<2^22):q0e CI 461 [q03 (qd6 a b).1,q03 (qd6 a b).1] (.bool true):=by
 refine qei ?_
 unfold qd6
 split
 ·rename_i hf
  unfold qk9
  split
  ·rename_i he
   refine q8c ?_ (qg9 he)
   have:=qgb (a:=a) (b:=b) (.inr (q4s hf.1)) (.inr (q4s hf.2))
   show (jM a b).bulk≤_
   omega
  ·exact q8c qbr qbJ
 ·exact q8c qbr qbJ
end Ago
