/- Digits of numbers; strings.TrimLeft; the digits that decimal.at reads. -/
import Derived.Test.YtjeahlpkonkjiaaGreatDoorRunJ
set_option linter.unusedSimpArgs false
set_option linter.unusedVariables false
set_option maxRecDepth 100000
set_option exponentiation.threshold 2000
set_option maxHeartbeats 4000000
namespace Ago
open Go (IntKind)
def dg (n:Int):List UInt8:=qnz n.toNat
theorem qjX {n:Int} (h:0≤n):digits (dg n)=true∧q08 (dg n)=n∧(n≠0→Num (dg n)):=by
 obtain ⟨h1,h2,h3⟩:=qmT n.toNat
 unfold dg
 refine ⟨h1,by rw[h2]; omega,fun hn=>?_⟩
 obtain ⟨h4,h5⟩:=h3 (by omega)
 exact ⟨h1,h4,h5⟩
theorem dg_zero:dg 0=[]:=by
 unfold dg qnz
 rfl
theorem qll {n:Int} (h:0≤n):dg n=[]↔n=0:=by
 constructor
 ·intro h1
  have h2:=(qjX h).2.1
  rw[h1] at h2
  simpa [q08] using h2.symm
 ·rintro rfl
  exact dg_zero
theorem qrG {s:List UInt8} (h:digits s=true) (h0:s[0]?≠some 48):s=dg (q08 s):=by
 have hb:=q0o s h
 by_cases hs:s=[]
 ·subst hs
  exact dg_zero.symm
 ·have hn:Num s:=⟨h,h0,hs⟩
  have hp:=hn.pos
  obtain ⟨k1,k2,k3⟩:=qjX hb.1
  exact (q7E hn (k3 (by omega))).2.2 ((q7E hn (k3 (by omega))).2.1.2 k2.symm)
def q1q (s:List UInt8):List UInt8:=s.dropWhile (· == 48)
theorem q9S : ∀ (s:List UInt8),q08 (q1q s)=q08 s
 | []=>rfl
 | c::s=>by
  unfold q1q
  rw[List.dropWhile_cons]
  split
  ·rename_i h
   have h:c=48:=by simpa using h
   have:=q9S s
   unfold q1q at this
   rw[this,q1B,h]
   simp
  ·rfl
theorem q73 {s:List UInt8} (h:digits s=true):q1q s=dg (q08 s):=by
 have hd:digits (q1q s)=true:=Kk.2 fun x hx=>Kk.1 h x ((List.dropWhile_sublist _).subset hx)
 have h0:(q1q s)[0]?≠some 48:=by
  unfold q1q
  cases hl:s.dropWhile (· == (48:UInt8)) with
  | nil=>simp
  | cons c l=>
   have hne:s.dropWhile (· == (48:UInt8))≠[]:=by simp [hl]
   have:=List.head_dropWhile_not (fun x=>x == (48:UInt8)) hne
   simp only[hl,List.head_cons] at this
   simpa using this
 rw[←q9S s]
 exact qrG hd h0
theorem q74 {s:List UInt8} {k:Nat} (hk:k≤s.length) (hd:(s.take k).all (· == 48)=true) (h:k<s.length→∃ c,s[k]?=some c∧c≠48):q1q s=s.drop k:=by
 unfold q1q
 induction s generalizing k with
 | nil=>simp
 | cons x s ih=>
  cases k with
  | zero=>
   obtain ⟨c,h1,h2⟩:=h (by simp)
   simp at h1
   subst h1
   rw[List.dropWhile_cons_of_neg (by simpa using h2)]
   rfl
  | succ k=>
   simp only[List.take_succ_cons,Vc,Kf] at hd
   rw[List.dropWhile_cons_of_pos (by simpa using hd.1),List.drop_succ_cons]
   exact ih (by simpa using hk) hd.2 fun hlt=>by simpa using h (by simpa using hlt)
theorem qjm (s:List UInt8) (hs:s.length<2^31):q0e CN 144 [.str s,.int .u8 48] (.str (q1q s)):=by
 refine q04 qo4 rfl ?_
 simp (disch:=omega) only[go_sem,qo4,enter]
 refine q06 (α:=Nat) (fun k=>{ tmps:=q0h 17 [(0,.str (s.drop k)),(1,.int .u8 48)],heap:=[],base:=0 }) (fun k=>k≤s.length∧(s.take k).all (· == 48)=true) (fun k=>s.length-k) 0 (by rw[Vh]; rfl) ⟨Km _,rfl⟩ ?_
 rintro k ⟨hk,hd⟩
 have hlen:(s.drop k).length=s.length-k:=by simp
 have ht:List.drop 1 (s.drop k)=s.drop (k+1):=by rw[List.drop_drop,Nat.add_comm]
 have htk:List.take (s.length-k) (s.drop k)=s.drop k:=KG (by simp)
 by_cases hlt:k<s.length
 ·obtain ⟨c,hc⟩:=q05 hlt
  have hc2:(s.drop k)[0]?=some c:=by rw[Vu,VC]; exact hc
  by_cases h48:c=48
  ·have h48i:(c.toNat:Int)=48:=(q6r c).2 h48
   (repeat' first|simp (disch:=omega) only[go_sem,hlen,hc2,h48i,e00,htk,ht]|(apply spl<;>intro h<;>try simp (disch:=omega) only[go_sem,h]))
   all_goals first | omega | skip
   exact ⟨k+1,rfl,⟨hlt,q0v hc hd (by simpa using h48)⟩,by omega⟩
  ·have h48i : ¬ (c.toNat:Int)=48:=fun e=>h48 ((q6r c).1 e)
   rw[q74 hk hd (fun _=>⟨c,hc,h48⟩)]
   (repeat' first|simp (disch:=omega) only[go_sem,hlen,hc2,h48i,e00])
   all_goals first | omega | rfl
 ·rw[q74 hk hd (fun h=>absurd h hlt)]
  (repeat' first|simp (disch:=omega) only[go_sem,hlen])
  all_goals first | omega | rfl
theorem q7u (s:List UInt8) (hs:s.length<2^31):q0e CN 137 [.str s,.str [48]] (.str (q1q s)):=by
 refine q04 qnj rfl ?_
 by_cases h0:s=[]
 ·subst h0
  (repeat' first|simp (disch:=omega) only[go_sem,qnj,enter]|(apply spl<;>intro h<;>try simp (disch:=omega) only[go_sem,h]))
  all_goals rfl
 ·have hb:(s == ([]:List UInt8))=false:=by simp [h0]
  have hr:=qjm s hs
  have e48:((UInt8.toNat 48:Nat):Int)=48:=rfl
  have en:(([48]:List UInt8) == [])=false:=rfl
  (repeat' first|simp (disch:=omega) only[go_sem,qnj,enter,hb,e48,en]|refine q00 _ (hr) ?_)
  all_goals first | omega | rfl
def atD (s:List UInt8) (i:Nat):Int:=if i<s.length then ((s.getD (s.length-1-i) 48).toNat:Int)-48 else 0
theorem q1Y {s:List UInt8} (h:digits s=true) (i:Nat):0≤atD s i∧atD s i≤9:=by
 unfold atD
 split
 ·rename_i hi
  have hx:s.getD (s.length-1-i) 48∈s:=by
   rw[KH,Ki (by omega)]
   exact Wc _
  have:=Kk.1 h _ hx
  simp only[q5n,decide_eq_true_eq] at this
  omega
 ·omega
theorem qct (s:List UInt8) (i:Nat) (h:digits s=true) (hs:s.length<2^24) (hi:i<2^24):q0e CN 733 [.str s,.int .i64 i] (.int .i64 (atD s i)):=by
 have hr:=q1Y h i
 refine q04 qlV rfl ?_
 unfold atD at *
 by_cases hlt:i<s.length
 ·rw[if_pos hlt] at hr ⊢
  obtain ⟨c,hc⟩:=q05 (s:=s) (k:=s.length-1-i) (by omega)
  have e:((s.length:Int)-1-i).toNat=s.length-1-i:=by omega
  have hg:s.getD (s.length-1-i) 48=c:=by rw[KH,hc]; rfl
  rw[hg] at hr ⊢
  (repeat' first|simp (disch:=omega) only[go_sem,qlV,enter,e,hc])
  all_goals first | omega | rfl
 ·rw[if_neg hlt]
  (repeat' first|simp (disch:=omega) only[go_sem,qlV,enter])
  all_goals first | omega | rfl
def qeJ (s:List UInt8) (i:Nat):Int:=q08 (s.drop (s.length-i))
theorem q2C (s:List UInt8):qeJ s 0=0:=by
 unfold qeJ
 rw[Wd,VT]
 rfl
theorem q2F {s:List UInt8} {i:Nat} (h:s.length≤i):qeJ s i=q08 s:=by
 unfold qeJ
 rw[show s.length-i=0 by omega,Vh]
theorem q2A (s:List UInt8) (i:Nat):qeJ s (i+1)=atD s i * 10^i+qeJ s i:=by
 unfold atD
 by_cases hi:i<s.length
 ·rw[if_pos hi]
  unfold qeJ
  have e:s.length-i=s.length-(i+1)+1:=by omega
  have hd:s.drop (s.length-(i+1))=s[s.length-(i+1)]::s.drop (s.length-(i+1)+1):=Vw (by omega)
  have hg:s.getD (s.length-1-i) 48=s[s.length-(i+1)]:=by
   rw[KH,show s.length-1-i=s.length-(i+1) by omega,Ki (by omega)]
   rfl
  have hl:(s.drop (s.length-(i+1)+1)).length=i:=by rw[List.length_drop]; omega
  rw[hd,q1B,hg,e,hl]
 ·rw[if_neg hi,q2F (by omega),q2F (by omega),Int.zero_mul,Int.zero_add]
end Ago
set_option maxRecDepth 100000
set_option exponentiation.threshold 2000
set_option maxHeartbeats 4000000
namespace Ago
open Go (IntKind)
def q8m (n:Nat) (D:List UInt8):List UInt8:=List.replicate (n-D.length) 0++D
theorem q6k {n:Nat} {D:List UInt8} (h:D.length≤n):(q8m n D).length=n:=by
 simp [q8m]
 omega
theorem qcG {n:Nat} {D:List UInt8} (h:D.length<n) (c:UInt8):(q3f (q8m n D)).set (n-1-D.length) (.int .u8 c.toNat)=q3f (q8m n (c::D)):=by
 rw[qpp]
 congr 1
 unfold q8m
 have e:n-D.length=n-(c::D).length+1:=by simp; omega
 rw[e,List.replicate_succ',Kv,VZ _ _ (by simp; omega)]
 have e2:n-1-D.length-(List.replicate (n-(c::D).length) (0:UInt8)).length=0:=by simp; omega
 rw[e2]
 rfl
theorem qgL {l:List UInt8} {i:Nat} (h:i<l.length) : ∃ c:UInt8,(q3f l)[i]?=some (.int .u8 c.toNat):=by
 obtain ⟨c,hc⟩:=q05 h
 exact ⟨c,qnJ hc⟩
theorem q9d {x:Int} (h0:0≤x) (h9:x≤9) : ∃ c:UInt8,q5n c=true∧(c.toNat:Int)=48+x∧(c.toNat:Int)-48=x:=by
 have hc:(UInt8.ofNat (48+x.toNat)).toNat=48+x.toNat:=by
  rw[UInt8.toNat_ofNat']
  omega
 refine ⟨UInt8.ofNat (48+x.toNat),?_,?_,?_⟩
 ·simp only[q5n,hc,decide_eq_true_eq]
  omega
 ·rw[hc]; omega
 ·rw[hc]; omega
theorem qq9 (a b:List UInt8) (ha:digits a=true) (hb:digits b=true) (la:a.length<2^20) (lb:b.length<2^20):q0e CN 721 [.str a,.str b] (.str (dg (q08 a+q08 b))):=by
 refine q04 qoy rfl ?_
 obtain ⟨n,hn⟩ : ∃ n,max a.length b.length+1=n:=⟨_,rfl⟩
 have hmx:(if (b.length:Int)>a.length then (b.length:Int) else a.length)+1=n:=by split<;>omega
 have hn0 : ¬ ((n:Int)=0):=by omega
 have han:a.length<n:=by omega
 have hbn:b.length<n:=by omega
 have hn24:n<2^21:=by omega
 have hnn:(n:Int)≤2^21:=by omega
 (repeat' first|simp (disch:=omega) only[go_sem,qoy,enter,hmx,hn0,VM]|(apply spl<;>intro h<;>try simp (disch:=omega) only[go_sem,h]))
 all_goals first | omega | skip
 refine q06 (α:=Nat × Int × List UInt8) (fun s=>{ tmps:=q0h 46 [(0,.str a),(1,.str b),(5,.int .i64 n),(6,.sref 1 0 0 n),(7,.int .i64 s.2.1),(17,.int .i64 n),(18,.int .i64 s.1)],heap:=[.row 1 (q3f (q8m n s.2.2)) false true 0],base:=0 })
  (fun s=>s.1≤n∧s.2.2.length=s.1∧0≤s.2.1∧s.2.1≤1∧digits s.2.2=true∧q08 s.2.2+s.2.1 * 10^s.1=qeJ a s.1+qeJ b s.1) (fun s=>n-s.1) (0,0,[]) (by
   unfold q8m q3f
   simp only[Kd,Wd,KW,List.map_replicate]
   rfl) ⟨Km _,rfl,Int.le_refl _,by decide,rfl,by rw[q2C,q2C]; rfl⟩ ?_
 rintro ⟨i,c,D⟩ ⟨hi,hD,hc0,hc1,hdig,hsum⟩
 simp only at hi hD hc0 hc1 hdig hsum
 by_cases hlt:i<n
 ·have r1:=qct a i ha (by omega) (by omega)
  have r2:=qct b i hb (by omega) (by omega)
  obtain ⟨x0,x9⟩:=q1Y ha i
  obtain ⟨y0,y9⟩:=q1Y hb i
  have ea:=q2A a i
  have eb:=q2A b i
  generalize atD a i=x at *
  generalize atD b i=y at *
  obtain ⟨q,hq⟩ : ∃ q,(c+(x+y)) / 10=q:=⟨_,rfl⟩
  obtain ⟨r,hr⟩ : ∃ r,(c+(x+y)) % 10=r:=⟨_,rfl⟩
  obtain ⟨ch,k1,k2,k3⟩:=q9d (x:=r) (by omega) (by omega)
  have hset:=qcG (n:=n) (D:=D) (by omega) ch
  rw[hD] at hset
  have hpl:(q3f (q8m n D)).length=n:=by rw[q3n,q6k (by omega)]
  obtain ⟨old,hold⟩:=qgL (l:=q8m n D) (i:=n-1-i) (by rw[q6k (by omega)]; omega)
  have e1:((n:Int)-1-i).toNat=n-1-i:=by omega
  have hqt:Int.tdiv (c+(x+y)) 10=q:=by rw[Int.tdiv_eq_ediv_of_nonneg (by omega)]; exact hq
  have hrt:Int.tmod (c+(x+y)) 10=r:=by rw[Int.tmod_eq_emod_of_nonneg (by omega)]; exact hr
  have k2':(48+r:Int)=ch.toNat:=k2.symm
  generalize hR:q3f (q8m n D)=R at *
  (repeat' first|simp (disch:=omega) only[go_sem,e1,hold,hpl,hqt,hrt,k2',hset]|refine q00 _ (r1) ?_|refine q00 _ (r2) ?_|(apply spl<;>intro h<;>try simp (disch:=omega) only[go_sem,h]))
  all_goals first | omega | skip
  refine ⟨(i+1,q,ch::D),rfl,⟨hlt,by simp [hD],by simp only; omega,by simp only; omega,?_,?_⟩,by simp only; omega⟩
  ·simp only[digits,Vc,k1,Kw]
   exact hdig
  ·simp only
   rw[q1B,k3,hD,ea,eb,VH]
   generalize (10:Int)^i=P at *
   have h1:c+(x+y)=10 * q+r:=by omega
   have h2:=congrArg (· * P) h1
   simp only[Int.add_mul,Vp] at h2
   rw[show q * (P * 10)=10 * (q * P) by rw[←Vp,Vx]]
   omega
 ·have hin:i=n:=by omega
  subst hin
  rw[q2F (by omega),q2F (by omega)] at hsum
  have hA:=q0o a ha
  have hB:=q0o b hb
  have hDb:=q0o D hdig
  have p1:=q29 (show a.length≤i-1 by omega)
  have p2:=q29 (show b.length≤i-1 by omega)
  have p3:(10:Int)^i=10 * 10^(i-1):=by
   rw[show i=(i-1)+1 by omega,VH,Vx]
   simp
  have p4:=q2e (i-1)
  have hc:c=0:=by
   rcases (show c=0∨c=1 by omega) with h | h
   ·exact h
   ·rw[h] at hsum
    omega
  subst hc
  rw[Int.zero_mul,Int.add_zero] at hsum
  have hpd:q8m i D=D:=by unfold q8m; rw[hD,V0]; rfl
  have hr:=q7u D (by omega)
  rw[q73 hdig,hsum] at hr
  rw[hpd]
  have hel:(q3f D).length=i:=by rw[q3n,hD]
  have htk:List.take i (q3f D)=q3f D:=KG (by omega)
  have hob:=q4K D
  generalize q3f D=R at *
  (repeat' first|simp (disch:=omega) only[go_sem,hel,htk,hob,Vh]|refine q00 _ (hr) ?_)
  all_goals first | omega | rfl
end Ago
set_option maxRecDepth 100000
set_option exponentiation.threshold 2000
set_option maxHeartbeats 4000000
namespace Ago
open Go (IntKind)
theorem qfb (a b:List UInt8) (ha:digits a=true) (hb:digits b=true) (la:a.length<2^20) (lb:b.length≤a.length) (hle:q08 b≤q08 a):q0e CN 722 [.str a,.str b] (.str (dg (q08 a-q08 b))):=by
 refine q04 qmN rfl ?_
 obtain ⟨n,hn⟩ : ∃ n,a.length=n:=⟨_,rfl⟩
 by_cases h0:n=0
 ·subst h0
  have ea:a=[]:=KU.1 hn
  have eb:b=[]:=KU.1 (by omega)
  subst ea
  subst eb
  have hr:=q7u [] (by simp)
  (repeat' first|simp (disch:=omega) only[go_sem,qmN,enter,Kd]|(apply spl<;>intro h<;>try simp (disch:=omega) only[go_sem,h]))
  all_goals first | omega | skip
  refine q06 (α:=Unit) (fun _=>{ tmps:=q0h 44 [(0,.str []),(1,.str []),(5,.snil 1),(6,.int .i64 0),(13,.int .i64 0),(14,.int .i64 0)],heap:=[],base:=0 }) (fun _=>True) (fun _=>0) () rfl trivial ?_
  rintro _ _
  (repeat' first|simp (disch:=omega) only[go_sem]|refine q00 _ (hr) ?_|(apply spl<;>intro h<;>try simp (disch:=omega) only[go_sem,h]))
  all_goals first | omega | rfl
 have hn0 : ¬ ((n:Int)=0):=by omega
 (repeat' first|simp (disch:=omega) only[go_sem,qmN,enter,hn,hn0,VM]|(apply spl<;>intro h<;>try simp (disch:=omega) only[go_sem,h]))
 all_goals first | omega | skip
 refine q06 (α:=Nat × Int × List UInt8) (fun s=>{ tmps:=q0h 44 [(0,.str a),(1,.str b),(5,.sref 1 0 0 n),(6,.int .i64 s.2.1),(13,.int .i64 n),(14,.int .i64 s.1)],heap:=[.row 1 (q3f (q8m n s.2.2)) false true 0],base:=0 })
  (fun s=>s.1≤n∧s.2.2.length=s.1∧0≤s.2.1∧s.2.1≤1∧digits s.2.2=true∧q08 s.2.2=qeJ a s.1-qeJ b s.1+s.2.1 * 10^s.1) (fun s=>n-s.1) (0,0,[]) (by
   unfold q8m q3f
   simp only[Kd,Wd,KW,List.map_replicate]
   rfl) ⟨Km _,rfl,Int.le_refl _,by decide,rfl,by rw[q2C,q2C]; rfl⟩ ?_
 rintro ⟨i,c,D⟩ ⟨hi,hD,hc0,hc1,hdig,hsum⟩
 simp only at hi hD hc0 hc1 hdig hsum
 by_cases hlt:i<n
 ·have r1:=qct a i ha (by omega) (by omega)
  have r2:=qct b i hb (by omega) (by omega)
  obtain ⟨x0,x9⟩:=q1Y ha i
  obtain ⟨y0,y9⟩:=q1Y hb i
  have ea:=q2A a i
  have eb:=q2A b i
  generalize atD a i=x at *
  generalize atD b i=y at *
  have hpl:(q3f (q8m n D)).length=n:=by rw[q3n,q6k (by omega)]
  obtain ⟨old,hold⟩:=qgL (l:=q8m n D) (i:=n-1-i) (by rw[q6k (by omega)]; omega)
  have e1:((n:Int)-1-i).toNat=n-1-i:=by omega
  have hps:=fun ch=>qcG (n:=n) (D:=D) (by omega) ch
  rw[hD] at hps
  by_cases hneg:x-y-c<0
  ·obtain ⟨ch,k1,k2,k3⟩:=q9d (x:=x-y-c+10) (by omega) (by omega)
   have k2':(48+(x-y-c+10):Int)=ch.toNat:=k2.symm
   have hset:=hps ch
   generalize hR:q3f (q8m n D)=R at *
   (repeat' first|simp (disch:=omega) only[go_sem,e1,hold,hpl,hn,hneg,k2',hset]|refine q00 _ (r1) ?_|refine q00 _ (r2) ?_|(apply spl<;>intro h<;>try simp (disch:=omega) only[go_sem,h]))
   all_goals first | omega | skip
   refine ⟨(i+1,1,ch::D),rfl,⟨hlt,by simp [hD],by simp only; omega,by simp only; omega,?_,?_⟩,by simp only; omega⟩
   ·simp only[digits,Vc,k1,Kw]
    exact hdig
   ·simp only
    rw[q1B,k3,hD,ea,eb,VH,hsum]
    generalize (10:Int)^i=P at *
    simp only[Int.add_mul,Int.sub_mul,Int.one_mul]
    omega
  ·obtain ⟨ch,k1,k2,k3⟩:=q9d (x:=x-y-c) (by omega) (by omega)
   have k2':(48+(x-y-c):Int)=ch.toNat:=k2.symm
   have hset:=hps ch
   generalize hR:q3f (q8m n D)=R at *
   (repeat' first|simp (disch:=omega) only[go_sem,e1,hold,hpl,hn,hneg,k2',hset]|refine q00 _ (r1) ?_|refine q00 _ (r2) ?_|(apply spl<;>intro h<;>try simp (disch:=omega) only[go_sem,h]))
   all_goals first | omega | skip
   refine ⟨(i+1,0,ch::D),rfl,⟨hlt,by simp [hD],by simp only; omega,by simp only; omega,?_,?_⟩,by simp only; omega⟩
   ·simp only[digits,Vc,k1,Kw]
    exact hdig
   ·simp only
    rw[q1B,k3,hD,ea,eb,VH,hsum]
    generalize (10:Int)^i=P at *
    simp only[Int.add_mul,Int.sub_mul,Int.zero_mul]
    omega
 ·have hin:i=n:=by omega
  subst hin
  rw[q2F (by omega),q2F (by omega)] at hsum
  have hDb:=q0o D hdig
  rw[hD] at hDb
  have hc:c=0:=by
   rcases (show c=0∨c=1 by omega) with h | h
   ·exact h
   ·rw[h] at hsum
    omega
  subst hc
  rw[Int.zero_mul,Int.add_zero] at hsum
  have hpd:q8m i D=D:=by unfold q8m; rw[hD,V0]; rfl
  have hr:=q7u D (by omega)
  rw[q73 hdig,hsum] at hr
  rw[hpd]
  have hel:(q3f D).length=i:=by rw[q3n,hD]
  have htk:List.take i (q3f D)=q3f D:=KG (by omega)
  have hob:=q4K D
  generalize q3f D=R at *
  (repeat' first|simp (disch:=omega) only[go_sem,hel,htk,hob,Vh]|refine q00 _ (hr) ?_)
  all_goals first | omega | rfl
def q20 (neg:Bool) (s:List UInt8) (e:Int):Dec × Int:=
 if s=[] then (⟨false,[],0⟩,0)
 else if e>400-q0G s∨e < -400-q0G s∨120<s.length-q0G s then (⟨false,[],0⟩,2)
 else (⟨neg,s.take (s.length-q0G s),e+q0G s⟩,0)
theorem qeg (neg:Bool) (s:List UInt8) (e:Int) (hs:s.length<2^24) (he : -(2^24)≤e∧e≤2^24):q0e CN 138 [.bool neg,.str s,.int .i64 e] (.tup [q0b (q20 neg s e).1,.int .i64 (q20 neg s e).2]):=by
 refine q04 qeq rfl ?_
 unfold q20 q0b
 by_cases h0:s=[]
 ·subst h0
  (repeat' first|simp (disch:=omega) only[go_sem,qeq,enter])
  all_goals first | omega | rfl
 ·have hb:(s == ([]:List UInt8))=false:=by simp [h0]
  have hr:=upN (q76 s (by omega))
  have hz:=q9n s
  have hlen:(s.take (s.length-q0G s)).length=s.length-q0G s:=by simp
  have e1:((s.length:Int)-((s.length-q0G s:Nat):Int))=q0G s:=by omega
  have e2:((s.length:Int)-(q0G s:Int)).toNat=s.length-q0G s:=by omega
  rw[if_neg h0]
  generalize q0G s=z at *
  by_cases h1:e>400-z∨e < -400-z∨120<s.length-z
  ·rw[if_pos h1]
   by_cases a1:e>400-(z:Int)
   ·(repeat' first|simp (disch:=omega) only[go_sem,qeq,enter,hb,hlen,e1,e2,a1]|refine q00 _ (hr) ?_)
    all_goals first | omega | rfl
   ·by_cases a2:e < -400-(z:Int)
    ·(repeat' first|simp (disch:=omega) only[go_sem,qeq,enter,hb,hlen,e1,e2,a1,a2]|refine q00 _ (hr) ?_)
     all_goals first | omega | rfl
    ·have a3:120<s.length-z:=by omega
     (repeat' first|simp (disch:=omega) only[go_sem,qeq,enter,hb,hlen,e1,e2,a1,a2,a3]|refine q00 _ (hr) ?_)
     all_goals first | omega | rfl
  ·rw[if_neg h1]
   have a1 : ¬ e>400-(z:Int):=fun h=>h1 (.inl h)
   have a2 : ¬ e < -400-(z:Int):=fun h=>h1 (.inr (.inl h))
   have a3 : ¬ 120<s.length-z:=fun h=>h1 (.inr (.inr h))
   (repeat' first|simp (disch:=omega) only[go_sem,qeq,enter,hb,hlen,e1,e2,a1,a2,a3]|refine q00 _ (hr) ?_)
   all_goals first | omega | rfl
end Ago
set_option maxRecDepth 100000
set_option exponentiation.threshold 2000
set_option maxHeartbeats 4000000
namespace Ago
open Go (IntKind)
def q0m (a b:Dec):List UInt8 × List UInt8 × Int:=
 if a.digits=[] then ([],b.digits,b.exp) else if b.digits=[] then (a.digits,[],a.exp)
 else if a.exp≤b.exp then (pad a.digits (a.exp-a.exp).toNat,pad b.digits (b.exp-a.exp).toNat,a.exp)
 else (pad a.digits (a.exp-b.exp).toNat,pad b.digits (b.exp-b.exp).toNat,b.exp)
theorem qiM (a b:Dec) (ha:q0c a=true) (hb:q0c b=true):q0e CN 285 [q0b a,q0b b] (.tup [.str (q0m a b).1,.str (q0m a b).2.1,.int .i64 (q0m a b).2.2]):=by
 obtain ⟨fa1,fa2,fa3⟩:=q0O ha
 obtain ⟨fb1,fb2,fb3⟩:=q0O hb
 have va:=upN (q3y a (by omega))
 have vb:=upN (q3y b (by omega))
 rw[ha] at va
 rw[hb] at vb
 unfold q0m
 obtain ⟨na,da,ea⟩:=a
 obtain ⟨nb,db,eb⟩:=b
 simp only[q0b] at *
 refine q04 q6o rfl ?_
 by_cases h1:da=[]
 ·subst h1
  (repeat' first|simp (disch:=omega) only[go_sem,q6o,enter]|refine q00 _ (va) ?_|refine q00 _ (vb) ?_)
  all_goals first | omega | rfl
 have hb1:(da == ([]:List UInt8))=false:=by simp [h1]
 rw[if_neg h1]
 by_cases h2:db=[]
 ·subst h2
  (repeat' first|simp (disch:=omega) only[go_sem,q6o,enter,hb1]|refine q00 _ (va) ?_|refine q00 _ (vb) ?_)
  all_goals first | omega | rfl
 have hb2:(db == ([]:List UInt8))=false:=by simp [h2]
 rw[if_neg h2]
 have key : ∀ m:Int,m≤ea→m≤eb→-400≤m→q0e CN 291 [.str [48],.int .i64 (ea-m)] (.str (List.replicate (ea-m).toNat 48))∧q0e CN 291 [.str [48],.int .i64 (eb-m)] (.str (List.replicate (eb-m).toNat 48)):=by
  intro m k1 k2 k3
  have r1:=q6h (ea-m).toNat (by omega)
  have r2:=q6h (eb-m).toNat (by omega)
  rw[show (((ea-m).toNat:Nat):Int)=ea-m by omega] at r1
  rw[show (((eb-m).toNat:Nat):Int)=eb-m by omega] at r2
  exact ⟨r1,r2⟩
 have hl : ∀ (n:Nat),(List.replicate n (48:UInt8)).length=n:=fun n=>V2
 by_cases h:ea≤eb
 ·obtain ⟨r1,r2⟩:=key ea (by omega) h (by omega)
  have hm : ¬ eb<ea:=by omega
  rw[if_pos h]
  (repeat' first|simp (disch:=omega) only[go_sem,q6o,enter,hb1,hb2,hm,hl,pad]|refine q00 _ (va) ?_|refine q00 _ (vb) ?_|refine q00 _ (r1) ?_|refine q00 _ (r2) ?_)
  all_goals first | omega | rfl
 ·obtain ⟨r1,r2⟩:=key eb (by omega) (by omega) (by omega)
  have hm:eb<ea:=by omega
  rw[if_neg h]
  (repeat' first|simp (disch:=omega) only[go_sem,q6o,enter,hb1,hb2,hm,hl,pad]|refine q00 _ (va) ?_|refine q00 _ (vb) ?_|refine q00 _ (r1) ?_|refine q00 _ (r2) ?_)
  all_goals first | omega | rfl
def Cn (s:List UInt8):Prop:=s=[]∨Num s
theorem Cn.dig {s:List UInt8} (h:Cn s):digits s=true:=by
 rcases h with rfl | h
 ·rfl
 ·exact h.dig
theorem qqI {d:Dec} (h:q0c d=true):Cn d.digits:=by
 by_cases hn:d.digits=[]
 ·exact .inl hn
 ·exact .inr (q1w h hn).1
theorem Cn.pad {s:List UInt8} (h:Cn s) (n:Nat) (hs:s≠[]):Cn (pad s n):=by
 rcases h with h | h
 ·exact absurd h hs
 ·exact .inr (h.pad n)
theorem qmd {a b:List UInt8} (ha:Cn a) (hb:Cn b):(0≤q7X a b↔q08 b≤q08 a)∧(0≤q7X a b→b.length≤a.length)∧(¬ 0≤q7X a b→a.length≤b.length):=by
 have hl:(0≤q7X a b→b.length≤a.length)∧(¬ 0≤q7X a b→a.length≤b.length):=by
  unfold q7X
  by_cases h1:a.length<b.length
  ·rw[if_pos h1]
   exact ⟨fun h=>by omega,fun _=>by omega⟩
  ·rw[if_neg h1]
   exact ⟨fun _=>by omega,fun h=>by
    by_cases h2:b.length<a.length
    ·rw[if_pos h2] at h
     omega
    ·omega⟩
 refine ⟨?_,hl⟩
 rcases ha with rfl | ha
 ·rcases hb with rfl | hb
  ·simp [q7X,q7J]
  ·have:=hb.pos
   have h2:=Vm.2 hb.ne
   unfold q7X
   rw[if_pos (by simpa using h2)]
   simp [q08] at this ⊢
   omega
 ·rcases hb with rfl | hb
  ·have:=ha.pos
   have h2:=Vm.2 ha.ne
   unfold q7X
   rw[if_neg (by simp),if_pos (by simpa using h2)]
   simp [q08] at this ⊢
   omega
  ·have:=q7E ha hb
   omega
theorem q9X {a b:Dec} (ha:q0c a=true) (hb:q0c b=true):Cn (q0m a b).1∧Cn (q0m a b).2.1∧(q0m a b).1.length≤1000∧(q0m a b).2.1.length≤1000∧-400≤(q0m a b).2.2∧(q0m a b).2.2≤400∧q30 a=q08 (q0m a b).1 * 10^((q0m a b).2.2+400).toNat∧q30 b=q08 (q0m a b).2.1 * 10^((q0m a b).2.2+400).toNat:=by
 obtain ⟨fa1,fa2,fa3⟩:=q0O ha
 obtain ⟨fb1,fb2,fb3⟩:=q0O hb
 have ca:=qqI ha
 have cb:=qqI hb
 unfold q0m
 by_cases h1:a.digits=[]
 ·rw[if_pos h1,q2G h1]
  refine ⟨.inl rfl,cb,by simp,by simp only; omega,by simp only; omega,by simp only; omega,by simp [q08],rfl⟩
 rw[if_neg h1]
 by_cases h2:b.digits=[]
 ·rw[if_pos h2,q2G h2]
  refine ⟨ca,.inl rfl,by simp only; omega,by simp,by simp only; omega,by simp only; omega,rfl,by simp [q08]⟩
 rw[if_neg h2]
 have len : ∀ (s:List UInt8) (n:Nat),(pad s n).length=s.length+n:=fun s n=>by simp [pad]
 have sh : ∀ (d:Dec) (m:Int),m≤d.exp→-400≤m→q30 d=q08 (pad d.digits (d.exp-m).toNat) * 10^(m+400).toNat:=fun d m k1 k2=>by
  rw[q2r,Vp,←Int.pow_add]
  unfold q30
  congr 2
  omega
 by_cases h:a.exp≤b.exp
 ·rw[if_pos h]
  refine ⟨ca.pad _ h1,cb.pad _ h2,by simp only[len]; omega,by simp only[len]; omega,by simp only; omega,by simp only; omega,sh a a.exp (by omega) (by omega),sh b a.exp h (by omega)⟩
 ·rw[if_neg h]
  refine ⟨ca.pad _ h1,cb.pad _ h2,by simp only[len]; omega,by simp only[len]; omega,by simp only; omega,by simp only; omega,sh a b.exp (by omega) (by omega),sh b b.exp (by omega) (by omega)⟩
def q6M (a b:Dec):Dec × Int:=
 if a.neg=b.neg then q20 a.neg (dg (q08 (q0m a b).1+q08 (q0m a b).2.1)) (q0m a b).2.2
 else if q08 (q0m a b).2.1≤q08 (q0m a b).1 then q20 a.neg (dg (q08 (q0m a b).1-q08 (q0m a b).2.1)) (q0m a b).2.2
 else q20 b.neg (dg (q08 (q0m a b).2.1-q08 (q0m a b).1)) (q0m a b).2.2
theorem qkn {n:Int} {k:Nat} (h0:0≤n) (h:n<10^k):(dg n).length≤k:=by
 by_cases hn:n=0
 ·subst hn
  rw[dg_zero]
  simp
 ·obtain ⟨h1,h2,h3⟩:=qjX h0
  have hl:=(h3 hn).low
  rw[h2] at hl
  rcases VG k (dg n).length with hk | hk
  ·have:=q29 (show k≤(dg n).length-1 by omega)
   omega
  ·exact hk
theorem qba:(10:Int)^1000+10^1000≤10^1001:=by decide +kernel
theorem qcJ (a b:Dec) (ha:q0c a=true) (hb:q0c b=true):q0e CN 718 [q0b a,q0b b] (.tup [q0b (q6M a b).1,.int .i64 (q6M a b).2]):=by
 have h0:=qiM a b ha hb
 obtain ⟨c1,c2,l1,l2,e1,e2,_⟩:=q9X ha hb
 obtain ⟨g1,g2,g3⟩:=qmd c1 c2
 have hcmp:=qh4 (q0m a b).1 (q0m a b).2.1 (by omega) (by omega)
 have b1:=q0o _ c1.dig
 have b2:=q0o _ c2.dig
 have p1:=q29 l1
 have p2:=q29 l2
 have p3:=qba
 have hsum:=qq9 _ _ c1.dig c2.dig (by omega) (by omega)
 have hn:=fun neg n (h1:0≤n) (h2:n<10^1001)=>qeg neg (dg n) (q0m a b).2.2 (by have:=qkn h1 h2; omega) (by omega)
 have n1:=hn a.neg (q08 (q0m a b).1+q08 (q0m a b).2.1) (by omega) (by omega)
 have d1:=fun h:q08 (q0m a b).2.1≤q08 (q0m a b).1=>qfb _ _ c1.dig c2.dig (by omega) (g2 (g1.2 h)) h
 have d2:=fun h : ¬ q08 (q0m a b).2.1≤q08 (q0m a b).1=>qfb _ _ c2.dig c1.dig (by omega) (g3 (fun k=>h (g1.1 k))) (by omega)
 have n2:=fun h:q08 (q0m a b).2.1≤q08 (q0m a b).1=>hn a.neg (q08 (q0m a b).1-q08 (q0m a b).2.1) (by omega) (by omega)
 have n3:=fun h : ¬ q08 (q0m a b).2.1≤q08 (q0m a b).1=>hn b.neg (q08 (q0m a b).2.1-q08 (q0m a b).1) (by omega) (by omega)
 unfold q6M
 clear hn b1 b2 p1 p2 p3 c1 c2 l1 l2 g2 g3 ha hb
 generalize q7X (q0m a b).1 (q0m a b).2.1=c at *
 generalize q08 (q0m a b).1=X at *
 generalize q08 (q0m a b).2.1=Y at *
 generalize q0m a b=al at *
 obtain ⟨x,y,e⟩:=al
 simp only at *
 obtain ⟨na,da,ea⟩:=a
 obtain ⟨nb,db,eb⟩:=b
 simp only[q0b] at *
 refine q04 qiK rfl ?_
 by_cases hne:na=nb
 ·subst hne
  rw[if_pos rfl]
  generalize q20 na (dg (X+Y)) e=r at *
  cases na
  all_goals
   (repeat' first|simp (disch:=omega) only[go_sem,qiK,enter]|refine q00 _ (h0) ?_|refine q00 _ (hsum) ?_|refine q00 _ (n1) ?_)
   all_goals first | omega | rfl
 ·rw[if_neg hne]
  by_cases hle:Y≤X
  ·rw[if_pos hle]
   have hc:=g1.2 hle
   have d1:=d1 hle
   have n2:=n2 hle
   generalize q20 na (dg (X-Y)) e=r at *
   cases na<;>cases nb<;>first | exact absurd rfl hne | skip
   all_goals
    (repeat' first|simp (disch:=omega) only[go_sem,qiK,enter,hc]|refine q00 _ (h0) ?_|refine q00 _ (hcmp) ?_|refine q00 _ (d1) ?_|refine q00 _ (n2) ?_)
    all_goals first | omega | rfl
  ·rw[if_neg hle]
   have hc : ¬ 0≤c:=fun k=>hle (g1.1 k)
   have d2:=d2 hle
   have n3:=n3 hle
   generalize q20 nb (dg (Y-X)) e=r at *
   cases na<;>cases nb<;>first | exact absurd rfl hne | skip
   all_goals
    (repeat' first|simp (disch:=omega) only[go_sem,qiK,enter,hc]|refine q00 _ (h0) ?_|refine q00 _ (hcmp) ?_|refine q00 _ (d2) ?_|refine q00 _ (n3) ?_)
    all_goals first | omega | rfl
theorem qfm (neg:Bool) {n e:Int} (hn:0≤n) (he : -400≤e) (he2:e≤400) :
  ((q20 neg (dg n) e).2=0→q0c (q20 neg (dg n) e).1=true∧q0x (q20 neg (dg n) e).1=(if neg=true then -1 else 1) * (n * 10^(e+400).toNat)) ∧
  ((q20 neg (dg n) e).2≠0→(q20 neg (dg n) e).1=⟨false,[],0⟩∧∀ y,q0c y=true→q30 y≠n * 10^(e+400).toNat):=by
 obtain ⟨h1,h2,h3⟩:=qjX hn
 unfold q20
 by_cases hz:dg n=[]
 ·have h0:n=0:=(qll hn).1 hz
  rw[if_pos hz,h0]
  refine ⟨fun _=>⟨by decide,?_⟩,fun h=>absurd rfl h⟩
  simp [q0x,q30,q08]
 ·rw[if_neg hz]
  have hnum:=h3 fun h=>hz ((qll hn).2 h)
  obtain ⟨z1,z2⟩:=qau (dg n)
  have zl:=q9n (dg n)
  have hf:=congrArg q08 z1
  rw[show (dg n).take ((dg n).length-q0G (dg n))++List.replicate (q0G (dg n)) 48=pad ((dg n).take ((dg n).length-q0G (dg n))) (q0G (dg n)) from rfl,q2r,h2] at hf
  have hlen:((dg n).take ((dg n).length-q0G (dg n))).length=(dg n).length-q0G (dg n):=by simp
  have hnt:Num ((dg n).take ((dg n).length-q0G (dg n))):=by
   have hne:(dg n).take ((dg n).length-q0G (dg n))≠[]:=fun hh=>by
    rw[hh] at hf
    simp [q08] at hf
    exact hz ((qll hn).2 hf.symm)
   refine ⟨Kk.2 fun x hx=>Kk.1 h1 x (Ky hx),?_,hne⟩
   intro h48
   apply hnum.head
   rw[VE] at h48
   split at h48
   ·exact h48
   ·cases h48
  have hpad:pad (dg n) (e+400).toNat=pad ((dg n).take ((dg n).length-q0G (dg n))) (q0G (dg n)+(e+400).toNat):=by
   conv=>lhs; unfold pad
   conv=>lhs; lhs; rw[←z1]
   unfold pad
   rw[Kv,List.replicate_append_replicate]
  generalize (dg n).take ((dg n).length-q0G (dg n))=t at *
  generalize q0G (dg n)=z at *
  by_cases hbad:e>400-z∨e < -400-z∨120<(dg n).length-z
  ·rw[if_pos hbad]
   refine ⟨fun h=>by simp at h,fun _=>⟨rfl,fun y hy hm=>?_⟩⟩
   have hyn:y.digits≠[]:=fun h=>by
    rw[q2G h] at hm
    have:=hnum.pos
    rw[h2] at this
    have h5:=Int.mul_pos this (q2e (e+400).toNat)
    omega
   obtain ⟨y1,y2,y3,y4,y5⟩:=q1w hy hyn
   have e1:q08 (pad y.digits (y.exp+400).toNat)=q08 (pad t (z+(e+400).toNat)):=by
    rw[←hpad,q2r,q2r,h2,←hm]
    rfl
   have e2:=(q7E (y1.pad (y.exp+400).toNat) (hnt.pad (z+(e+400).toNat))).2
   have e3:=e2.2 (e2.1.2 e1)
   have e4:=congrArg q0G e3
   rw[q7M _ _ y1 y2,q7M _ _ hnt z2] at e4
   have e5:=congrArg List.length e3
   simp only[pad,Kh,V2,hlen] at e5
   omega
  ·rw[if_neg hbad]
   refine ⟨fun _=>⟨?_,?_⟩,fun h=>absurd rfl h⟩
   ·unfold q0c q56
    rw[if_neg hnt.ne]
    simp only[Kf,decide_eq_true_eq]
    exact ⟨⟨⟨⟨by omega,⟨by omega,hnt.dig⟩,hnt.head⟩,z2⟩,by omega⟩,by omega⟩
   ·have hv : ∀ s:Bool,q0x ⟨s,t,e+z⟩=(if s=true then -1 else 1) * (n * 10^(e+400).toNat):=fun s=>by
     have hm:q30 ⟨s,t,e+z⟩=n * 10^(e+400).toNat:=by
      unfold q30
      simp only
      rw[←hf,Vp,←Int.pow_add]
      congr 2
      omega
     unfold q0x
     rw[hm]
     cases s<;>simp<;>omega
    exact hv neg
theorem qr5 {d:Dec}:q30 d=(if d.neg=true then -1 else 1) * q0x d:=by
 unfold q0x
 cases d.neg<;>simp
theorem qoA {a b:Dec} (ha:q0c a=true) (hb:q0c b=true):((q6M a b).2=0→q0c (q6M a b).1=true∧q0x (q6M a b).1=q0x a+q0x b)∧((q6M a b).2≠0→(q6M a b).1=⟨false,[],0⟩∧∀ y,q0c y=true→q0x y≠q0x a+q0x b):=by
 obtain ⟨c1,c2,l1,l2,e1,e2,m1,m2⟩:=q9X ha hb
 have b1:=(q0o _ c1.dig).1
 have b2:=(q0o _ c2.dig).1
 unfold q6M
 generalize q08 (q0m a b).1=X at *
 generalize q08 (q0m a b).2.1=Y at *
 generalize (q0m a b).2.2=e at *
 have nz : ∀ d,q0c d=true→(d.neg=true→0<q30 d):=fun d hd hneg=>q66 hd fun h=>by
  rw[q4L hd h] at hneg
  cases hneg
 have sgn : ∀ (neg:Bool) (n v:Int),0≤n→v=(if neg=true then -1 else 1) * (n * 10^(e+400).toNat)→((q20 neg (dg n) e).2=0→q0c (q20 neg (dg n) e).1=true∧q0x (q20 neg (dg n) e).1=v)∧((q20 neg (dg n) e).2≠0→(q20 neg (dg n) e).1=⟨false,[],0⟩∧∀ y,q0c y=true→q0x y≠v):=by
  intro neg n v h0 hv
  obtain ⟨k1,k2⟩:=qfm neg h0 e1 e2
  refine ⟨fun h=>by rw[hv]; exact k1 h,fun h=>⟨(k2 h).1,fun y hy hyv=>(k2 h).2 y hy ?_⟩⟩
  have hn:=q3s hy
  have hp:0≤n * 10^(e+400).toNat:=Int.mul_nonneg h0 (by have:=q2e (e+400).toNat; omega)
  have h5:=qr5 (d:=y)
  have h6:q0x y=(if neg=true then -1 else 1) * (n * 10^(e+400).toNat):=by rw[hyv,hv]
  have fin : ∀ (m v' w:Int) (p q:Bool),0≤m→0≤w→m=(if p=true then -1 else 1) * v'→v'=(if q=true then -1 else 1) * w→m=w:=by
   intro m v' w p q g1 g2 g3 g4
   cases p<;>cases q<;>simp only[Ke,if_true,if_false] at g3 g4<;>omega
  exact fin _ _ _ _ _ hn hp h5 h6
 have hva:q0x a=(if a.neg=true then -1 else 1) * (X * 10^(e+400).toNat):=by unfold q0x; rw[m1]; cases a.neg<;>simp
 have hvb:q0x b=(if b.neg=true then -1 else 1) * (Y * 10^(e+400).toNat):=by unfold q0x; rw[m2]; cases b.neg<;>simp
 by_cases hne:a.neg=b.neg
 ·rw[if_pos hne]
  refine sgn a.neg (X+Y) _ (by omega) ?_
  rw[hva,hvb,←hne,Int.add_mul,Int.mul_add]
 ·rw[if_neg hne]
  by_cases hle:Y≤X
  ·rw[if_pos hle]
   refine sgn a.neg (X-Y) _ (by omega) ?_
   rw[hva,hvb,Int.sub_mul]
   generalize X * 10^(e+400).toNat=p
   generalize Y * 10^(e+400).toNat=q
   cases h1:a.neg<;>cases h2:b.neg<;>first | (exfalso; apply hne; rw[h1,h2]; done) | (simp<;>omega)
  ·rw[if_neg hle]
   refine sgn b.neg (Y-X) _ (by omega) ?_
   rw[hva,hvb,Int.sub_mul]
   generalize X * 10^(e+400).toNat=p
   generalize Y * 10^(e+400).toNat=q
   cases h1:a.neg<;>cases h2:b.neg<;>first | (exfalso; apply hne; rw[h1,h2]; done) | (simp<;>omega)
end Ago
set_option maxRecDepth 100000
set_option exponentiation.threshold 2000
namespace Ago
def IsV (n:Int):Prop:=∃ d,q0c d=true∧q0x d=n
abbrev T (n:Nat):Int:=(10:Int)^n
theorem q1E (n:Nat):0<T n:=q2e n
theorem q7B (n:Nat):T (n+1)=10 * T n:=by
 show (10:Int)^(n+1)=10 * 10^n
 rw[VH,Vx]
theorem qit {a b:Nat} (h:a≤b):T a≤T b:=q29 h
theorem q4n {a b:Nat} (h:a≤b):T a ∣ T b:=⟨(10:Int)^(b-a),by
 show (10:Int)^b=10^a * 10^(b-a)
 rw[←Int.pow_add]
 congr 1
 omega⟩
theorem qov {a b:Nat} (h:a<b):T a<T b:=by
 have h1:=qit (show a+1≤b by omega)
 have h2:=q7B a
 have h3:=q1E a
 omega
theorem qtu {a b:Nat} (h:T a<T b):a<b:=by
 rcases VG a b with h1 | h1
 ·exact h1
 ·have:=qit h1
  omega
theorem gap {U m n:Int} (hU:0<U) (h1:U ∣ m) (h2:U ∣ n) (h:m<n):m+U≤n:=by
 have:=Int.le_of_dvd (by omega) (Wg h2 h1)
 omega
theorem q38 {U x:Int} (h0:0<x) (h:x<U) : ¬ U ∣ x:=fun hd=>by
 have:=Int.le_of_dvd h0 hd
 omega
theorem qkF {s:List UInt8} (h:Num s) (h0:q0G s=0) : ¬ (10:Int) ∣ q08 s:=by
 rcases List.eq_nil_or_concat s with rfl | ⟨t,x,rfl⟩
 ·exact absurd rfl h.ne
 ·simp only[List.concat_eq_append] at *
  have hx:q5n x=true:=Kk.1 h.dig x (by simp)
  simp only[q5n,decide_eq_true_eq] at hx
  have hx48:x≠48:=fun e=>by
   rw[e] at h0
   unfold q0G at h0
   simp at h0
  have:x.toNat≠48:=fun e=>hx48 (UInt8.toNat_inj.1 (by simpa using e))
  rw[q5b]
  have e:q08 [x]=x.toNat-48:=by simp [q08]
  rw[e]
  simp only[Kb,Kd]
  rintro ⟨c,hc⟩
  omega
theorem qqW {m:Int} (h:IsV m) (hp:0<m) : ∃ (c:Int) (E:Nat),m=c * T E∧0<c∧c<T 120∧E≤800∧¬ (10:Int) ∣ c:=by
 obtain ⟨d,hd,rfl⟩:=h
 have hn:d.digits≠[]:=fun hn=>by
  unfold q0x at hp
  rw[q2G hn] at hp
  split at hp<;>omega
 have hneg:d.neg=false:=by
  cases hx:d.neg with
  | false=>rfl
  | true=>
   have:=q3s hd
   unfold q0x at hp
   rw[if_pos hx] at hp
   omega
 obtain ⟨h1,h2,h3,h4,h5⟩:=q1w hd hn
 refine ⟨q08 d.digits,(d.exp+400).toNat,?_,h1.pos,?_,by omega,qkF h1 h2⟩
 ·unfold q0x
  rw[if_neg (by simp [hneg])]
  rfl
 ·have h6:q08 d.digits<T d.digits.length:=(q0o _ h1.dig).2
  have:=qit h3
  omega
theorem q4U {n:Int} (h:IsV n):IsV (-n):=by
 obtain ⟨d,hd,rfl⟩:=h
 by_cases hn:d.digits=[]
 ·refine ⟨d,hd,?_⟩
  unfold q0x
  rw[q2G hn]
  split<;>rfl
 ·refine ⟨⟨!d.neg,d.digits,d.exp⟩,?_,?_⟩
  ·unfold q0c at hd ⊢
   rw[if_neg hn] at hd ⊢
   exact hd
  ·unfold q0x q30
   cases d.neg<;>simp
theorem qqL:IsV 0:=⟨⟨false,[],0⟩,by decide,by simp [q0x,q30,q08]⟩
theorem qqq {m:Int} {L:Nat} (h:IsV m) (hp:0<m) (hl:T (L-1)≤m):T (L-120) ∣ m:=by
 obtain ⟨c,E,rfl,hc,hc2,hE,_⟩:=qqW h hp
 have h1:c * T E<T 120 * T E:=Int.mul_lt_mul_of_pos_right hc2 (q1E E)
 have h2:T 120 * T E=T (120+E):=(Int.pow_add 10 120 E).symm
 rw[h2] at h1
 have h3:=qtu (show T (L-1)<T (120+E) by omega)
 exact We (q4n (by omega)) (Int.dvd_mul_left _ _)
theorem qyy {m:Int} (h:IsV m) (hp:0<m) : ¬ T 801 ∣ m:=by
 obtain ⟨c,E,rfl,hc,hc2,hE,h10⟩:=qqW h hp
 rintro ⟨k,hk⟩
 apply h10
 have e:T 801=T (800-E) * 10 * T E:=by
  show (10:Int)^801=10^(800-E) * 10 * 10^E
  rw[show (10:Int)^(800-E) * 10=10^(800-E+1) from (VH 10 (800-E)).symm,←Int.pow_add]
  congr 1
  omega
 rw[e] at hk
 have h2:c * T E=(T (800-E) * 10 * k) * T E:=by
  rw[hk,Vp (T (800-E) * 10),Vx (T E) k,←Vp]
 have h3:=Int.eq_of_mul_eq_mul_right (by have:=q1E E; omega) h2
 exact ⟨T (800-E) * k,by rw[h3,Vx (T (800-E)) 10,Vp]⟩
theorem qnO {m:Int} {L:Nat} (hp:0<m) (hl:m<T L) (hd:T (L-120) ∣ m) (hn : ¬ T 801 ∣ m):IsV m:=by
 obtain ⟨c,rfl⟩:=hd
 have hu:L-120≤800:=by
  rcases VG 800 (L-120) with h | h
  ·exact absurd (We (q4n (show 801≤L-120 by omega)) (Int.dvd_mul_right _ _)) hn
  ·exact h
 generalize hU:L-120=u at *
 have hTu:=q1E u
 have hc:0<c:=by
  rcases VB 0 c with h | h
  ·exact h
  ·have:=Int.mul_nonpos_of_nonneg_of_nonpos (show 0≤T u by omega) h
   omega
 have hc2:c<T 120:=by
  rcases VB c (T 120) with h | h
  ·exact h
  ·have h1:=Int.mul_le_mul_of_nonneg_left h (show 0≤T u by omega)
   have h2:T u * T 120=T (u+120):=(Int.pow_add 10 u 120).symm
   have h3:=qit (show L≤u+120 by omega)
   omega
 have e1:((u:Int)-400+400).toNat=u:=by omega
 obtain ⟨k1,k2⟩:=qfm false (n:=c) (e:=(u:Int)-400) (by omega) (by omega) (by omega)
 rw[e1] at k1 k2
 by_cases h0:(q20 false (dg c) ((u:Int)-400)).2=0
 ·obtain ⟨k3,k4⟩:=k1 h0
  refine ⟨_,k3,?_⟩
  rw[k4,if_neg (by simp),Int.one_mul,Vx]
 ·exfalso
  obtain ⟨h1,h2,h3⟩:=qjX (show 0≤c by omega)
  have hnum:=h3 (by omega)
  have hlen:=qkn (show 0≤c by omega) hc2
  obtain ⟨z1,z2⟩:=qau (dg c)
  have hf:=congrArg q08 z1
  rw[show (dg c).take ((dg c).length-q0G (dg c))++List.replicate (q0G (dg c)) 48=pad ((dg c).take ((dg c).length-q0G (dg c))) (q0G (dg c)) from rfl,q2r,h2] at hf
  unfold q20 at h0
  rw[if_neg hnum.ne] at h0
  generalize (dg c).take ((dg c).length-q0G (dg c))=t at *
  generalize q0G (dg c)=z at *
  split at h0
  ·rename_i hbad
   apply hn
   have hz:801≤u+z:=by omega
   have e2:T u * T z=T (u+z):=(Int.pow_add 10 u z).symm
   rw[←hf]
   refine We (q4n hz) ⟨q08 t,?_⟩
   rw[←e2,Vp,Vx (T z)]
  ·exact h0 rfl
def Pl (m:Int) (L:Nat):Prop:=1≤L∧T (L-1)≤m∧m<T L
theorem qyh {L:Nat} (h:L≤800):IsV (T L):=by
 refine qnO (L:=L+1) (q1E L) (qov (by omega)) (q4n (by omega)) (q38 (q1E L) (qov (by omega)))
theorem qyN {m:Int} {L:Nat} (h:IsV m) (hp:Pl m L):L-120≤800:=by
 have h0:=q1E (L-1)
 have h1:=qqq h (by have:=hp.2.1; omega) hp.2.1
 rcases VG 800 (L-120) with h2 | h2
 ·exact absurd (We (q4n (show 801≤L-120 by omega)) h1) (qyy h (by have:=hp.2.1; omega))
 ·exact h2
theorem qcp {m n:Int} {L:Nat} (hp:0<n) (h1:n<T L) (h2:T (L-120) ∣ n) (h : ¬ IsV n):T 801 ∣ n:=by
 rcases VB 0 0 with h3 | h3
 ·omega
 ·by_cases hd:T 801 ∣ n
  ·exact hd
  ·exact absurd (qnO hp h1 h2 hd) h
theorem qoW {m:Int} {L:Nat} (hm:IsV m) (hp:Pl m L) :
  (IsV (m+T (L-120))→∀ n,IsV n→m<n→m+T (L-120)≤n) ∧
  (¬ IsV (m+T (L-120))→IsV (m+2 * T (L-120))→∀ n,IsV n→m<n→m+2 * T (L-120)≤n) ∧
  (¬ IsV (m+T (L-120))→¬ IsV (m+2 * T (L-120))→IsV (m+11 * T (L-120))→∀ n,IsV n→m<n→m+11 * T (L-120)≤n) ∧
  (¬ IsV (m+T (L-120))→¬ IsV (m+2 * T (L-120))→¬ IsV (m+11 * T (L-120))→∀ n,IsV n→n≤m):=by
 obtain ⟨hL,hlo,hhi⟩:=hp
 have hm0:0<m:=by have:=q1E (L-1); omega
 have hU:=q1E (L-120)
 have hdm:=qqq hm hm0 hlo
 have hu:=qyN hm ⟨hL,hlo,hhi⟩
 have htop:m+T (L-120)≤T L:=gap hU hdm (q4n (by omega)) hhi
 have same : ∀ n,IsV n→m<n→T (L-120) ∣ n:=fun n hn h=>qqq hn (by omega) (by omega)
 have h801:T (L-120)<T 801:=qov (by omega)
 have hd1:T (L-120) ∣ m+T (L-120):=Int.dvd_add hdm (Int.dvd_refl _)
 have hd2:T (L-120) ∣ m+2 * T (L-120):=Int.dvd_add hdm (Int.dvd_mul_left _ _)
 -- where the next multiple is no decimal,it is one more place
 have full : ¬ IsV (m+T (L-120))→¬ IsV (m+2 * T (L-120))→m+T (L-120)=T L:=by
  intro k1 k2
  rcases VB (m+T (L-120)) (T L) with h | h
  ·exfalso
   have h1:=qcp (m:=m) (by omega) h hd1 k1
   have h2:m+2 * T (L-120)≤T L:=by
    have:=gap hU hd1 (q4n (show L-120≤L by omega)) h
    omega
   have h801p:=q1E 801
   have hL801:801≤L:=by
    have h3:=Int.le_of_dvd (by omega) h1
    have h4:=qtu (show T 800<T L by have:=qov (show 800<801 by omega); omega)
    omega
   have h3:m+T (L-120)+T 801≤T L:=gap h801p h1 (q4n hL801) h
   refine k2 (qnO (L:=L) (by omega) (by omega) hd2 fun h4=>?_)
   have h5:=Wg h4 h1
   rw[show m+2 * T (L-120)-(m+T (L-120))=T (L-120) by omega] at h5
   exact q38 hU h801 h5
  ·omega
 have big : ¬ IsV (m+T (L-120))→m+T (L-120)=T L→801≤L:=by
  intro k1 k2
  rw[k2] at k1
  rcases VG L 801 with h | h
  ·exact absurd (qyh (by omega)) k1
  ·exact h
 have e10:801≤L→T (L+1-120)=10 * T (L-120):=fun h=>by rw[←q7B]; congr 1; omega
 refine ⟨fun h n hn hlt=>gap hU hdm (same n hn hlt) hlt,fun k1 k2 n hn hlt=>?_,fun k1 k2 k3 n hn hlt=>?_,fun k1 k2 k3 n hn=>?_⟩
 ·have h1:=gap hU hdm (same n hn hlt) hlt
  rcases VB (m+T (L-120)) n with h | h
  ·have:=gap hU hd1 (same n hn hlt) h
   omega
  ·have:n=m+T (L-120):=by omega
   rw[this] at hn
   exact absurd hn k1
 ·have hf:=full k1 k2
  have hb:=big k1 hf
  have h10:=e10 hb
  have h1:=gap hU hdm (same n hn hlt) hlt
  have hne:n≠T L:=fun h=>by rw[h,←hf] at hn; exact k1 hn
  have h2:T (L+1-120) ∣ n:=qqq hn (by omega) (by rw[show L+1-1=L by omega]; omega)
  have h3:=gap (q1E _) (q4n (show L+1-120≤L by omega)) h2 (show T L<n by omega)
  omega
 ·have hf:=full k1 k2
  have hb:=big k1 hf
  have h10:=e10 hb
  have hsum:m+11 * T (L-120)=T L+T (L+1-120):=by omega
  have hlt2:T L+T (L+1-120)<T (L+1):=by
   have h1:=q7B L
   have h2:=qit (show L+1-120≤L by omega)
   have h3:=q1E L
   omega
  rw[hsum] at k3
  have h1:=qcp (m:=m) (by have:=q1E L; have:=q1E (L+1-120); omega) hlt2 (Int.dvd_add (q4n (by omega)) (Int.dvd_refl _)) k3
  have h2:T 801 ∣ T (L+1-120):=by
   have:=Wg h1 (q4n (show 801≤L by omega))
   rwa [show T L+T (L+1-120)-T L=T (L+1-120) by omega] at this
  have h3:801≤L+1-120:=by
   rcases VG (L+1-120) 801 with h | h
   ·exact absurd h2 (q38 (q1E _) (qov h))
   ·exact h
  rcases VB m n with h | h
  ·exfalso
   have g1:=gap hU hdm (same n hn h) h
   have g2:T (L+1-120) ∣ n:=qqq hn (by omega) (by rw[show L+1-1=L by omega]; omega)
   exact qyy hn (by omega) (We (q4n h3) g2)
  ·exact h
theorem qj7 {m:Int} {L:Nat} (hm:IsV m) (hp:Pl m L) (hu:L≤120):IsV (m-1):=by
 obtain ⟨hL,hlo,hhi⟩:=hp
 have hm0:0<m:=by have:=q1E (L-1); omega
 by_cases h1:m=1
 ·rw[h1]
  exact qqL
 ·have h2:=qit (show L≤120 by omega)
  have h3:=qov (show 120<801 by omega)
  refine qnO (L:=L) (by omega) (by omega) (by rw[show L-120=0 by omega]; exact ⟨m-1,by show m-1=(10:Int)^0 * (m-1); simp⟩) (q38 (by omega) (by omega))
theorem qok {m:Int} {L:Nat} (hm:IsV m) (hp:Pl m L) (hu:120<L) :
  (IsV (m-T (L-121))→∀ n,IsV n→n<m→n≤m-T (L-121)) ∧
  (¬ IsV (m-T (L-121))→IsV (m-T (L-120))→∀ n,IsV n→n<m→n≤m-T (L-120)) ∧
  (¬ IsV (m-T (L-121))→¬ IsV (m-T (L-120))→IsV (m-11 * T (L-121))→∀ n,IsV n→n<m→n≤m-11 * T (L-121)) ∧
  (¬ IsV (m-T (L-121))→¬ IsV (m-T (L-120))→¬ IsV (m-11 * T (L-121))→IsV (m-2 * T (L-120))∧∀ n,IsV n→n<m→n≤m-2 * T (L-120)):=by
 obtain ⟨hL,hlo,hhi⟩:=hp
 have hm0:0<m:=by have:=q1E (L-1); omega
 have hU:=q1E (L-120)
 have hW:=q1E (L-121)
 have e10:T (L-120)=10 * T (L-121):=by rw[←q7B]; congr 1; omega
 have hdm:=qqq hm hm0 hlo
 have hule:=qyN hm ⟨hL,hlo,hhi⟩
 have h801:T (L-120)<T 801:=qov (by omega)
 have hl2:T (L-120)≤T (L-1):=qit (by omega)
 have hl3:10 * T (L-2)=T (L-1):=by rw[←q7B]; congr 1; omega
 have hw2:T (L-121)≤T (L-2):=qit (by omega)
 have hdl:T (L-120) ∣ T (L-1):=q4n (by omega)
 have atLeast:m=T (L-1)∨T (L-1)+T (L-120)≤m:=by
  rcases VB (T (L-1)) m with h | h
  ·exact .inr (gap hU hdl hdm h)
  ·exact .inl (by omega)
 -- numbers of the same places
 have same : ∀ n,IsV n→T (L-1)≤n→T (L-120) ∣ n:=fun n hn h=>qqq hn (by have:=q1E (L-1); omega) h
 have odd : ∀ n,T (L-120) ∣ n→¬ T (L-120) ∣ n-T (L-121):=fun n h1 h2=>by
  have:=Wg h1 h2
  rw[show n-(n-T (L-121))=T (L-121) by omega] at this
  exact q38 hW (by omega) this
 -- all nines
 have nines:IsV (T (L-1)-T (L-121)):=by
  refine qnO (L:=L-1) (by omega) (by omega) (by rw[show L-1-120=L-121 by omega]; exact Wg (q4n (by omega)) (Int.dvd_refl _)) fun h=>?_
  rcases VG (L-1) 801 with h1 | h1
  ·have:=qov h1
   exact q38 (by omega) (by omega) h
  ·have h2:=Wg (q4n h1) h
   rw[show T (L-1)-(T (L-1)-T (L-121))=T (L-121) by omega] at h2
   exact q38 hW (by omega) h2
 have below : ∀ n,IsV n→n<T (L-1)→n≤T (L-1)-T (L-121):=by
  intro n hn h
  rcases VB n (T (L-2)) with h1 | h1
  ·omega
  ·have hd:T (L-1-120) ∣ n:=qqq hn (by have:=q1E (L-2); omega) (by rw[show L-1-1=L-2 by omega]; exact h1)
   rw[show L-1-120=L-121 by omega] at hd
   have:=gap hW hd (q4n (show L-121≤L-1 by omega)) h
   omega
 have s1 : ¬ IsV (m-T (L-121))→T (L-1)+T (L-120)≤m:=fun k1=>by
  rcases atLeast with h | h
  ·rw[h] at k1
   exact absurd nines k1
  ·exact h
 have d1:T (L-120) ∣ m-T (L-120):=Wg hdm (Int.dvd_refl _)
 refine ⟨fun k1 n hn hlt=>?_,fun k1 k2 n hn hlt=>?_,fun k1 k2 k3 n hn hlt=>?_,fun k1 k2 k3=>?_⟩
 ·rcases atLeast with h | h
  ·rw[h] at hlt ⊢
   exact below n hn hlt
  ·exact absurd (same _ k1 (by omega)) (odd m hdm)
 ·have h:=s1 k1
  rcases VB n (T (L-1)) with h1 | h1
  ·omega
  ·have:=gap hU (same n hn h1) hdm hlt
   omega
 ·have h:=s1 k1
  rcases VB (T (L-1)) (m-T (L-120)) with h1 | h1
  ·exfalso
   have h2:=gap hU hdl d1 h1
   have h3:=same _ k3 (by omega)
   rw[show m-11 * T (L-121)=m-T (L-120)-T (L-121) by omega] at h3
   exact odd _ d1 h3
  ·have h2:m-T (L-120)=T (L-1):=by omega
   have hne:n≠T (L-1):=fun h3=>by rw[h3,←h2] at hn; exact k2 hn
   have h4:n<T (L-1):=by
    rcases VB n (T (L-1)) with h5 | h5
    ·exact h5
    ·have:=gap hU (same n hn h5) hdm hlt
     omega
   have:=below n hn h4
   omega
 ·have h:=s1 k1
  have h1:=qcp (m:=m) (L:=L) (by have:=q1E (L-1); omega) (by omega) d1 k2
  have h2:m-T (L-120)≠T (L-1):=fun h3=>by
   rw[show m-11 * T (L-121)=T (L-1)-T (L-121) by omega] at k3
   exact k3 nines
  have h801p:=q1E 801
  have hb:801≤L-1:=by
   rcases VG (L-1) 801 with h3 | h3
   ·have h4:=Int.le_of_dvd (by have:=q1E (L-1); omega) h1
    have h5:=qit (show L≤801 by omega)
    omega
   ·exact h3
  have h3:=gap h801p (q4n hb) h1 (show T (L-1)<m-T (L-120) by omega)
  have d2:T (L-120) ∣ m-2 * T (L-120):=Wg hdm (Int.dvd_mul_left _ _)
  refine ⟨qnO (L:=L) (by have:=q1E (L-1); omega) (by omega) d2 fun h4=>?_,fun n hn hlt=>?_⟩
  ·have h5:=Wg h1 h4
   rw[show m-T (L-120)-(m-2 * T (L-120))=T (L-120) by omega] at h5
   exact q38 hU h801 h5
  ·rcases VB n (T (L-1)) with h4 | h4
   ·omega
   ·have h5:=gap hU (same n hn h4) hdm hlt
    rcases VB n (m-T (L-120)) with h6 | h6
    ·have:=gap hU (same n hn h4) d1 h6
     omega
    ·have:n=m-T (L-120):=by omega
     rw[this] at hn
     exact absurd hn k2
end Ago
set_option maxRecDepth 100000
set_option exponentiation.threshold 2000
set_option maxHeartbeats 4000000
namespace Ago
open Go (IntKind)
theorem qhR (neg:Bool) (s:List UInt8) (e:Int) (hs:s.length<2^20) (hd:digits s=true) (he : -(2^24)≤e∧e≤2^24):q0e CN 706 [.bool neg,.str s,.int .i64 e] (.tup [q0b (q20 neg (q1q s) e).1,.int .i64 (q20 neg (q1q s) e).2]):=by
 have h1:=q7u s (by omega)
 have hll:(q1q s).length≤s.length:=(List.dropWhile_sublist _).length_le
 have h2:=qeg neg (q1q s) e (by omega) he
 generalize q20 neg (q1q s) e=r at *
 generalize q1q s=t at *
 unfold q0b at *
 refine q04 qpx rfl ?_
 (repeat' first|simp (disch:=omega) only[go_sem,qpx,enter]|(apply spl<;>intro h<;>try simp (disch:=omega) only[go_sem,h]))
 all_goals first | omega | skip
 refine q06 (α:=Nat) (fun k=>{ tmps:=q0h 33 [(0,.bool neg),(1,.str s),(2,.int .i64 e),(6,.ptr 3 0 0 0),(10,.int .i64 s.length),(11,.int .i64 k)],heap:=[.row 3 [.agg [.bool false,.str [],.int .i64 0]] false true 0],base:=0 }) (fun k=>k≤s.length) (fun k=>s.length-k) 0 rfl (Km _) ?_
 intro k hk
 by_cases hlt:k<s.length
 ·obtain ⟨c,hc⟩:=q05 hlt
  have hcd:=Kk.1 hd c (Kc hc)
  simp only[q5n,decide_eq_true_eq] at hcd
  have c1 : ¬ (c.toNat:Int)<48:=by omega
  have c2 : ¬ (c.toNat:Int)>57:=by omega
  (repeat' first|simp (disch:=omega) only[go_sem,hc,c1,c2,VM]|(apply spl<;>intro h<;>try simp (disch:=omega) only[go_sem,h]))
  all_goals first | omega | skip
  exact ⟨k+1,rfl,hlt,by omega⟩
 ·(repeat' first|simp (disch:=omega) only[go_sem]|refine q00 _ (h1) ?_|refine q00 _ (h2) ?_)
  all_goals first | omega | rfl
theorem qlk (s:List UInt8) (e:Int) (hs:s.length<2^20) (hd:digits s=true) (he : -(2^24)≤e∧e≤2^24):q0e CN 697 [.str s,.int .i64 e] (q0b (q20 false (q1q s) e).1):=by
 have h:=qhR false s e hs hd he
 generalize q20 false (q1q s) e=r at *
 unfold q0b at *
 refine q04 qoZ rfl ?_
 (repeat' first|simp (disch:=omega) only[go_sem,qoZ,enter]|refine q00 _ (h) ?_)
 all_goals first | omega | rfl
def mk (s:List UInt8) (e:Int):Dec:=⟨false,s,e⟩
theorem q1u {s:List UInt8} {e:Int} (h:s=[49]∨s=[50]∨s=[49,49]∨s=[53]) (he : -400≤e∧e≤400):(q20 false (q1q s) e).1=mk s e∧q0c (mk s e)=true∧digits s=true:=by
 have key : ∀ t:List UInt8,t≠[]→q1q t=t→q0G t=0→t.length≤2→q56 t=true→digits t=true→(q20 false (q1q t) e).1=mk t e∧q0c (mk t e)=true∧digits t=true:=by
  intro t h1 h2 h3 h4 h5 h6
  rw[h2]
  unfold q20 q0c mk
  rw[if_neg h1,h3,if_neg (by omega),if_neg h1]
  refine ⟨?_,?_,h6⟩
  ·simp
  ·simp [h5,h3]
   omega
 rcases h with rfl | rfl | rfl | rfl
 all_goals exact key _ (by simp) (by decide) (by decide) (by simp) (by decide) (by decide)
theorem q67 {s:List UInt8} {e:Int} (h:s=[49]∨s=[50]∨s=[49,49]∨s=[53]) (he : -400≤e∧e≤400):q0e CN 697 [.str s,.int .i64 e] (q0b (mk s e)):=by
 obtain ⟨h1,_,h3⟩:=q1u h he
 have:=qlk s e (by rcases h with rfl | rfl | rfl | rfl<;>simp) h3 (by omega)
 rwa [h1] at this
theorem qbV {s:List UInt8} {e:Int} (he : -400≤e):q0x (mk s e)=q08 s * T (e+400).toNat:=by
 unfold q0x q30 mk
 simp
theorem qbc (d:Dec) (h:q0c d=true):q0e CN 717 [q0b d] (.int .i64 (d.digits.length+d.exp)):=by
 obtain ⟨h1,h2,h3⟩:=q0O h
 refine q04 qnT rfl ?_
 obtain ⟨neg,ds,exp⟩:=d
 simp only[q0b] at *
 (repeat' first|simp (disch:=omega) only[go_sem,qnT,enter])
 all_goals first | omega | rfl
def q10 (d:Dec):Int:=if (d.digits.length:Int)+d.exp-120 < -400 then -400 else d.digits.length+d.exp-120
def qmS (d:Dec):List Dec:=
 if d.neg=false then [mk [49] (q10 d),mk [50] (q10 d),mk [49,49] (q10 d)]
 else if q10 d ≤ -400 then [mk [49] (q10 d),mk [50] (q10 d)]
 else [mk [49] (q10 d-1),mk [49] (q10 d),mk [49,49] (q10 d-1),mk [50] (q10 d)]
def q26 (d:Dec):List Dec→Dec × Bool
 | []=>(⟨false,[],0⟩,false)
 | s::l=>if (q6M d s).2=0 then ((q6M d s).1,true) else q26 d l
def q3h (d:Dec):Dec × Bool:=if d.digits=[] then (mk [49] (-400),true) else q26 d (qmS d)
theorem q8j {d:Dec} {st:List Dec} {k:Nat} {s:Dec} (h:st[k]?=some s):q26 d (st.drop k)=if (q6M d s).2=0 then ((q6M d s).1,true) else q26 d (st.drop (k+1)):=by
 obtain ⟨h1,h2⟩:=KA.1 h
 rw[Vw h1,h2,q26]
theorem qnQ (d:Dec) (hd:q0c d=true):q0e CN 709 [q0b d] (.tup [q0b (q3h d).1,.bool (q3h d).2]):=by
 obtain ⟨f1,f2,f3⟩:=q0O hd
 have hp:=qbc d hd
 unfold q3h
 by_cases hn:d.digits=[]
 ·rw[if_pos hn]
  have h1:=q67 (s:=[49]) (e:=-400) (.inl rfl) (by omega)
  obtain ⟨nn,ds,ex⟩:=d
  simp only at hn
  subst hn
  simp only[q0b,mk] at *
  refine q04 qb0 rfl ?_
  (repeat' first|simp (disch:=omega) only[go_sem,qb0,enter]|refine q00 _ (h1) ?_)
  all_goals first | omega | rfl
 ·rw[if_neg hn]
  obtain ⟨_,_,_,g4,g5⟩:=q1w hd hn
  have hu : -400≤q10 d∧q10 d≤400:=by unfold q10; split<;>omega
  have hmax:(if (-400:Int)>(d.digits.length:Int)+d.exp-120 then (-400:Int) else (d.digits.length:Int)+d.exp-120)=q10 d:=by
   rfl
  have q1:=q67 (s:=[49]) (e:=q10 d) (.inl rfl) hu
  have q2:=q67 (s:=[50]) (e:=q10 d) (.inr (.inl rfl)) hu
  have q3:=q67 (s:=[49,49]) (e:=q10 d) (.inr (.inr (.inl rfl))) hu
  have o1:=q1u (s:=[49]) (e:=q10 d) (.inl rfl) hu
  have o2:=q1u (s:=[50]) (e:=q10 d) (.inr (.inl rfl)) hu
  have o3:=q1u (s:=[49,49]) (e:=q10 d) (.inr (.inr (.inl rfl))) hu
  have p1:=fun h : ¬ q10 d ≤ -400=>q67 (s:=[49]) (e:=q10 d-1) (.inl rfl) (by omega)
  have p3:=fun h : ¬ q10 d ≤ -400=>q67 (s:=[49,49]) (e:=q10 d-1) (.inr (.inr (.inl rfl))) (by omega)
  have r1:=fun h : ¬ q10 d ≤ -400=>q1u (s:=[49]) (e:=q10 d-1) (.inl rfl) (by omega)
  have r3:=fun h : ¬ q10 d ≤ -400=>q1u (s:=[49,49]) (e:=q10 d-1) (.inr (.inr (.inl rfl))) (by omega)
  have hsd:qmS d=if d.neg=false then [mk [49] (q10 d),mk [50] (q10 d),mk [49,49] (q10 d)] else if q10 d ≤ -400 then [mk [49] (q10 d),mk [50] (q10 d)] else [mk [49] (q10 d-1),mk [49] (q10 d),mk [49,49] (q10 d-1),mk [50] (q10 d)]:=rfl
  rw[hsd]
  clear hsd
  generalize q10 d=u at *
  obtain ⟨nn,ds,ex⟩:=d
  simp only at *
  have hnb:(ds == ([]:List UInt8))=false:=by simp [hn]
  simp only[q0b] at hp q1 q2 q3 p1 p3 ⊢
  cases nn with
  | false=>
   rw[if_pos rfl]
   have hok : ∀ s,s∈[mk [49] u,mk [50] u,mk [49,49] u]→q0c s=true∧s.digits≠[]:=fun s hs=>by
    simp only[KI,V5,or_false] at hs
    rcases hs with rfl | rfl | rfl
    ·exact ⟨o1.2.1,by simp [mk]⟩
    ·exact ⟨o2.2.1,by simp [mk]⟩
    ·exact ⟨o3.2.1,by simp [mk]⟩
   simp only[mk] at q1 q2 q3
   refine q04 qb0 rfl ?_
   (repeat' first|simp (disch:=omega) only[go_sem,qb0,enter,hnb,hmax]|refine q00 _ (hp) ?_|refine q00 _ (q1) ?_|refine q00 _ (q2) ?_|refine q00 _ (q3) ?_|(apply spl<;>intro h<;>try simp (disch:=omega) only[go_sem,h]))
   all_goals first | omega | skip
   obtain ⟨st,hst⟩ : ∃ st,[mk [49] u,mk [50] u,mk [49,49] u]=st:=⟨_,rfl⟩
   rw[hst] at hok ⊢
   refine q06 (α:=Nat) (fun k=>{ tmps:=q0h 67 [(1,.ptr 3 0 0 0),(2,.ptr 3 1 0 0),(45,.sref 3 2 0 st.length),(46,.int .i64 st.length),(47,.int .i64 k)],heap:=[.row 3 [.agg [.bool false,.str ds,.int .i64 ex]] false true 0,.row 3 [.agg [.bool false,.str [],.int .i64 0]] false true 1,.row 3 (st.map q0b) false true 2],base:=0 }) (fun k=>k≤st.length∧q26 ⟨false,ds,ex⟩ st=q26 ⟨false,ds,ex⟩ (st.drop k)) (fun k=>st.length-k) 0 (by rw[←hst]; rfl) ⟨Km _,rfl⟩ ?_
   rintro k ⟨hk,hf⟩
   have hst4:st.length≤4:=by rw[←hst]; simp
   by_cases hlt:k<st.length
   ·obtain ⟨s,hs⟩:=q05 hlt
    have hsm:=Kc hs
    obtain ⟨so,sn⟩:=hok s hsm
    have ha:=qcJ ⟨false,ds,ex⟩ s hd so
    have hs2:=q09 (g:=q0b) hs
    have hfd:=q8j (d:=⟨false,ds,ex⟩) hs
    rw[hfd] at hf
    generalize q6M ⟨false,ds,ex⟩ s=r at *
    obtain ⟨sneg,sds,sexp⟩:=s
    simp only[q0b] at ha hs2 sn
    have snb:(sds == ([]:List UInt8))=false:=by simp [sn]
    by_cases h0:r.2=0
    ·rw[if_pos h0] at hf
     rw[hf]; rw[h0] at ha
     (repeat' first|simp (disch:=omega) only[go_sem,hs2,Ka,snb]|refine q00 _ (ha) ?_)
     all_goals first | omega | rfl
    ·rw[if_neg h0] at hf
     (repeat' first|simp (disch:=omega) only[go_sem,hs2,Ka,snb,h0]|refine q00 _ (ha) ?_|(apply spl<;>intro h<;>try simp (disch:=omega) only[go_sem,h]))
     all_goals first | omega | skip
     exact ⟨k+1,rfl,⟨hlt,hf⟩,by omega⟩
   ·rw[KR (by omega),q26] at hf
    rw[hf]
    (repeat' first|simp (disch:=omega) only[go_sem,Ka])
    all_goals first | omega | rfl
  | true=>
   by_cases hu4:u ≤ -400
   ·rw[if_neg (by simp),if_pos hu4]
    have hok : ∀ s,s∈[mk [49] u,mk [50] u]→q0c s=true∧s.digits≠[]:=fun s hs=>by
     simp only[KI,V5,or_false] at hs
     rcases hs with rfl | rfl
     ·exact ⟨o1.2.1,by simp [mk]⟩
     ·exact ⟨o2.2.1,by simp [mk]⟩
    simp only[mk] at q1 q2 q3
    refine q04 qb0 rfl ?_
    (repeat' first|simp (disch:=omega) only[go_sem,qb0,enter,hnb,hmax,hu4]|refine q00 _ (hp) ?_|refine q00 _ (q1) ?_|refine q00 _ (q2) ?_|refine q00 _ (q3) ?_|(apply spl<;>intro h<;>try simp (disch:=omega) only[go_sem,h]))
    all_goals first | omega | skip
    obtain ⟨st,hst⟩ : ∃ st,[mk [49] u,mk [50] u]=st:=⟨_,rfl⟩
    rw[hst] at hok ⊢
    refine q06 (α:=Nat) (fun k=>{ tmps:=q0h 67 [(1,.ptr 3 0 0 0),(2,.ptr 3 1 0 0),(45,.sref 3 2 0 st.length),(46,.int .i64 st.length),(47,.int .i64 k)],heap:=[.row 3 [.agg [.bool true,.str ds,.int .i64 ex]] false true 0,.row 3 [.agg [.bool false,.str [],.int .i64 0]] false true 1,.row 3 (st.map q0b) false true 2],base:=0 }) (fun k=>k≤st.length∧q26 ⟨true,ds,ex⟩ st=q26 ⟨true,ds,ex⟩ (st.drop k)) (fun k=>st.length-k) 0 (by rw[←hst]; rfl) ⟨Km _,rfl⟩ ?_
    rintro k ⟨hk,hf⟩
    have hst4:st.length≤4:=by rw[←hst]; simp
    by_cases hlt:k<st.length
    ·obtain ⟨s,hs⟩:=q05 hlt
     have hsm:=Kc hs
     obtain ⟨so,sn⟩:=hok s hsm
     have ha:=qcJ ⟨true,ds,ex⟩ s hd so
     have hs2:=q09 (g:=q0b) hs
     have hfd:=q8j (d:=⟨true,ds,ex⟩) hs
     rw[hfd] at hf
     generalize q6M ⟨true,ds,ex⟩ s=r at *
     obtain ⟨sneg,sds,sexp⟩:=s
     simp only[q0b] at ha hs2 sn
     have snb:(sds == ([]:List UInt8))=false:=by simp [sn]
     by_cases h0:r.2=0
     ·rw[if_pos h0] at hf
      rw[hf]; rw[h0] at ha
      (repeat' first|simp (disch:=omega) only[go_sem,hs2,Ka,snb]|refine q00 _ (ha) ?_)
      all_goals first | omega | rfl
     ·rw[if_neg h0] at hf
      (repeat' first|simp (disch:=omega) only[go_sem,hs2,Ka,snb,h0]|refine q00 _ (ha) ?_|(apply spl<;>intro h<;>try simp (disch:=omega) only[go_sem,h]))
      all_goals first | omega | skip
      exact ⟨k+1,rfl,⟨hlt,hf⟩,by omega⟩
    ·rw[KR (by omega),q26] at hf
     rw[hf]
     (repeat' first|simp (disch:=omega) only[go_sem,Ka])
     all_goals first | omega | rfl
   ·rw[if_neg (by simp),if_neg hu4]
    have p1:=p1 hu4
    have p3:=p3 hu4
    have r1:=r1 hu4
    have r3:=r3 hu4
    have hu5 : ¬ u ≤ -400:=hu4
    have hok : ∀ s,s∈[mk [49] (u-1),mk [49] u,mk [49,49] (u-1),mk [50] u]→q0c s=true∧s.digits≠[]:=fun s hs=>by
     simp only[KI,V5,or_false] at hs
     rcases hs with rfl | rfl | rfl | rfl
     ·exact ⟨r1.2.1,by simp [mk]⟩
     ·exact ⟨o1.2.1,by simp [mk]⟩
     ·exact ⟨r3.2.1,by simp [mk]⟩
     ·exact ⟨o2.2.1,by simp [mk]⟩
    simp only[mk] at q1 q2 q3 p1 p3
    refine q04 qb0 rfl ?_
    (repeat' first|simp (disch:=omega) only[go_sem,qb0,enter,hnb,hmax,hu5]|refine q00 _ (hp) ?_|refine q00 _ (q1) ?_|refine q00 _ (q2) ?_|refine q00 _ (q3) ?_|refine q00 _ (p1) ?_|refine q00 _ (p3) ?_|(apply spl<;>intro h<;>try simp (disch:=omega) only[go_sem,h]))
    all_goals first | omega | skip
    obtain ⟨st,hst⟩ : ∃ st,[mk [49] (u-1),mk [49] u,mk [49,49] (u-1),mk [50] u]=st:=⟨_,rfl⟩
    rw[hst] at hok ⊢
    refine q06 (α:=Nat) (fun k=>{ tmps:=q0h 67 [(1,.ptr 3 0 0 0),(2,.ptr 3 1 0 0),(45,.sref 3 2 0 st.length),(46,.int .i64 st.length),(47,.int .i64 k)],heap:=[.row 3 [.agg [.bool true,.str ds,.int .i64 ex]] false true 0,.row 3 [.agg [.bool false,.str [],.int .i64 0]] false true 1,.row 3 (st.map q0b) false true 2],base:=0 }) (fun k=>k≤st.length∧q26 ⟨true,ds,ex⟩ st=q26 ⟨true,ds,ex⟩ (st.drop k)) (fun k=>st.length-k) 0 (by rw[←hst]; rfl) ⟨Km _,rfl⟩ ?_
    rintro k ⟨hk,hf⟩
    have hst4:st.length≤4:=by rw[←hst]; simp
    by_cases hlt:k<st.length
    ·obtain ⟨s,hs⟩:=q05 hlt
     have hsm:=Kc hs
     obtain ⟨so,sn⟩:=hok s hsm
     have ha:=qcJ ⟨true,ds,ex⟩ s hd so
     have hs2:=q09 (g:=q0b) hs
     have hfd:=q8j (d:=⟨true,ds,ex⟩) hs
     rw[hfd] at hf
     generalize q6M ⟨true,ds,ex⟩ s=r at *
     obtain ⟨sneg,sds,sexp⟩:=s
     simp only[q0b] at ha hs2 sn
     have snb:(sds == ([]:List UInt8))=false:=by simp [sn]
     by_cases h0:r.2=0
     ·rw[if_pos h0] at hf
      rw[hf]; rw[h0] at ha
      (repeat' first|simp (disch:=omega) only[go_sem,hs2,Ka,snb]|refine q00 _ (ha) ?_)
      all_goals first | omega | rfl
     ·rw[if_neg h0] at hf
      (repeat' first|simp (disch:=omega) only[go_sem,hs2,Ka,snb,h0]|refine q00 _ (ha) ?_|(apply spl<;>intro h<;>try simp (disch:=omega) only[go_sem,h]))
      all_goals first | omega | skip
      exact ⟨k+1,rfl,⟨hlt,hf⟩,by omega⟩
    ·rw[KR (by omega),q26] at hf
     rw[hf]
     (repeat' first|simp (disch:=omega) only[go_sem,Ka])
     all_goals first | omega | rfl
end Ago
set_option maxRecDepth 100000
set_option exponentiation.threshold 2000
namespace Ago
theorem qlr {d:Dec} (hd:q0c d=true) (hn:d.digits≠[]):Pl (q30 d) (d.digits.length+(d.exp+400).toNat):=by
 obtain ⟨h1,h2,h3,h4,h5⟩:=q1w hd hn
 have hp:=h1.pad (d.exp+400).toNat
 have e:q30 d=q08 (pad d.digits (d.exp+400).toNat):=by rw[q2r]; rfl
 have hl:(pad d.digits (d.exp+400).toNat).length=d.digits.length+(d.exp+400).toNat:=by simp [pad]
 have hlen:=Vm.2 h1.ne
 have k1:=hp.low
 have k2:=(q0o _ hp.dig).2
 rw[hl] at k1 k2
 rw[e]
 exact ⟨by omega,k1,k2⟩
theorem qnA {d s:Dec} {v:Int} (hd:q0c d=true) (hs:q0c s=true) (hv:q0x d+q0x s=v):((q6M d s).2=0∧q0c (q6M d s).1=true∧q0x (q6M d s).1=v)∨((q6M d s).2≠0∧¬ IsV v):=by
 obtain ⟨h1,h2⟩:=qoA hd hs
 rw[hv] at h1 h2
 by_cases h:(q6M d s).2=0
 ·exact .inl ⟨h,h1 h⟩
 ·exact .inr ⟨h,fun ⟨y,hy,e⟩=>(h2 h).2 y hy e⟩
def qnl (d:Dec) (r:Dec × Bool):Prop:=
 (r.2=true→q0c r.1=true∧q0x d<q0x r.1∧∀ y,q0c y=true→q0x d<q0x y→q0x r.1≤q0x y)∧(r.2=false→r.1=⟨false,[],0⟩∧∀ y,q0c y=true→q0x y≤q0x d)
theorem q4b {d x:Dec} {v:Int} (h1:q0c x=true) (h2:q0x x=v) (h3:q0x d<v) (h4 : ∀ n,IsV n→q0x d<n→v≤n):qnl d (x,true):=
 ⟨fun _=>⟨h1,by simp only; omega,fun y hy hlt=>by simp only; rw[h2]; exact h4 _ ⟨y,hy,rfl⟩ hlt⟩,fun h=>by cases h⟩
theorem qtw {d:Dec} (hd:q0c d=true) (hn:d.digits≠[]):(q10 d+400).toNat=d.digits.length+(d.exp+400).toNat-120∧-400≤q10 d∧q10 d≤400∧(q10 d ≤ -400↔d.digits.length+(d.exp+400).toNat≤120)∧(¬ q10 d ≤ -400→(q10 d-1+400).toNat=d.digits.length+(d.exp+400).toNat-121):=by
 obtain ⟨h1,h2,h3,h4,h5⟩:=q1w hd hn
 have hlen:=Vm.2 h1.ne
 unfold q10
 split<;>omega
theorem f49:q08 [49]=1:=by decide
theorem f50:q08 [50]=2:=by decide
theorem f11:q08 [49,49]=11:=by decide
theorem q5M (d:Dec) (hd:q0c d=true):qnl d (q3h d):=by
 unfold q3h
 by_cases hn:d.digits=[]
 ·rw[if_pos hn]
  have hv:q0x d=0:=by
   unfold q0x
   rw[q2G hn]
   split<;>rfl
  have hk:q0x (mk [49] (-400))=1:=by rw[qbV (by omega),f49]; rfl
  exact q4b (q1u (.inl rfl) (by omega)).2.1 hk (by omega) fun n _ h=>by omega
 rw[if_neg hn]
 have hP:=qlr hd hn
 have hm0:=q66 hd hn
 obtain ⟨u1,u2,u3,u4,u5⟩:=qtw hd hn
 generalize d.digits.length+(d.exp+400).toNat=L at *
 have hU:=q1E (L-120)
 have k1:=q1u (s:=[49]) (e:=q10 d) (.inl rfl) ⟨u2,u3⟩
 have k2:=q1u (s:=[50]) (e:=q10 d) (.inr (.inl rfl)) ⟨u2,u3⟩
 have k3:=q1u (s:=[49,49]) (e:=q10 d) (.inr (.inr (.inl rfl))) ⟨u2,u3⟩
 have v1:q0x (mk [49] (q10 d))=T (L-120):=by rw[qbV u2,f49,u1]; omega
 have v2:q0x (mk [50] (q10 d))=2 * T (L-120):=by rw[qbV u2,f50,u1]
 have v3:q0x (mk [49,49] (q10 d))=11 * T (L-120):=by rw[qbV u2,f11,u1]
 unfold qmS
 cases hneg:d.neg with
 | false=>
  rw[if_pos rfl]
  have hv:q0x d=q30 d:=by unfold q0x; rw[if_neg (by simp [hneg])]
  have hV:IsV (q30 d):=⟨d,hd,hv⟩
  obtain ⟨s1,s2,s3,s4⟩:=qoW hV hP
  rw[q26,q26,q26,q26]
  rw[←hv] at s1 s2 s3 s4
  rcases qnA (v:=q0x d+T (L-120)) hd k1.2.1 (by rw[v1]) with ⟨a,b,c⟩ | ⟨a,n1⟩
  ·rw[if_pos a]
   exact q4b b c (by omega) (s1 ⟨_,b,c⟩)
  rw[if_neg a]
  rcases qnA (v:=q0x d+2 * T (L-120)) hd k2.2.1 (by rw[v2]) with ⟨a,b,c⟩ | ⟨a,n2⟩
  ·rw[if_pos a]
   exact q4b b c (by omega) (s2 n1 ⟨_,b,c⟩)
  rw[if_neg a]
  rcases qnA (v:=q0x d+11 * T (L-120)) hd k3.2.1 (by rw[v3]) with ⟨a,b,c⟩ | ⟨a,n3⟩
  ·rw[if_pos a]
   exact q4b b c (by omega) (s3 n1 n2 ⟨_,b,c⟩)
  rw[if_neg a]
  exact ⟨fun h=>(nomatch h),fun _=>⟨rfl,fun y hy=>s4 n1 n2 n3 _ ⟨y,hy,rfl⟩⟩⟩
 | true=>
  rw[if_neg (by simp)]
  have hv:q0x d = - q30 d:=by unfold q0x; rw[if_pos hneg]
  have hV:IsV (q30 d):=by
   have:=q4U (n:=q0x d) ⟨d,hd,rfl⟩
   rwa [hv,Int.neg_neg] at this
  -- numbers above,from the other side of 0
  have flip : ∀ {b:Int} {x:Dec},q0c x=true→q0x x=q0x d+b→0<b→(∀ n,IsV n→n<q30 d→n≤q30 d-b)→qnl d (x,true):=fun {b x} h1 h2 h3 h4=>by
   refine q4b h1 h2 (by omega) fun n hn2 hlt=>?_
   have:=h4 (-n) (q4U hn2) (by omega)
   omega
  have neg_of : ∀ {b:Int},IsV (q30 d-b)→IsV (q0x d+b):=fun {b} h=>by
   have:=q4U h
   rwa [show -(q30 d-b)=q0x d+b by omega] at this
  have of_neg : ∀ {b:Int},IsV (q0x d+b)→IsV (q30 d-b):=fun {b} h=>by
   have:=q4U h
   rwa [show -(q0x d+b)=q30 d-b by omega] at this
  by_cases hu:q10 d ≤ -400
  ·rw[if_pos hu,q26]
   have hL:L≤120:=u4.1 hu
   have e1:T (L-120)=1:=by rw[show L-120=0 by omega]; rfl
   rcases qnA (v:=q0x d+1) hd k1.2.1 (by rw[v1,e1]) with ⟨a,b,c⟩ | ⟨a,n1⟩
   ·rw[if_pos a]
    exact flip b c (by omega) fun n _ h=>by omega
   ·exact absurd (neg_of (qj7 hV hP hL)) n1
  ·rw[if_neg hu]
   have hL:120<L:=by
    rcases VG 120 L with h | h
    ·exact h
    ·exact absurd (u4.2 h) hu
   obtain ⟨s1,s2,s3,s4⟩:=qok hV hP hL
   have u5:=u5 hu
   have hW:=q1E (L-121)
   have e10:T (L-120)=10 * T (L-121):=by rw[←q7B]; congr 1; omega
   have k4:=q1u (s:=[49]) (e:=q10 d-1) (.inl rfl) ⟨by omega,by omega⟩
   have k5:=q1u (s:=[49,49]) (e:=q10 d-1) (.inr (.inr (.inl rfl))) ⟨by omega,by omega⟩
   have v4:q0x (mk [49] (q10 d-1))=T (L-121):=by rw[qbV (by omega),f49,u5]; omega
   have v5:q0x (mk [49,49] (q10 d-1))=11 * T (L-121):=by rw[qbV (by omega),f11,u5]
   rw[q26,q26,q26,q26,q26]
   rcases qnA (v:=q0x d+T (L-121)) hd k4.2.1 (by rw[v4]) with ⟨a,b,c⟩ | ⟨a,n1⟩
   ·rw[if_pos a]
    exact flip b c (by omega) (s1 (of_neg ⟨_,b,c⟩))
   rw[if_neg a]
   have n1:=fun h=>n1 (neg_of h)
   rcases qnA (v:=q0x d+T (L-120)) hd k1.2.1 (by rw[v1]) with ⟨a,b,c⟩ | ⟨a,n2⟩
   ·rw[if_pos a]
    exact flip b c (by omega) (s2 n1 (of_neg ⟨_,b,c⟩))
   rw[if_neg a]
   have n2:=fun h=>n2 (neg_of h)
   rcases qnA (v:=q0x d+11 * T (L-121)) hd k5.2.1 (by rw[v5]) with ⟨a,b,c⟩ | ⟨a,n3⟩
   ·rw[if_pos a]
    exact flip b c (by omega) (s3 n1 n2 (of_neg ⟨_,b,c⟩))
   rw[if_neg a]
   have n3:=fun h=>n3 (neg_of h)
   obtain ⟨s5,s6⟩:=s4 n1 n2 n3
   rcases qnA (v:=q0x d+2 * T (L-120)) hd k2.2.1 (by rw[v2]) with ⟨a,b,c⟩ | ⟨a,n4⟩
   ·rw[if_pos a]
    exact flip b c (by omega) s6
   ·exact absurd (neg_of s5) n4
end Ago
set_option maxRecDepth 100000
set_option exponentiation.threshold 2000
set_option maxHeartbeats 4000000
namespace Ago
open Go (IntKind)
end Ago
set_option maxRecDepth 100000
set_option exponentiation.threshold 2000
set_option maxHeartbeats 4000000
namespace Ago
open Go (IntKind)
end Ago
set_option maxRecDepth 100000
set_option exponentiation.threshold 2000
set_option maxHeartbeats 4000000
namespace Ago
open Go (IntKind)
theorem q2B {d:Dec} (hd:q0c d=true):0≤d.exp↔T 400 ∣ q0x d:=by
 have hm:T 400 ∣ q30 d↔T 400 ∣ q0x d:=by
  unfold q0x
  split
  ·exact Int.dvd_neg.symm
  ·exact Iff.rfl
 rw[←hm]
 by_cases hn:d.digits=[]
 ·have:=q4L hd hn
  rw[q2G hn,this]
  simp
 ·obtain ⟨h1,h2,h3,h4,h5⟩:=q1w hd hn
  constructor
  ·intro h
   unfold q30
   exact We (q4n (show 400≤(d.exp+400).toNat by omega)) (Int.dvd_mul_left _ _)
  ·rintro ⟨c,hc⟩
   rcases VB d.exp 0 with h | h
   ·exfalso
    have hl:=qkF h1 h2
    apply hl
    obtain ⟨E,hE⟩ : ∃ E:Nat,(d.exp+400).toNat=E:=⟨_,rfl⟩
    unfold q30 at hc
    rw[hE] at hc
    have e:T 400=T (399-E) * 10 * T E:=by
     show (10:Int)^400=10^(399-E) * 10 * 10^E
     rw[show (10:Int)^(399-E) * 10=10^(399-E+1) from (VH 10 (399-E)).symm,←Int.pow_add]
     congr 1
     omega
    rw[e] at hc
    have h6:q08 d.digits * T E=(T (399-E) * 10 * c) * T E:=by
     show q08 d.digits * 10^E=_
     rw[hc,Vp (T (399-E) * 10),Vx (T E) c,←Vp]
    have h7:=Int.eq_of_mul_eq_mul_right (by have:=q1E E; omega) h6
    exact ⟨T (399-E) * c,by rw[h7,Vx (T (399-E)) 10,Vp]⟩
   ·exact h
def q6T (v:Int) (opn:Bool) (n:Int):Prop:=if opn=true then v<n else v≤n
theorem qnm {d:Dec} (hd:q0c d=true) (hn:d.digits≠[]) {K:Nat} (h:(d.digits.length:Int)+d.exp+400≤K):q30 d<T K:=by
 have hp:=(qlr hd hn).2.2
 obtain ⟨_,_,_,h4,_⟩:=q1w hd hn
 have:=qit (show d.digits.length+(d.exp+400).toNat≤K by omega)
 omega
theorem qsO {d:Dec} (hd:q0c d=true) (hn:d.digits≠[]) {K:Nat} (h:(K:Int)<d.digits.length+d.exp+400):T K≤q30 d:=by
 have hp:=(qlr hd hn).2.1
 obtain ⟨_,_,_,h4,_⟩:=q1w hd hn
 have:=qit (show K≤d.digits.length+(d.exp+400).toNat-1 by omega)
 omega
theorem qni (d:Dec):q0x d=q30 d∨q0x d = - q30 d:=by
 unfold q0x
 split
 ·exact .inr rfl
 ·exact .inl rfl
end Ago
set_option maxRecDepth 100000
set_option exponentiation.threshold 2000
set_option maxHeartbeats 4000000
namespace Ago
open Go (IntKind)
open Go.Lib (repeatL)
theorem qut : ∀ n,repeatL [57] n=List.replicate n 57
 | 0=>rfl
 | n+1=>by simp [repeatL,qut n,Vr]
theorem qlw:q0e CN 291 [.str [57],.int .i64 120] (.str (List.replicate 120 57)):=by
 have h1:=qm6 [57] 120 (by simp) (by omega)
 rw[qut] at h1
 exact qgK (F:=qsJ) rfl h1
def q7f:Dec:=⟨true,List.replicate 120 57,-1⟩
theorem qj1:q20 true (q1q (List.replicate 120 57)) (-1)=(q7f,0):=by
 have e1:q1q (List.replicate 120 57)=List.replicate 120 57:=by decide +kernel
 have e2:q0G (List.replicate 120 57)=0:=by decide +kernel
 rw[e1]
 unfold q20 q7f
 rw[if_neg (by simp),e2,if_neg (by simp)]
 simp
theorem qmF:digits (List.replicate 120 57)=true:=by decide +kernel
theorem qgX:q0c q7f=true:=by decide +kernel
theorem qmk:q0x q7f = -((T 120-1) * T 399):=by
 unfold q0x q30 q7f
 simp only[if_true]
 have e1:q08 (List.replicate 120 57)=T 120-1:=by decide +kernel
 have e2:((-1:Int)+400).toNat=399:=rfl
 rw[e1,e2]
def q1T:Nat→Dec→Dec × Bool
 | 0,_=>(⟨false,[],0⟩,false)
 | k+1,x=>if (q3h x).2=false then (⟨false,[],0⟩,false) else if (q3h x).1.exp<0 then ((q3h x).1,true) else q1T k (q3h x).1
def q4r (d:Dec) (opn:Bool):Dec × Bool:=
 if d.exp<0∧opn=false then (d,true)
 else if d.digits≠[]∧120≤(d.digits.length:Int)+d.exp then (q7f,d.neg)
 else q1T 3 d
theorem qdl {d:Dec} (hd:q0c d=true):q0c (q3h d).1=true:=by
 obtain ⟨h1,h2⟩:=q5M d hd
 cases hb:(q3h d).2 with
 | true=>exact (h1 hb).1
 | false=>rw[(h2 hb).1]; decide
theorem qkh (d:Dec) (opn:Bool) (hd:q0c d=true):q0e CN 708 [q0b d,.bool opn] (.tup [q0b (q4r d opn).1,.bool (q4r d opn).2]):=by
 have hw:=q40 d
 have hp:=qbc d hd
 have h9:=qlw
 have hmk:=qhR true (List.replicate 120 57) (-1) (by simp) qmF (by omega)
 rw[qj1] at hmk
 have hnx:=fun x (h:q0c x=true)=>qnQ x h
 have hwx:=fun x=>q40 x
 unfold q4r
 by_cases hfo:d.exp<0∧opn=false
 ·rw[if_pos hfo]
  obtain ⟨he,rfl⟩:=hfo
  rw[decide_eq_false (show ¬ 0≤d.exp by omega)] at hw
  obtain ⟨nn,ds,ex⟩:=d
  simp only[q0b] at *
  refine q04 q8r rfl ?_
  (repeat' first|simp (disch:=omega) only[go_sem,q8r,enter]|refine q00 _ (hw) ?_)
  all_goals first | omega | rfl
 rw[if_neg hfo]
 by_cases hs:d.digits≠[]∧120≤(d.digits.length:Int)+d.exp
 ·rw[if_pos hs]
  obtain ⟨hn,hs⟩:=hs
  have hnb:(d.digits == ([]:List UInt8))=false:=by simp [hn]
  obtain ⟨nn,ds,ex⟩:=d
  simp only[q0b,q7f] at *
  generalize List.replicate 120 (57:UInt8)=w9 at *
  by_cases he:ex<0
  ·have ho:opn=true:=by
    cases opn with
    | true=>rfl
    | false=>exact absurd ⟨he,rfl⟩ hfo
   subst ho
   rw[decide_eq_false (show ¬ 0≤ex by omega)] at hw
   cases nn
   all_goals
    refine q04 q8r rfl ?_
    (repeat' first|simp (disch:=omega) only[go_sem,q8r,enter,hnb,hs]|refine q00 _ (hw) ?_|refine q00 _ (hp) ?_|refine q00 _ (h9) ?_|refine q00 _ (hmk) ?_)
    all_goals first | omega | rfl
  ·rw[decide_eq_true (show 0≤ex by omega)] at hw
   cases nn
   all_goals
    refine q04 q8r rfl ?_
    (repeat' first|simp (disch:=omega) only[go_sem,q8r,enter,hnb,hs]|refine q00 _ (hw) ?_|refine q00 _ (hp) ?_|refine q00 _ (h9) ?_|refine q00 _ (hmk) ?_)
    all_goals first | omega | rfl
 ·rw[if_neg hs]
  have hL : ∀ D:Dec,D=d→q0e CN 708 [q0b d,.bool opn] (.tup [q0b (q1T 3 D).1,.bool (q1T 3 D).2]):=by
   intro D hD
   refine q04 q8r rfl ?_
   have hd2:q0c D=true:=by rw[hD]; exact hd
   have hpre:d.digits=[]∨¬ 120≤(d.digits.length:Int)+d.exp:=by
    by_cases h:d.digits=[]
    ·exact .inl h
    ·exact .inr fun h2=>hs ⟨h,h2⟩
   generalize hR:q1T 3 D=R
   obtain ⟨nn,ds,ex⟩:=d
   simp only[q0b] at hw hp ⊢
   simp only at hpre
   by_cases he:ex<0
   ·have ho:opn=true:=by
     cases opn with
     | true=>rfl
     | false=>exact absurd ⟨he,rfl⟩ hfo
    subst ho
    rw[decide_eq_false (show ¬ 0≤ex by omega)] at hw
    by_cases hn:ds=[]
    ·subst hn
     (repeat' first|simp (disch:=omega) only[go_sem,q8r,enter]|refine q00 _ (hw) ?_|refine q00 _ (hp) ?_|(apply spl<;>intro h<;>try simp (disch:=omega) only[go_sem,h]))
     all_goals first | omega | skip
     have hD0:q0c ⟨nn,[],ex⟩=true:=hd
     have hR0:R=q1T 3 ⟨nn,[],ex⟩:=by rw[←hR,hD]
     clear hR hD hd2 hs hfo hw hp h9 hmk hd
     refine q06 (α:=Nat × Dec × Bool) (fun a=>{ tmps:=q0h 58 [(2,.ptr 3 0 0 0),(4,.ptr 3 1 0 0),(8,.bool a.2.2),(9,.int .i64 a.1)],heap:=[.row 3 [q0b a.2.1] false true 0,.row 3 [.agg [.bool false,.str [],.int .i64 0]] false true 1],base:=0 }) (fun a=>a.1≤3∧q0c a.2.1=true∧(a.2.2=true→R=q1T (3-a.1) a.2.1)∧(a.2.2=false→R=(⟨false,[],0⟩,false))) (fun a=>3-a.1) (0,⟨nn,[],ex⟩,true) rfl ⟨by simp,hD0,fun _=>hR0,fun h=>(nomatch h)⟩ ?_
     clear hD0 hR0
     rintro ⟨i,x,b⟩ ⟨hi,hx,h1,h2⟩
     simp only at hi hx h1 h2
     by_cases hc:i<3∧b=true
     ·obtain ⟨hlt,rfl⟩:=hc
      have h1:=h1 rfl
      have hn:=hnx x hx
      have hwn:=hwx (q3h x).1
      have hok:=qdl hx
      rw[show 3-i=(2-i)+1 by omega,q1T] at h1
      generalize q3h x=N at *
      obtain ⟨⟨nn',ds',ex'⟩,b'⟩:=N
      obtain ⟨xn,xd,xe⟩:=x
      simp only[q0b] at *
      cases b' with
      | false=>
       rw[if_pos rfl] at h1
       by_cases he':0≤ex'
       ·rw[decide_eq_true he'] at hwn
        (repeat' first|simp (disch:=omega) only[go_sem]|refine q00 _ (hn) ?_|refine q00 _ (hwn) ?_|(apply spl<;>intro h<;>try simp (disch:=omega) only[go_sem,h]))
        all_goals first | omega | skip
        exact ⟨(i+1,⟨nn',ds',ex'⟩,false),rfl,⟨hlt,hok,fun h=>(nomatch h),fun _=>h1⟩,by simp only; omega⟩
       ·rw[decide_eq_false he'] at hwn
        (repeat' first|simp (disch:=omega) only[go_sem]|refine q00 _ (hn) ?_|refine q00 _ (hwn) ?_|(apply spl<;>intro h<;>try simp (disch:=omega) only[go_sem,h]))
        all_goals first | omega | skip
        exact ⟨(i+1,⟨nn',ds',ex'⟩,false),rfl,⟨hlt,hok,fun h=>(nomatch h),fun _=>h1⟩,by simp only; omega⟩
      | true=>
       rw[if_neg (by simp)] at h1
       by_cases he':0≤ex'
       ·rw[if_neg (by omega)] at h1
        rw[decide_eq_true he'] at hwn
        (repeat' first|simp (disch:=omega) only[go_sem]|refine q00 _ (hn) ?_|refine q00 _ (hwn) ?_|(apply spl<;>intro h<;>try simp (disch:=omega) only[go_sem,h]))
        all_goals first | omega | skip
        exact ⟨(i+1,⟨nn',ds',ex'⟩,true),rfl,⟨hlt,hok,fun _=>by rw[h1]; congr 1; omega,fun h=>(nomatch h)⟩,by simp only; omega⟩
       ·rw[if_pos (by omega)] at h1
        rw[decide_eq_false he'] at hwn
        rw[h1]
        (repeat' first|simp (disch:=omega) only[go_sem]|refine q00 _ (hn) ?_|refine q00 _ (hwn) ?_)
        all_goals first | omega | rfl
     ·have hz:R=(⟨false,[],0⟩,false):=by
       cases b with
       | false=>exact h2 rfl
       | true=>
        have:i=3:=by
         rcases VG i 3 with h | h
         ·exact absurd ⟨h,rfl⟩ hc
         ·omega
        rw[h1 rfl,this,V0,q1T]
      rw[hz]
      clear h1 h2 hz
      obtain ⟨xn,xd,xe⟩:=x
      simp only[q0b]
      by_cases hlt:i<3
      ·have hbf:b=false:=by
        cases b with
        | false=>rfl
        | true=>exact absurd ⟨hlt,rfl⟩ hc
       subst hbf
       (repeat' first|simp (disch:=omega) only[go_sem,hlt])
       all_goals first | omega | rfl
      ·cases b
       all_goals
        (repeat' first|simp (disch:=omega) only[go_sem,hlt])
        all_goals first | omega | rfl
    ·have hnb:(ds == ([]:List UInt8))=false:=by simp [hn]
     have h0 : ¬ 120≤(ds.length:Int)+ex:=by
      rcases hpre with h | h
      ·exact absurd h hn
      ·exact h
     (repeat' first|simp (disch:=omega) only[go_sem,q8r,enter,hnb,h0]|refine q00 _ (hw) ?_|refine q00 _ (hp) ?_|(apply spl<;>intro h<;>try simp (disch:=omega) only[go_sem,h]))
     all_goals first | omega | skip
     have hD0:q0c ⟨nn,ds,ex⟩=true:=hd
     have hR0:R=q1T 3 ⟨nn,ds,ex⟩:=by rw[←hR,hD]
     clear hR hD hd2 hs hfo hw hp h9 hmk hd
     refine q06 (α:=Nat × Dec × Bool) (fun a=>{ tmps:=q0h 58 [(2,.ptr 3 0 0 0),(4,.ptr 3 1 0 0),(8,.bool a.2.2),(9,.int .i64 a.1)],heap:=[.row 3 [q0b a.2.1] false true 0,.row 3 [.agg [.bool false,.str [],.int .i64 0]] false true 1],base:=0 }) (fun a=>a.1≤3∧q0c a.2.1=true∧(a.2.2=true→R=q1T (3-a.1) a.2.1)∧(a.2.2=false→R=(⟨false,[],0⟩,false))) (fun a=>3-a.1) (0,⟨nn,ds,ex⟩,true) rfl ⟨by simp,hD0,fun _=>hR0,fun h=>(nomatch h)⟩ ?_
     clear hD0 hR0
     rintro ⟨i,x,b⟩ ⟨hi,hx,h1,h2⟩
     simp only at hi hx h1 h2
     by_cases hc:i<3∧b=true
     ·obtain ⟨hlt,rfl⟩:=hc
      have h1:=h1 rfl
      have hn:=hnx x hx
      have hwn:=hwx (q3h x).1
      have hok:=qdl hx
      rw[show 3-i=(2-i)+1 by omega,q1T] at h1
      generalize q3h x=N at *
      obtain ⟨⟨nn',ds',ex'⟩,b'⟩:=N
      obtain ⟨xn,xd,xe⟩:=x
      simp only[q0b] at *
      cases b' with
      | false=>
       rw[if_pos rfl] at h1
       by_cases he':0≤ex'
       ·rw[decide_eq_true he'] at hwn
        (repeat' first|simp (disch:=omega) only[go_sem]|refine q00 _ (hn) ?_|refine q00 _ (hwn) ?_|(apply spl<;>intro h<;>try simp (disch:=omega) only[go_sem,h]))
        all_goals first | omega | skip
        exact ⟨(i+1,⟨nn',ds',ex'⟩,false),rfl,⟨hlt,hok,fun h=>(nomatch h),fun _=>h1⟩,by simp only; omega⟩
       ·rw[decide_eq_false he'] at hwn
        (repeat' first|simp (disch:=omega) only[go_sem]|refine q00 _ (hn) ?_|refine q00 _ (hwn) ?_|(apply spl<;>intro h<;>try simp (disch:=omega) only[go_sem,h]))
        all_goals first | omega | skip
        exact ⟨(i+1,⟨nn',ds',ex'⟩,false),rfl,⟨hlt,hok,fun h=>(nomatch h),fun _=>h1⟩,by simp only; omega⟩
      | true=>
       rw[if_neg (by simp)] at h1
       by_cases he':0≤ex'
       ·rw[if_neg (by omega)] at h1
        rw[decide_eq_true he'] at hwn
        (repeat' first|simp (disch:=omega) only[go_sem]|refine q00 _ (hn) ?_|refine q00 _ (hwn) ?_|(apply spl<;>intro h<;>try simp (disch:=omega) only[go_sem,h]))
        all_goals first | omega | skip
        exact ⟨(i+1,⟨nn',ds',ex'⟩,true),rfl,⟨hlt,hok,fun _=>by rw[h1]; congr 1; omega,fun h=>(nomatch h)⟩,by simp only; omega⟩
       ·rw[if_pos (by omega)] at h1
        rw[decide_eq_false he'] at hwn
        rw[h1]
        (repeat' first|simp (disch:=omega) only[go_sem]|refine q00 _ (hn) ?_|refine q00 _ (hwn) ?_)
        all_goals first | omega | rfl
     ·have hz:R=(⟨false,[],0⟩,false):=by
       cases b with
       | false=>exact h2 rfl
       | true=>
        have:i=3:=by
         rcases VG i 3 with h | h
         ·exact absurd ⟨h,rfl⟩ hc
         ·omega
        rw[h1 rfl,this,V0,q1T]
      rw[hz]
      clear h1 h2 hz
      obtain ⟨xn,xd,xe⟩:=x
      simp only[q0b]
      by_cases hlt:i<3
      ·have hbf:b=false:=by
        cases b with
        | false=>rfl
        | true=>exact absurd ⟨hlt,rfl⟩ hc
       subst hbf
       (repeat' first|simp (disch:=omega) only[go_sem,hlt])
       all_goals first | omega | rfl
      ·cases b
       all_goals
        (repeat' first|simp (disch:=omega) only[go_sem,hlt])
        all_goals first | omega | rfl
   ·rw[decide_eq_true (show 0≤ex by omega)] at hw
    by_cases hn:ds=[]
    ·subst hn
     (repeat' first|simp (disch:=omega) only[go_sem,q8r,enter]|refine q00 _ (hw) ?_|refine q00 _ (hp) ?_|(apply spl<;>intro h<;>try simp (disch:=omega) only[go_sem,h]))
     all_goals first | omega | skip
     have hD0:q0c ⟨nn,[],ex⟩=true:=hd
     have hR0:R=q1T 3 ⟨nn,[],ex⟩:=by rw[←hR,hD]
     clear hR hD hd2 hs hfo hw hp h9 hmk hd
     refine q06 (α:=Nat × Dec × Bool) (fun a=>{ tmps:=q0h 58 [(2,.ptr 3 0 0 0),(4,.ptr 3 1 0 0),(8,.bool a.2.2),(9,.int .i64 a.1)],heap:=[.row 3 [q0b a.2.1] false true 0,.row 3 [.agg [.bool false,.str [],.int .i64 0]] false true 1],base:=0 }) (fun a=>a.1≤3∧q0c a.2.1=true∧(a.2.2=true→R=q1T (3-a.1) a.2.1)∧(a.2.2=false→R=(⟨false,[],0⟩,false))) (fun a=>3-a.1) (0,⟨nn,[],ex⟩,true) rfl ⟨by simp,hD0,fun _=>hR0,fun h=>(nomatch h)⟩ ?_
     clear hD0 hR0
     rintro ⟨i,x,b⟩ ⟨hi,hx,h1,h2⟩
     simp only at hi hx h1 h2
     by_cases hc:i<3∧b=true
     ·obtain ⟨hlt,rfl⟩:=hc
      have h1:=h1 rfl
      have hn:=hnx x hx
      have hwn:=hwx (q3h x).1
      have hok:=qdl hx
      rw[show 3-i=(2-i)+1 by omega,q1T] at h1
      generalize q3h x=N at *
      obtain ⟨⟨nn',ds',ex'⟩,b'⟩:=N
      obtain ⟨xn,xd,xe⟩:=x
      simp only[q0b] at *
      cases b' with
      | false=>
       rw[if_pos rfl] at h1
       by_cases he':0≤ex'
       ·rw[decide_eq_true he'] at hwn
        (repeat' first|simp (disch:=omega) only[go_sem]|refine q00 _ (hn) ?_|refine q00 _ (hwn) ?_|(apply spl<;>intro h<;>try simp (disch:=omega) only[go_sem,h]))
        all_goals first | omega | skip
        exact ⟨(i+1,⟨nn',ds',ex'⟩,false),rfl,⟨hlt,hok,fun h=>(nomatch h),fun _=>h1⟩,by simp only; omega⟩
       ·rw[decide_eq_false he'] at hwn
        (repeat' first|simp (disch:=omega) only[go_sem]|refine q00 _ (hn) ?_|refine q00 _ (hwn) ?_|(apply spl<;>intro h<;>try simp (disch:=omega) only[go_sem,h]))
        all_goals first | omega | skip
        exact ⟨(i+1,⟨nn',ds',ex'⟩,false),rfl,⟨hlt,hok,fun h=>(nomatch h),fun _=>h1⟩,by simp only; omega⟩
      | true=>
       rw[if_neg (by simp)] at h1
       by_cases he':0≤ex'
       ·rw[if_neg (by omega)] at h1
        rw[decide_eq_true he'] at hwn
        (repeat' first|simp (disch:=omega) only[go_sem]|refine q00 _ (hn) ?_|refine q00 _ (hwn) ?_|(apply spl<;>intro h<;>try simp (disch:=omega) only[go_sem,h]))
        all_goals first | omega | skip
        exact ⟨(i+1,⟨nn',ds',ex'⟩,true),rfl,⟨hlt,hok,fun _=>by rw[h1]; congr 1; omega,fun h=>(nomatch h)⟩,by simp only; omega⟩
       ·rw[if_pos (by omega)] at h1
        rw[decide_eq_false he'] at hwn
        rw[h1]
        (repeat' first|simp (disch:=omega) only[go_sem]|refine q00 _ (hn) ?_|refine q00 _ (hwn) ?_)
        all_goals first | omega | rfl
     ·have hz:R=(⟨false,[],0⟩,false):=by
       cases b with
       | false=>exact h2 rfl
       | true=>
        have:i=3:=by
         rcases VG i 3 with h | h
         ·exact absurd ⟨h,rfl⟩ hc
         ·omega
        rw[h1 rfl,this,V0,q1T]
      rw[hz]
      clear h1 h2 hz
      obtain ⟨xn,xd,xe⟩:=x
      simp only[q0b]
      by_cases hlt:i<3
      ·have hbf:b=false:=by
        cases b with
        | false=>rfl
        | true=>exact absurd ⟨hlt,rfl⟩ hc
       subst hbf
       (repeat' first|simp (disch:=omega) only[go_sem,hlt])
       all_goals first | omega | rfl
      ·cases b
       all_goals
        (repeat' first|simp (disch:=omega) only[go_sem,hlt])
        all_goals first | omega | rfl
    ·have hnb:(ds == ([]:List UInt8))=false:=by simp [hn]
     have h0 : ¬ 120≤(ds.length:Int)+ex:=by
      rcases hpre with h | h
      ·exact absurd h hn
      ·exact h
     (repeat' first|simp (disch:=omega) only[go_sem,q8r,enter,hnb,h0]|refine q00 _ (hw) ?_|refine q00 _ (hp) ?_|(apply spl<;>intro h<;>try simp (disch:=omega) only[go_sem,h]))
     all_goals first | omega | skip
     have hD0:q0c ⟨nn,ds,ex⟩=true:=hd
     have hR0:R=q1T 3 ⟨nn,ds,ex⟩:=by rw[←hR,hD]
     clear hR hD hd2 hs hfo hw hp h9 hmk hd
     refine q06 (α:=Nat × Dec × Bool) (fun a=>{ tmps:=q0h 58 [(2,.ptr 3 0 0 0),(4,.ptr 3 1 0 0),(8,.bool a.2.2),(9,.int .i64 a.1)],heap:=[.row 3 [q0b a.2.1] false true 0,.row 3 [.agg [.bool false,.str [],.int .i64 0]] false true 1],base:=0 }) (fun a=>a.1≤3∧q0c a.2.1=true∧(a.2.2=true→R=q1T (3-a.1) a.2.1)∧(a.2.2=false→R=(⟨false,[],0⟩,false))) (fun a=>3-a.1) (0,⟨nn,ds,ex⟩,true) rfl ⟨by simp,hD0,fun _=>hR0,fun h=>(nomatch h)⟩ ?_
     clear hD0 hR0
     rintro ⟨i,x,b⟩ ⟨hi,hx,h1,h2⟩
     simp only at hi hx h1 h2
     by_cases hc:i<3∧b=true
     ·obtain ⟨hlt,rfl⟩:=hc
      have h1:=h1 rfl
      have hn:=hnx x hx
      have hwn:=hwx (q3h x).1
      have hok:=qdl hx
      rw[show 3-i=(2-i)+1 by omega,q1T] at h1
      generalize q3h x=N at *
      obtain ⟨⟨nn',ds',ex'⟩,b'⟩:=N
      obtain ⟨xn,xd,xe⟩:=x
      simp only[q0b] at *
      cases b' with
      | false=>
       rw[if_pos rfl] at h1
       by_cases he':0≤ex'
       ·rw[decide_eq_true he'] at hwn
        (repeat' first|simp (disch:=omega) only[go_sem]|refine q00 _ (hn) ?_|refine q00 _ (hwn) ?_|(apply spl<;>intro h<;>try simp (disch:=omega) only[go_sem,h]))
        all_goals first | omega | skip
        exact ⟨(i+1,⟨nn',ds',ex'⟩,false),rfl,⟨hlt,hok,fun h=>(nomatch h),fun _=>h1⟩,by simp only; omega⟩
       ·rw[decide_eq_false he'] at hwn
        (repeat' first|simp (disch:=omega) only[go_sem]|refine q00 _ (hn) ?_|refine q00 _ (hwn) ?_|(apply spl<;>intro h<;>try simp (disch:=omega) only[go_sem,h]))
        all_goals first | omega | skip
        exact ⟨(i+1,⟨nn',ds',ex'⟩,false),rfl,⟨hlt,hok,fun h=>(nomatch h),fun _=>h1⟩,by simp only; omega⟩
      | true=>
       rw[if_neg (by simp)] at h1
       by_cases he':0≤ex'
       ·rw[if_neg (by omega)] at h1
        rw[decide_eq_true he'] at hwn
        (repeat' first|simp (disch:=omega) only[go_sem]|refine q00 _ (hn) ?_|refine q00 _ (hwn) ?_|(apply spl<;>intro h<;>try simp (disch:=omega) only[go_sem,h]))
        all_goals first | omega | skip
        exact ⟨(i+1,⟨nn',ds',ex'⟩,true),rfl,⟨hlt,hok,fun _=>by rw[h1]; congr 1; omega,fun h=>(nomatch h)⟩,by simp only; omega⟩
       ·rw[if_pos (by omega)] at h1
        rw[decide_eq_false he'] at hwn
        rw[h1]
        (repeat' first|simp (disch:=omega) only[go_sem]|refine q00 _ (hn) ?_|refine q00 _ (hwn) ?_)
        all_goals first | omega | rfl
     ·have hz:R=(⟨false,[],0⟩,false):=by
       cases b with
       | false=>exact h2 rfl
       | true=>
        have:i=3:=by
         rcases VG i 3 with h | h
         ·exact absurd ⟨h,rfl⟩ hc
         ·omega
        rw[h1 rfl,this,V0,q1T]
      rw[hz]
      clear h1 h2 hz
      obtain ⟨xn,xd,xe⟩:=x
      simp only[q0b]
      by_cases hlt:i<3
      ·have hbf:b=false:=by
        cases b with
        | false=>rfl
        | true=>exact absurd ⟨hlt,rfl⟩ hc
       subst hbf
       (repeat' first|simp (disch:=omega) only[go_sem,hlt])
       all_goals first | omega | rfl
      ·cases b
       all_goals
        (repeat' first|simp (disch:=omega) only[go_sem,hlt])
        all_goals first | omega | rfl
  exact hL d rfl
end Ago
set_option maxRecDepth 100000
set_option exponentiation.threshold 2000
set_option maxHeartbeats 4000000
namespace Ago
open Go (IntKind)
def qnw (P:Int→Prop) (r:Dec × Bool):Prop:=
 (r.2=true→q0c r.1=true∧P (q0x r.1)∧∀ y,q0c y=true→P (q0x y)→q0x r.1≤q0x y)∧(r.2=false→∀ y,q0c y=true→¬ P (q0x y))
theorem q5f {P:Int→Prop} {x:Dec} (h1:q0c x=true) (h2:P (q0x x)) (h3 : ∀ y,q0c y=true→P (q0x y)→q0x x≤q0x y):qnw P (x,true):=
 ⟨fun _=>⟨h1,h2,h3⟩,fun h=>(nomatch h)⟩
theorem q6K {P:Int→Prop} {x:Dec} (h : ∀ y,q0c y=true→¬ P (q0x y)):qnw P (x,false):=⟨fun h=>(nomatch h),fun _=>h⟩
theorem qhu {y:Dec} (hy:q0c y=true) (h : ¬ T 400 ∣ q0x y):y.exp<0:=by
 rcases VB y.exp 0 with h1 | h1
 ·exact h1
 ·exact absurd ((q2B hy).1 h1) h
theorem q4I {y:Dec} (hy:q0c y=true) (h : ¬ T 400 ∣ q0x y):q30 y≤(T 120-1) * T 399:=by
 have he:=qhu hy h
 have hn:y.digits≠[]:=fun hn=>by rw[q4L hy hn] at he; simp at he
 obtain ⟨h1,h2,h3,h4,h5⟩:=q1w hy hn
 have hf:q08 y.digits<T y.digits.length:=(q0o _ h1.dig).2
 have hl:=qit h3
 have hE:=qit (show (y.exp+400).toNat≤399 by omega)
 have hp:=h1.pos
 have e:q30 y=q08 y.digits * T (y.exp+400).toNat:=rfl
 rw[e]
 exact Int.mul_le_mul (by omega) hE (by have:=q1E (y.exp+400).toNat; omega) (by have:=q1E 120; omega)
theorem q62:(T 120-1) * T 399=T 519-T 399:=by
 rw[Int.sub_mul,Int.one_mul]
 have e:T 120 * T 399=T 519:=(Int.pow_add 10 120 399).symm
 rw[e]
theorem q9N (y:Dec) (hy:q0c y=true) : - q30 y≤q0x y∧q0x y≤q30 y:=by
 have:=q3s hy
 rcases qni y with h | h<;>omega
theorem qiR {x:Dec} (hx:q0c x=true) (hw:T 400 ∣ q0x x) (hb:q30 x<T 519):(q3h x).2=true∧¬ T 400 ∣ q0x (q3h x).1:=by
 obtain ⟨h1,h2⟩:=q5M x hx
 have hp:=q1E 399
 have e400:T 400=10 * T 399:=q7B 399
 have h519:T 400 ∣ T 519:=q4n (by omega)
 have hd:T 399 ∣ T 400:=q4n (by omega)
 have hdx:=We hd hw
 have hv:=q9N x hx
 have h801:=qov (show 519<801 by omega)
 have hV:IsV (q0x x+T 399):=by
  rcases Int.lt_trichotomy (q0x x+T 399) 0 with h | h | h
  ·have h3:IsV (-(q0x x+T 399)):=qnO (L:=519) (by omega) (by omega) (by rw[show 519-120=399 from rfl]; exact Int.dvd_neg.2 (Int.dvd_add hdx (Int.dvd_refl _))) (q38 (by omega) (by omega))
   have:=q4U h3
   rwa [Int.neg_neg] at this
  ·rw[h]
   exact qqL
  ·have h3:=gap (show 0<T 400 by omega) hw h519 (by omega)
   exact qnO (L:=519) h (by omega) (by rw[show 519-120=399 from rfl]; exact Int.dvd_add hdx (Int.dvd_refl _)) (q38 h (by omega))
 obtain ⟨z,hz,hzv⟩:=hV
 have ht:(q3h x).2=true:=by
  cases hb:(q3h x).2 with
  | true=>rfl
  | false=>
   have:=(h2 hb).2 z hz
   omega
 obtain ⟨k1,k2,k3⟩:=h1 ht
 have k4:=k3 z hz (by omega)
 refine ⟨ht,fun h=>?_⟩
 have:=gap (show 0<T 400 by omega) hw h k2
 omega
theorem qij : ∀ (k:Nat) (x:Dec),q0c x=true→T 519≤q0x x→q1T k x=(⟨false,[],0⟩,false)
 | 0,_,_,_=>rfl
 | k+1,x,hx,h=>by
  obtain ⟨h1,h2⟩:=q5M x hx
  rw[q1T]
  cases hb:(q3h x).2 with
  | false=>rw[if_pos rfl]
  | true=>
   obtain ⟨k1,k2,k3⟩:=h1 hb
   rw[if_neg (by simp)]
   have hw : ¬ (q3h x).1.exp<0:=fun he=>by
    have h3:=q4I k1 (fun hh=>by have:=(q2B k1).2 hh; omega)
    rw[q62] at h3
    have:=q9N _ k1
    have:=q1E 399
    omega
   rw[if_neg hw]
   exact qij k _ k1 (by omega)
theorem qbj (d:Dec) (opn:Bool) (hd:q0c d=true):qnw (fun n=>q6T (q0x d) opn n∧¬ T 400 ∣ n) (q4r d opn):=by
 have p399:=q1E 399
 have p519:=q1E 519
 unfold q4r
 by_cases hfo:d.exp<0∧opn=false
 ·rw[if_pos hfo]
  obtain ⟨he,rfl⟩:=hfo
  have hnd : ¬ T 400 ∣ q0x d:=fun h=>by have:=(q2B hd).2 h; omega
  exact q5f hd ⟨Int.le_refl _,hnd⟩ fun y _ hp=>hp.1
 rw[if_neg hfo]
 have weak : ∀ {n:Int},q6T (q0x d) opn n→q0x d≤n:=fun {n} h=>by
  unfold q6T at h
  split at h<;>omega
 by_cases hs:d.digits≠[]∧120≤(d.digits.length:Int)+d.exp
 ·rw[if_pos hs]
  have hlow:T 519≤q30 d:=qsO hd hs.1 (by omega)
  cases hneg:d.neg with
  | true=>
   have hv:q0x d = - q30 d:=by unfold q0x; rw[if_pos hneg]
   have h9:=qmk
   rw[q62] at h9
   have hnd : ¬ T 400 ∣ q0x q7f:=fun h=>by
    have:=(q2B qgX).2 h
    simp [q7f] at this
   refine q5f qgX ⟨by unfold q6T; split<;>omega,hnd⟩ fun y hy hp=>?_
   have h3:=q4I hy hp.2
   rw[q62] at h3
   have:=q9N y hy
   omega
  | false=>
   have hv:q0x d=q30 d:=by unfold q0x; rw[if_neg (by simp [hneg])]
   refine q6K fun y hy hp=>?_
   have h3:=q4I hy hp.2
   rw[q62] at h3
   have:=q9N y hy
   have:=weak hp.1
   omega
 ·rw[if_neg hs]
  have hb:q30 d<T 519:=by
   by_cases hn:d.digits=[]
   ·rw[q2G hn]; exact p519
   ·have : ¬ 120≤(d.digits.length:Int)+d.exp:=fun h=>hs ⟨hn,h⟩
    exact qnm hd hn (by omega)
  have hvd:=q9N d hd
  have strict : ∀ {n:Int},q6T (q0x d) opn n→¬ T 400 ∣ n→q0x d<n:=fun {n} h hn=>by
   cases ho:opn with
   | true=>
    rw[ho] at h
    exact h
   | false=>
    have he:0≤d.exp:=by
     rcases VB d.exp 0 with h1 | h1
     ·exact absurd ⟨h1,ho⟩ hfo
     ·exact h1
    have hw:=(q2B hd).1 he
    have:=weak h
    rcases VB (q0x d) n with h1 | h1
    ·exact h1
    ·have:n=q0x d:=by omega
     rw[this] at hn
     exact absurd hw hn
  have above : ∀ {n:Int},q0x d<n→q6T (q0x d) opn n:=fun {n} h=>by
   unfold q6T
   split<;>omega
  obtain ⟨n1,n2⟩:=q5M d hd
  rw[q1T]
  cases hb1:(q3h d).2 with
  | false=>
   rw[if_pos rfl]
   refine q6K fun y hy hp=>?_
   have:=strict hp.1 hp.2
   have:=(n2 hb1).2 y hy
   omega
  | true=>
   rw[if_neg (by simp)]
   obtain ⟨k1,k2,k3⟩:=n1 hb1
   by_cases he:(q3h d).1.exp<0
   ·rw[if_pos he]
    refine q5f k1 ⟨above k2,fun h=>by have:=(q2B k1).2 h; omega⟩ fun y hy hp=>k3 y hy (strict hp.1 hp.2)
   ·rw[if_neg he]
    have hw1:=(q2B k1).1 (by omega)
    generalize (q3h d).1=x1 at *
    -- no fraction up to the first number
    have up : ∀ y,q0c y=true→q0x d<q0x y→¬ T 400 ∣ q0x y→q0x x1<q0x y:=fun y hy h1 h2=>by
     have:=k3 y hy h1
     rcases VB (q0x x1) (q0x y) with h3 | h3
     ·exact h3
     ·have:q0x y=q0x x1:=by omega
      rw[this] at h2
      exact absurd hw1 h2
    by_cases hb2:q30 x1<T 519
    ·obtain ⟨f1,f2⟩:=qiR k1 hw1 hb2
     obtain ⟨m1,m2,m3⟩:=(q5M x1 k1).1 f1
     rw[q1T,if_neg (by rw[f1]; simp),if_pos (qhu m1 f2)]
     refine q5f m1 ⟨above (by omega),f2⟩ fun y hy hp=>m3 y hy (up y hy (strict hp.1 hp.2) hp.2)
    ·have hbig:T 519≤q0x x1:=by
      rcases qni x1 with h | h<;>omega
     rw[qij 2 x1 k1 hbig]
     refine q6K fun y hy hp=>?_
     have h3:=q4I hy hp.2
     rw[q62] at h3
     have:=q9N y hy
     have:=up y hy (strict hp.1 hp.2) hp.2
     omega
def qe5 (s n:Int):Prop:=s=0∨(s=1∧T 400 ∣ n)∨(s=2∧¬ T 400 ∣ n)
theorem qqh {s:Int} {y:Dec} (hy:q0c y=true) (h0:0≤s) (h2:s≤2):qil s (qoM y)=true↔qe5 s (q0x y):=by
 unfold qil qoM qe5
 rw[decide_eq_true_eq,←q2B hy]
 by_cases h:0≤y.exp
 ·rw[if_pos h]
  constructor
  ·rintro (h1 | h1)
   ·exact .inl h1
   ·exact .inr (.inl ⟨h1,h⟩)
  ·rintro (h1 | ⟨h1,_⟩ | ⟨_,h1⟩)
   ·exact .inl h1
   ·exact .inr h1
   ·exact absurd h h1
 ·rw[if_neg h]
  constructor
  ·rintro (h1 | h1)
   ·exact .inl h1
   ·exact .inr (.inr ⟨h1,h⟩)
  ·rintro (h1 | ⟨_,h1⟩ | ⟨h1,_⟩)
   ·exact .inl h1
   ·exact absurd h1 h
   ·exact .inr h1
theorem qvO {p:Prt} (hp:q2z p=true) {y:Dec} (hy:q0c y=true):inM p y=true↔(p.lo.set=true→q6T (q0x p.lo.num) p.lo.opn (q0x y))∧(p.hi.set=true→q6T (q0x y) p.hi.opn (q0x p.hi.num))∧qe5 p.sort (q0x y):=by
 obtain ⟨h1,h2,h3,h4⟩:=q95 hp
 rw[qrn hp hy,Kf,Kf,decide_eq_true_eq,decide_eq_true_eq,qmK h1 hy,qmc h2 hy,qqh hy h3 h4,and_assoc]
 have a1:(¬ (p.lo.set=true∧(q24 y p.lo.num<0∨q24 y p.lo.num=0∧p.lo.opn=true)))↔(p.lo.set=true→q6T (q0x p.lo.num) p.lo.opn (q0x y)):=by
  by_cases hs:p.lo.set=true
  ·have hv:=q2o hy (q81 h1 hs)
   unfold q6T
   cases p.lo.opn<;>simp only[hs,true_and,true_implies,Ke,and_false,or_false,and_true,if_false,if_true]<;>omega
  ·simp [hs]
 have a2:(¬ (p.hi.set=true∧(0<q24 y p.hi.num∨q24 y p.hi.num=0∧p.hi.opn=true)))↔(p.hi.set=true→q6T (q0x y) p.hi.opn (q0x p.hi.num)):=by
  by_cases hs:p.hi.set=true
  ·have hv:=q2o hy (q81 h2 hs)
   unfold q6T
   cases p.hi.opn<;>simp only[hs,true_and,true_implies,Ke,and_false,or_false,and_true,if_false,if_true]<;>omega
  ·simp [hs]
 rw[a1,a2]
end Ago
set_option maxRecDepth 100000
set_option exponentiation.threshold 2000
set_option maxHeartbeats 4000000
namespace Ago
open Go (IntKind)
section
variable {R:Nat→List AV→Heap→AV→Heap→Prop} {PR:Nat→List AV→AV→Prop}
theorem qvr {k:Nat} {a b:List AOper} {Q:Ex→St→Prop} {s:St} (s':St) (h1 : @q0V (s.keep k) ⟨q1a R PR a fun t=>t=s'⟩) (h2 : @q0V (s.keep k) ⟨q1a R PR b fun t=>t=s'⟩) (h : @q0V { s' with rb:=0 } ⟨Q .normal⟩):aw R PR (.draw k [a,b]) Q s:=by
 unfold q0V at h1 h2 h
 refine ⟨s',by simp,fun l hl=>?_,h⟩
 rcases KI.1 hl with rfl | hl
 ·exact h1
 ·rw[KM.1 hl]
  exact h2
end
def q4V (lo hi:Dec):Prt:=⟨⟨true,lo,false⟩,⟨true,hi,false⟩,2⟩
theorem q9a {lo hi:Dec} (h1:q0c lo=true) (h2:q0c hi=true):q2z (q4V lo hi)=true:=by
 unfold q2z q4V q3g
 simp [h1,h2]
def qd8 (lo hi:Dec):Bool:=(q4r lo false).2 && inM (q4V lo hi) (q4r lo false).1
theorem qmG {lo hi:Dec} (h1:q0c lo=true) (h2:q0c hi=true):qd8 lo hi=true↔∃ y,q0c y=true∧q0x lo≤q0x y∧q0x y≤q0x hi∧¬ T 400 ∣ q0x y:=by
 obtain ⟨k1,k2⟩:=qbj lo false h1
 have hin:=fun {y:Dec} (hy:q0c y=true)=>qvO (q9a h1 h2) hy
 have hab : ∀ v n:Int,q6T v false n↔v≤n:=fun v n=>by unfold q6T; simp
 have hs : ∀ n,qe5 (q4V lo hi).sort n↔¬ T 400 ∣ n:=fun n=>by unfold qe5 q4V; simp
 unfold qd8
 generalize q4r lo false=r at *
 rw[Kf]
 constructor
 ·rintro ⟨hr,hi'⟩
  obtain ⟨g1,g2,g3⟩:=k1 hr
  obtain ⟨j1,j2,j3⟩:=(hin g1).1 hi'
  exact ⟨r.1,g1,(hab _ _).1 g2.1,(hab _ _).1 (j2 rfl),g2.2⟩
 ·rintro ⟨y,y1,y2,y3,y4⟩
  cases hr:r.2 with
  | false=>exact absurd ⟨(hab _ _).2 y2,y4⟩ (k2 hr y y1)
  | true=>
   obtain ⟨g1,g2,g3⟩:=k1 hr
   have:=g3 y y1 ⟨(hab _ _).2 y2,y4⟩
   exact ⟨rfl,(hin g1).2 ⟨fun _=>g2.1,fun _=>(hab _ _).2 (by show q0x r.1≤q0x hi; omega),(hs _).2 g2.2⟩⟩
def q5o (neg:Bool):Dec:=⟨neg,[53],-1⟩
def qph (lo hi:Dec):Bool:=
 if ¬ (0≤lo.exp∧0≤hi.exp) then true
 else if q24 lo hi=0 then false
 else if q24 lo ⟨false,[],0⟩≤0∧0≤q24 hi ⟨false,[],0⟩ then true
 else decide ((q6M lo (q5o false)).2=0∨(q6M hi (q5o true)).2=0)
theorem q4w (neg:Bool):q0c (q5o neg)=true∧q0x (q5o neg)=if neg=true then-(5 * T 399) else 5 * T 399:=by
 cases neg
 ·exact ⟨by decide,by simp [q0x,q30,q5o,q08,T]⟩
 ·exact ⟨by decide,by simp [q0x,q30,q5o,q08,T]⟩
theorem qqs (neg:Bool):IsV (if neg=true then-(5 * T 399) else 5 * T 399):=⟨q5o neg,(q4w neg).1,(q4w neg).2⟩
theorem qnp {n:Int} (h0:T 400 ∣ n) (hp:0≤n) (hl:n<T 519):IsV (n+5 * T 399)∧¬ T 400 ∣ n+5 * T 399:=by
 have e400:T 400=10 * T 399:=q7B 399
 have p399:=q1E 399
 have hnd : ¬ T 400 ∣ n+5 * T 399:=fun hd=>by
  have h5:T 400 ∣ 5 * T 399:=by
   have:=Wg hd h0
   rwa [Int.add_comm n,Int.add_sub_cancel] at this
  exact q38 (by omega) (by omega) h5
 have d519:T 400 ∣ T 519:=q4n (by omega)
 have hg:=gap (q1E 400) h0 d519 hl
 refine ⟨qnO (L:=519) (by omega) (by omega) ?_ (fun hd=>hnd ?_),hnd⟩
 ·show T 399 ∣ _
  exact Int.dvd_add (We ⟨10,by omega⟩ h0) ⟨5,by omega⟩
 ·exact We (q4n (by omega)) hd
theorem qpQ {lo hi:Dec} (h1:q0c lo=true) (h2:q0c hi=true) (hle:q0x lo≤q0x hi):qd8 lo hi=qph lo hi:=by
 rw[K8,qmG h1 h2]
 have e400:T 400=10 * T 399:=q7B 399
 have p399:=q1E 399
 have p519:=q1E 519
 have w1:=q2B h1
 have w2:=q2B h2
 have hz:q0c ⟨false,[],0⟩=true:=by decide
 have vz:q0x ⟨false,[],0⟩=0:=by simp [q0x,q30,q08]
 have c1:=q2o h1 h2
 have c2:=q2o h1 hz
 have c3:=q2o h2 hz
 rw[vz] at c2 c3
 unfold qph
 by_cases hw:0≤lo.exp∧0≤hi.exp
 ·rw[if_neg (by simpa using hw)]
  have wl:=w1.1 hw.1
  have wh:=w2.1 hw.2
  by_cases he:q24 lo hi=0
  ·rw[if_pos he]
   refine ⟨?_,fun h=>(nomatch h)⟩
   rintro ⟨y,y1,y2,y3,y4⟩
   have hv:=c1.2.1.1 he
   exact absurd (by rw[show q0x y=q0x lo by omega]; exact wl) y4
  ·rw[if_neg he]
   have hlt:q0x lo<q0x hi:=by
    have:=fun h=>he (c1.2.1.2 h)
    omega
   have hg:=gap (q1E 400) wl wh hlt
   by_cases hm:q24 lo ⟨false,[],0⟩≤0∧0≤q24 hi ⟨false,[],0⟩
   ·rw[if_pos hm]
    refine ⟨fun _=>rfl,fun _=>?_⟩
    have hl0:q0x lo≤0:=by
     have:=c2.1
     have:=c2.2.1
     omega
    have hh0:0≤q0x hi:=by
     have:=c3.1
     omega
    rcases (show 0<q0x hi∨q0x lo<0 by omega) with hp | hp
    ·have:=gap (q1E 400) (Int.dvd_zero _) wh hp
     obtain ⟨y,y1,y2⟩:=qqs false
     refine ⟨y,y1,?_,?_,?_⟩
     ·rw[y2]
      simp only[Ke,if_false]
      omega
     ·rw[y2]
      simp only[Ke,if_false]
      omega
     ·rw[y2]
      simp only[Ke,if_false]
      exact q38 (by omega) (by omega)
    ·have:=gap (q1E 400) wl (Int.dvd_zero _) hp
     obtain ⟨y,y1,y2⟩:=qqs true
     refine ⟨y,y1,?_,?_,?_⟩
     ·rw[y2]
      simp only[if_true]
      omega
     ·rw[y2]
      simp only[if_true]
      omega
     ·rw[y2]
      simp only[if_true]
      exact fun hd=>q38 (U:=T 400) (x:=5 * T 399) (by omega) (by omega) (Int.dvd_neg.1 hd)
   ·rw[if_neg hm,decide_eq_true_eq]
    have hsgn:0<q0x lo∨q0x hi<0:=by
     have:=c2.1
     have:=c2.2.1
     have:=c3.1
     omega
    have a1:=qnA (v:=q0x lo+5 * T 399) h1 (q4w false).1 (by rw[(q4w false).2]; simp)
    have a2:=qnA (v:=q0x hi-5 * T 399) h2 (q4w true).1 (by rw[(q4w true).2]; simp; omega)
    constructor
    ·rintro ⟨y,y1,y2,y3,y4⟩
     have hb:=q4I y1 y4
     have hv:=q9N y y1
     rw[q62] at hb
     have p2:=q1E 399
     rcases hsgn with hs | hs
     ·have:=(qnp wl (by omega) (by omega)).1
      rcases a1 with a1 | a1
      ·exact .inl a1.1
      ·exact absurd this a1.2
     ·have h3:=(qnp (Int.dvd_neg.2 wh) (by omega) (by omega)).1
      have h4:=q4U h3
      rcases a2 with a2 | a2
      ·exact .inr a2.1
      ·exact absurd (by rw[show q0x hi-5 * T 399 = -(-q0x hi+5 * T 399) by omega]; exact h4) a2.2
    ·have h5 : ∀ n:Int,T 400 ∣ n→¬ T 400 ∣ n+5 * T 399:=fun n hn hd=>by
      have h5:T 400 ∣ 5 * T 399:=by
       have:=Wg hd hn
       rwa [Int.add_comm n,Int.add_sub_cancel] at this
      exact q38 (by omega) (by omega) h5
     rintro (ha | ha)
     ·rcases a1 with a1 | a1
      ·refine ⟨_,a1.2.1,?_,?_,?_⟩
       ·rw[a1.2.2]; omega
       ·rw[a1.2.2]; omega
       ·rw[a1.2.2]
        exact h5 _ wl
      ·exact absurd ha a1.1
     ·rcases a2 with a2 | a2
      ·refine ⟨_,a2.2.1,?_,?_,?_⟩
       ·rw[a2.2.2]; omega
       ·rw[a2.2.2]; omega
       ·rw[a2.2.2]
        intro hd
        have:=h5 _ (Int.dvd_neg.2 wh)
        rw[show -q0x hi+5 * T 399 = -(q0x hi-5 * T 399) by omega] at this
        exact this (Int.dvd_neg.2 hd)
      ·exact absurd ha a2.1
 ·rw[if_pos hw]
  refine ⟨fun _=>rfl,fun _=>?_⟩
  by_cases hl:0≤lo.exp
  ·exact ⟨hi,h2,hle,Int.le_refl _,fun hd=>hw ⟨hl,w2.2 hd⟩⟩
  ·exact ⟨lo,h1,Int.le_refl _,hle,fun hd=>hl (w1.2 hd)⟩
theorem qjS (lo hi:Dec) (h:q0c lo=true):q0e CN 700 [q0n (q4V lo hi)] (.tup [q0b (q4r lo false).1,.bool (q4r lo false).2]):=by
 have hf:=qkh lo false h
 unfold q4V
 generalize q4r lo false=F at *
 obtain ⟨n1,d1,e1⟩:=lo
 obtain ⟨n2,d2,e2⟩:=hi
 simp only[q0n,q0b] at *
 refine q04 qpS rfl ?_
 (repeat' first|simp (disch:=omega) only[go_sem,qpS,enter]|(apply spl<;>intro h<;>try simp (disch:=omega) only[go_sem,h]))
 all_goals first | omega | skip
 refine qvr ?s2 ?a2 ?b2 ?c2
 rotate_left
 case a2=>
  (repeat' first|simp (disch:=omega) only[go_sem,q3B]|(apply spl<;>intro h<;>try simp (disch:=omega) only[go_sem,h]))
  all_goals first | omega | rfl
 case b2=>
  (repeat' first|simp (disch:=omega) only[go_sem,q3B])
  all_goals first | omega | rfl
 (repeat' first|simp (disch:=omega) only[go_sem]|refine q00 _ (hf) ?_)
 all_goals first | omega | rfl
theorem qgF (lo hi:Dec) (h1:q0c lo=true) (h2:q0c hi=true) : ∃ d,q0e CN 692 [q0n (q4V lo hi)] (.tup [q0b d,.bool (qd8 lo hi)]):=by
 have hl:=qjS lo hi h1
 obtain ⟨k1,k2⟩:=qbj lo false h1
 have hi':=fun h:(q4r lo false).2=true=>qiG (q4V lo hi) (q4r lo false).1 (q9a h1 h2) (k1 h).1
 unfold qd8
 clear k1 k2
 generalize q4r lo false=L at *
 obtain ⟨⟨ln,ld,le⟩,lb⟩:=L
 simp only at hi'
 generalize inM (q4V lo hi) ⟨ln,ld,le⟩=w at *
 unfold q4V at hl hi'
 unfold q4V
 obtain ⟨n1,d1,e1⟩:=lo
 obtain ⟨n2,d2,e2⟩:=hi
 simp only[q0n,q0b] at *
 cases lb with
 | false=>
  refine ⟨⟨false,[],0⟩,?_⟩
  refine q04 qeA rfl ?_
  (repeat' first|simp (disch:=omega) only[go_sem,qeA,enter]|refine q00 _ (hl) ?_)
  all_goals first | omega | rfl
 | true=>
  have hi':=hi' rfl
  cases w
  ·refine ⟨⟨false,[],0⟩,?_⟩
   refine q04 qeA rfl ?_
   (repeat' first|simp (disch:=omega) only[go_sem,qeA,enter]|refine q00 _ (hl) ?_|refine q00 _ (hi') ?_)
   all_goals first | omega | rfl
  ·refine ⟨⟨ln,ld,le⟩,?_⟩
   refine q04 qeA rfl ?_
   (repeat' first|simp (disch:=omega) only[go_sem,qeA,enter]|refine q00 _ (hl) ?_|refine q00 _ (hi') ?_)
   all_goals first | omega | rfl
theorem qkE (lo hi:Dec) (h1:q0c lo=true) (h2:q0c hi=true) : ∃ d,q0e CN 673 [q3I [q4V lo hi]] (.tup [q0b d,.bool (qd8 lo hi)]):=by
 have f1:=q0O h1
 have f2:=q0O h2
 have hv:=qme [q4V lo hi] ⟨by simp,fun p hp=>by
  rw[KM.1 hp]
  exact ⟨by show lo.digits.length<_; omega,by show hi.digits.length<_; omega⟩⟩
 rw[show q7s [q4V lo hi]=true by unfold q7s; simp [q9a h1 h2]] at hv
 obtain ⟨d,hm⟩:=qgF lo hi h1 h2
 unfold q4V q3I at *
 obtain ⟨n1,d1,e1⟩:=lo
 obtain ⟨n2,d2,e2⟩:=hi
 obtain ⟨nd,dd,ed⟩:=d
 simp only[Kj,Kt,q0n,q0b] at *
 obtain ⟨b,hb⟩ : ∃ b,qd8 ⟨n1,d1,e1⟩ ⟨n2,d2,e2⟩=b:=⟨_,rfl⟩
 rw[hb] at hm ⊢
 cases b with
 | true=>
  refine ⟨⟨nd,dd,ed⟩,?_⟩
  refine q04 qjt rfl ?_
  (repeat' first|simp (disch:=omega) only[go_sem,qjt,enter]|refine q00 _ (hv) ?_|(apply spl<;>intro h<;>try simp (disch:=omega) only[go_sem,h]))
  all_goals first | omega | skip
  refine q06 (α:=Unit) (fun _=>{ tmps:=q0h 28 [(2,.ptr 3 0 0 0),(13,.tsl 11 [.agg [.bool true,.bool n1,.str d1,.int .i64 e1,.bool false,.bool true,.bool n2,.str d2,.int .i64 e2,.bool false,.int .i64 2]]),(14,.int .i64 1),(15,.int .i64 0)],heap:=[.row 3 [.agg [.bool false,.str [],.int .i64 0]] false true 0],base:=0 }) (fun _=>True) (fun _=>0) () rfl trivial ?_
  rintro _ _
  (repeat' first|simp (disch:=omega) only[go_sem]|refine q00 _ (hm) ?_)
  all_goals first | omega | rfl
 | false=>
  refine ⟨⟨false,[],0⟩,?_⟩
  refine q04 qjt rfl ?_
  (repeat' first|simp (disch:=omega) only[go_sem,qjt,enter]|refine q00 _ (hv) ?_|(apply spl<;>intro h<;>try simp (disch:=omega) only[go_sem,h]))
  all_goals first | omega | skip
  refine q06 (α:=Bool) (fun b=>{ tmps:=q0h 28 [(2,.ptr 3 0 0 0),(13,.tsl 11 [.agg [.bool true,.bool n1,.str d1,.int .i64 e1,.bool false,.bool true,.bool n2,.str d2,.int .i64 e2,.bool false,.int .i64 2]]),(14,.int .i64 1),(15,.int .i64 (if b=true then 0 else 1))],heap:=[.row 3 [.agg [.bool false,.str [],.int .i64 0]] false true 0],base:=0 }) (fun _=>True) (fun b=>if b=true then 1 else 0) true rfl trivial ?_
  rintro b _
  cases b with
  | true=>
   (repeat' first|simp (disch:=omega) only[go_sem]|refine q00 _ (hm) ?_|(apply spl<;>intro h<;>try simp (disch:=omega) only[go_sem,h]))
   all_goals first | omega | skip
   exact ⟨false,rfl,by simp⟩
  | false=>
   (repeat' first|simp (disch:=omega) only[go_sem])
   all_goals first | omega | rfl
theorem qiz (lo hi:Dec) (h1:q0c lo=true) (h2:q0c hi=true):q0e CN 674 [q3I [q4V lo hi]] (.bool (!(qd8 lo hi))):=by
 obtain ⟨⟨mn,md,me⟩,h⟩:=qkE lo hi h1 h2
 unfold q3I q0b at *
 refine q04 qob rfl ?_
 obtain ⟨b,hb⟩ : ∃ b,qd8 lo hi=b:=⟨_,rfl⟩
 rw[hb] at h ⊢
 cases b
 all_goals
  (repeat' first|simp (disch:=omega) only[go_sem,qob,enter]|refine q00 _ (h) ?_)
  all_goals first | omega | rfl
end Ago
