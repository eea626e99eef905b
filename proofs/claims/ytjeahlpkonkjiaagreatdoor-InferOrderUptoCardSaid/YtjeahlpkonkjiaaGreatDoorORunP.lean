/- Digits of numbers; strings.TrimLeft; the digits that decimal.at qt6. -/
import Derived.Test.YtjeahlpkonkjiaaGreatDoorORunJ
set_option linter.unusedSimpArgs false
set_option linter.unusedVariables false
set_option maxRecDepth 100000
set_option exponentiation.threshold 2000
set_option maxHeartbeats 4000000
namespace Ago
open Go (IntKind)
def dg (n:Int):List UInt8:=qlm n.toNat
theorem qjQ {n:Int} (h:0≤n):digits (dg n)=true∧q09 (dg n)=n∧(n≠0→Num (dg n)):=by
 obtain ⟨h1,h2,h3⟩:=qjf n.toNat
 unfold dg
 refine ⟨h1,by rw[h2]; omega,fun hn=>?_⟩
 obtain ⟨h4,h5⟩:=h3 (by omega)
 exact ⟨h1,h4,h5⟩
theorem dg_zero:dg 0=[]:=by
 unfold dg qlm
 rfl
theorem qjA {n:Int} (h:0≤n):dg n=[]↔n=0:=by
 constructor
 ·intro h1
  have h2:=(qjQ h).2.1
  rw[h1] at h2
  simpa [q09] using h2.symm
 ·rintro rfl
  exact dg_zero
theorem qpW {s:List UInt8} (h:digits s=true) (h0:s[0]?≠some 48):s=dg (q09 s):=by
 have hb:=q0w s h
 by_cases hs:s=[]
 ·subst hs
  exact dg_zero.symm
 ·have hn:Num s:=⟨h,h0,hs⟩
  have hp:=hn.pos
  obtain ⟨k1,k2,k3⟩:=qjQ hb.1
  exact (q6U hn (k3 (by omega))).2.2 ((q6U hn (k3 (by omega))).2.1.2 k2.symm)
def q1V (s:List UInt8):List UInt8:=s.dropWhile (· == 48)
theorem q9R : ∀ (s:List UInt8),q09 (q1V s)=q09 s
 | []=>rfl
 | c::s=>by
  unfold q1V
  rw[List.dropWhile_cons]
  split
  ·rename_i h
   have h:c=48:=by simpa using h
   have:=q9R s
   unfold q1V at this
   rw[this,q1z,h]
   simp
  ·rfl
theorem qdx {s:List UInt8} (h:digits s=true):q1V s=dg (q09 s):=by
 have hd:digits (q1V s)=true:=Ki.2 fun x hx=>Ki.1 h x ((List.dropWhile_sublist _).subset hx)
 have h0:(q1V s)[0]?≠some 48:=by
  unfold q1V
  cases hl:s.dropWhile (· == (48:UInt8)) with
  | nil=>simp
  | cons c l=>
   have hne:s.dropWhile (· == (48:UInt8))≠[]:=by simp [hl]
   have:=List.head_dropWhile_not (fun x=>x == (48:UInt8)) hne
   simp only[hl,List.head_cons] at this
   simpa using this
 rw[←q9R s]
 exact qpW hd h0
theorem qdw {s:List UInt8} {k:Nat} (hk:k≤s.length) (hd:(s.take k).all (· == 48)=true) (h:k<s.length→∃ c,s[k]?=some c∧c≠48):q1V s=s.drop k:=by
 unfold q1V
 induction s generalizing k with
 | nil=>simp
 | cons x s ih=>
  cases k with
  | zero=>
   obtain ⟨c,h1,h2⟩:=h (by simp)
   simp at h1
   subst h1
   rw[List.dropWhile_cons_of_neg (by simpa using h2)]
   rfl
  | succ k=>
   simp only[List.take_succ_cons,K7,Kd] at hd
   rw[List.dropWhile_cons_of_pos (by simpa using hd.1),List.drop_succ_cons]
   exact ih (by simpa using hk) hd.2 fun hlt=>by simpa using h (by simpa using hlt)
theorem qi1 (s:List UInt8) (hs:s.length<2^31):q0k CN 144 [.str s,.int .u8 48] (.str (q1V s)):=by
 refine q04 qo6 rfl ?_
 simp (disch:=omega) only[go_sem,qo6,enter]
 refine q07 (α:=Nat) (fun k=>{ tmps:=q0q 17 [(0,.str (s.drop k)),(1,.int .u8 48)],heap:=[],base:=0 }) (fun k=>k≤s.length∧(s.take k).all (· == 48)=true) (fun k=>s.length-k) 0 (by rw[VF]; rfl) ⟨Kp _,rfl⟩ ?_
 rintro k ⟨hk,hd⟩
 have hlen:(s.drop k).length=s.length-k:=by simp
 have ht:List.drop 1 (s.drop k)=s.drop (k+1):=by rw[List.drop_drop,Nat.add_comm]
 have htk:List.take (s.length-k) (s.drop k)=s.drop k:=KJ (by simp)
 by_cases hlt:k<s.length
 ·obtain ⟨c,hc⟩:=q06 hlt
  have hc2:(s.drop k)[0]?=some c:=by rw[VN,Vu]; exact hc
  by_cases h48:c=48
  ·have h48i:(c.toNat:Int)=48:=(q9x c).2 h48
   (repeat' first|simp (disch:=omega) only[go_sem,hlen,hc2,h48i,e00,htk,ht]|(apply spl<;>intro h<;>try simp (disch:=omega) only[go_sem,h]))
   all_goals first | omega | skip
   exact ⟨k+1,rfl,⟨hlt,q0M hc hd (by simpa using h48)⟩,by omega⟩
  ·have h48i : ¬ (c.toNat:Int)=48:=fun e=>h48 ((q9x c).1 e)
   rw[qdw hk hd (fun _=>⟨c,hc,h48⟩)]
   (repeat' first|simp (disch:=omega) only[go_sem,hlen,hc2,h48i,e00])
   all_goals first | omega | rfl
 ·rw[qdw hk hd (fun h=>absurd h hlt)]
  (repeat' first|simp (disch:=omega) only[go_sem,hlen])
  all_goals first | omega | rfl
theorem q74 (s:List UInt8) (hs:s.length<2^31):q0k CN 137 [.str s,.str [48]] (.str (q1V s)):=by
 refine q04 qjP rfl ?_
 by_cases h0:s=[]
 ·subst h0
  (repeat' first|simp (disch:=omega) only[go_sem,qjP,enter]|(apply spl<;>intro h<;>try simp (disch:=omega) only[go_sem,h]))
  all_goals rfl
 ·have hb:(s == ([]:List UInt8))=false:=by simp [h0]
  have hr:=qi1 s hs
  have e48:((UInt8.toNat 48:Nat):Int)=48:=rfl
  have en:(([48]:List UInt8) == [])=false:=rfl
  (repeat' first|simp (disch:=omega) only[go_sem,qjP,enter,hb,e48,en]|refine q00 _ (hr) ?_)
  all_goals first | omega | rfl
def atD (s:List UInt8) (i:Nat):Int:=if i<s.length then ((s.getD (s.length-1-i) 48).toNat:Int)-48 else 0
theorem q5c {s:List UInt8} (h:digits s=true) (i:Nat):0≤atD s i∧atD s i≤9:=by
 unfold atD
 split
 ·rename_i hi
  have hx:s.getD (s.length-1-i) 48∈s:=by
   rw[KE,Kh (by omega)]
   exact V3 _
  have:=Ki.1 h _ hx
  simp only[q64,decide_eq_true_eq] at this
  omega
 ·omega
theorem qbv (s:List UInt8) (i:Nat) (h:digits s=true) (hs:s.length<2^24) (hi:i<2^24):q0k CN 733 [.str s,.int .i64 i] (.int .i64 (atD s i)):=by
 have hr:=q5c h i
 refine q04 qkg rfl ?_
 unfold atD at *
 by_cases hlt:i<s.length
 ·rw[if_pos hlt] at hr ⊢
  obtain ⟨c,hc⟩:=q06 (s:=s) (k:=s.length-1-i) (by omega)
  have e:((s.length:Int)-1-i).toNat=s.length-1-i:=by omega
  have hg:s.getD (s.length-1-i) 48=c:=by rw[KE,hc]; rfl
  rw[hg] at hr ⊢
  (repeat' first|simp (disch:=omega) only[go_sem,qkg,enter,e,hc])
  all_goals first | omega | rfl
 ·rw[if_neg hlt]
  (repeat' first|simp (disch:=omega) only[go_sem,qkg,enter])
  all_goals first | omega | rfl
def qiE (s:List UInt8) (i:Nat):Int:=q09 (s.drop (s.length-i))
theorem q6q (s:List UInt8):qiE s 0=0:=by
 unfold qiE
 rw[Nat.sub_zero,List.drop_length]
 rfl
theorem q5E {s:List UInt8} {i:Nat} (h:s.length≤i):qiE s i=q09 s:=by
 unfold qiE
 rw[show s.length-i=0 by omega,VF]
theorem q6S (s:List UInt8) (i:Nat):qiE s (i+1)=atD s i * 10^i+qiE s i:=by
 unfold atD
 by_cases hi:i<s.length
 ·rw[if_pos hi]
  unfold qiE
  have e:s.length-i=s.length-(i+1)+1:=by omega
  have hd:s.drop (s.length-(i+1))=s[s.length-(i+1)]::s.drop (s.length-(i+1)+1):=Vt (by omega)
  have hg:s.getD (s.length-1-i) 48=s[s.length-(i+1)]:=by
   rw[KE,show s.length-1-i=s.length-(i+1) by omega,Kh (by omega)]
   rfl
  have hl:(s.drop (s.length-(i+1)+1)).length=i:=by rw[List.length_drop]; omega
  rw[hd,q1z,hg,e,hl]
 ·rw[if_neg hi,q5E (by omega),q5E (by omega),Int.zero_mul,Int.zero_add]
end Ago
set_option maxRecDepth 100000
set_option exponentiation.threshold 2000
set_option maxHeartbeats 4000000
namespace Ago
open Go (IntKind)
def qaf (n:Nat) (D:List UInt8):List UInt8:=List.replicate (n-D.length) 0++D
theorem q8d {n:Nat} {D:List UInt8} (h:D.length≤n):(qaf n D).length=n:=by
 simp [qaf]
 omega
theorem qgi {n:Nat} {D:List UInt8} (h:D.length<n) (c:UInt8):(q40 (qaf n D)).set (n-1-D.length) (.int .u8 c.toNat)=q40 (qaf n (c::D)):=by
 rw[qlC]
 congr 1
 unfold qaf
 have e:n-D.length=n-(c::D).length+1:=by simp; omega
 rw[e,List.replicate_succ',Kq,List.set_append_right _ _ (by simp; omega)]
 have e2:n-1-D.length-(List.replicate (n-(c::D).length) (0:UInt8)).length=0:=by simp; omega
 rw[e2]
 rfl
theorem qk1 {l:List UInt8} {i:Nat} (h:i<l.length) : ∃ c:UInt8,(q40 l)[i]?=some (.int .u8 c.toNat):=by
 obtain ⟨c,hc⟩:=q06 h
 exact ⟨c,qn5 hc⟩
theorem qbw {x:Int} (h0:0≤x) (h9:x≤9) : ∃ c:UInt8,q64 c=true∧(c.toNat:Int)=48+x∧(c.toNat:Int)-48=x:=by
 have hc:(UInt8.ofNat (48+x.toNat)).toNat=48+x.toNat:=by
  rw[UInt8.toNat_ofNat']
  omega
 refine ⟨UInt8.ofNat (48+x.toNat),?_,?_,?_⟩
 ·simp only[q64,hc,decide_eq_true_eq]
  omega
 ·rw[hc]; omega
 ·rw[hc]; omega
theorem qlA (a b:List UInt8) (ha:digits a=true) (hb:digits b=true) (la:a.length<2^20) (lb:b.length<2^20):q0k CN 721 [.str a,.str b] (.str (dg (q09 a+q09 b))):=by
 refine q04 qlG rfl ?_
 obtain ⟨n,hn⟩ : ∃ n,max a.length b.length+1=n:=⟨_,rfl⟩
 have hmx:(if (b.length:Int)>a.length then (b.length:Int) else a.length)+1=n:=by split<;>omega
 have hn0 : ¬ ((n:Int)=0):=by omega
 have han:a.length<n:=by omega
 have hbn:b.length<n:=by omega
 have hn24:n<2^21:=by omega
 have hnn:(n:Int)≤2^21:=by omega
 (repeat' first|simp (disch:=omega) only[go_sem,qlG,enter,hmx,hn0,Int.toNat_natCast]|(apply spl<;>intro h<;>try simp (disch:=omega) only[go_sem,h]))
 all_goals first | omega | skip
 refine q07 (α:=Nat × Int × List UInt8) (fun s=>{ tmps:=q0q 46 [(0,.str a),(1,.str b),(5,.int .i64 n),(6,.sref 1 0 0 n),(7,.int .i64 s.2.1),(17,.int .i64 n),(18,.int .i64 s.1)],heap:=[.row 1 (q40 (qaf n s.2.2)) false true 0],base:=0 })
  (fun s=>s.1≤n∧s.2.2.length=s.1∧0≤s.2.1∧s.2.1≤1∧digits s.2.2=true∧q09 s.2.2+s.2.1 * 10^s.1=qiE a s.1+qiE b s.1) (fun s=>n-s.1) (0,0,[]) (by
   unfold qaf q40
   simp only[Kg,Nat.sub_zero,KY,List.map_replicate]
   rfl) ⟨Kp _,rfl,VZ _,by decide,rfl,by rw[q6q,q6q]; rfl⟩ ?_
 rintro ⟨i,c,D⟩ ⟨hi,hD,hc0,hc1,hdig,hsum⟩
 simp only at hi hD hc0 hc1 hdig hsum
 by_cases hlt:i<n
 ·have r1:=qbv a i ha (by omega) (by omega)
  have r2:=qbv b i hb (by omega) (by omega)
  obtain ⟨x0,x9⟩:=q5c ha i
  obtain ⟨y0,y9⟩:=q5c hb i
  have ea:=q6S a i
  have eb:=q6S b i
  generalize atD a i=x at *
  generalize atD b i=y at *
  obtain ⟨q,hq⟩ : ∃ q,(c+(x+y)) / 10=q:=⟨_,rfl⟩
  obtain ⟨r,hr⟩ : ∃ r,(c+(x+y)) % 10=r:=⟨_,rfl⟩
  obtain ⟨ch,k1,k2,k3⟩:=qbw (x:=r) (by omega) (by omega)
  have hset:=qgi (n:=n) (D:=D) (by omega) ch
  rw[hD] at hset
  have hpl:(q40 (qaf n D)).length=n:=by rw[q4X,q8d (by omega)]
  obtain ⟨old,hold⟩:=qk1 (l:=qaf n D) (i:=n-1-i) (by rw[q8d (by omega)]; omega)
  have e1:((n:Int)-1-i).toNat=n-1-i:=by omega
  have hqt:Int.tdiv (c+(x+y)) 10=q:=by rw[Int.tdiv_eq_ediv_of_nonneg (by omega)]; exact hq
  have hrt:Int.tmod (c+(x+y)) 10=r:=by rw[Int.tmod_eq_emod_of_nonneg (by omega)]; exact hr
  have k2':(48+r:Int)=ch.toNat:=k2.symm
  generalize hR:q40 (qaf n D)=R at *
  (repeat' first|simp (disch:=omega) only[go_sem,e1,hold,hpl,hqt,hrt,k2',hset]|refine q00 _ (r1) ?_|refine q00 _ (r2) ?_|(apply spl<;>intro h<;>try simp (disch:=omega) only[go_sem,h]))
  all_goals first | omega | skip
  refine ⟨(i+1,q,ch::D),rfl,⟨hlt,by simp [hD],by simp only; omega,by simp only; omega,?_,?_⟩,by simp only; omega⟩
  ·simp only[digits,K7,k1,KH]
   exact hdig
  ·simp only
   rw[q1z,k3,hD,ea,eb,V9]
   generalize (10:Int)^i=P at *
   have h1:c+(x+y)=10 * q+r:=by omega
   have h2:=congrArg (· * P) h1
   simp only[Int.add_mul,VP] at h2
   rw[show q * (P * 10)=10 * (q * P) by rw[←VP,VW]]
   omega
 ·have hin:i=n:=by omega
  subst hin
  rw[q5E (by omega),q5E (by omega)] at hsum
  have hA:=q0w a ha
  have hB:=q0w b hb
  have hDb:=q0w D hdig
  have p1:=q42 (show a.length≤i-1 by omega)
  have p2:=q42 (show b.length≤i-1 by omega)
  have p3:(10:Int)^i=10 * 10^(i-1):=by
   rw[show i=(i-1)+1 by omega,V9,VW]
   simp
  have p4:=q2Q (i-1)
  have hc:c=0:=by
   rcases (show c=0∨c=1 by omega) with h | h
   ·exact h
   ·rw[h] at hsum
    omega
  subst hc
  rw[Int.zero_mul,Int.add_zero] at hsum
  have hpd:qaf i D=D:=by unfold qaf; rw[hD,V7]; rfl
  have hr:=q74 D (by omega)
  rw[qdx hdig,hsum] at hr
  rw[hpd]
  have hel:(q40 D).length=i:=by rw[q4X,hD]
  have htk:List.take i (q40 D)=q40 D:=KJ (by omega)
  have hob:=q6L D
  generalize q40 D=R at *
  (repeat' first|simp (disch:=omega) only[go_sem,hel,htk,hob,VF]|refine q00 _ (hr) ?_)
  all_goals first | omega | rfl
end Ago
set_option maxRecDepth 100000
set_option exponentiation.threshold 2000
set_option maxHeartbeats 4000000
namespace Ago
open Go (IntKind)
theorem qc1 (a b:List UInt8) (ha:digits a=true) (hb:digits b=true) (la:a.length<2^20) (lb:b.length≤a.length) (hle:q09 b≤q09 a):q0k CN 722 [.str a,.str b] (.str (dg (q09 a-q09 b))):=by
 refine q04 qjO rfl ?_
 obtain ⟨n,hn⟩ : ∃ n,a.length=n:=⟨_,rfl⟩
 by_cases h0:n=0
 ·subst h0
  have ea:a=[]:=KX.1 hn
  have eb:b=[]:=KX.1 (by omega)
  subst ea
  subst eb
  have hr:=q74 [] (by simp)
  (repeat' first|simp (disch:=omega) only[go_sem,qjO,enter,Kg]|(apply spl<;>intro h<;>try simp (disch:=omega) only[go_sem,h]))
  all_goals first | omega | skip
  refine q07 (α:=Unit) (fun _=>{ tmps:=q0q 44 [(0,.str []),(1,.str []),(5,.snil 1),(6,.int .i64 0),(13,.int .i64 0),(14,.int .i64 0)],heap:=[],base:=0 }) (fun _=>True) (fun _=>0) () rfl trivial ?_
  rintro _ _
  (repeat' first|simp (disch:=omega) only[go_sem]|refine q00 _ (hr) ?_|(apply spl<;>intro h<;>try simp (disch:=omega) only[go_sem,h]))
  all_goals first | omega | rfl
 have hn0 : ¬ ((n:Int)=0):=by omega
 (repeat' first|simp (disch:=omega) only[go_sem,qjO,enter,hn,hn0,Int.toNat_natCast]|(apply spl<;>intro h<;>try simp (disch:=omega) only[go_sem,h]))
 all_goals first | omega | skip
 refine q07 (α:=Nat × Int × List UInt8) (fun s=>{ tmps:=q0q 44 [(0,.str a),(1,.str b),(5,.sref 1 0 0 n),(6,.int .i64 s.2.1),(13,.int .i64 n),(14,.int .i64 s.1)],heap:=[.row 1 (q40 (qaf n s.2.2)) false true 0],base:=0 })
  (fun s=>s.1≤n∧s.2.2.length=s.1∧0≤s.2.1∧s.2.1≤1∧digits s.2.2=true∧q09 s.2.2=qiE a s.1-qiE b s.1+s.2.1 * 10^s.1) (fun s=>n-s.1) (0,0,[]) (by
   unfold qaf q40
   simp only[Kg,Nat.sub_zero,KY,List.map_replicate]
   rfl) ⟨Kp _,rfl,VZ _,by decide,rfl,by rw[q6q,q6q]; rfl⟩ ?_
 rintro ⟨i,c,D⟩ ⟨hi,hD,hc0,hc1,hdig,hsum⟩
 simp only at hi hD hc0 hc1 hdig hsum
 by_cases hlt:i<n
 ·have r1:=qbv a i ha (by omega) (by omega)
  have r2:=qbv b i hb (by omega) (by omega)
  obtain ⟨x0,x9⟩:=q5c ha i
  obtain ⟨y0,y9⟩:=q5c hb i
  have ea:=q6S a i
  have eb:=q6S b i
  generalize atD a i=x at *
  generalize atD b i=y at *
  have hpl:(q40 (qaf n D)).length=n:=by rw[q4X,q8d (by omega)]
  obtain ⟨old,hold⟩:=qk1 (l:=qaf n D) (i:=n-1-i) (by rw[q8d (by omega)]; omega)
  have e1:((n:Int)-1-i).toNat=n-1-i:=by omega
  have hps:=fun ch=>qgi (n:=n) (D:=D) (by omega) ch
  rw[hD] at hps
  by_cases hneg:x-y-c<0
  ·obtain ⟨ch,k1,k2,k3⟩:=qbw (x:=x-y-c+10) (by omega) (by omega)
   have k2':(48+(x-y-c+10):Int)=ch.toNat:=k2.symm
   have hset:=hps ch
   generalize hR:q40 (qaf n D)=R at *
   (repeat' first|simp (disch:=omega) only[go_sem,e1,hold,hpl,hn,hneg,k2',hset]|refine q00 _ (r1) ?_|refine q00 _ (r2) ?_|(apply spl<;>intro h<;>try simp (disch:=omega) only[go_sem,h]))
   all_goals first | omega | skip
   refine ⟨(i+1,1,ch::D),rfl,⟨hlt,by simp [hD],by simp only; omega,by simp only; omega,?_,?_⟩,by simp only; omega⟩
   ·simp only[digits,K7,k1,KH]
    exact hdig
   ·simp only
    rw[q1z,k3,hD,ea,eb,V9,hsum]
    generalize (10:Int)^i=P at *
    simp only[Int.add_mul,Int.sub_mul,Int.one_mul]
    omega
  ·obtain ⟨ch,k1,k2,k3⟩:=qbw (x:=x-y-c) (by omega) (by omega)
   have k2':(48+(x-y-c):Int)=ch.toNat:=k2.symm
   have hset:=hps ch
   generalize hR:q40 (qaf n D)=R at *
   (repeat' first|simp (disch:=omega) only[go_sem,e1,hold,hpl,hn,hneg,k2',hset]|refine q00 _ (r1) ?_|refine q00 _ (r2) ?_|(apply spl<;>intro h<;>try simp (disch:=omega) only[go_sem,h]))
   all_goals first | omega | skip
   refine ⟨(i+1,0,ch::D),rfl,⟨hlt,by simp [hD],by simp only; omega,by simp only; omega,?_,?_⟩,by simp only; omega⟩
   ·simp only[digits,K7,k1,KH]
    exact hdig
   ·simp only
    rw[q1z,k3,hD,ea,eb,V9,hsum]
    generalize (10:Int)^i=P at *
    simp only[Int.add_mul,Int.sub_mul,Int.zero_mul]
    omega
 ·have hin:i=n:=by omega
  subst hin
  rw[q5E (by omega),q5E (by omega)] at hsum
  have hDb:=q0w D hdig
  rw[hD] at hDb
  have hc:c=0:=by
   rcases (show c=0∨c=1 by omega) with h | h
   ·exact h
   ·rw[h] at hsum
    omega
  subst hc
  rw[Int.zero_mul,Int.add_zero] at hsum
  have hpd:qaf i D=D:=by unfold qaf; rw[hD,V7]; rfl
  have hr:=q74 D (by omega)
  rw[qdx hdig,hsum] at hr
  rw[hpd]
  have hel:(q40 D).length=i:=by rw[q4X,hD]
  have htk:List.take i (q40 D)=q40 D:=KJ (by omega)
  have hob:=q6L D
  generalize q40 D=R at *
  (repeat' first|simp (disch:=omega) only[go_sem,hel,htk,hob,VF]|refine q00 _ (hr) ?_)
  all_goals first | omega | rfl
def q2h (neg:Bool) (s:List UInt8) (e:Int):Dec × Int:=
 if s=[] then (⟨false,[],0⟩,0)
 else if e>400-q0H s∨e < -400-q0H s∨120<s.length-q0H s then (⟨false,[],0⟩,2)
 else (⟨neg,s.take (s.length-q0H s),e+q0H s⟩,0)
theorem qcE (neg:Bool) (s:List UInt8) (e:Int) (hs:s.length<2^24) (he : -(2^24)≤e∧e≤2^24):q0k CN 138 [.bool neg,.str s,.int .i64 e] (.tup [q0h (q2h neg s e).1,.int .i64 (q2h neg s e).2]):=by
 refine q04 qdE rfl ?_
 unfold q2h q0h
 by_cases h0:s=[]
 ·subst h0
  (repeat' first|simp (disch:=omega) only[go_sem,qdE,enter])
  all_goals first | omega | rfl
 ·have hb:(s == ([]:List UInt8))=false:=by simp [h0]
  have hr:=upN (q6z s (by omega))
  have hz:=qbb s
  have hlen:(s.take (s.length-q0H s)).length=s.length-q0H s:=by simp
  have e1:((s.length:Int)-((s.length-q0H s:Nat):Int))=q0H s:=by omega
  have e2:((s.length:Int)-(q0H s:Int)).toNat=s.length-q0H s:=by omega
  rw[if_neg h0]
  generalize q0H s=z at *
  by_cases h1:e>400-z∨e < -400-z∨120<s.length-z
  ·rw[if_pos h1]
   by_cases a1:e>400-(z:Int)
   ·(repeat' first|simp (disch:=omega) only[go_sem,qdE,enter,hb,hlen,e1,e2,a1]|refine q00 _ (hr) ?_)
    all_goals first | omega | rfl
   ·by_cases a2:e < -400-(z:Int)
    ·(repeat' first|simp (disch:=omega) only[go_sem,qdE,enter,hb,hlen,e1,e2,a1,a2]|refine q00 _ (hr) ?_)
     all_goals first | omega | rfl
    ·have a3:120<s.length-z:=by omega
     (repeat' first|simp (disch:=omega) only[go_sem,qdE,enter,hb,hlen,e1,e2,a1,a2,a3]|refine q00 _ (hr) ?_)
     all_goals first | omega | rfl
  ·rw[if_neg h1]
   have a1 : ¬ e>400-(z:Int):=fun h=>h1 (.inl h)
   have a2 : ¬ e < -400-(z:Int):=fun h=>h1 (.inr (.inl h))
   have a3 : ¬ 120<s.length-z:=fun h=>h1 (.inr (.inr h))
   (repeat' first|simp (disch:=omega) only[go_sem,qdE,enter,hb,hlen,e1,e2,a1,a2,a3]|refine q00 _ (hr) ?_)
   all_goals first | omega | rfl
end Ago
set_option maxRecDepth 100000
set_option exponentiation.threshold 2000
set_option maxHeartbeats 4000000
namespace Ago
open Go (IntKind)
def q0C (a b:Dec):List UInt8 × List UInt8 × Int:=
 if a.digits=[] then ([],b.digits,b.exp) else if b.digits=[] then (a.digits,[],a.exp)
 else if a.exp≤b.exp then (pad a.digits (a.exp-a.exp).toNat,pad b.digits (b.exp-a.exp).toNat,a.exp)
 else (pad a.digits (a.exp-b.exp).toNat,pad b.digits (b.exp-b.exp).toNat,b.exp)
theorem qhp (a b:Dec) (ha:q0a a=true) (hb:q0a b=true):q0k CN 285 [q0h a,q0h b] (.tup [.str (q0C a b).1,.str (q0C a b).2.1,.int .i64 (q0C a b).2.2]):=by
 obtain ⟨fa1,fa2,fa3⟩:=q11 ha
 obtain ⟨fb1,fb2,fb3⟩:=q11 hb
 have va:=upN (q34 a (by omega))
 have vb:=upN (q34 b (by omega))
 rw[ha] at va
 rw[hb] at vb
 unfold q0C
 obtain ⟨na,da,ea⟩:=a
 obtain ⟨nb,db,eb⟩:=b
 simp only[q0h] at *
 refine q04 q5R rfl ?_
 by_cases h1:da=[]
 ·subst h1
  (repeat' first|simp (disch:=omega) only[go_sem,q5R,enter]|refine q00 _ (va) ?_|refine q00 _ (vb) ?_)
  all_goals first | omega | rfl
 have hb1:(da == ([]:List UInt8))=false:=by simp [h1]
 rw[if_neg h1]
 by_cases h2:db=[]
 ·subst h2
  (repeat' first|simp (disch:=omega) only[go_sem,q5R,enter,hb1]|refine q00 _ (va) ?_|refine q00 _ (vb) ?_)
  all_goals first | omega | rfl
 have hb2:(db == ([]:List UInt8))=false:=by simp [h2]
 rw[if_neg h2]
 have key : ∀ m:Int,m≤ea→m≤eb→-400≤m→q0k CN 291 [.str [48],.int .i64 (ea-m)] (.str (List.replicate (ea-m).toNat 48))∧q0k CN 291 [.str [48],.int .i64 (eb-m)] (.str (List.replicate (eb-m).toNat 48)):=by
  intro m k1 k2 k3
  have r1:=q5y (ea-m).toNat (by omega)
  have r2:=q5y (eb-m).toNat (by omega)
  rw[show (((ea-m).toNat:Nat):Int)=ea-m by omega] at r1
  rw[show (((eb-m).toNat:Nat):Int)=eb-m by omega] at r2
  exact ⟨r1,r2⟩
 have hl : ∀ (n:Nat),(List.replicate n (48:UInt8)).length=n:=fun n=>List.length_replicate
 by_cases h:ea≤eb
 ·obtain ⟨r1,r2⟩:=key ea (by omega) h (by omega)
  have hm : ¬ eb<ea:=by omega
  rw[if_pos h]
  (repeat' first|simp (disch:=omega) only[go_sem,q5R,enter,hb1,hb2,hm,hl,pad]|refine q00 _ (va) ?_|refine q00 _ (vb) ?_|refine q00 _ (r1) ?_|refine q00 _ (r2) ?_)
  all_goals first | omega | rfl
 ·obtain ⟨r1,r2⟩:=key eb (by omega) (by omega) (by omega)
  have hm:eb<ea:=by omega
  rw[if_neg h]
  (repeat' first|simp (disch:=omega) only[go_sem,q5R,enter,hb1,hb2,hm,hl,pad]|refine q00 _ (va) ?_|refine q00 _ (vb) ?_|refine q00 _ (r1) ?_|refine q00 _ (r2) ?_)
  all_goals first | omega | rfl
def Cn (s:List UInt8):Prop:=s=[]∨Num s
theorem Cn.dig {s:List UInt8} (h:Cn s):digits s=true:=by
 rcases h with rfl | h
 ·rfl
 ·exact h.dig
theorem qoz {d:Dec} (h:q0a d=true):Cn d.digits:=by
 by_cases hn:d.digits=[]
 ·exact .inl hn
 ·exact .inr (q1k h hn).1
theorem Cn.pad {s:List UInt8} (h:Cn s) (n:Nat) (hs:s≠[]):Cn (pad s n):=by
 rcases h with h | h
 ·exact absurd h hs
 ·exact .inr (h.pad n)
theorem qpn {a b:List UInt8} (ha:Cn a) (hb:Cn b):(0≤q9K a b↔q09 b≤q09 a)∧(0≤q9K a b→b.length≤a.length)∧(¬ 0≤q9K a b→a.length≤b.length):=by
 have hl:(0≤q9K a b→b.length≤a.length)∧(¬ 0≤q9K a b→a.length≤b.length):=by
  unfold q9K
  by_cases h1:a.length<b.length
  ·rw[if_pos h1]
   exact ⟨fun h=>by omega,fun _=>by omega⟩
  ·rw[if_neg h1]
   exact ⟨fun _=>by omega,fun h=>by
    by_cases h2:b.length<a.length
    ·rw[if_pos h2] at h
     omega
    ·omega⟩
 refine ⟨?_,hl⟩
 rcases ha with rfl | ha
 ·rcases hb with rfl | hb
  ·simp [q9K,q6x]
  ·have:=hb.pos
   have h2:=Ve.2 hb.ne
   unfold q9K
   rw[if_pos (by simpa using h2)]
   simp [q09] at this ⊢
   omega
 ·rcases hb with rfl | hb
  ·have:=ha.pos
   have h2:=Ve.2 ha.ne
   unfold q9K
   rw[if_neg (by simp),if_pos (by simpa using h2)]
   simp [q09] at this ⊢
   omega
  ·have:=q6U ha hb
   omega
theorem qdJ {a b:Dec} (ha:q0a a=true) (hb:q0a b=true):Cn (q0C a b).1∧Cn (q0C a b).2.1∧(q0C a b).1.length≤1000∧(q0C a b).2.1.length≤1000∧-400≤(q0C a b).2.2∧(q0C a b).2.2≤400∧q2R a=q09 (q0C a b).1 * 10^((q0C a b).2.2+400).toNat∧q2R b=q09 (q0C a b).2.1 * 10^((q0C a b).2.2+400).toNat:=by
 obtain ⟨fa1,fa2,fa3⟩:=q11 ha
 obtain ⟨fb1,fb2,fb3⟩:=q11 hb
 have ca:=qoz ha
 have cb:=qoz hb
 unfold q0C
 by_cases h1:a.digits=[]
 ·rw[if_pos h1,q2o h1]
  refine ⟨.inl rfl,cb,by simp,by simp only; omega,by simp only; omega,by simp only; omega,by simp [q09],rfl⟩
 rw[if_neg h1]
 by_cases h2:b.digits=[]
 ·rw[if_pos h2,q2o h2]
  refine ⟨ca,.inl rfl,by simp only; omega,by simp,by simp only; omega,by simp only; omega,rfl,by simp [q09]⟩
 rw[if_neg h2]
 have len : ∀ (s:List UInt8) (n:Nat),(pad s n).length=s.length+n:=fun s n=>by simp [pad]
 have sh : ∀ (d:Dec) (m:Int),m≤d.exp→-400≤m→q2R d=q09 (pad d.digits (d.exp-m).toNat) * 10^(m+400).toNat:=fun d m k1 k2=>by
  rw[q29,VP,←Int.pow_add]
  unfold q2R
  congr 2
  omega
 by_cases h:a.exp≤b.exp
 ·rw[if_pos h]
  refine ⟨ca.pad _ h1,cb.pad _ h2,by simp only[len]; omega,by simp only[len]; omega,by simp only; omega,by simp only; omega,sh a a.exp (by omega) (by omega),sh b a.exp h (by omega)⟩
 ·rw[if_neg h]
  refine ⟨ca.pad _ h1,cb.pad _ h2,by simp only[len]; omega,by simp only[len]; omega,by simp only; omega,by simp only; omega,sh a b.exp (by omega) (by omega),sh b b.exp (by omega) (by omega)⟩
def q8R (a b:Dec):Dec × Int:=
 if a.neg=b.neg then q2h a.neg (dg (q09 (q0C a b).1+q09 (q0C a b).2.1)) (q0C a b).2.2
 else if q09 (q0C a b).2.1≤q09 (q0C a b).1 then q2h a.neg (dg (q09 (q0C a b).1-q09 (q0C a b).2.1)) (q0C a b).2.2
 else q2h b.neg (dg (q09 (q0C a b).2.1-q09 (q0C a b).1)) (q0C a b).2.2
theorem qoJ {n:Int} {k:Nat} (h0:0≤n) (h:n<10^k):(dg n).length≤k:=by
 by_cases hn:n=0
 ·subst hn
  rw[dg_zero]
  simp
 ·obtain ⟨h1,h2,h3⟩:=qjQ h0
  have hl:=(h3 hn).low
  rw[h2] at hl
  rcases Vx k (dg n).length with hk | hk
  ·have:=q42 (show k≤(dg n).length-1 by omega)
   omega
  ·exact hk
theorem qhq:(10:Int)^1000+10^1000≤10^1001:=by decide +kernel
theorem qbD (a b:Dec) (ha:q0a a=true) (hb:q0a b=true):q0k CN 718 [q0h a,q0h b] (.tup [q0h (q8R a b).1,.int .i64 (q8R a b).2]):=by
 have h0:=qhp a b ha hb
 obtain ⟨c1,c2,l1,l2,e1,e2,_⟩:=qdJ ha hb
 obtain ⟨g1,g2,g3⟩:=qpn c1 c2
 have hcmp:=qg0 (q0C a b).1 (q0C a b).2.1 (by omega) (by omega)
 have b1:=q0w _ c1.dig
 have b2:=q0w _ c2.dig
 have p1:=q42 l1
 have p2:=q42 l2
 have p3:=qhq
 have hsum:=qlA _ _ c1.dig c2.dig (by omega) (by omega)
 have hn:=fun neg n (h1:0≤n) (h2:n<10^1001)=>qcE neg (dg n) (q0C a b).2.2 (by have:=qoJ h1 h2; omega) (by omega)
 have n1:=hn a.neg (q09 (q0C a b).1+q09 (q0C a b).2.1) (by omega) (by omega)
 have d1:=fun h:q09 (q0C a b).2.1≤q09 (q0C a b).1=>qc1 _ _ c1.dig c2.dig (by omega) (g2 (g1.2 h)) h
 have d2:=fun h : ¬ q09 (q0C a b).2.1≤q09 (q0C a b).1=>qc1 _ _ c2.dig c1.dig (by omega) (g3 (fun k=>h (g1.1 k))) (by omega)
 have n2:=fun h:q09 (q0C a b).2.1≤q09 (q0C a b).1=>hn a.neg (q09 (q0C a b).1-q09 (q0C a b).2.1) (by omega) (by omega)
 have n3:=fun h : ¬ q09 (q0C a b).2.1≤q09 (q0C a b).1=>hn b.neg (q09 (q0C a b).2.1-q09 (q0C a b).1) (by omega) (by omega)
 unfold q8R
 clear hn b1 b2 p1 p2 p3 c1 c2 l1 l2 g2 g3 ha hb
 generalize q9K (q0C a b).1 (q0C a b).2.1=c at *
 generalize q09 (q0C a b).1=X at *
 generalize q09 (q0C a b).2.1=Y at *
 generalize q0C a b=al at *
 obtain ⟨x,y,e⟩:=al
 simp only at *
 obtain ⟨na,da,ea⟩:=a
 obtain ⟨nb,db,eb⟩:=b
 simp only[q0h] at *
 refine q04 qhO rfl ?_
 by_cases hne:na=nb
 ·subst hne
  rw[if_pos rfl]
  generalize q2h na (dg (X+Y)) e=r at *
  cases na
  all_goals
   (repeat' first|simp (disch:=omega) only[go_sem,qhO,enter]|refine q00 _ (h0) ?_|refine q00 _ (hsum) ?_|refine q00 _ (n1) ?_)
   all_goals first | omega | rfl
 ·rw[if_neg hne]
  by_cases hle:Y≤X
  ·rw[if_pos hle]
   have hc:=g1.2 hle
   have d1:=d1 hle
   have n2:=n2 hle
   generalize q2h na (dg (X-Y)) e=r at *
   cases na<;>cases nb<;>first | exact absurd rfl hne | skip
   all_goals
    (repeat' first|simp (disch:=omega) only[go_sem,qhO,enter,hc]|refine q00 _ (h0) ?_|refine q00 _ (hcmp) ?_|refine q00 _ (d1) ?_|refine q00 _ (n2) ?_)
    all_goals first | omega | rfl
  ·rw[if_neg hle]
   have hc : ¬ 0≤c:=fun k=>hle (g1.1 k)
   have d2:=d2 hle
   have n3:=n3 hle
   generalize q2h nb (dg (Y-X)) e=r at *
   cases na<;>cases nb<;>first | exact absurd rfl hne | skip
   all_goals
    (repeat' first|simp (disch:=omega) only[go_sem,qhO,enter,hc]|refine q00 _ (h0) ?_|refine q00 _ (hcmp) ?_|refine q00 _ (d2) ?_|refine q00 _ (n3) ?_)
    all_goals first | omega | rfl
theorem qcg (neg:Bool) {n e:Int} (hn:0≤n) (he : -400≤e) (he2:e≤400) :
  ((q2h neg (dg n) e).2=0→q0a (q2h neg (dg n) e).1=true∧q0n (q2h neg (dg n) e).1=(if neg=true then -1 else 1) * (n * 10^(e+400).toNat)) ∧
  ((q2h neg (dg n) e).2≠0→(q2h neg (dg n) e).1=⟨false,[],0⟩∧∀ y,q0a y=true→q2R y≠n * 10^(e+400).toNat):=by
 obtain ⟨h1,h2,h3⟩:=qjQ hn
 unfold q2h
 by_cases hz:dg n=[]
 ·have h0:n=0:=(qjA hn).1 hz
  rw[if_pos hz,h0]
  refine ⟨fun _=>⟨by decide,?_⟩,fun h=>absurd rfl h⟩
  simp [q0n,q2R,q09]
 ·rw[if_neg hz]
  have hnum:=h3 fun h=>hz ((qjA hn).2 h)
  obtain ⟨z1,z2⟩:=q9s (dg n)
  have zl:=qbb (dg n)
  have hf:=congrArg q09 z1
  rw[show (dg n).take ((dg n).length-q0H (dg n))++List.replicate (q0H (dg n)) 48=pad ((dg n).take ((dg n).length-q0H (dg n))) (q0H (dg n)) from rfl,q29,h2] at hf
  have hlen:((dg n).take ((dg n).length-q0H (dg n))).length=(dg n).length-q0H (dg n):=by simp
  have hnt:Num ((dg n).take ((dg n).length-q0H (dg n))):=by
   have hne:(dg n).take ((dg n).length-q0H (dg n))≠[]:=fun hh=>by
    rw[hh] at hf
    simp [q09] at hf
    exact hz ((qjA hn).2 hf.symm)
   refine ⟨Ki.2 fun x hx=>Ki.1 h1 x (Kt hx),?_,hne⟩
   intro h48
   apply hnum.head
   rw[Vw] at h48
   split at h48
   ·exact h48
   ·cases h48
  have hpad:pad (dg n) (e+400).toNat=pad ((dg n).take ((dg n).length-q0H (dg n))) (q0H (dg n)+(e+400).toNat):=by
   conv=>lhs; unfold pad
   conv=>lhs; lhs; rw[←z1]
   unfold pad
   rw[Kq,List.replicate_append_replicate]
  generalize (dg n).take ((dg n).length-q0H (dg n))=t at *
  generalize q0H (dg n)=z at *
  by_cases hbad:e>400-z∨e < -400-z∨120<(dg n).length-z
  ·rw[if_pos hbad]
   refine ⟨fun h=>by simp at h,fun _=>⟨rfl,fun y hy hm=>?_⟩⟩
   have hyn:y.digits≠[]:=fun h=>by
    rw[q2o h] at hm
    have:=hnum.pos
    rw[h2] at this
    have h5:=Int.mul_pos this (q2Q (e+400).toNat)
    omega
   obtain ⟨y1,y2,y3,y4,y5⟩:=q1k hy hyn
   have e1:q09 (pad y.digits (y.exp+400).toNat)=q09 (pad t (z+(e+400).toNat)):=by
    rw[←hpad,q29,q29,h2,←hm]
    rfl
   have e2:=(q6U (y1.pad (y.exp+400).toNat) (hnt.pad (z+(e+400).toNat))).2
   have e3:=e2.2 (e2.1.2 e1)
   have e4:=congrArg q0H e3
   rw[q70 _ _ y1 y2,q70 _ _ hnt z2] at e4
   have e5:=congrArg List.length e3
   simp only[pad,Kk,List.length_replicate,hlen] at e5
   omega
  ·rw[if_neg hbad]
   refine ⟨fun _=>⟨?_,?_⟩,fun h=>absurd rfl h⟩
   ·unfold q0a q7m
    rw[if_neg hnt.ne]
    simp only[Kd,decide_eq_true_eq]
    exact ⟨⟨⟨⟨by omega,⟨by omega,hnt.dig⟩,hnt.head⟩,z2⟩,by omega⟩,by omega⟩
   ·have hv : ∀ s:Bool,q0n ⟨s,t,e+z⟩=(if s=true then -1 else 1) * (n * 10^(e+400).toNat):=fun s=>by
     have hm:q2R ⟨s,t,e+z⟩=n * 10^(e+400).toNat:=by
      unfold q2R
      simp only
      rw[←hf,VP,←Int.pow_add]
      congr 2
      omega
     unfold q0n
     rw[hm]
     cases s<;>simp<;>omega
    exact hv neg
theorem qr3 {d:Dec}:q2R d=(if d.neg=true then -1 else 1) * q0n d:=by
 unfold q0n
 cases d.neg<;>simp
theorem qnY {a b:Dec} (ha:q0a a=true) (hb:q0a b=true):((q8R a b).2=0→q0a (q8R a b).1=true∧q0n (q8R a b).1=q0n a+q0n b)∧((q8R a b).2≠0→(q8R a b).1=⟨false,[],0⟩∧∀ y,q0a y=true→q0n y≠q0n a+q0n b):=by
 obtain ⟨c1,c2,l1,l2,e1,e2,m1,m2⟩:=qdJ ha hb
 have b1:=(q0w _ c1.dig).1
 have b2:=(q0w _ c2.dig).1
 unfold q8R
 generalize q09 (q0C a b).1=X at *
 generalize q09 (q0C a b).2.1=Y at *
 generalize (q0C a b).2.2=e at *
 have nz : ∀ d,q0a d=true→(d.neg=true→0<q2R d):=fun d hd hneg=>q5B hd fun h=>by
  rw[q4o hd h] at hneg
  cases hneg
 have sgn : ∀ (neg:Bool) (n v:Int),0≤n→v=(if neg=true then -1 else 1) * (n * 10^(e+400).toNat)→((q2h neg (dg n) e).2=0→q0a (q2h neg (dg n) e).1=true∧q0n (q2h neg (dg n) e).1=v)∧((q2h neg (dg n) e).2≠0→(q2h neg (dg n) e).1=⟨false,[],0⟩∧∀ y,q0a y=true→q0n y≠v):=by
  intro neg n v h0 hv
  obtain ⟨k1,k2⟩:=qcg neg h0 e1 e2
  refine ⟨fun h=>by rw[hv]; exact k1 h,fun h=>⟨(k2 h).1,fun y hy hyv=>(k2 h).2 y hy ?_⟩⟩
  have hn:=q38 hy
  have hp:0≤n * 10^(e+400).toNat:=Int.mul_nonneg h0 (by have:=q2Q (e+400).toNat; omega)
  have h5:=qr3 (d:=y)
  have h6:q0n y=(if neg=true then -1 else 1) * (n * 10^(e+400).toNat):=by rw[hyv,hv]
  have fin : ∀ (m v' w:Int) (p q:Bool),0≤m→0≤w→m=(if p=true then -1 else 1) * v'→v'=(if q=true then -1 else 1) * w→m=w:=by
   intro m v' w p q g1 g2 g3 g4
   cases p<;>cases q<;>simp only[Ke,if_true,if_false] at g3 g4<;>omega
  exact fin _ _ _ _ _ hn hp h5 h6
 have hva:q0n a=(if a.neg=true then -1 else 1) * (X * 10^(e+400).toNat):=by unfold q0n; rw[m1]; cases a.neg<;>simp
 have hvb:q0n b=(if b.neg=true then -1 else 1) * (Y * 10^(e+400).toNat):=by unfold q0n; rw[m2]; cases b.neg<;>simp
 by_cases hne:a.neg=b.neg
 ·rw[if_pos hne]
  refine sgn a.neg (X+Y) _ (by omega) ?_
  rw[hva,hvb,←hne,Int.add_mul,Int.mul_add]
 ·rw[if_neg hne]
  by_cases hle:Y≤X
  ·rw[if_pos hle]
   refine sgn a.neg (X-Y) _ (by omega) ?_
   rw[hva,hvb,Int.sub_mul]
   generalize X * 10^(e+400).toNat=p
   generalize Y * 10^(e+400).toNat=q
   cases h1:a.neg<;>cases h2:b.neg<;>first | (exfalso; apply hne; rw[h1,h2]; done) | (simp<;>omega)
  ·rw[if_neg hle]
   refine sgn b.neg (Y-X) _ (by omega) ?_
   rw[hva,hvb,Int.sub_mul]
   generalize X * 10^(e+400).toNat=p
   generalize Y * 10^(e+400).toNat=q
   cases h1:a.neg<;>cases h2:b.neg<;>first | (exfalso; apply hne; rw[h1,h2]; done) | (simp<;>omega)
end Ago
set_option maxRecDepth 100000
set_option exponentiation.threshold 2000
namespace Ago
def IsV (n:Int):Prop:=∃ d,q0a d=true∧q0n d=n
abbrev T (n:Nat):Int:=(10:Int)^n
theorem q1p (n:Nat):0<T n:=q2Q n
theorem q6u (n:Nat):T (n+1)=10 * T n:=by
 show (10:Int)^(n+1)=10 * 10^n
 rw[V9,VW]
theorem qhj {a b:Nat} (h:a≤b):T a≤T b:=q42 h
theorem q41 {a b:Nat} (h:a≤b):T a ∣ T b:=⟨(10:Int)^(b-a),by
 show (10:Int)^b=10^a * 10^(b-a)
 rw[←Int.pow_add]
 congr 1
 omega⟩
theorem qlr {a b:Nat} (h:a<b):T a<T b:=by
 have h1:=qhj (show a+1≤b by omega)
 have h2:=q6u a
 have h3:=q1p a
 omega
theorem qv9 {a b:Nat} (h:T a<T b):a<b:=by
 rcases Vx a b with h1 | h1
 ·exact h1
 ·have:=qhj h1
  omega
theorem gap {U m n:Int} (hU:0<U) (h1:U ∣ m) (h2:U ∣ n) (h:m<n):m+U≤n:=by
 have:=Int.le_of_dvd (by omega) (V6 h2 h1)
 omega
theorem q2S {U x:Int} (h0:0<x) (h:x<U) : ¬ U ∣ x:=fun hd=>by
 have:=Int.le_of_dvd h0 hd
 omega
theorem qiD {s:List UInt8} (h:Num s) (h0:q0H s=0) : ¬ (10:Int) ∣ q09 s:=by
 rcases List.eq_nil_or_concat s with rfl | ⟨t,x,rfl⟩
 ·exact absurd rfl h.ne
 ·simp only[List.concat_eq_append] at *
  have hx:q64 x=true:=Ki.1 h.dig x (by simp)
  simp only[q64,decide_eq_true_eq] at hx
  have hx48:x≠48:=fun e=>by
   rw[e] at h0
   unfold q0H at h0
   simp at h0
  have:x.toNat≠48:=fun e=>hx48 (UInt8.toNat_inj.1 (by simpa using e))
  rw[q4S]
  have e:q09 [x]=x.toNat-48:=by simp [q09]
  rw[e]
  simp only[Kb,Kg]
  rintro ⟨c,hc⟩
  omega
theorem qoy {m:Int} (h:IsV m) (hp:0<m) : ∃ (c:Int) (E:Nat),m=c * T E∧0<c∧c<T 120∧E≤800∧¬ (10:Int) ∣ c:=by
 obtain ⟨d,hd,rfl⟩:=h
 have hn:d.digits≠[]:=fun hn=>by
  unfold q0n at hp
  rw[q2o hn] at hp
  split at hp<;>omega
 have hneg:d.neg=false:=by
  cases hx:d.neg with
  | false=>rfl
  | true=>
   have:=q38 hd
   unfold q0n at hp
   rw[if_pos hx] at hp
   omega
 obtain ⟨h1,h2,h3,h4,h5⟩:=q1k hd hn
 refine ⟨q09 d.digits,(d.exp+400).toNat,?_,h1.pos,?_,by omega,qiD h1 h2⟩
 ·unfold q0n
  rw[if_neg (by simp [hneg])]
  rfl
 ·have h6:q09 d.digits<T d.digits.length:=(q0w _ h1.dig).2
  have:=qhj h3
  omega
theorem q4l {n:Int} (h:IsV n):IsV (-n):=by
 obtain ⟨d,hd,rfl⟩:=h
 by_cases hn:d.digits=[]
 ·refine ⟨d,hd,?_⟩
  unfold q0n
  rw[q2o hn]
  split<;>rfl
 ·refine ⟨⟨!d.neg,d.digits,d.exp⟩,?_,?_⟩
  ·unfold q0a at hd ⊢
   rw[if_neg hn] at hd ⊢
   exact hd
  ·unfold q0n q2R
   cases d.neg<;>simp
theorem qp1:IsV 0:=⟨⟨false,[],0⟩,by decide,by simp [q0n,q2R,q09]⟩
theorem qox {m:Int} {L:Nat} (h:IsV m) (hp:0<m) (hl:T (L-1)≤m):T (L-120) ∣ m:=by
 obtain ⟨c,E,rfl,hc,hc2,hE,_⟩:=qoy h hp
 have h1:c * T E<T 120 * T E:=Int.mul_lt_mul_of_pos_right hc2 (q1p E)
 have h2:T 120 * T E=T (120+E):=(Int.pow_add 10 120 E).symm
 rw[h2] at h1
 have h3:=qv9 (show T (L-1)<T (120+E) by omega)
 exact V5 (q41 (by omega)) (Int.dvd_mul_left _ _)
theorem qxt {m:Int} (h:IsV m) (hp:0<m) : ¬ T 801 ∣ m:=by
 obtain ⟨c,E,rfl,hc,hc2,hE,h10⟩:=qoy h hp
 rintro ⟨k,hk⟩
 apply h10
 have e:T 801=T (800-E) * 10 * T E:=by
  show (10:Int)^801=10^(800-E) * 10 * 10^E
  rw[show (10:Int)^(800-E) * 10=10^(800-E+1) from (V9 10 (800-E)).symm,←Int.pow_add]
  congr 1
  omega
 rw[e] at hk
 have h2:c * T E=(T (800-E) * 10 * k) * T E:=by
  rw[hk,VP (T (800-E) * 10),VW (T E) k,←VP]
 have h3:=Int.eq_of_mul_eq_mul_right (by have:=q1p E; omega) h2
 exact ⟨T (800-E) * k,by rw[h3,VW (T (800-E)) 10,VP]⟩
theorem qm3 {m:Int} {L:Nat} (hp:0<m) (hl:m<T L) (hd:T (L-120) ∣ m) (hn : ¬ T 801 ∣ m):IsV m:=by
 obtain ⟨c,rfl⟩:=hd
 have hu:L-120≤800:=by
  rcases Vx 800 (L-120) with h | h
  ·exact absurd (V5 (q41 (show 801≤L-120 by omega)) (Int.dvd_mul_right _ _)) hn
  ·exact h
 generalize hU:L-120=u at *
 have hTu:=q1p u
 have hc:0<c:=by
  rcases Vr 0 c with h | h
  ·exact h
  ·have:=Int.mul_nonpos_of_nonneg_of_nonpos (show 0≤T u by omega) h
   omega
 have hc2:c<T 120:=by
  rcases Vr c (T 120) with h | h
  ·exact h
  ·have h1:=Int.mul_le_mul_of_nonneg_left h (show 0≤T u by omega)
   have h2:T u * T 120=T (u+120):=(Int.pow_add 10 u 120).symm
   have h3:=qhj (show L≤u+120 by omega)
   omega
 have e1:((u:Int)-400+400).toNat=u:=by omega
 obtain ⟨k1,k2⟩:=qcg false (n:=c) (e:=(u:Int)-400) (by omega) (by omega) (by omega)
 rw[e1] at k1 k2
 by_cases h0:(q2h false (dg c) ((u:Int)-400)).2=0
 ·obtain ⟨k3,k4⟩:=k1 h0
  refine ⟨_,k3,?_⟩
  rw[k4,if_neg (by simp),Int.one_mul,VW]
 ·exfalso
  obtain ⟨h1,h2,h3⟩:=qjQ (show 0≤c by omega)
  have hnum:=h3 (by omega)
  have hlen:=qoJ (show 0≤c by omega) hc2
  obtain ⟨z1,z2⟩:=q9s (dg c)
  have hf:=congrArg q09 z1
  rw[show (dg c).take ((dg c).length-q0H (dg c))++List.replicate (q0H (dg c)) 48=pad ((dg c).take ((dg c).length-q0H (dg c))) (q0H (dg c)) from rfl,q29,h2] at hf
  unfold q2h at h0
  rw[if_neg hnum.ne] at h0
  generalize (dg c).take ((dg c).length-q0H (dg c))=t at *
  generalize q0H (dg c)=z at *
  split at h0
  ·rename_i hbad
   apply hn
   have hz:801≤u+z:=by omega
   have e2:T u * T z=T (u+z):=(Int.pow_add 10 u z).symm
   rw[←hf]
   refine V5 (q41 hz) ⟨q09 t,?_⟩
   rw[←e2,VP,VW (T z)]
  ·exact h0 rfl
def Pl (m:Int) (L:Nat):Prop:=1≤L∧T (L-1)≤m∧m<T L
theorem qxa {L:Nat} (h:L≤800):IsV (T L):=by
 refine qm3 (L:=L+1) (q1p L) (qlr (by omega)) (q41 (by omega)) (q2S (q1p L) (qlr (by omega)))
theorem qy0 {m:Int} {L:Nat} (h:IsV m) (hp:Pl m L):L-120≤800:=by
 have h0:=q1p (L-1)
 have h1:=qox h (by have:=hp.2.1; omega) hp.2.1
 rcases Vx 800 (L-120) with h2 | h2
 ·exact absurd (V5 (q41 (show 801≤L-120 by omega)) h1) (qxt h (by have:=hp.2.1; omega))
 ·exact h2
theorem qbX {m n:Int} {L:Nat} (hp:0<n) (h1:n<T L) (h2:T (L-120) ∣ n) (h : ¬ IsV n):T 801 ∣ n:=by
 rcases Vr 0 0 with h3 | h3
 ·omega
 ·by_cases hd:T 801 ∣ n
  ·exact hd
  ·exact absurd (qm3 hp h1 h2 hd) h
theorem qmi {m:Int} {L:Nat} (hm:IsV m) (hp:Pl m L) :
  (IsV (m+T (L-120))→∀ n,IsV n→m<n→m+T (L-120)≤n) ∧
  (¬ IsV (m+T (L-120))→IsV (m+2 * T (L-120))→∀ n,IsV n→m<n→m+2 * T (L-120)≤n) ∧
  (¬ IsV (m+T (L-120))→¬ IsV (m+2 * T (L-120))→IsV (m+11 * T (L-120))→∀ n,IsV n→m<n→m+11 * T (L-120)≤n) ∧
  (¬ IsV (m+T (L-120))→¬ IsV (m+2 * T (L-120))→¬ IsV (m+11 * T (L-120))→∀ n,IsV n→n≤m):=by
 obtain ⟨hL,hlo,hhi⟩:=hp
 have hm0:0<m:=by have:=q1p (L-1); omega
 have hU:=q1p (L-120)
 have hdm:=qox hm hm0 hlo
 have hu:=qy0 hm ⟨hL,hlo,hhi⟩
 have htop:m+T (L-120)≤T L:=gap hU hdm (q41 (by omega)) hhi
 have same : ∀ n,IsV n→m<n→T (L-120) ∣ n:=fun n hn h=>qox hn (by omega) (by omega)
 have h801:T (L-120)<T 801:=qlr (by omega)
 have hd1:T (L-120) ∣ m+T (L-120):=Int.dvd_add hdm (Int.dvd_refl _)
 have hd2:T (L-120) ∣ m+2 * T (L-120):=Int.dvd_add hdm (Int.dvd_mul_left _ _)
 -- where the next multiple is no decimal,it is one more place
 have full : ¬ IsV (m+T (L-120))→¬ IsV (m+2 * T (L-120))→m+T (L-120)=T L:=by
  intro k1 k2
  rcases Vr (m+T (L-120)) (T L) with h | h
  ·exfalso
   have h1:=qbX (m:=m) (by omega) h hd1 k1
   have h2:m+2 * T (L-120)≤T L:=by
    have:=gap hU hd1 (q41 (show L-120≤L by omega)) h
    omega
   have h801p:=q1p 801
   have hL801:801≤L:=by
    have h3:=Int.le_of_dvd (by omega) h1
    have h4:=qv9 (show T 800<T L by have:=qlr (show 800<801 by omega); omega)
    omega
   have h3:m+T (L-120)+T 801≤T L:=gap h801p h1 (q41 hL801) h
   refine k2 (qm3 (L:=L) (by omega) (by omega) hd2 fun h4=>?_)
   have h5:=V6 h4 h1
   rw[show m+2 * T (L-120)-(m+T (L-120))=T (L-120) by omega] at h5
   exact q2S hU h801 h5
  ·omega
 have big : ¬ IsV (m+T (L-120))→m+T (L-120)=T L→801≤L:=by
  intro k1 k2
  rw[k2] at k1
  rcases Vx L 801 with h | h
  ·exact absurd (qxa (by omega)) k1
  ·exact h
 have e10:801≤L→T (L+1-120)=10 * T (L-120):=fun h=>by rw[←q6u]; congr 1; omega
 refine ⟨fun h n hn hlt=>gap hU hdm (same n hn hlt) hlt,fun k1 k2 n hn hlt=>?_,fun k1 k2 k3 n hn hlt=>?_,fun k1 k2 k3 n hn=>?_⟩
 ·have h1:=gap hU hdm (same n hn hlt) hlt
  rcases Vr (m+T (L-120)) n with h | h
  ·have:=gap hU hd1 (same n hn hlt) h
   omega
  ·have:n=m+T (L-120):=by omega
   rw[this] at hn
   exact absurd hn k1
 ·have hf:=full k1 k2
  have hb:=big k1 hf
  have h10:=e10 hb
  have h1:=gap hU hdm (same n hn hlt) hlt
  have hne:n≠T L:=fun h=>by rw[h,←hf] at hn; exact k1 hn
  have h2:T (L+1-120) ∣ n:=qox hn (by omega) (by rw[show L+1-1=L by omega]; omega)
  have h3:=gap (q1p _) (q41 (show L+1-120≤L by omega)) h2 (show T L<n by omega)
  omega
 ·have hf:=full k1 k2
  have hb:=big k1 hf
  have h10:=e10 hb
  have hsum:m+11 * T (L-120)=T L+T (L+1-120):=by omega
  have hlt2:T L+T (L+1-120)<T (L+1):=by
   have h1:=q6u L
   have h2:=qhj (show L+1-120≤L by omega)
   have h3:=q1p L
   omega
  rw[hsum] at k3
  have h1:=qbX (m:=m) (by have:=q1p L; have:=q1p (L+1-120); omega) hlt2 (Int.dvd_add (q41 (by omega)) (Int.dvd_refl _)) k3
  have h2:T 801 ∣ T (L+1-120):=by
   have:=V6 h1 (q41 (show 801≤L by omega))
   rwa [show T L+T (L+1-120)-T L=T (L+1-120) by omega] at this
  have h3:801≤L+1-120:=by
   rcases Vx (L+1-120) 801 with h | h
   ·exact absurd h2 (q2S (q1p _) (qlr h))
   ·exact h
  rcases Vr m n with h | h
  ·exfalso
   have g1:=gap hU hdm (same n hn h) h
   have g2:T (L+1-120) ∣ n:=qox hn (by omega) (by rw[show L+1-1=L by omega]; omega)
   exact qxt hn (by omega) (V5 (q41 h3) g2)
  ·exact h
theorem qhG {m:Int} {L:Nat} (hm:IsV m) (hp:Pl m L) (hu:L≤120):IsV (m-1):=by
 obtain ⟨hL,hlo,hhi⟩:=hp
 have hm0:0<m:=by have:=q1p (L-1); omega
 by_cases h1:m=1
 ·rw[h1]
  exact qp1
 ·have h2:=qhj (show L≤120 by omega)
  have h3:=qlr (show 120<801 by omega)
  refine qm3 (L:=L) (by omega) (by omega) (by rw[show L-120=0 by omega]; exact ⟨m-1,by show m-1=(10:Int)^0 * (m-1); simp⟩) (q2S (by omega) (by omega))
theorem qo2 {m:Int} {L:Nat} (hm:IsV m) (hp:Pl m L) (hu:120<L) :
  (IsV (m-T (L-121))→∀ n,IsV n→n<m→n≤m-T (L-121)) ∧
  (¬ IsV (m-T (L-121))→IsV (m-T (L-120))→∀ n,IsV n→n<m→n≤m-T (L-120)) ∧
  (¬ IsV (m-T (L-121))→¬ IsV (m-T (L-120))→IsV (m-11 * T (L-121))→∀ n,IsV n→n<m→n≤m-11 * T (L-121)) ∧
  (¬ IsV (m-T (L-121))→¬ IsV (m-T (L-120))→¬ IsV (m-11 * T (L-121))→IsV (m-2 * T (L-120))∧∀ n,IsV n→n<m→n≤m-2 * T (L-120)):=by
 obtain ⟨hL,hlo,hhi⟩:=hp
 have hm0:0<m:=by have:=q1p (L-1); omega
 have hU:=q1p (L-120)
 have hW:=q1p (L-121)
 have e10:T (L-120)=10 * T (L-121):=by rw[←q6u]; congr 1; omega
 have hdm:=qox hm hm0 hlo
 have hule:=qy0 hm ⟨hL,hlo,hhi⟩
 have h801:T (L-120)<T 801:=qlr (by omega)
 have hl2:T (L-120)≤T (L-1):=qhj (by omega)
 have hl3:10 * T (L-2)=T (L-1):=by rw[←q6u]; congr 1; omega
 have hw2:T (L-121)≤T (L-2):=qhj (by omega)
 have hdl:T (L-120) ∣ T (L-1):=q41 (by omega)
 have atLeast:m=T (L-1)∨T (L-1)+T (L-120)≤m:=by
  rcases Vr (T (L-1)) m with h | h
  ·exact .inr (gap hU hdl hdm h)
  ·exact .inl (by omega)
 -- numbers of the same places
 have same : ∀ n,IsV n→T (L-1)≤n→T (L-120) ∣ n:=fun n hn h=>qox hn (by have:=q1p (L-1); omega) h
 have odd : ∀ n,T (L-120) ∣ n→¬ T (L-120) ∣ n-T (L-121):=fun n h1 h2=>by
  have:=V6 h1 h2
  rw[show n-(n-T (L-121))=T (L-121) by omega] at this
  exact q2S hW (by omega) this
 -- all nines
 have nines:IsV (T (L-1)-T (L-121)):=by
  refine qm3 (L:=L-1) (by omega) (by omega) (by rw[show L-1-120=L-121 by omega]; exact V6 (q41 (by omega)) (Int.dvd_refl _)) fun h=>?_
  rcases Vx (L-1) 801 with h1 | h1
  ·have:=qlr h1
   exact q2S (by omega) (by omega) h
  ·have h2:=V6 (q41 h1) h
   rw[show T (L-1)-(T (L-1)-T (L-121))=T (L-121) by omega] at h2
   exact q2S hW (by omega) h2
 have below : ∀ n,IsV n→n<T (L-1)→n≤T (L-1)-T (L-121):=by
  intro n hn h
  rcases Vr n (T (L-2)) with h1 | h1
  ·omega
  ·have hd:T (L-1-120) ∣ n:=qox hn (by have:=q1p (L-2); omega) (by rw[show L-1-1=L-2 by omega]; exact h1)
   rw[show L-1-120=L-121 by omega] at hd
   have:=gap hW hd (q41 (show L-121≤L-1 by omega)) h
   omega
 have s1 : ¬ IsV (m-T (L-121))→T (L-1)+T (L-120)≤m:=fun k1=>by
  rcases atLeast with h | h
  ·rw[h] at k1
   exact absurd nines k1
  ·exact h
 have d1:T (L-120) ∣ m-T (L-120):=V6 hdm (Int.dvd_refl _)
 refine ⟨fun k1 n hn hlt=>?_,fun k1 k2 n hn hlt=>?_,fun k1 k2 k3 n hn hlt=>?_,fun k1 k2 k3=>?_⟩
 ·rcases atLeast with h | h
  ·rw[h] at hlt ⊢
   exact below n hn hlt
  ·exact absurd (same _ k1 (by omega)) (odd m hdm)
 ·have h:=s1 k1
  rcases Vr n (T (L-1)) with h1 | h1
  ·omega
  ·have:=gap hU (same n hn h1) hdm hlt
   omega
 ·have h:=s1 k1
  rcases Vr (T (L-1)) (m-T (L-120)) with h1 | h1
  ·exfalso
   have h2:=gap hU hdl d1 h1
   have h3:=same _ k3 (by omega)
   rw[show m-11 * T (L-121)=m-T (L-120)-T (L-121) by omega] at h3
   exact odd _ d1 h3
  ·have h2:m-T (L-120)=T (L-1):=by omega
   have hne:n≠T (L-1):=fun h3=>by rw[h3,←h2] at hn; exact k2 hn
   have h4:n<T (L-1):=by
    rcases Vr n (T (L-1)) with h5 | h5
    ·exact h5
    ·have:=gap hU (same n hn h5) hdm hlt
     omega
   have:=below n hn h4
   omega
 ·have h:=s1 k1
  have h1:=qbX (m:=m) (L:=L) (by have:=q1p (L-1); omega) (by omega) d1 k2
  have h2:m-T (L-120)≠T (L-1):=fun h3=>by
   rw[show m-11 * T (L-121)=T (L-1)-T (L-121) by omega] at k3
   exact k3 nines
  have h801p:=q1p 801
  have hb:801≤L-1:=by
   rcases Vx (L-1) 801 with h3 | h3
   ·have h4:=Int.le_of_dvd (by have:=q1p (L-1); omega) h1
    have h5:=qhj (show L≤801 by omega)
    omega
   ·exact h3
  have h3:=gap h801p (q41 hb) h1 (show T (L-1)<m-T (L-120) by omega)
  have d2:T (L-120) ∣ m-2 * T (L-120):=V6 hdm (Int.dvd_mul_left _ _)
  refine ⟨qm3 (L:=L) (by have:=q1p (L-1); omega) (by omega) d2 fun h4=>?_,fun n hn hlt=>?_⟩
  ·have h5:=V6 h1 h4
   rw[show m-T (L-120)-(m-2 * T (L-120))=T (L-120) by omega] at h5
   exact q2S hU h801 h5
  ·rcases Vr n (T (L-1)) with h4 | h4
   ·omega
   ·have h5:=gap hU (same n hn h4) hdm hlt
    rcases Vr n (m-T (L-120)) with h6 | h6
    ·have:=gap hU (same n hn h4) d1 h6
     omega
    ·have:n=m-T (L-120):=by omega
     rw[this] at hn
     exact absurd hn k2
end Ago
set_option maxRecDepth 100000
set_option exponentiation.threshold 2000
set_option maxHeartbeats 4000000
namespace Ago
open Go (IntKind)
theorem qg4 (neg:Bool) (s:List UInt8) (e:Int) (hs:s.length<2^20) (hd:digits s=true) (he : -(2^24)≤e∧e≤2^24):q0k CN 706 [.bool neg,.str s,.int .i64 e] (.tup [q0h (q2h neg (q1V s) e).1,.int .i64 (q2h neg (q1V s) e).2]):=by
 have h1:=q74 s (by omega)
 have hll:(q1V s).length≤s.length:=(List.dropWhile_sublist _).length_le
 have h2:=qcE neg (q1V s) e (by omega) he
 generalize q2h neg (q1V s) e=r at *
 generalize q1V s=t at *
 unfold q0h at *
 refine q04 qlF rfl ?_
 (repeat' first|simp (disch:=omega) only[go_sem,qlF,enter]|(apply spl<;>intro h<;>try simp (disch:=omega) only[go_sem,h]))
 all_goals first | omega | skip
 refine q07 (α:=Nat) (fun k=>{ tmps:=q0q 33 [(0,.bool neg),(1,.str s),(2,.int .i64 e),(6,.ptr 3 0 0 0),(10,.int .i64 s.length),(11,.int .i64 k)],heap:=[.row 3 [.agg [.bool false,.str [],.int .i64 0]] false true 0],base:=0 }) (fun k=>k≤s.length) (fun k=>s.length-k) 0 rfl (Kp _) ?_
 intro k hk
 by_cases hlt:k<s.length
 ·obtain ⟨c,hc⟩:=q06 hlt
  have hcd:=Ki.1 hd c (Kc hc)
  simp only[q64,decide_eq_true_eq] at hcd
  have c1 : ¬ (c.toNat:Int)<48:=by omega
  have c2 : ¬ (c.toNat:Int)>57:=by omega
  (repeat' first|simp (disch:=omega) only[go_sem,hc,c1,c2,Int.toNat_natCast]|(apply spl<;>intro h<;>try simp (disch:=omega) only[go_sem,h]))
  all_goals first | omega | skip
  exact ⟨k+1,rfl,hlt,by omega⟩
 ·(repeat' first|simp (disch:=omega) only[go_sem]|refine q00 _ (h1) ?_|refine q00 _ (h2) ?_)
  all_goals first | omega | rfl
theorem qkF (s:List UInt8) (e:Int) (hs:s.length<2^20) (hd:digits s=true) (he : -(2^24)≤e∧e≤2^24):q0k CN 697 [.str s,.int .i64 e] (q0h (q2h false (q1V s) e).1):=by
 have h:=qg4 false s e hs hd he
 generalize q2h false (q1V s) e=r at *
 unfold q0h at *
 refine q04 qlL rfl ?_
 (repeat' first|simp (disch:=omega) only[go_sem,qlL,enter]|refine q00 _ (h) ?_)
 all_goals first | omega | rfl
def mk (s:List UInt8) (e:Int):Dec:=⟨false,s,e⟩
theorem q1g {s:List UInt8} {e:Int} (h:s=[49]∨s=[50]∨s=[49,49]∨s=[53]) (he : -400≤e∧e≤400):(q2h false (q1V s) e).1=mk s e∧q0a (mk s e)=true∧digits s=true:=by
 have key : ∀ t:List UInt8,t≠[]→q1V t=t→q0H t=0→t.length≤2→q7m t=true→digits t=true→(q2h false (q1V t) e).1=mk t e∧q0a (mk t e)=true∧digits t=true:=by
  intro t h1 h2 h3 h4 h5 h6
  rw[h2]
  unfold q2h q0a mk
  rw[if_neg h1,h3,if_neg (by omega),if_neg h1]
  refine ⟨?_,?_,h6⟩
  ·simp
  ·simp [h5,h3]
   omega
 rcases h with rfl | rfl | rfl | rfl
 all_goals exact key _ (by simp) (by decide) (by decide) (by simp) (by decide) (by decide)
theorem q5J {s:List UInt8} {e:Int} (h:s=[49]∨s=[50]∨s=[49,49]∨s=[53]) (he : -400≤e∧e≤400):q0k CN 697 [.str s,.int .i64 e] (q0h (mk s e)):=by
 obtain ⟨h1,_,h3⟩:=q1g h he
 have:=qkF s e (by rcases h with rfl | rfl | rfl | rfl<;>simp) h3 (by omega)
 rwa [h1] at this
theorem qaD {s:List UInt8} {e:Int} (he : -400≤e):q0n (mk s e)=q09 s * T (e+400).toNat:=by
 unfold q0n q2R mk
 simp
theorem qaG (d:Dec) (h:q0a d=true):q0k CN 717 [q0h d] (.int .i64 (d.digits.length+d.exp)):=by
 obtain ⟨h1,h2,h3⟩:=q11 h
 refine q04 qnD rfl ?_
 obtain ⟨neg,ds,exp⟩:=d
 simp only[q0h] at *
 (repeat' first|simp (disch:=omega) only[go_sem,qnD,enter])
 all_goals first | omega | rfl
def q0P (d:Dec):Int:=if (d.digits.length:Int)+d.exp-120 < -400 then -400 else d.digits.length+d.exp-120
def qiq (d:Dec):List Dec:=
 if d.neg=false then [mk [49] (q0P d),mk [50] (q0P d),mk [49,49] (q0P d)]
 else if q0P d ≤ -400 then [mk [49] (q0P d),mk [50] (q0P d)]
 else [mk [49] (q0P d-1),mk [49] (q0P d),mk [49,49] (q0P d-1),mk [50] (q0P d)]
def q1T (d:Dec):List Dec→Dec × Bool
 | []=>(⟨false,[],0⟩,false)
 | s::l=>if (q8R d s).2=0 then ((q8R d s).1,true) else q1T d l
def q2X (d:Dec):Dec × Bool:=if d.digits=[] then (mk [49] (-400),true) else q1T d (qiq d)
theorem q7r {d:Dec} {st:List Dec} {k:Nat} {s:Dec} (h:st[k]?=some s):q1T d (st.drop k)=if (q8R d s).2=0 then ((q8R d s).1,true) else q1T d (st.drop (k+1)):=by
 obtain ⟨h1,h2⟩:=Ky.1 h
 rw[Vt h1,h2,q1T]
theorem qmD (d:Dec) (hd:q0a d=true):q0k CN 709 [q0h d] (.tup [q0h (q2X d).1,.bool (q2X d).2]):=by
 obtain ⟨f1,f2,f3⟩:=q11 hd
 have hp:=qaG d hd
 unfold q2X
 by_cases hn:d.digits=[]
 ·rw[if_pos hn]
  have h1:=q5J (s:=[49]) (e:=-400) (.inl rfl) (by omega)
  obtain ⟨nn,ds,ex⟩:=d
  simp only at hn
  subst hn
  simp only[q0h,mk] at *
  refine q04 qa5 rfl ?_
  (repeat' first|simp (disch:=omega) only[go_sem,qa5,enter]|refine q00 _ (h1) ?_)
  all_goals first | omega | rfl
 ·rw[if_neg hn]
  obtain ⟨_,_,_,g4,g5⟩:=q1k hd hn
  have hu : -400≤q0P d∧q0P d≤400:=by unfold q0P; split<;>omega
  have hmax:(if (-400:Int)>(d.digits.length:Int)+d.exp-120 then (-400:Int) else (d.digits.length:Int)+d.exp-120)=q0P d:=by
   rfl
  have q1:=q5J (s:=[49]) (e:=q0P d) (.inl rfl) hu
  have q2:=q5J (s:=[50]) (e:=q0P d) (.inr (.inl rfl)) hu
  have q3:=q5J (s:=[49,49]) (e:=q0P d) (.inr (.inr (.inl rfl))) hu
  have o1:=q1g (s:=[49]) (e:=q0P d) (.inl rfl) hu
  have o2:=q1g (s:=[50]) (e:=q0P d) (.inr (.inl rfl)) hu
  have o3:=q1g (s:=[49,49]) (e:=q0P d) (.inr (.inr (.inl rfl))) hu
  have p1:=fun h : ¬ q0P d ≤ -400=>q5J (s:=[49]) (e:=q0P d-1) (.inl rfl) (by omega)
  have p3:=fun h : ¬ q0P d ≤ -400=>q5J (s:=[49,49]) (e:=q0P d-1) (.inr (.inr (.inl rfl))) (by omega)
  have r1:=fun h : ¬ q0P d ≤ -400=>q1g (s:=[49]) (e:=q0P d-1) (.inl rfl) (by omega)
  have r3:=fun h : ¬ q0P d ≤ -400=>q1g (s:=[49,49]) (e:=q0P d-1) (.inr (.inr (.inl rfl))) (by omega)
  have hsd:qiq d=if d.neg=false then [mk [49] (q0P d),mk [50] (q0P d),mk [49,49] (q0P d)] else if q0P d ≤ -400 then [mk [49] (q0P d),mk [50] (q0P d)] else [mk [49] (q0P d-1),mk [49] (q0P d),mk [49,49] (q0P d-1),mk [50] (q0P d)]:=rfl
  rw[hsd]
  clear hsd
  generalize q0P d=u at *
  obtain ⟨nn,ds,ex⟩:=d
  simp only at *
  have hnb:(ds == ([]:List UInt8))=false:=by simp [hn]
  simp only[q0h] at hp q1 q2 q3 p1 p3 ⊢
  cases nn with
  | false=>
   rw[if_pos rfl]
   have hok : ∀ s,s∈[mk [49] u,mk [50] u,mk [49,49] u]→q0a s=true∧s.digits≠[]:=fun s hs=>by
    simp only[Ks,V2,or_false] at hs
    rcases hs with rfl | rfl | rfl
    ·exact ⟨o1.2.1,by simp [mk]⟩
    ·exact ⟨o2.2.1,by simp [mk]⟩
    ·exact ⟨o3.2.1,by simp [mk]⟩
   simp only[mk] at q1 q2 q3
   refine q04 qa5 rfl ?_
   (repeat' first|simp (disch:=omega) only[go_sem,qa5,enter,hnb,hmax]|refine q00 _ (hp) ?_|refine q00 _ (q1) ?_|refine q00 _ (q2) ?_|refine q00 _ (q3) ?_|(apply spl<;>intro h<;>try simp (disch:=omega) only[go_sem,h]))
   all_goals first | omega | skip
   obtain ⟨st,hst⟩ : ∃ st,[mk [49] u,mk [50] u,mk [49,49] u]=st:=⟨_,rfl⟩
   rw[hst] at hok ⊢
   refine q07 (α:=Nat) (fun k=>{ tmps:=q0q 67 [(1,.ptr 3 0 0 0),(2,.ptr 3 1 0 0),(45,.sref 3 2 0 st.length),(46,.int .i64 st.length),(47,.int .i64 k)],heap:=[.row 3 [.agg [.bool false,.str ds,.int .i64 ex]] false true 0,.row 3 [.agg [.bool false,.str [],.int .i64 0]] false true 1,.row 3 (st.map q0h) false true 2],base:=0 }) (fun k=>k≤st.length∧q1T ⟨false,ds,ex⟩ st=q1T ⟨false,ds,ex⟩ (st.drop k)) (fun k=>st.length-k) 0 (by rw[←hst]; rfl) ⟨Kp _,rfl⟩ ?_
   rintro k ⟨hk,hf⟩
   have hst4:st.length≤4:=by rw[←hst]; simp
   by_cases hlt:k<st.length
   ·obtain ⟨s,hs⟩:=q06 hlt
    have hsm:=Kc hs
    obtain ⟨so,sn⟩:=hok s hsm
    have ha:=qbD ⟨false,ds,ex⟩ s hd so
    have hs2:=q0c (g:=q0h) hs
    have hfd:=q7r (d:=⟨false,ds,ex⟩) hs
    rw[hfd] at hf
    generalize q8R ⟨false,ds,ex⟩ s=r at *
    obtain ⟨sneg,sds,sexp⟩:=s
    simp only[q0h] at ha hs2 sn
    have snb:(sds == ([]:List UInt8))=false:=by simp [sn]
    by_cases h0:r.2=0
    ·rw[if_pos h0] at hf
     rw[hf]; rw[h0] at ha
     (repeat' first|simp (disch:=omega) only[go_sem,hs2,Ka,snb]|refine q00 _ (ha) ?_)
     all_goals first | omega | rfl
    ·rw[if_neg h0] at hf
     (repeat' first|simp (disch:=omega) only[go_sem,hs2,Ka,snb,h0]|refine q00 _ (ha) ?_|(apply spl<;>intro h<;>try simp (disch:=omega) only[go_sem,h]))
     all_goals first | omega | skip
     exact ⟨k+1,rfl,⟨hlt,hf⟩,by omega⟩
   ·rw[KU (by omega),q1T] at hf
    rw[hf]
    (repeat' first|simp (disch:=omega) only[go_sem,Ka])
    all_goals first | omega | rfl
  | true=>
   by_cases hu4:u ≤ -400
   ·rw[if_neg (by simp),if_pos hu4]
    have hok : ∀ s,s∈[mk [49] u,mk [50] u]→q0a s=true∧s.digits≠[]:=fun s hs=>by
     simp only[Ks,V2,or_false] at hs
     rcases hs with rfl | rfl
     ·exact ⟨o1.2.1,by simp [mk]⟩
     ·exact ⟨o2.2.1,by simp [mk]⟩
    simp only[mk] at q1 q2 q3
    refine q04 qa5 rfl ?_
    (repeat' first|simp (disch:=omega) only[go_sem,qa5,enter,hnb,hmax,hu4]|refine q00 _ (hp) ?_|refine q00 _ (q1) ?_|refine q00 _ (q2) ?_|refine q00 _ (q3) ?_|(apply spl<;>intro h<;>try simp (disch:=omega) only[go_sem,h]))
    all_goals first | omega | skip
    obtain ⟨st,hst⟩ : ∃ st,[mk [49] u,mk [50] u]=st:=⟨_,rfl⟩
    rw[hst] at hok ⊢
    refine q07 (α:=Nat) (fun k=>{ tmps:=q0q 67 [(1,.ptr 3 0 0 0),(2,.ptr 3 1 0 0),(45,.sref 3 2 0 st.length),(46,.int .i64 st.length),(47,.int .i64 k)],heap:=[.row 3 [.agg [.bool true,.str ds,.int .i64 ex]] false true 0,.row 3 [.agg [.bool false,.str [],.int .i64 0]] false true 1,.row 3 (st.map q0h) false true 2],base:=0 }) (fun k=>k≤st.length∧q1T ⟨true,ds,ex⟩ st=q1T ⟨true,ds,ex⟩ (st.drop k)) (fun k=>st.length-k) 0 (by rw[←hst]; rfl) ⟨Kp _,rfl⟩ ?_
    rintro k ⟨hk,hf⟩
    have hst4:st.length≤4:=by rw[←hst]; simp
    by_cases hlt:k<st.length
    ·obtain ⟨s,hs⟩:=q06 hlt
     have hsm:=Kc hs
     obtain ⟨so,sn⟩:=hok s hsm
     have ha:=qbD ⟨true,ds,ex⟩ s hd so
     have hs2:=q0c (g:=q0h) hs
     have hfd:=q7r (d:=⟨true,ds,ex⟩) hs
     rw[hfd] at hf
     generalize q8R ⟨true,ds,ex⟩ s=r at *
     obtain ⟨sneg,sds,sexp⟩:=s
     simp only[q0h] at ha hs2 sn
     have snb:(sds == ([]:List UInt8))=false:=by simp [sn]
     by_cases h0:r.2=0
     ·rw[if_pos h0] at hf
      rw[hf]; rw[h0] at ha
      (repeat' first|simp (disch:=omega) only[go_sem,hs2,Ka,snb]|refine q00 _ (ha) ?_)
      all_goals first | omega | rfl
     ·rw[if_neg h0] at hf
      (repeat' first|simp (disch:=omega) only[go_sem,hs2,Ka,snb,h0]|refine q00 _ (ha) ?_|(apply spl<;>intro h<;>try simp (disch:=omega) only[go_sem,h]))
      all_goals first | omega | skip
      exact ⟨k+1,rfl,⟨hlt,hf⟩,by omega⟩
    ·rw[KU (by omega),q1T] at hf
     rw[hf]
     (repeat' first|simp (disch:=omega) only[go_sem,Ka])
     all_goals first | omega | rfl
   ·rw[if_neg (by simp),if_neg hu4]
    have p1:=p1 hu4
    have p3:=p3 hu4
    have r1:=r1 hu4
    have r3:=r3 hu4
    have hu5 : ¬ u ≤ -400:=hu4
    have hok : ∀ s,s∈[mk [49] (u-1),mk [49] u,mk [49,49] (u-1),mk [50] u]→q0a s=true∧s.digits≠[]:=fun s hs=>by
     simp only[Ks,V2,or_false] at hs
     rcases hs with rfl | rfl | rfl | rfl
     ·exact ⟨r1.2.1,by simp [mk]⟩
     ·exact ⟨o1.2.1,by simp [mk]⟩
     ·exact ⟨r3.2.1,by simp [mk]⟩
     ·exact ⟨o2.2.1,by simp [mk]⟩
    simp only[mk] at q1 q2 q3 p1 p3
    refine q04 qa5 rfl ?_
    (repeat' first|simp (disch:=omega) only[go_sem,qa5,enter,hnb,hmax,hu5]|refine q00 _ (hp) ?_|refine q00 _ (q1) ?_|refine q00 _ (q2) ?_|refine q00 _ (q3) ?_|refine q00 _ (p1) ?_|refine q00 _ (p3) ?_|(apply spl<;>intro h<;>try simp (disch:=omega) only[go_sem,h]))
    all_goals first | omega | skip
    obtain ⟨st,hst⟩ : ∃ st,[mk [49] (u-1),mk [49] u,mk [49,49] (u-1),mk [50] u]=st:=⟨_,rfl⟩
    rw[hst] at hok ⊢
    refine q07 (α:=Nat) (fun k=>{ tmps:=q0q 67 [(1,.ptr 3 0 0 0),(2,.ptr 3 1 0 0),(45,.sref 3 2 0 st.length),(46,.int .i64 st.length),(47,.int .i64 k)],heap:=[.row 3 [.agg [.bool true,.str ds,.int .i64 ex]] false true 0,.row 3 [.agg [.bool false,.str [],.int .i64 0]] false true 1,.row 3 (st.map q0h) false true 2],base:=0 }) (fun k=>k≤st.length∧q1T ⟨true,ds,ex⟩ st=q1T ⟨true,ds,ex⟩ (st.drop k)) (fun k=>st.length-k) 0 (by rw[←hst]; rfl) ⟨Kp _,rfl⟩ ?_
    rintro k ⟨hk,hf⟩
    have hst4:st.length≤4:=by rw[←hst]; simp
    by_cases hlt:k<st.length
    ·obtain ⟨s,hs⟩:=q06 hlt
     have hsm:=Kc hs
     obtain ⟨so,sn⟩:=hok s hsm
     have ha:=qbD ⟨true,ds,ex⟩ s hd so
     have hs2:=q0c (g:=q0h) hs
     have hfd:=q7r (d:=⟨true,ds,ex⟩) hs
     rw[hfd] at hf
     generalize q8R ⟨true,ds,ex⟩ s=r at *
     obtain ⟨sneg,sds,sexp⟩:=s
     simp only[q0h] at ha hs2 sn
     have snb:(sds == ([]:List UInt8))=false:=by simp [sn]
     by_cases h0:r.2=0
     ·rw[if_pos h0] at hf
      rw[hf]; rw[h0] at ha
      (repeat' first|simp (disch:=omega) only[go_sem,hs2,Ka,snb]|refine q00 _ (ha) ?_)
      all_goals first | omega | rfl
     ·rw[if_neg h0] at hf
      (repeat' first|simp (disch:=omega) only[go_sem,hs2,Ka,snb,h0]|refine q00 _ (ha) ?_|(apply spl<;>intro h<;>try simp (disch:=omega) only[go_sem,h]))
      all_goals first | omega | skip
      exact ⟨k+1,rfl,⟨hlt,hf⟩,by omega⟩
    ·rw[KU (by omega),q1T] at hf
     rw[hf]
     (repeat' first|simp (disch:=omega) only[go_sem,Ka])
     all_goals first | omega | rfl
end Ago
set_option maxRecDepth 100000
set_option exponentiation.threshold 2000
namespace Ago
theorem qk5 {d:Dec} (hd:q0a d=true) (hn:d.digits≠[]):Pl (q2R d) (d.digits.length+(d.exp+400).toNat):=by
 obtain ⟨h1,h2,h3,h4,h5⟩:=q1k hd hn
 have hp:=h1.pad (d.exp+400).toNat
 have e:q2R d=q09 (pad d.digits (d.exp+400).toNat):=by rw[q29]; rfl
 have hl:(pad d.digits (d.exp+400).toNat).length=d.digits.length+(d.exp+400).toNat:=by simp [pad]
 have hlen:=Ve.2 h1.ne
 have k1:=hp.low
 have k2:=(q0w _ hp.dig).2
 rw[hl] at k1 k2
 rw[e]
 exact ⟨by omega,k1,k2⟩
theorem qlq {d s:Dec} {v:Int} (hd:q0a d=true) (hs:q0a s=true) (hv:q0n d+q0n s=v):((q8R d s).2=0∧q0a (q8R d s).1=true∧q0n (q8R d s).1=v)∨((q8R d s).2≠0∧¬ IsV v):=by
 obtain ⟨h1,h2⟩:=qnY hd hs
 rw[hv] at h1 h2
 by_cases h:(q8R d s).2=0
 ·exact .inl ⟨h,h1 h⟩
 ·exact .inr ⟨h,fun ⟨y,hy,e⟩=>(h2 h).2 y hy e⟩
def qlg (d:Dec) (r:Dec × Bool):Prop:=
 (r.2=true→q0a r.1=true∧q0n d<q0n r.1∧∀ y,q0a y=true→q0n d<q0n y→q0n r.1≤q0n y)∧(r.2=false→r.1=⟨false,[],0⟩∧∀ y,q0a y=true→q0n y≤q0n d)
theorem q3Q {d x:Dec} {v:Int} (h1:q0a x=true) (h2:q0n x=v) (h3:q0n d<v) (h4 : ∀ n,IsV n→q0n d<n→v≤n):qlg d (x,true):=
 ⟨fun _=>⟨h1,by simp only; omega,fun y hy hlt=>by simp only; rw[h2]; exact h4 _ ⟨y,hy,rfl⟩ hlt⟩,fun h=>by cases h⟩
theorem qva {d:Dec} (hd:q0a d=true) (hn:d.digits≠[]):(q0P d+400).toNat=d.digits.length+(d.exp+400).toNat-120∧-400≤q0P d∧q0P d≤400∧(q0P d ≤ -400↔d.digits.length+(d.exp+400).toNat≤120)∧(¬ q0P d ≤ -400→(q0P d-1+400).toNat=d.digits.length+(d.exp+400).toNat-121):=by
 obtain ⟨h1,h2,h3,h4,h5⟩:=q1k hd hn
 have hlen:=Ve.2 h1.ne
 unfold q0P
 split<;>omega
theorem f49:q09 [49]=1:=by decide
theorem f50:q09 [50]=2:=by decide
theorem f11:q09 [49,49]=11:=by decide
theorem q5h (d:Dec) (hd:q0a d=true):qlg d (q2X d):=by
 unfold q2X
 by_cases hn:d.digits=[]
 ·rw[if_pos hn]
  have hv:q0n d=0:=by
   unfold q0n
   rw[q2o hn]
   split<;>rfl
  have hk:q0n (mk [49] (-400))=1:=by rw[qaD (by omega),f49]; rfl
  exact q3Q (q1g (.inl rfl) (by omega)).2.1 hk (by omega) fun n _ h=>by omega
 rw[if_neg hn]
 have hP:=qk5 hd hn
 have hm0:=q5B hd hn
 obtain ⟨u1,u2,u3,u4,u5⟩:=qva hd hn
 generalize d.digits.length+(d.exp+400).toNat=L at *
 have hU:=q1p (L-120)
 have k1:=q1g (s:=[49]) (e:=q0P d) (.inl rfl) ⟨u2,u3⟩
 have k2:=q1g (s:=[50]) (e:=q0P d) (.inr (.inl rfl)) ⟨u2,u3⟩
 have k3:=q1g (s:=[49,49]) (e:=q0P d) (.inr (.inr (.inl rfl))) ⟨u2,u3⟩
 have v1:q0n (mk [49] (q0P d))=T (L-120):=by rw[qaD u2,f49,u1]; omega
 have v2:q0n (mk [50] (q0P d))=2 * T (L-120):=by rw[qaD u2,f50,u1]
 have v3:q0n (mk [49,49] (q0P d))=11 * T (L-120):=by rw[qaD u2,f11,u1]
 unfold qiq
 cases hneg:d.neg with
 | false=>
  rw[if_pos rfl]
  have hv:q0n d=q2R d:=by unfold q0n; rw[if_neg (by simp [hneg])]
  have hV:IsV (q2R d):=⟨d,hd,hv⟩
  obtain ⟨s1,s2,s3,s4⟩:=qmi hV hP
  rw[q1T,q1T,q1T,q1T]
  rw[←hv] at s1 s2 s3 s4
  rcases qlq (v:=q0n d+T (L-120)) hd k1.2.1 (by rw[v1]) with ⟨a,b,c⟩ | ⟨a,n1⟩
  ·rw[if_pos a]
   exact q3Q b c (by omega) (s1 ⟨_,b,c⟩)
  rw[if_neg a]
  rcases qlq (v:=q0n d+2 * T (L-120)) hd k2.2.1 (by rw[v2]) with ⟨a,b,c⟩ | ⟨a,n2⟩
  ·rw[if_pos a]
   exact q3Q b c (by omega) (s2 n1 ⟨_,b,c⟩)
  rw[if_neg a]
  rcases qlq (v:=q0n d+11 * T (L-120)) hd k3.2.1 (by rw[v3]) with ⟨a,b,c⟩ | ⟨a,n3⟩
  ·rw[if_pos a]
   exact q3Q b c (by omega) (s3 n1 n2 ⟨_,b,c⟩)
  rw[if_neg a]
  exact ⟨fun h=>(nomatch h),fun _=>⟨rfl,fun y hy=>s4 n1 n2 n3 _ ⟨y,hy,rfl⟩⟩⟩
 | true=>
  rw[if_neg (by simp)]
  have hv:q0n d = - q2R d:=by unfold q0n; rw[if_pos hneg]
  have hV:IsV (q2R d):=by
   have:=q4l (n:=q0n d) ⟨d,hd,rfl⟩
   rwa [hv,Int.neg_neg] at this
  -- numbers above,from the other side of 0
  have flip : ∀ {b:Int} {x:Dec},q0a x=true→q0n x=q0n d+b→0<b→(∀ n,IsV n→n<q2R d→n≤q2R d-b)→qlg d (x,true):=fun {b x} h1 h2 h3 h4=>by
   refine q3Q h1 h2 (by omega) fun n hn2 hlt=>?_
   have:=h4 (-n) (q4l hn2) (by omega)
   omega
  have neg_of : ∀ {b:Int},IsV (q2R d-b)→IsV (q0n d+b):=fun {b} h=>by
   have:=q4l h
   rwa [show -(q2R d-b)=q0n d+b by omega] at this
  have of_neg : ∀ {b:Int},IsV (q0n d+b)→IsV (q2R d-b):=fun {b} h=>by
   have:=q4l h
   rwa [show -(q0n d+b)=q2R d-b by omega] at this
  by_cases hu:q0P d ≤ -400
  ·rw[if_pos hu,q1T]
   have hL:L≤120:=u4.1 hu
   have e1:T (L-120)=1:=by rw[show L-120=0 by omega]; rfl
   rcases qlq (v:=q0n d+1) hd k1.2.1 (by rw[v1,e1]) with ⟨a,b,c⟩ | ⟨a,n1⟩
   ·rw[if_pos a]
    exact flip b c (by omega) fun n _ h=>by omega
   ·exact absurd (neg_of (qhG hV hP hL)) n1
  ·rw[if_neg hu]
   have hL:120<L:=by
    rcases Vx 120 L with h | h
    ·exact h
    ·exact absurd (u4.2 h) hu
   obtain ⟨s1,s2,s3,s4⟩:=qo2 hV hP hL
   have u5:=u5 hu
   have hW:=q1p (L-121)
   have e10:T (L-120)=10 * T (L-121):=by rw[←q6u]; congr 1; omega
   have k4:=q1g (s:=[49]) (e:=q0P d-1) (.inl rfl) ⟨by omega,by omega⟩
   have k5:=q1g (s:=[49,49]) (e:=q0P d-1) (.inr (.inr (.inl rfl))) ⟨by omega,by omega⟩
   have v4:q0n (mk [49] (q0P d-1))=T (L-121):=by rw[qaD (by omega),f49,u5]; omega
   have v5:q0n (mk [49,49] (q0P d-1))=11 * T (L-121):=by rw[qaD (by omega),f11,u5]
   rw[q1T,q1T,q1T,q1T,q1T]
   rcases qlq (v:=q0n d+T (L-121)) hd k4.2.1 (by rw[v4]) with ⟨a,b,c⟩ | ⟨a,n1⟩
   ·rw[if_pos a]
    exact flip b c (by omega) (s1 (of_neg ⟨_,b,c⟩))
   rw[if_neg a]
   have n1:=fun h=>n1 (neg_of h)
   rcases qlq (v:=q0n d+T (L-120)) hd k1.2.1 (by rw[v1]) with ⟨a,b,c⟩ | ⟨a,n2⟩
   ·rw[if_pos a]
    exact flip b c (by omega) (s2 n1 (of_neg ⟨_,b,c⟩))
   rw[if_neg a]
   have n2:=fun h=>n2 (neg_of h)
   rcases qlq (v:=q0n d+11 * T (L-121)) hd k5.2.1 (by rw[v5]) with ⟨a,b,c⟩ | ⟨a,n3⟩
   ·rw[if_pos a]
    exact flip b c (by omega) (s3 n1 n2 (of_neg ⟨_,b,c⟩))
   rw[if_neg a]
   have n3:=fun h=>n3 (neg_of h)
   obtain ⟨s5,s6⟩:=s4 n1 n2 n3
   rcases qlq (v:=q0n d+2 * T (L-120)) hd k2.2.1 (by rw[v2]) with ⟨a,b,c⟩ | ⟨a,n4⟩
   ·rw[if_pos a]
    exact flip b c (by omega) s6
   ·exact absurd (neg_of s5) n4
end Ago
set_option maxRecDepth 100000
set_option exponentiation.threshold 2000
set_option maxHeartbeats 4000000
namespace Ago
open Go (IntKind)
end Ago
set_option maxRecDepth 100000
set_option exponentiation.threshold 2000
set_option maxHeartbeats 4000000
namespace Ago
open Go (IntKind)
end Ago
set_option maxRecDepth 100000
set_option exponentiation.threshold 2000
set_option maxHeartbeats 4000000
namespace Ago
open Go (IntKind)
theorem q25 {d:Dec} (hd:q0a d=true):0≤d.exp↔T 400 ∣ q0n d:=by
 have hm:T 400 ∣ q2R d↔T 400 ∣ q0n d:=by
  unfold q0n
  split
  ·exact Int.dvd_neg.symm
  ·exact Iff.rfl
 rw[←hm]
 by_cases hn:d.digits=[]
 ·have:=q4o hd hn
  rw[q2o hn,this]
  simp
 ·obtain ⟨h1,h2,h3,h4,h5⟩:=q1k hd hn
  constructor
  ·intro h
   unfold q2R
   exact V5 (q41 (show 400≤(d.exp+400).toNat by omega)) (Int.dvd_mul_left _ _)
  ·rintro ⟨c,hc⟩
   rcases Vr d.exp 0 with h | h
   ·exfalso
    have hl:=qiD h1 h2
    apply hl
    obtain ⟨E,hE⟩ : ∃ E:Nat,(d.exp+400).toNat=E:=⟨_,rfl⟩
    unfold q2R at hc
    rw[hE] at hc
    have e:T 400=T (399-E) * 10 * T E:=by
     show (10:Int)^400=10^(399-E) * 10 * 10^E
     rw[show (10:Int)^(399-E) * 10=10^(399-E+1) from (V9 10 (399-E)).symm,←Int.pow_add]
     congr 1
     omega
    rw[e] at hc
    have h6:q09 d.digits * T E=(T (399-E) * 10 * c) * T E:=by
     show q09 d.digits * 10^E=_
     rw[hc,VP (T (399-E) * 10),VW (T E) c,←VP]
    have h7:=Int.eq_of_mul_eq_mul_right (by have:=q1p E; omega) h6
    exact ⟨T (399-E) * c,by rw[h7,VW (T (399-E)) 10,VP]⟩
   ·exact h
def q6i (v:Int) (opn:Bool) (n:Int):Prop:=if opn=true then v<n else v≤n
theorem qix {d:Dec} (hd:q0a d=true) (hn:d.digits≠[]) {K:Nat} (h:(d.digits.length:Int)+d.exp+400≤K):q2R d<T K:=by
 have hp:=(qk5 hd hn).2.2
 obtain ⟨_,_,_,h4,_⟩:=q1k hd hn
 have:=qhj (show d.digits.length+(d.exp+400).toNat≤K by omega)
 omega
theorem qqo {d:Dec} (hd:q0a d=true) (hn:d.digits≠[]) {K:Nat} (h:(K:Int)<d.digits.length+d.exp+400):T K≤q2R d:=by
 have hp:=(qk5 hd hn).2.1
 obtain ⟨_,_,_,h4,_⟩:=q1k hd hn
 have:=qhj (show K≤d.digits.length+(d.exp+400).toNat-1 by omega)
 omega
theorem qjN (d:Dec):q0n d=q2R d∨q0n d = - q2R d:=by
 unfold q0n
 split
 ·exact .inr rfl
 ·exact .inl rfl
end Ago
set_option maxRecDepth 100000
set_option exponentiation.threshold 2000
set_option maxHeartbeats 4000000
namespace Ago
open Go (IntKind)
open Go.Lib (repeatL)
theorem quJ : ∀ n,repeatL [57] n=List.replicate n 57
 | 0=>rfl
 | n+1=>by simp [repeatL,quJ n,Vs]
theorem qiM:q0k CN 291 [.str [57],.int .i64 120] (.str (List.replicate 120 57)):=by
 have h1:=qiN [57] 120 (by simp) (by omega)
 rw[quJ] at h1
 exact qeT (F:=qrk) rfl h1
def q6t:Dec:=⟨true,List.replicate 120 57,-1⟩
theorem qgV:q2h true (q1V (List.replicate 120 57)) (-1)=(q6t,0):=by
 have e1:q1V (List.replicate 120 57)=List.replicate 120 57:=by decide +kernel
 have e2:q0H (List.replicate 120 57)=0:=by decide +kernel
 rw[e1]
 unfold q2h q6t
 rw[if_neg (by simp),e2,if_neg (by simp)]
 simp
theorem qjT:digits (List.replicate 120 57)=true:=by decide +kernel
theorem qgl:q0a q6t=true:=by decide +kernel
theorem qib:q0n q6t = -((T 120-1) * T 399):=by
 unfold q0n q2R q6t
 simp only[if_true]
 have e1:q09 (List.replicate 120 57)=T 120-1:=by decide +kernel
 have e2:((-1:Int)+400).toNat=399:=rfl
 rw[e1,e2]
def q1K:Nat→Dec→Dec × Bool
 | 0,_=>(⟨false,[],0⟩,false)
 | k+1,x=>if (q2X x).2=false then (⟨false,[],0⟩,false) else if (q2X x).1.exp<0 then ((q2X x).1,true) else q1K k (q2X x).1
def q48 (d:Dec) (opn:Bool):Dec × Bool:=
 if d.exp<0∧opn=false then (d,true)
 else if d.digits≠[]∧120≤(d.digits.length:Int)+d.exp then (q6t,d.neg)
 else q1K 3 d
theorem qbU {d:Dec} (hd:q0a d=true):q0a (q2X d).1=true:=by
 obtain ⟨h1,h2⟩:=q5h d hd
 cases hb:(q2X d).2 with
 | true=>exact (h1 hb).1
 | false=>rw[(h2 hb).1]; decide
theorem qkZ (d:Dec) (opn:Bool) (hd:q0a d=true):q0k CN 708 [q0h d,.bool opn] (.tup [q0h (q48 d opn).1,.bool (q48 d opn).2]):=by
 have hw:=q3E d
 have hp:=qaG d hd
 have h9:=qiM
 have hmk:=qg4 true (List.replicate 120 57) (-1) (by simp) qjT (by omega)
 rw[qgV] at hmk
 have hnx:=fun x (h:q0a x=true)=>qmD x h
 have hwx:=fun x=>q3E x
 unfold q48
 by_cases hfo:d.exp<0∧opn=false
 ·rw[if_pos hfo]
  obtain ⟨he,rfl⟩:=hfo
  rw[decide_eq_false (show ¬ 0≤d.exp by omega)] at hw
  obtain ⟨nn,ds,ex⟩:=d
  simp only[q0h] at *
  refine q04 q7G rfl ?_
  (repeat' first|simp (disch:=omega) only[go_sem,q7G,enter]|refine q00 _ (hw) ?_)
  all_goals first | omega | rfl
 rw[if_neg hfo]
 by_cases hs:d.digits≠[]∧120≤(d.digits.length:Int)+d.exp
 ·rw[if_pos hs]
  obtain ⟨hn,hs⟩:=hs
  have hnb:(d.digits == ([]:List UInt8))=false:=by simp [hn]
  obtain ⟨nn,ds,ex⟩:=d
  simp only[q0h,q6t] at *
  generalize List.replicate 120 (57:UInt8)=w9 at *
  by_cases he:ex<0
  ·have ho:opn=true:=by
    cases opn with
    | true=>rfl
    | false=>exact absurd ⟨he,rfl⟩ hfo
   subst ho
   rw[decide_eq_false (show ¬ 0≤ex by omega)] at hw
   cases nn
   all_goals
    refine q04 q7G rfl ?_
    (repeat' first|simp (disch:=omega) only[go_sem,q7G,enter,hnb,hs]|refine q00 _ (hw) ?_|refine q00 _ (hp) ?_|refine q00 _ (h9) ?_|refine q00 _ (hmk) ?_)
    all_goals first | omega | rfl
  ·rw[decide_eq_true (show 0≤ex by omega)] at hw
   cases nn
   all_goals
    refine q04 q7G rfl ?_
    (repeat' first|simp (disch:=omega) only[go_sem,q7G,enter,hnb,hs]|refine q00 _ (hw) ?_|refine q00 _ (hp) ?_|refine q00 _ (h9) ?_|refine q00 _ (hmk) ?_)
    all_goals first | omega | rfl
 ·rw[if_neg hs]
  have hL : ∀ D:Dec,D=d→q0k CN 708 [q0h d,.bool opn] (.tup [q0h (q1K 3 D).1,.bool (q1K 3 D).2]):=by
   intro D hD
   refine q04 q7G rfl ?_
   have hd2:q0a D=true:=by rw[hD]; exact hd
   have hpre:d.digits=[]∨¬ 120≤(d.digits.length:Int)+d.exp:=by
    by_cases h:d.digits=[]
    ·exact .inl h
    ·exact .inr fun h2=>hs ⟨h,h2⟩
   generalize hR:q1K 3 D=R
   obtain ⟨nn,ds,ex⟩:=d
   simp only[q0h] at hw hp ⊢
   simp only at hpre
   by_cases he:ex<0
   ·have ho:opn=true:=by
     cases opn with
     | true=>rfl
     | false=>exact absurd ⟨he,rfl⟩ hfo
    subst ho
    rw[decide_eq_false (show ¬ 0≤ex by omega)] at hw
    by_cases hn:ds=[]
    ·subst hn
     (repeat' first|simp (disch:=omega) only[go_sem,q7G,enter]|refine q00 _ (hw) ?_|refine q00 _ (hp) ?_|(apply spl<;>intro h<;>try simp (disch:=omega) only[go_sem,h]))
     all_goals first | omega | skip
     have hD0:q0a ⟨nn,[],ex⟩=true:=hd
     have hR0:R=q1K 3 ⟨nn,[],ex⟩:=by rw[←hR,hD]
     clear hR hD hd2 hs hfo hw hp h9 hmk hd
     refine q07 (α:=Nat × Dec × Bool) (fun a=>{ tmps:=q0q 58 [(2,.ptr 3 0 0 0),(4,.ptr 3 1 0 0),(8,.bool a.2.2),(9,.int .i64 a.1)],heap:=[.row 3 [q0h a.2.1] false true 0,.row 3 [.agg [.bool false,.str [],.int .i64 0]] false true 1],base:=0 }) (fun a=>a.1≤3∧q0a a.2.1=true∧(a.2.2=true→R=q1K (3-a.1) a.2.1)∧(a.2.2=false→R=(⟨false,[],0⟩,false))) (fun a=>3-a.1) (0,⟨nn,[],ex⟩,true) rfl ⟨by simp,hD0,fun _=>hR0,fun h=>(nomatch h)⟩ ?_
     clear hD0 hR0
     rintro ⟨i,x,b⟩ ⟨hi,hx,h1,h2⟩
     simp only at hi hx h1 h2
     by_cases hc:i<3∧b=true
     ·obtain ⟨hlt,rfl⟩:=hc
      have h1:=h1 rfl
      have hn:=hnx x hx
      have hwn:=hwx (q2X x).1
      have hok:=qbU hx
      rw[show 3-i=(2-i)+1 by omega,q1K] at h1
      generalize q2X x=N at *
      obtain ⟨⟨nn',ds',ex'⟩,b'⟩:=N
      obtain ⟨xn,xd,xe⟩:=x
      simp only[q0h] at *
      cases b' with
      | false=>
       rw[if_pos rfl] at h1
       by_cases he':0≤ex'
       ·rw[decide_eq_true he'] at hwn
        (repeat' first|simp (disch:=omega) only[go_sem]|refine q00 _ (hn) ?_|refine q00 _ (hwn) ?_|(apply spl<;>intro h<;>try simp (disch:=omega) only[go_sem,h]))
        all_goals first | omega | skip
        exact ⟨(i+1,⟨nn',ds',ex'⟩,false),rfl,⟨hlt,hok,fun h=>(nomatch h),fun _=>h1⟩,by simp only; omega⟩
       ·rw[decide_eq_false he'] at hwn
        (repeat' first|simp (disch:=omega) only[go_sem]|refine q00 _ (hn) ?_|refine q00 _ (hwn) ?_|(apply spl<;>intro h<;>try simp (disch:=omega) only[go_sem,h]))
        all_goals first | omega | skip
        exact ⟨(i+1,⟨nn',ds',ex'⟩,false),rfl,⟨hlt,hok,fun h=>(nomatch h),fun _=>h1⟩,by simp only; omega⟩
      | true=>
       rw[if_neg (by simp)] at h1
       by_cases he':0≤ex'
       ·rw[if_neg (by omega)] at h1
        rw[decide_eq_true he'] at hwn
        (repeat' first|simp (disch:=omega) only[go_sem]|refine q00 _ (hn) ?_|refine q00 _ (hwn) ?_|(apply spl<;>intro h<;>try simp (disch:=omega) only[go_sem,h]))
        all_goals first | omega | skip
        exact ⟨(i+1,⟨nn',ds',ex'⟩,true),rfl,⟨hlt,hok,fun _=>by rw[h1]; congr 1; omega,fun h=>(nomatch h)⟩,by simp only; omega⟩
       ·rw[if_pos (by omega)] at h1
        rw[decide_eq_false he'] at hwn
        rw[h1]
        (repeat' first|simp (disch:=omega) only[go_sem]|refine q00 _ (hn) ?_|refine q00 _ (hwn) ?_)
        all_goals first | omega | rfl
     ·have hz:R=(⟨false,[],0⟩,false):=by
       cases b with
       | false=>exact h2 rfl
       | true=>
        have:i=3:=by
         rcases Vx i 3 with h | h
         ·exact absurd ⟨h,rfl⟩ hc
         ·omega
        rw[h1 rfl,this,V7,q1K]
      rw[hz]
      clear h1 h2 hz
      obtain ⟨xn,xd,xe⟩:=x
      simp only[q0h]
      by_cases hlt:i<3
      ·have hbf:b=false:=by
        cases b with
        | false=>rfl
        | true=>exact absurd ⟨hlt,rfl⟩ hc
       subst hbf
       (repeat' first|simp (disch:=omega) only[go_sem,hlt])
       all_goals first | omega | rfl
      ·cases b
       all_goals
        (repeat' first|simp (disch:=omega) only[go_sem,hlt])
        all_goals first | omega | rfl
    ·have hnb:(ds == ([]:List UInt8))=false:=by simp [hn]
     have h0 : ¬ 120≤(ds.length:Int)+ex:=by
      rcases hpre with h | h
      ·exact absurd h hn
      ·exact h
     (repeat' first|simp (disch:=omega) only[go_sem,q7G,enter,hnb,h0]|refine q00 _ (hw) ?_|refine q00 _ (hp) ?_|(apply spl<;>intro h<;>try simp (disch:=omega) only[go_sem,h]))
     all_goals first | omega | skip
     have hD0:q0a ⟨nn,ds,ex⟩=true:=hd
     have hR0:R=q1K 3 ⟨nn,ds,ex⟩:=by rw[←hR,hD]
     clear hR hD hd2 hs hfo hw hp h9 hmk hd
     refine q07 (α:=Nat × Dec × Bool) (fun a=>{ tmps:=q0q 58 [(2,.ptr 3 0 0 0),(4,.ptr 3 1 0 0),(8,.bool a.2.2),(9,.int .i64 a.1)],heap:=[.row 3 [q0h a.2.1] false true 0,.row 3 [.agg [.bool false,.str [],.int .i64 0]] false true 1],base:=0 }) (fun a=>a.1≤3∧q0a a.2.1=true∧(a.2.2=true→R=q1K (3-a.1) a.2.1)∧(a.2.2=false→R=(⟨false,[],0⟩,false))) (fun a=>3-a.1) (0,⟨nn,ds,ex⟩,true) rfl ⟨by simp,hD0,fun _=>hR0,fun h=>(nomatch h)⟩ ?_
     clear hD0 hR0
     rintro ⟨i,x,b⟩ ⟨hi,hx,h1,h2⟩
     simp only at hi hx h1 h2
     by_cases hc:i<3∧b=true
     ·obtain ⟨hlt,rfl⟩:=hc
      have h1:=h1 rfl
      have hn:=hnx x hx
      have hwn:=hwx (q2X x).1
      have hok:=qbU hx
      rw[show 3-i=(2-i)+1 by omega,q1K] at h1
      generalize q2X x=N at *
      obtain ⟨⟨nn',ds',ex'⟩,b'⟩:=N
      obtain ⟨xn,xd,xe⟩:=x
      simp only[q0h] at *
      cases b' with
      | false=>
       rw[if_pos rfl] at h1
       by_cases he':0≤ex'
       ·rw[decide_eq_true he'] at hwn
        (repeat' first|simp (disch:=omega) only[go_sem]|refine q00 _ (hn) ?_|refine q00 _ (hwn) ?_|(apply spl<;>intro h<;>try simp (disch:=omega) only[go_sem,h]))
        all_goals first | omega | skip
        exact ⟨(i+1,⟨nn',ds',ex'⟩,false),rfl,⟨hlt,hok,fun h=>(nomatch h),fun _=>h1⟩,by simp only; omega⟩
       ·rw[decide_eq_false he'] at hwn
        (repeat' first|simp (disch:=omega) only[go_sem]|refine q00 _ (hn) ?_|refine q00 _ (hwn) ?_|(apply spl<;>intro h<;>try simp (disch:=omega) only[go_sem,h]))
        all_goals first | omega | skip
        exact ⟨(i+1,⟨nn',ds',ex'⟩,false),rfl,⟨hlt,hok,fun h=>(nomatch h),fun _=>h1⟩,by simp only; omega⟩
      | true=>
       rw[if_neg (by simp)] at h1
       by_cases he':0≤ex'
       ·rw[if_neg (by omega)] at h1
        rw[decide_eq_true he'] at hwn
        (repeat' first|simp (disch:=omega) only[go_sem]|refine q00 _ (hn) ?_|refine q00 _ (hwn) ?_|(apply spl<;>intro h<;>try simp (disch:=omega) only[go_sem,h]))
        all_goals first | omega | skip
        exact ⟨(i+1,⟨nn',ds',ex'⟩,true),rfl,⟨hlt,hok,fun _=>by rw[h1]; congr 1; omega,fun h=>(nomatch h)⟩,by simp only; omega⟩
       ·rw[if_pos (by omega)] at h1
        rw[decide_eq_false he'] at hwn
        rw[h1]
        (repeat' first|simp (disch:=omega) only[go_sem]|refine q00 _ (hn) ?_|refine q00 _ (hwn) ?_)
        all_goals first | omega | rfl
     ·have hz:R=(⟨false,[],0⟩,false):=by
       cases b with
       | false=>exact h2 rfl
       | true=>
        have:i=3:=by
         rcases Vx i 3 with h | h
         ·exact absurd ⟨h,rfl⟩ hc
         ·omega
        rw[h1 rfl,this,V7,q1K]
      rw[hz]
      clear h1 h2 hz
      obtain ⟨xn,xd,xe⟩:=x
      simp only[q0h]
      by_cases hlt:i<3
      ·have hbf:b=false:=by
        cases b with
        | false=>rfl
        | true=>exact absurd ⟨hlt,rfl⟩ hc
       subst hbf
       (repeat' first|simp (disch:=omega) only[go_sem,hlt])
       all_goals first | omega | rfl
      ·cases b
       all_goals
        (repeat' first|simp (disch:=omega) only[go_sem,hlt])
        all_goals first | omega | rfl
   ·rw[decide_eq_true (show 0≤ex by omega)] at hw
    by_cases hn:ds=[]
    ·subst hn
     (repeat' first|simp (disch:=omega) only[go_sem,q7G,enter]|refine q00 _ (hw) ?_|refine q00 _ (hp) ?_|(apply spl<;>intro h<;>try simp (disch:=omega) only[go_sem,h]))
     all_goals first | omega | skip
     have hD0:q0a ⟨nn,[],ex⟩=true:=hd
     have hR0:R=q1K 3 ⟨nn,[],ex⟩:=by rw[←hR,hD]
     clear hR hD hd2 hs hfo hw hp h9 hmk hd
     refine q07 (α:=Nat × Dec × Bool) (fun a=>{ tmps:=q0q 58 [(2,.ptr 3 0 0 0),(4,.ptr 3 1 0 0),(8,.bool a.2.2),(9,.int .i64 a.1)],heap:=[.row 3 [q0h a.2.1] false true 0,.row 3 [.agg [.bool false,.str [],.int .i64 0]] false true 1],base:=0 }) (fun a=>a.1≤3∧q0a a.2.1=true∧(a.2.2=true→R=q1K (3-a.1) a.2.1)∧(a.2.2=false→R=(⟨false,[],0⟩,false))) (fun a=>3-a.1) (0,⟨nn,[],ex⟩,true) rfl ⟨by simp,hD0,fun _=>hR0,fun h=>(nomatch h)⟩ ?_
     clear hD0 hR0
     rintro ⟨i,x,b⟩ ⟨hi,hx,h1,h2⟩
     simp only at hi hx h1 h2
     by_cases hc:i<3∧b=true
     ·obtain ⟨hlt,rfl⟩:=hc
      have h1:=h1 rfl
      have hn:=hnx x hx
      have hwn:=hwx (q2X x).1
      have hok:=qbU hx
      rw[show 3-i=(2-i)+1 by omega,q1K] at h1
      generalize q2X x=N at *
      obtain ⟨⟨nn',ds',ex'⟩,b'⟩:=N
      obtain ⟨xn,xd,xe⟩:=x
      simp only[q0h] at *
      cases b' with
      | false=>
       rw[if_pos rfl] at h1
       by_cases he':0≤ex'
       ·rw[decide_eq_true he'] at hwn
        (repeat' first|simp (disch:=omega) only[go_sem]|refine q00 _ (hn) ?_|refine q00 _ (hwn) ?_|(apply spl<;>intro h<;>try simp (disch:=omega) only[go_sem,h]))
        all_goals first | omega | skip
        exact ⟨(i+1,⟨nn',ds',ex'⟩,false),rfl,⟨hlt,hok,fun h=>(nomatch h),fun _=>h1⟩,by simp only; omega⟩
       ·rw[decide_eq_false he'] at hwn
        (repeat' first|simp (disch:=omega) only[go_sem]|refine q00 _ (hn) ?_|refine q00 _ (hwn) ?_|(apply spl<;>intro h<;>try simp (disch:=omega) only[go_sem,h]))
        all_goals first | omega | skip
        exact ⟨(i+1,⟨nn',ds',ex'⟩,false),rfl,⟨hlt,hok,fun h=>(nomatch h),fun _=>h1⟩,by simp only; omega⟩
      | true=>
       rw[if_neg (by simp)] at h1
       by_cases he':0≤ex'
       ·rw[if_neg (by omega)] at h1
        rw[decide_eq_true he'] at hwn
        (repeat' first|simp (disch:=omega) only[go_sem]|refine q00 _ (hn) ?_|refine q00 _ (hwn) ?_|(apply spl<;>intro h<;>try simp (disch:=omega) only[go_sem,h]))
        all_goals first | omega | skip
        exact ⟨(i+1,⟨nn',ds',ex'⟩,true),rfl,⟨hlt,hok,fun _=>by rw[h1]; congr 1; omega,fun h=>(nomatch h)⟩,by simp only; omega⟩
       ·rw[if_pos (by omega)] at h1
        rw[decide_eq_false he'] at hwn
        rw[h1]
        (repeat' first|simp (disch:=omega) only[go_sem]|refine q00 _ (hn) ?_|refine q00 _ (hwn) ?_)
        all_goals first | omega | rfl
     ·have hz:R=(⟨false,[],0⟩,false):=by
       cases b with
       | false=>exact h2 rfl
       | true=>
        have:i=3:=by
         rcases Vx i 3 with h | h
         ·exact absurd ⟨h,rfl⟩ hc
         ·omega
        rw[h1 rfl,this,V7,q1K]
      rw[hz]
      clear h1 h2 hz
      obtain ⟨xn,xd,xe⟩:=x
      simp only[q0h]
      by_cases hlt:i<3
      ·have hbf:b=false:=by
        cases b with
        | false=>rfl
        | true=>exact absurd ⟨hlt,rfl⟩ hc
       subst hbf
       (repeat' first|simp (disch:=omega) only[go_sem,hlt])
       all_goals first | omega | rfl
      ·cases b
       all_goals
        (repeat' first|simp (disch:=omega) only[go_sem,hlt])
        all_goals first | omega | rfl
    ·have hnb:(ds == ([]:List UInt8))=false:=by simp [hn]
     have h0 : ¬ 120≤(ds.length:Int)+ex:=by
      rcases hpre with h | h
      ·exact absurd h hn
      ·exact h
     (repeat' first|simp (disch:=omega) only[go_sem,q7G,enter,hnb,h0]|refine q00 _ (hw) ?_|refine q00 _ (hp) ?_|(apply spl<;>intro h<;>try simp (disch:=omega) only[go_sem,h]))
     all_goals first | omega | skip
     have hD0:q0a ⟨nn,ds,ex⟩=true:=hd
     have hR0:R=q1K 3 ⟨nn,ds,ex⟩:=by rw[←hR,hD]
     clear hR hD hd2 hs hfo hw hp h9 hmk hd
     refine q07 (α:=Nat × Dec × Bool) (fun a=>{ tmps:=q0q 58 [(2,.ptr 3 0 0 0),(4,.ptr 3 1 0 0),(8,.bool a.2.2),(9,.int .i64 a.1)],heap:=[.row 3 [q0h a.2.1] false true 0,.row 3 [.agg [.bool false,.str [],.int .i64 0]] false true 1],base:=0 }) (fun a=>a.1≤3∧q0a a.2.1=true∧(a.2.2=true→R=q1K (3-a.1) a.2.1)∧(a.2.2=false→R=(⟨false,[],0⟩,false))) (fun a=>3-a.1) (0,⟨nn,ds,ex⟩,true) rfl ⟨by simp,hD0,fun _=>hR0,fun h=>(nomatch h)⟩ ?_
     clear hD0 hR0
     rintro ⟨i,x,b⟩ ⟨hi,hx,h1,h2⟩
     simp only at hi hx h1 h2
     by_cases hc:i<3∧b=true
     ·obtain ⟨hlt,rfl⟩:=hc
      have h1:=h1 rfl
      have hn:=hnx x hx
      have hwn:=hwx (q2X x).1
      have hok:=qbU hx
      rw[show 3-i=(2-i)+1 by omega,q1K] at h1
      generalize q2X x=N at *
      obtain ⟨⟨nn',ds',ex'⟩,b'⟩:=N
      obtain ⟨xn,xd,xe⟩:=x
      simp only[q0h] at *
      cases b' with
      | false=>
       rw[if_pos rfl] at h1
       by_cases he':0≤ex'
       ·rw[decide_eq_true he'] at hwn
        (repeat' first|simp (disch:=omega) only[go_sem]|refine q00 _ (hn) ?_|refine q00 _ (hwn) ?_|(apply spl<;>intro h<;>try simp (disch:=omega) only[go_sem,h]))
        all_goals first | omega | skip
        exact ⟨(i+1,⟨nn',ds',ex'⟩,false),rfl,⟨hlt,hok,fun h=>(nomatch h),fun _=>h1⟩,by simp only; omega⟩
       ·rw[decide_eq_false he'] at hwn
        (repeat' first|simp (disch:=omega) only[go_sem]|refine q00 _ (hn) ?_|refine q00 _ (hwn) ?_|(apply spl<;>intro h<;>try simp (disch:=omega) only[go_sem,h]))
        all_goals first | omega | skip
        exact ⟨(i+1,⟨nn',ds',ex'⟩,false),rfl,⟨hlt,hok,fun h=>(nomatch h),fun _=>h1⟩,by simp only; omega⟩
      | true=>
       rw[if_neg (by simp)] at h1
       by_cases he':0≤ex'
       ·rw[if_neg (by omega)] at h1
        rw[decide_eq_true he'] at hwn
        (repeat' first|simp (disch:=omega) only[go_sem]|refine q00 _ (hn) ?_|refine q00 _ (hwn) ?_|(apply spl<;>intro h<;>try simp (disch:=omega) only[go_sem,h]))
        all_goals first | omega | skip
        exact ⟨(i+1,⟨nn',ds',ex'⟩,true),rfl,⟨hlt,hok,fun _=>by rw[h1]; congr 1; omega,fun h=>(nomatch h)⟩,by simp only; omega⟩
       ·rw[if_pos (by omega)] at h1
        rw[decide_eq_false he'] at hwn
        rw[h1]
        (repeat' first|simp (disch:=omega) only[go_sem]|refine q00 _ (hn) ?_|refine q00 _ (hwn) ?_)
        all_goals first | omega | rfl
     ·have hz:R=(⟨false,[],0⟩,false):=by
       cases b with
       | false=>exact h2 rfl
       | true=>
        have:i=3:=by
         rcases Vx i 3 with h | h
         ·exact absurd ⟨h,rfl⟩ hc
         ·omega
        rw[h1 rfl,this,V7,q1K]
      rw[hz]
      clear h1 h2 hz
      obtain ⟨xn,xd,xe⟩:=x
      simp only[q0h]
      by_cases hlt:i<3
      ·have hbf:b=false:=by
        cases b with
        | false=>rfl
        | true=>exact absurd ⟨hlt,rfl⟩ hc
       subst hbf
       (repeat' first|simp (disch:=omega) only[go_sem,hlt])
       all_goals first | omega | rfl
      ·cases b
       all_goals
        (repeat' first|simp (disch:=omega) only[go_sem,hlt])
        all_goals first | omega | rfl
  exact hL d rfl
end Ago
set_option maxRecDepth 100000
set_option exponentiation.threshold 2000
set_option maxHeartbeats 4000000
namespace Ago
open Go (IntKind)
def qj5 (P:Int→Prop) (r:Dec × Bool):Prop:=
 (r.2=true→q0a r.1=true∧P (q0n r.1)∧∀ y,q0a y=true→P (q0n y)→q0n r.1≤q0n y)∧(r.2=false→∀ y,q0a y=true→¬ P (q0n y))
theorem q4R {P:Int→Prop} {x:Dec} (h1:q0a x=true) (h2:P (q0n x)) (h3 : ∀ y,q0a y=true→P (q0n y)→q0n x≤q0n y):qj5 P (x,true):=
 ⟨fun _=>⟨h1,h2,h3⟩,fun h=>(nomatch h)⟩
theorem q63 {P:Int→Prop} {x:Dec} (h : ∀ y,q0a y=true→¬ P (q0n y)):qj5 P (x,false):=⟨fun h=>(nomatch h),fun _=>h⟩
theorem qgo {y:Dec} (hy:q0a y=true) (h : ¬ T 400 ∣ q0n y):y.exp<0:=by
 rcases Vr y.exp 0 with h1 | h1
 ·exact h1
 ·exact absurd ((q25 hy).1 h1) h
theorem q4n {y:Dec} (hy:q0a y=true) (h : ¬ T 400 ∣ q0n y):q2R y≤(T 120-1) * T 399:=by
 have he:=qgo hy h
 have hn:y.digits≠[]:=fun hn=>by rw[q4o hy hn] at he; simp at he
 obtain ⟨h1,h2,h3,h4,h5⟩:=q1k hy hn
 have hf:q09 y.digits<T y.digits.length:=(q0w _ h1.dig).2
 have hl:=qhj h3
 have hE:=qhj (show (y.exp+400).toNat≤399 by omega)
 have hp:=h1.pos
 have e:q2R y=q09 y.digits * T (y.exp+400).toNat:=rfl
 rw[e]
 exact Int.mul_le_mul (by omega) hE (by have:=q1p (y.exp+400).toNat; omega) (by have:=q1p 120; omega)
theorem q5x:(T 120-1) * T 399=T 519-T 399:=by
 rw[Int.sub_mul,Int.one_mul]
 have e:T 120 * T 399=T 519:=(Int.pow_add 10 120 399).symm
 rw[e]
theorem q9c (y:Dec) (hy:q0a y=true) : - q2R y≤q0n y∧q0n y≤q2R y:=by
 have:=q38 hy
 rcases qjN y with h | h<;>omega
theorem qhr {x:Dec} (hx:q0a x=true) (hw:T 400 ∣ q0n x) (hb:q2R x<T 519):(q2X x).2=true∧¬ T 400 ∣ q0n (q2X x).1:=by
 obtain ⟨h1,h2⟩:=q5h x hx
 have hp:=q1p 399
 have e400:T 400=10 * T 399:=q6u 399
 have h519:T 400 ∣ T 519:=q41 (by omega)
 have hd:T 399 ∣ T 400:=q41 (by omega)
 have hdx:=V5 hd hw
 have hv:=q9c x hx
 have h801:=qlr (show 519<801 by omega)
 have hV:IsV (q0n x+T 399):=by
  rcases Int.lt_trichotomy (q0n x+T 399) 0 with h | h | h
  ·have h3:IsV (-(q0n x+T 399)):=qm3 (L:=519) (by omega) (by omega) (by rw[show 519-120=399 from rfl]; exact Int.dvd_neg.2 (Int.dvd_add hdx (Int.dvd_refl _))) (q2S (by omega) (by omega))
   have:=q4l h3
   rwa [Int.neg_neg] at this
  ·rw[h]
   exact qp1
  ·have h3:=gap (show 0<T 400 by omega) hw h519 (by omega)
   exact qm3 (L:=519) h (by omega) (by rw[show 519-120=399 from rfl]; exact Int.dvd_add hdx (Int.dvd_refl _)) (q2S h (by omega))
 obtain ⟨z,hz,hzv⟩:=hV
 have ht:(q2X x).2=true:=by
  cases hb:(q2X x).2 with
  | true=>rfl
  | false=>
   have:=(h2 hb).2 z hz
   omega
 obtain ⟨k1,k2,k3⟩:=h1 ht
 have k4:=k3 z hz (by omega)
 refine ⟨ht,fun h=>?_⟩
 have:=gap (show 0<T 400 by omega) hw h k2
 omega
theorem qgk : ∀ (k:Nat) (x:Dec),q0a x=true→T 519≤q0n x→q1K k x=(⟨false,[],0⟩,false)
 | 0,_,_,_=>rfl
 | k+1,x,hx,h=>by
  obtain ⟨h1,h2⟩:=q5h x hx
  rw[q1K]
  cases hb:(q2X x).2 with
  | false=>rw[if_pos rfl]
  | true=>
   obtain ⟨k1,k2,k3⟩:=h1 hb
   rw[if_neg (by simp)]
   have hw : ¬ (q2X x).1.exp<0:=fun he=>by
    have h3:=q4n k1 (fun hh=>by have:=(q25 k1).2 hh; omega)
    rw[q5x] at h3
    have:=q9c _ k1
    have:=q1p 399
    omega
   rw[if_neg hw]
   exact qgk k _ k1 (by omega)
theorem qaR (d:Dec) (opn:Bool) (hd:q0a d=true):qj5 (fun n=>q6i (q0n d) opn n∧¬ T 400 ∣ n) (q48 d opn):=by
 have p399:=q1p 399
 have p519:=q1p 519
 unfold q48
 by_cases hfo:d.exp<0∧opn=false
 ·rw[if_pos hfo]
  obtain ⟨he,rfl⟩:=hfo
  have hnd : ¬ T 400 ∣ q0n d:=fun h=>by have:=(q25 hd).2 h; omega
  exact q4R hd ⟨VZ _,hnd⟩ fun y _ hp=>hp.1
 rw[if_neg hfo]
 have weak : ∀ {n:Int},q6i (q0n d) opn n→q0n d≤n:=fun {n} h=>by
  unfold q6i at h
  split at h<;>omega
 by_cases hs:d.digits≠[]∧120≤(d.digits.length:Int)+d.exp
 ·rw[if_pos hs]
  have hlow:T 519≤q2R d:=qqo hd hs.1 (by omega)
  cases hneg:d.neg with
  | true=>
   have hv:q0n d = - q2R d:=by unfold q0n; rw[if_pos hneg]
   have h9:=qib
   rw[q5x] at h9
   have hnd : ¬ T 400 ∣ q0n q6t:=fun h=>by
    have:=(q25 qgl).2 h
    simp [q6t] at this
   refine q4R qgl ⟨by unfold q6i; split<;>omega,hnd⟩ fun y hy hp=>?_
   have h3:=q4n hy hp.2
   rw[q5x] at h3
   have:=q9c y hy
   omega
  | false=>
   have hv:q0n d=q2R d:=by unfold q0n; rw[if_neg (by simp [hneg])]
   refine q63 fun y hy hp=>?_
   have h3:=q4n hy hp.2
   rw[q5x] at h3
   have:=q9c y hy
   have:=weak hp.1
   omega
 ·rw[if_neg hs]
  have hb:q2R d<T 519:=by
   by_cases hn:d.digits=[]
   ·rw[q2o hn]; exact p519
   ·have : ¬ 120≤(d.digits.length:Int)+d.exp:=fun h=>hs ⟨hn,h⟩
    exact qix hd hn (by omega)
  have hvd:=q9c d hd
  have strict : ∀ {n:Int},q6i (q0n d) opn n→¬ T 400 ∣ n→q0n d<n:=fun {n} h hn=>by
   cases ho:opn with
   | true=>
    rw[ho] at h
    exact h
   | false=>
    have he:0≤d.exp:=by
     rcases Vr d.exp 0 with h1 | h1
     ·exact absurd ⟨h1,ho⟩ hfo
     ·exact h1
    have hw:=(q25 hd).1 he
    have:=weak h
    rcases Vr (q0n d) n with h1 | h1
    ·exact h1
    ·have:n=q0n d:=by omega
     rw[this] at hn
     exact absurd hw hn
  have above : ∀ {n:Int},q0n d<n→q6i (q0n d) opn n:=fun {n} h=>by
   unfold q6i
   split<;>omega
  obtain ⟨n1,n2⟩:=q5h d hd
  rw[q1K]
  cases hb1:(q2X d).2 with
  | false=>
   rw[if_pos rfl]
   refine q63 fun y hy hp=>?_
   have:=strict hp.1 hp.2
   have:=(n2 hb1).2 y hy
   omega
  | true=>
   rw[if_neg (by simp)]
   obtain ⟨k1,k2,k3⟩:=n1 hb1
   by_cases he:(q2X d).1.exp<0
   ·rw[if_pos he]
    refine q4R k1 ⟨above k2,fun h=>by have:=(q25 k1).2 h; omega⟩ fun y hy hp=>k3 y hy (strict hp.1 hp.2)
   ·rw[if_neg he]
    have hw1:=(q25 k1).1 (by omega)
    generalize (q2X d).1=x1 at *
    -- no fraction up to the first number
    have up : ∀ y,q0a y=true→q0n d<q0n y→¬ T 400 ∣ q0n y→q0n x1<q0n y:=fun y hy h1 h2=>by
     have:=k3 y hy h1
     rcases Vr (q0n x1) (q0n y) with h3 | h3
     ·exact h3
     ·have:q0n y=q0n x1:=by omega
      rw[this] at h2
      exact absurd hw1 h2
    by_cases hb2:q2R x1<T 519
    ·obtain ⟨f1,f2⟩:=qhr k1 hw1 hb2
     obtain ⟨m1,m2,m3⟩:=(q5h x1 k1).1 f1
     rw[q1K,if_neg (by rw[f1]; simp),if_pos (qgo m1 f2)]
     refine q4R m1 ⟨above (by omega),f2⟩ fun y hy hp=>m3 y hy (up y hy (strict hp.1 hp.2) hp.2)
    ·have hbig:T 519≤q0n x1:=by
      rcases qjN x1 with h | h<;>omega
     rw[qgk 2 x1 k1 hbig]
     refine q63 fun y hy hp=>?_
     have h3:=q4n hy hp.2
     rw[q5x] at h3
     have:=q9c y hy
     have:=up y hy (strict hp.1 hp.2) hp.2
     omega
def qcJ (s n:Int):Prop:=s=0∨(s=1∧T 400 ∣ n)∨(s=2∧¬ T 400 ∣ n)
theorem qnS {s:Int} {y:Dec} (hy:q0a y=true) (h0:0≤s) (h2:s≤2):qfk s (qmz y)=true↔qcJ s (q0n y):=by
 unfold qfk qmz qcJ
 rw[decide_eq_true_eq,←q25 hy]
 by_cases h:0≤y.exp
 ·rw[if_pos h]
  constructor
  ·rintro (h1 | h1)
   ·exact .inl h1
   ·exact .inr (.inl ⟨h1,h⟩)
  ·rintro (h1 | ⟨h1,_⟩ | ⟨_,h1⟩)
   ·exact .inl h1
   ·exact .inr h1
   ·exact absurd h h1
 ·rw[if_neg h]
  constructor
  ·rintro (h1 | h1)
   ·exact .inl h1
   ·exact .inr (.inr ⟨h1,h⟩)
  ·rintro (h1 | ⟨_,h1⟩ | ⟨h1,_⟩)
   ·exact .inl h1
   ·exact absurd h1 h
   ·exact .inr h1
theorem qtx {p:Prt} (hp:q3o p=true) {y:Dec} (hy:q0a y=true):inM p y=true↔(p.lo.set=true→q6i (q0n p.lo.num) p.lo.opn (q0n y))∧(p.hi.set=true→q6i (q0n y) p.hi.opn (q0n p.hi.num))∧qcJ p.sort (q0n y):=by
 obtain ⟨h1,h2,h3,h4⟩:=q88 hp
 rw[qq1 hp hy,Kd,Kd,decide_eq_true_eq,decide_eq_true_eq,qld h1 hy,qiI h2 hy,qnS hy h3 h4,and_assoc]
 have a1:(¬ (p.lo.set=true∧(q2V y p.lo.num<0∨q2V y p.lo.num=0∧p.lo.opn=true)))↔(p.lo.set=true→q6i (q0n p.lo.num) p.lo.opn (q0n y)):=by
  by_cases hs:p.lo.set=true
  ·have hv:=q1R hy (q7v h1 hs)
   unfold q6i
   cases p.lo.opn<;>simp only[hs,true_and,true_implies,Ke,and_false,or_false,and_true,if_false,if_true]<;>omega
  ·simp [hs]
 have a2:(¬ (p.hi.set=true∧(0<q2V y p.hi.num∨q2V y p.hi.num=0∧p.hi.opn=true)))↔(p.hi.set=true→q6i (q0n y) p.hi.opn (q0n p.hi.num)):=by
  by_cases hs:p.hi.set=true
  ·have hv:=q1R hy (q7v h2 hs)
   unfold q6i
   cases p.hi.opn<;>simp only[hs,true_and,true_implies,Ke,and_false,or_false,and_true,if_false,if_true]<;>omega
  ·simp [hs]
 rw[a1,a2]
end Ago
set_option maxRecDepth 100000
set_option exponentiation.threshold 2000
set_option maxHeartbeats 4000000
namespace Ago
open Go (IntKind)
section
variable {R:Nat→List AV→Heap→AV→Heap→Prop} {PR:Nat→List AV→AV→Prop}
theorem que {k:Nat} {a b:List AOper} {Q:Ex→St→Prop} {s:St} (s':St) (h1 : @q0N (s.keep k) ⟨q0X R PR a fun t=>t=s'⟩) (h2 : @q0N (s.keep k) ⟨q0X R PR b fun t=>t=s'⟩) (h : @q0N { s' with rb:=0 } ⟨Q .normal⟩):aw R PR (.draw k [a,b]) Q s:=by
 unfold q0N at h1 h2 h
 refine ⟨s',by simp,fun l hl=>?_,h⟩
 rcases Ks.1 hl with rfl | hl
 ·exact h1
 ·rw[KR.1 hl]
  exact h2
end
def q4x (lo hi:Dec):Prt:=⟨⟨true,lo,false⟩,⟨true,hi,false⟩,2⟩
theorem q89 {lo hi:Dec} (h1:q0a lo=true) (h2:q0a hi=true):q3o (q4x lo hi)=true:=by
 unfold q3o q4x q3V
 simp [h1,h2]
def qbq (lo hi:Dec):Bool:=(q48 lo false).2 && inM (q4x lo hi) (q48 lo false).1
theorem qdD {lo hi:Dec} (h1:q0a lo=true) (h2:q0a hi=true):qbq lo hi=true↔∃ y,q0a y=true∧q0n lo≤q0n y∧q0n y≤q0n hi∧¬ T 400 ∣ q0n y:=by
 obtain ⟨k1,k2⟩:=qaR lo false h1
 have hin:=fun {y:Dec} (hy:q0a y=true)=>qtx (q89 h1 h2) hy
 have hab : ∀ v n:Int,q6i v false n↔v≤n:=fun v n=>by unfold q6i; simp
 have hs : ∀ n,qcJ (q4x lo hi).sort n↔¬ T 400 ∣ n:=fun n=>by unfold qcJ q4x; simp
 unfold qbq
 generalize q48 lo false=r at *
 rw[Kd]
 constructor
 ·rintro ⟨hr,hi'⟩
  obtain ⟨g1,g2,g3⟩:=k1 hr
  obtain ⟨j1,j2,j3⟩:=(hin g1).1 hi'
  exact ⟨r.1,g1,(hab _ _).1 g2.1,(hab _ _).1 (j2 rfl),g2.2⟩
 ·rintro ⟨y,y1,y2,y3,y4⟩
  cases hr:r.2 with
  | false=>exact absurd ⟨(hab _ _).2 y2,y4⟩ (k2 hr y y1)
  | true=>
   obtain ⟨g1,g2,g3⟩:=k1 hr
   have:=g3 y y1 ⟨(hab _ _).2 y2,y4⟩
   exact ⟨rfl,(hin g1).2 ⟨fun _=>g2.1,fun _=>(hab _ _).2 (by show q0n r.1≤q0n hi; omega),(hs _).2 g2.2⟩⟩
def qep (neg:Bool):Dec:=⟨neg,[53],-1⟩
def quD (lo hi:Dec):Bool:=
 if ¬ (0≤lo.exp∧0≤hi.exp) then true
 else if q2V lo hi=0 then false
 else if q2V lo ⟨false,[],0⟩≤0∧0≤q2V hi ⟨false,[],0⟩ then true
 else decide ((q8R lo (qep false)).2=0∨(q8R hi (qep true)).2=0)
theorem q5z (neg:Bool):q0a (qep neg)=true∧q0n (qep neg)=if neg=true then-(5 * T 399) else 5 * T 399:=by
 cases neg
 ·exact ⟨by decide,by simp [q0n,q2R,qep,q09,T]⟩
 ·exact ⟨by decide,by simp [q0n,q2R,qep,q09,T]⟩
theorem qoW (neg:Bool):IsV (if neg=true then-(5 * T 399) else 5 * T 399):=⟨qep neg,(q5z neg).1,(q5z neg).2⟩
theorem qiY {n:Int} (h0:T 400 ∣ n) (hp:0≤n) (hl:n<T 519):IsV (n+5 * T 399)∧¬ T 400 ∣ n+5 * T 399:=by
 have e400:T 400=10 * T 399:=q6u 399
 have p399:=q1p 399
 have hnd : ¬ T 400 ∣ n+5 * T 399:=fun hd=>by
  have h5:T 400 ∣ 5 * T 399:=by
   have:=V6 hd h0
   rwa [Int.add_comm n,Int.add_sub_cancel] at this
  exact q2S (by omega) (by omega) h5
 have d519:T 400 ∣ T 519:=q41 (by omega)
 have hg:=gap (q1p 400) h0 d519 hl
 refine ⟨qm3 (L:=519) (by omega) (by omega) ?_ (fun hd=>hnd ?_),hnd⟩
 ·show T 399 ∣ _
  exact Int.dvd_add (V5 ⟨10,by omega⟩ h0) ⟨5,by omega⟩
 ·exact V5 (q41 (by omega)) hd
theorem qfm {lo hi:Dec} (h1:q0a lo=true) (h2:q0a hi=true) (hle:q0n lo≤q0n hi):qbq lo hi=quD lo hi:=by
 rw[KW,qdD h1 h2]
 have e400:T 400=10 * T 399:=q6u 399
 have p399:=q1p 399
 have p519:=q1p 519
 have w1:=q25 h1
 have w2:=q25 h2
 have hz:q0a ⟨false,[],0⟩=true:=by decide
 have vz:q0n ⟨false,[],0⟩=0:=by simp [q0n,q2R,q09]
 have c1:=q1R h1 h2
 have c2:=q1R h1 hz
 have c3:=q1R h2 hz
 rw[vz] at c2 c3
 unfold quD
 by_cases hw:0≤lo.exp∧0≤hi.exp
 ·rw[if_neg (by simpa using hw)]
  have wl:=w1.1 hw.1
  have wh:=w2.1 hw.2
  by_cases he:q2V lo hi=0
  ·rw[if_pos he]
   refine ⟨?_,fun h=>(nomatch h)⟩
   rintro ⟨y,y1,y2,y3,y4⟩
   have hv:=c1.2.1.1 he
   exact absurd (by rw[show q0n y=q0n lo by omega]; exact wl) y4
  ·rw[if_neg he]
   have hlt:q0n lo<q0n hi:=by
    have:=fun h=>he (c1.2.1.2 h)
    omega
   have hg:=gap (q1p 400) wl wh hlt
   by_cases hm:q2V lo ⟨false,[],0⟩≤0∧0≤q2V hi ⟨false,[],0⟩
   ·rw[if_pos hm]
    refine ⟨fun _=>rfl,fun _=>?_⟩
    have hl0:q0n lo≤0:=by
     have:=c2.1
     have:=c2.2.1
     omega
    have hh0:0≤q0n hi:=by
     have:=c3.1
     omega
    rcases (show 0<q0n hi∨q0n lo<0 by omega) with hp | hp
    ·have:=gap (q1p 400) (Int.dvd_zero _) wh hp
     obtain ⟨y,y1,y2⟩:=qoW false
     refine ⟨y,y1,?_,?_,?_⟩
     ·rw[y2]
      simp only[Ke,if_false]
      omega
     ·rw[y2]
      simp only[Ke,if_false]
      omega
     ·rw[y2]
      simp only[Ke,if_false]
      exact q2S (by omega) (by omega)
    ·have:=gap (q1p 400) wl (Int.dvd_zero _) hp
     obtain ⟨y,y1,y2⟩:=qoW true
     refine ⟨y,y1,?_,?_,?_⟩
     ·rw[y2]
      simp only[if_true]
      omega
     ·rw[y2]
      simp only[if_true]
      omega
     ·rw[y2]
      simp only[if_true]
      exact fun hd=>q2S (U:=T 400) (x:=5 * T 399) (by omega) (by omega) (Int.dvd_neg.1 hd)
   ·rw[if_neg hm,decide_eq_true_eq]
    have hsgn:0<q0n lo∨q0n hi<0:=by
     have:=c2.1
     have:=c2.2.1
     have:=c3.1
     omega
    have a1:=qlq (v:=q0n lo+5 * T 399) h1 (q5z false).1 (by rw[(q5z false).2]; simp)
    have a2:=qlq (v:=q0n hi-5 * T 399) h2 (q5z true).1 (by rw[(q5z true).2]; simp; omega)
    constructor
    ·rintro ⟨y,y1,y2,y3,y4⟩
     have hb:=q4n y1 y4
     have hv:=q9c y y1
     rw[q5x] at hb
     have p2:=q1p 399
     rcases hsgn with hs | hs
     ·have:=(qiY wl (by omega) (by omega)).1
      rcases a1 with a1 | a1
      ·exact .inl a1.1
      ·exact absurd this a1.2
     ·have h3:=(qiY (Int.dvd_neg.2 wh) (by omega) (by omega)).1
      have h4:=q4l h3
      rcases a2 with a2 | a2
      ·exact .inr a2.1
      ·exact absurd (by rw[show q0n hi-5 * T 399 = -(-q0n hi+5 * T 399) by omega]; exact h4) a2.2
    ·have h5 : ∀ n:Int,T 400 ∣ n→¬ T 400 ∣ n+5 * T 399:=fun n hn hd=>by
      have h5:T 400 ∣ 5 * T 399:=by
       have:=V6 hd hn
       rwa [Int.add_comm n,Int.add_sub_cancel] at this
      exact q2S (by omega) (by omega) h5
     rintro (ha | ha)
     ·rcases a1 with a1 | a1
      ·refine ⟨_,a1.2.1,?_,?_,?_⟩
       ·rw[a1.2.2]; omega
       ·rw[a1.2.2]; omega
       ·rw[a1.2.2]
        exact h5 _ wl
      ·exact absurd ha a1.1
     ·rcases a2 with a2 | a2
      ·refine ⟨_,a2.2.1,?_,?_,?_⟩
       ·rw[a2.2.2]; omega
       ·rw[a2.2.2]; omega
       ·rw[a2.2.2]
        intro hd
        have:=h5 _ (Int.dvd_neg.2 wh)
        rw[show -q0n hi+5 * T 399 = -(q0n hi-5 * T 399) by omega] at this
        exact this (Int.dvd_neg.2 hd)
      ·exact absurd ha a2.1
 ·rw[if_pos hw]
  refine ⟨fun _=>rfl,fun _=>?_⟩
  by_cases hl:0≤lo.exp
  ·exact ⟨hi,h2,hle,VZ _,fun hd=>hw ⟨hl,w2.2 hd⟩⟩
  ·exact ⟨lo,h1,VZ _,hle,fun hd=>hl (w1.2 hd)⟩
theorem qhX (lo hi:Dec) (h:q0a lo=true):q0k CN 700 [q0m (q4x lo hi)] (.tup [q0h (q48 lo false).1,.bool (q48 lo false).2]):=by
 have hf:=qkZ lo false h
 unfold q4x
 generalize q48 lo false=F at *
 obtain ⟨n1,d1,e1⟩:=lo
 obtain ⟨n2,d2,e2⟩:=hi
 simp only[q0m,q0h] at *
 refine q04 qmt rfl ?_
 (repeat' first|simp (disch:=omega) only[go_sem,qmt,enter]|(apply spl<;>intro h<;>try simp (disch:=omega) only[go_sem,h]))
 all_goals first | omega | skip
 refine que ?s2 ?a2 ?b2 ?c2
 rotate_left
 case a2=>
  (repeat' first|simp (disch:=omega) only[go_sem,q3W]|(apply spl<;>intro h<;>try simp (disch:=omega) only[go_sem,h]))
  all_goals first | omega | rfl
 case b2=>
  (repeat' first|simp (disch:=omega) only[go_sem,q3W])
  all_goals first | omega | rfl
 (repeat' first|simp (disch:=omega) only[go_sem]|refine q00 _ (hf) ?_)
 all_goals first | omega | rfl
theorem qeZ (lo hi:Dec) (h1:q0a lo=true) (h2:q0a hi=true) : ∃ d,q0k CN 692 [q0m (q4x lo hi)] (.tup [q0h d,.bool (qbq lo hi)]):=by
 have hl:=qhX lo hi h1
 obtain ⟨k1,k2⟩:=qaR lo false h1
 have hi':=fun h:(q48 lo false).2=true=>qgP (q4x lo hi) (q48 lo false).1 (q89 h1 h2) (k1 h).1
 unfold qbq
 clear k1 k2
 generalize q48 lo false=L at *
 obtain ⟨⟨ln,ld,le⟩,lb⟩:=L
 simp only at hi'
 generalize inM (q4x lo hi) ⟨ln,ld,le⟩=w at *
 unfold q4x at hl hi'
 unfold q4x
 obtain ⟨n1,d1,e1⟩:=lo
 obtain ⟨n2,d2,e2⟩:=hi
 simp only[q0m,q0h] at *
 cases lb with
 | false=>
  refine ⟨⟨false,[],0⟩,?_⟩
  refine q04 qc6 rfl ?_
  (repeat' first|simp (disch:=omega) only[go_sem,qc6,enter]|refine q00 _ (hl) ?_)
  all_goals first | omega | rfl
 | true=>
  have hi':=hi' rfl
  cases w
  ·refine ⟨⟨false,[],0⟩,?_⟩
   refine q04 qc6 rfl ?_
   (repeat' first|simp (disch:=omega) only[go_sem,qc6,enter]|refine q00 _ (hl) ?_|refine q00 _ (hi') ?_)
   all_goals first | omega | rfl
  ·refine ⟨⟨ln,ld,le⟩,?_⟩
   refine q04 qc6 rfl ?_
   (repeat' first|simp (disch:=omega) only[go_sem,qc6,enter]|refine q00 _ (hl) ?_|refine q00 _ (hi') ?_)
   all_goals first | omega | rfl
theorem qke (lo hi:Dec) (h1:q0a lo=true) (h2:q0a hi=true) : ∃ d,q0k CN 673 [q81 [q4x lo hi]] (.tup [q0h d,.bool (qbq lo hi)]):=by
 have f1:=q11 h1
 have f2:=q11 h2
 have hv:=qiX [q4x lo hi] ⟨by simp,fun p hp=>by
  rw[KR.1 hp]
  exact ⟨by show lo.digits.length<_; omega,by show hi.digits.length<_; omega⟩⟩
 rw[show q7W [q4x lo hi]=true by unfold q7W; simp [q89 h1 h2]] at hv
 obtain ⟨d,hm⟩:=qeZ lo hi h1 h2
 unfold q4x q81 at *
 obtain ⟨n1,d1,e1⟩:=lo
 obtain ⟨n2,d2,e2⟩:=hi
 obtain ⟨nd,dd,ed⟩:=d
 simp only[Km,Kx,q0m,q0h] at *
 obtain ⟨b,hb⟩ : ∃ b,qbq ⟨n1,d1,e1⟩ ⟨n2,d2,e2⟩=b:=⟨_,rfl⟩
 rw[hb] at hm ⊢
 cases b with
 | true=>
  refine ⟨⟨nd,dd,ed⟩,?_⟩
  refine q04 qhL rfl ?_
  (repeat' first|simp (disch:=omega) only[go_sem,qhL,enter]|refine q00 _ (hv) ?_|(apply spl<;>intro h<;>try simp (disch:=omega) only[go_sem,h]))
  all_goals first | omega | skip
  refine q07 (α:=Unit) (fun _=>{ tmps:=q0q 28 [(2,.ptr 3 0 0 0),(13,.tsl 11 [.agg [.bool true,.bool n1,.str d1,.int .i64 e1,.bool false,.bool true,.bool n2,.str d2,.int .i64 e2,.bool false,.int .i64 2]]),(14,.int .i64 1),(15,.int .i64 0)],heap:=[.row 3 [.agg [.bool false,.str [],.int .i64 0]] false true 0],base:=0 }) (fun _=>True) (fun _=>0) () rfl trivial ?_
  rintro _ _
  (repeat' first|simp (disch:=omega) only[go_sem]|refine q00 _ (hm) ?_)
  all_goals first | omega | rfl
 | false=>
  refine ⟨⟨false,[],0⟩,?_⟩
  refine q04 qhL rfl ?_
  (repeat' first|simp (disch:=omega) only[go_sem,qhL,enter]|refine q00 _ (hv) ?_|(apply spl<;>intro h<;>try simp (disch:=omega) only[go_sem,h]))
  all_goals first | omega | skip
  refine q07 (α:=Bool) (fun b=>{ tmps:=q0q 28 [(2,.ptr 3 0 0 0),(13,.tsl 11 [.agg [.bool true,.bool n1,.str d1,.int .i64 e1,.bool false,.bool true,.bool n2,.str d2,.int .i64 e2,.bool false,.int .i64 2]]),(14,.int .i64 1),(15,.int .i64 (if b=true then 0 else 1))],heap:=[.row 3 [.agg [.bool false,.str [],.int .i64 0]] false true 0],base:=0 }) (fun _=>True) (fun b=>if b=true then 1 else 0) true rfl trivial ?_
  rintro b _
  cases b with
  | true=>
   (repeat' first|simp (disch:=omega) only[go_sem]|refine q00 _ (hm) ?_|(apply spl<;>intro h<;>try simp (disch:=omega) only[go_sem,h]))
   all_goals first | omega | skip
   exact ⟨false,rfl,by simp⟩
  | false=>
   (repeat' first|simp (disch:=omega) only[go_sem])
   all_goals first | omega | rfl
theorem qhJ (lo hi:Dec) (h1:q0a lo=true) (h2:q0a hi=true):q0k CN 674 [q81 [q4x lo hi]] (.bool (!(qbq lo hi))):=by
 obtain ⟨⟨mn,md,me⟩,h⟩:=qke lo hi h1 h2
 unfold q81 q0h at *
 refine q04 qoc rfl ?_
 obtain ⟨b,hb⟩ : ∃ b,qbq lo hi=b:=⟨_,rfl⟩
 rw[hb] at h ⊢
 cases b
 all_goals
  (repeat' first|simp (disch:=omega) only[go_sem,qoc,enter]|refine q00 _ (h) ?_)
  all_goals first | omega | rfl
end Ago
