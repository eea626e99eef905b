/- Whole numbers,texts and paths as values. -/
import Derived.Test.YtjeahlpkonkjiaaGreatDoorRunA
import Derived.Test.YtjeahlpkonkjiaaGreatDoorRunX
import Derived.Test.YtjeahlpkonkjiaaGreatDoorCodeN
import Derived.Test.YtjeahlpkonkjiaaGreatDoorRunG
import Derived.Test.YtjeahlpkonkjiaaGreatDoorMachE
set_option linter.unusedSimpArgs false
set_option linter.unusedVariables false
set_option maxRecDepth 100000
set_option exponentiation.threshold 2000
set_option maxHeartbeats 4000000
namespace Ago
open Go (IntKind)


theorem q5b (a b:List UInt8):q08 (a++b)=q08 a * 10^b.length+q08 b:=by
 unfold q08
 rw[List.foldl_append,qcu]
 rfl
theorem qgO (n:Nat):(UInt8.ofNat (48+n % 10)).toNat=48+n % 10:=by
 rw[UInt8.toNat_ofNat']
 omega
theorem qmQ {n:Nat} (h:n≠0):qnz n=qnz (n / 10)++[UInt8.ofNat (48+n % 10)]:=by
 unfold qnz
 rw[qiF h,List.reverse_cons]
theorem qmT : ∀ (n:Nat),digits (qnz n)=true∧q08 (qnz n)=n∧(n≠0→(qnz n)[0]?≠some 48∧qnz n≠[])
 | 0=>⟨rfl,rfl,fun h=>(h rfl).elim⟩
 | n+1=>by
  obtain ⟨h1,h2,h3⟩:=qmT ((n+1) / 10)
  rw[qmQ (by omega)]
  have hd:=qgO (n+1)
  refine ⟨q7V h1 (by simp [digits,q5n,hd]; omega),?_,fun _=>⟨?_,by simp⟩⟩
  ·rw[q5b,h2]
   simp only[q08,VQ,List.foldl_nil,Kb,Kd,hd]
   omega
  ·by_cases h0:(n+1) / 10=0
   ·rw[h0]
    have e:qnz 0=[]:=rfl
    rw[e,Ks,K2]
    intro h
    have h4:=congrArg UInt8.toNat (K6 h)
    rw[hd] at h4
    have e48:UInt8.toNat 48=48:=rfl
    rw[e48] at h4
    omega
   ·obtain ⟨h4,h5⟩:=h3 h0
    rw[K9 (Vm.2 h5)]
    exact h4
termination_by n=>n
decreasing_by omega

theorem qau (s:List UInt8):s.take (s.length-q0G s)++List.replicate (q0G s) 48=s∧q0G (s.take (s.length-q0G s))=0:=by
 have h:=List.takeWhile_append_dropWhile (p:=fun x=>x == (48:UInt8)) (l:=s.reverse)
 have hall:s.reverse.takeWhile (fun x=>x == (48:UInt8))=List.replicate (q0G s) 48:=by
  refine List.eq_replicate_iff.2 ⟨rfl,fun b hb=>?_⟩
  have:=Kk.1 (List.all_takeWhile (p:=fun x=>x == (48:UInt8)) (l:=s.reverse)) b hb
  simpa using this
 rw[hall] at h
 have h2:s=(s.reverse.dropWhile (fun x=>x == (48:UInt8))).reverse++List.replicate (q0G s) 48:=by
  have:=congrArg List.reverse h
  simpa using this.symm
 have hlen:(s.reverse.dropWhile (fun x=>x == (48:UInt8))).length=s.length-q0G s:=by
  have:=congrArg List.length h2
  simp at this
  omega
 have ht:s.take (s.length-q0G s)=(s.reverse.dropWhile (fun x=>x == (48:UInt8))).reverse:=by
  have gen : ∀ (a b:List UInt8) (m:Nat),s=a++b→a.length=m→s.take m=a:=by
   rintro a b m rfl rfl
   simp
  exact gen _ _ _ h2 (by rw[List.length_reverse,hlen])
 refine ⟨by rw[ht]; exact h2.symm,?_⟩
 rw[ht]
 unfold q0G
 rw[List.reverse_reverse]
 cases hd:s.reverse.dropWhile (fun x=>x == (48:UInt8)) with
 | nil=>rfl
 | cons c l=>
  have hne:s.reverse.dropWhile (fun x=>x == (48:UInt8))≠[]:=by simp [hd]
  have:=List.head_dropWhile_not (fun x=>x == (48:UInt8)) hne
  simp only[hd,List.head_cons] at this
  rw[List.takeWhile_cons_of_neg (by simpa using this)]
  rfl

end Ago
set_option maxRecDepth 100000
set_option exponentiation.threshold 2000
set_option maxHeartbeats 4000000
namespace Ago
open Go (IntKind)
theorem upN {f:Nat} {ts:List AV} {v:AV} (h:q0e C0 f ts v):q0e CN f ts v:=
 qdK (qbG (C:=C0) (C':=q6F qgc qxC qym) (fun f fn h=>by
  have h:code f=some fn:=h
  show qgc f=some fn
  unfold qgc
  rw[h]) (fun _ _ _ _ _ h=>by
   obtain ⟨p,x,h,h2⟩:=h
   refine ⟨p,x,?_,h2⟩
   unfold clR at h
   first | (split at h<;>first | exact h | cases h) | cases h) (fun f t v h=>by
   obtain ⟨p,l,h,h2⟩:=h
   refine ⟨p,l,?_,h2⟩
   unfold clP at h
   first | (split at h<;>first | exact h | cases h) | cases h) h)
theorem qdB (b:Bnd) (hs:b.num.digits.length<2^31):q0e CN 262 [q4z b] (.bool (q3g b)):=by
 have hd:=upN (q3y b.num hs)
 refine q04 qd0 rfl ?_
 obtain ⟨set,⟨neg,ds,exp⟩,opn⟩:=b
 simp only[q4z,q0b] at *
 cases set
 ·(repeat' first|simp (disch:=omega) only[go_sem,qd0,enter]|(apply spl<;>intro h<;>try simp (disch:=omega) only[go_sem,h]))
  all_goals (try simp [q3g,Wf])
 ·(repeat' first|simp (disch:=omega) only[go_sem,qd0,enter]|refine q00 _ (hd) ?_|(apply spl<;>intro h<;>try simp (disch:=omega) only[go_sem,h]))
  all_goals (try simp [q3g,Wf])
theorem qdT (p:Prt) (h1:p.lo.num.digits.length<2^31) (h2:p.hi.num.digits.length<2^31):q0e CN 250 [q0n p] (.bool (q2z p)):=by
 have h1:=qdB p.lo h1
 have h2:=qdB p.hi h2
 refine q04 qay rfl ?_
 obtain ⟨⟨s1,⟨n1,d1,e1⟩,o1⟩,⟨s2,⟨n2,d2,e2⟩,o2⟩,sort⟩:=p
 simp only[q4z,q0n] at *
 unfold q2z
 cases hb1:q3g ⟨s1,⟨n1,d1,e1⟩,o1⟩
 ·rw[hb1] at h1
  (repeat' first|simp (disch:=omega) only[go_sem,qay,enter]|refine q00 _ (h1) ?_)
 ·rw[hb1] at h1
  cases hb2:q3g ⟨s2,⟨n2,d2,e2⟩,o2⟩
  ·rw[hb2] at h2
   (repeat' first|simp (disch:=omega) only[go_sem,qay,enter]|refine q00 _ (h1) ?_|refine q00 _ (h2) ?_)
  ·rw[hb2] at h2
   (repeat' first|simp (disch:=omega) only[go_sem,qay,enter]|refine q00 _ (h1) ?_|refine q00 _ (h2) ?_|(apply spl<;>intro h<;>try simp (disch:=omega) only[go_sem,h]))
   all_goals (simp; try omega)
end Ago
set_option maxRecDepth 100000
set_option exponentiation.threshold 2000
set_option maxHeartbeats 4000000
namespace Ago
open Go (IntKind)
open Go.Lib (compareBytes repeatL)
theorem qwm : ∀ n,repeatL [48] n=List.replicate n 48
 | 0=>rfl
 | n+1=>by simp [repeatL,qwm n,Vr]
theorem q7J : ∀ l:List UInt8,compareBytes l l=0
 | []=>rfl
 | a::l=>by
  have : ¬ a<a:=fun h=>UInt8.lt_irrefl a h
  simp [compareBytes,this,q7J l]
theorem qcD : ∀ a b:List UInt8,compareBytes a b=if Go.Op.bytesLess a b=true then -1 else if a=b then 0 else 1
 | [],[]=>by simp [compareBytes,Go.Op.bytesLess]
 | [],_::_=>by simp [compareBytes,Go.Op.bytesLess]
 | _::_,[]=>by simp [compareBytes,Go.Op.bytesLess]
 | a::xs,b::bs=>by
  unfold compareBytes
  rw[qcD xs bs]
  by_cases h:a<b
  ·simp [h,Go.Op.bytesLess]
  ·by_cases h2:b<a
   ·have h3 : ¬ a=b:=fun e=>h (by rw[e]; rw[e] at h2; exact h2)
    simp [h,h2,h3,Go.Op.bytesLess]
   ·have h3:a=b:=UInt8.le_antisymm (UInt8.not_lt.1 h2) (UInt8.not_lt.1 h)
    subst h3
    simp [h,Go.Op.bytesLess]
theorem qhX : ∀ (a b z:List UInt8),a.length=b.length→compareBytes (a++z) (b++z)=compareBytes a b
 | [],[],z,_=>by simp [compareBytes,q7J]
 | [],_::_,_,h=>by simp at h
 | _::_,[],_,h=>by simp at h
 | a::xs,b::bs,z,h=>by
  have ih:=qhX xs bs z (by simpa using h)
  simp [compareBytes,ih]
def q7X (a b:List UInt8):Int:=if a.length<b.length then -1 else if b.length<a.length then 1 else compareBytes a b
def pad (a:List UInt8) (n:Nat):List UInt8:=a++List.replicate n 48
def q58 (a b:Dec):Int:=
 if a.digits=[]∨b.digits=[] then q7X a.digits b.digits
 else if a.digits.length+a.exp<b.digits.length+b.exp then -1
 else if b.digits.length+b.exp<a.digits.length+a.exp then 1
 else compareBytes (pad a.digits (max a.digits.length b.digits.length-a.digits.length)) (pad b.digits (max a.digits.length b.digits.length-b.digits.length))
def q24 (a b:Dec):Int:=
 if a.neg=true∧b.neg=false then -1 else if b.neg=true∧a.neg=false then 1 else if a.neg=true then q58 b a else q58 a b
theorem q8e (a b:Dec) (ha:a.digits≠[]) (hb:b.digits≠[]) (m:Int) (h1:m≤a.exp) (h2:m≤b.exp) :
  q7X (pad a.digits (a.exp-m).toNat) (pad b.digits (b.exp-m).toNat)=q58 a b:=by
 have hs:q58 a b=if (a.digits.length:Int)+a.exp<b.digits.length+b.exp then -1 else if (b.digits.length:Int)+b.exp<a.digits.length+a.exp then 1
   else compareBytes (pad a.digits (max a.digits.length b.digits.length-a.digits.length)) (pad b.digits (max a.digits.length b.digits.length-b.digits.length)):=by
  unfold q58
  rw[if_neg (by simp [ha,hb])]
 rw[hs]
 unfold q7X
 have l1:(pad a.digits (a.exp-m).toNat).length=a.digits.length+(a.exp-m).toNat:=by simp [pad]
 have l2:(pad b.digits (b.exp-m).toNat).length=b.digits.length+(b.exp-m).toNat:=by simp [pad]
 rw[l1,l2]
 by_cases h:(a.digits.length:Int)+a.exp<b.digits.length+b.exp
 ·rw[if_pos h,if_pos (show a.digits.length+(a.exp-m).toNat<b.digits.length+(b.exp-m).toNat by omega)]
 rw[if_neg h,if_neg (show ¬ a.digits.length+(a.exp-m).toNat<b.digits.length+(b.exp-m).toNat by omega)]
 by_cases h':(b.digits.length:Int)+b.exp<a.digits.length+a.exp
 ·rw[if_pos h',if_pos (show b.digits.length+(b.exp-m).toNat<a.digits.length+(a.exp-m).toNat by omega)]
 rw[if_neg h',if_neg (show ¬ b.digits.length+(b.exp-m).toNat<a.digits.length+(a.exp-m).toNat by omega)]
 have key : ∀ (x y:List UInt8) (p q:Nat),x.length+p=y.length+q→compareBytes (pad x p) (pad y q)=compareBytes (pad x (max x.length y.length-x.length)) (pad y (max x.length y.length-y.length)):=by
  intro x y p q h
  have e1:pad x p=pad x (max x.length y.length-x.length)++List.replicate (x.length+p-max x.length y.length) 48:=by
   simp only[pad,Kv,List.replicate_append_replicate]
   congr 2
   omega
  have e2:pad y q=pad y (max x.length y.length-y.length)++List.replicate (x.length+p-max x.length y.length) 48:=by
   simp only[pad,Kv,List.replicate_append_replicate]
   congr 2
   omega
  rw[e1,e2]
  exact qhX _ _ _ (by simp [pad]; omega)
 exact key _ _ _ _ (by omega)
theorem qgt (a b:List UInt8):q0e CN 257 [.str a,.str b] (.int .i64 (compareBytes a b)):=by
 have hc:q0e CN 272 [.str a,.str b] (.int .i64 (compareBytes a b)):=qgK (F:=quI) rfl rfl
 refine q04 ql8 rfl ?_
 (repeat' first|simp (disch:=omega) only[go_sem,ql8,enter]|refine q00 _ (hc) ?_)
theorem qh4 (a b:List UInt8) (ha:a.length<2^31) (hb:b.length<2^31):q0e CN 286 [.str a,.str b] (.int .i64 (q7X a b)):=by
 have hc:=qgt a b
 refine q04 qn9 rfl ?_
 unfold q7X
 (repeat' first|simp (disch:=omega) only[go_sem,qn9,enter]|refine q00 _ (hc) ?_|(apply spl<;>intro h<;>try simp (disch:=omega) only[go_sem,h]))
 all_goals first | (rw[if_pos (by omega)]; done) | (rw[if_neg (by omega),if_pos (by omega)]; done) | (rw[if_neg (by omega),if_neg (by omega)]; done) | skip
theorem q9v (a b:List UInt8) (ha:a.length<2^31) (hb:b.length<2^31):q0e CN 647 [.str a,.str b] (.int .i64 (q7X a b)):=by
 refine q04 qkI rfl ?_
 unfold q7X
 rw[qcD]
 (repeat' first|simp (disch:=omega) only[go_sem,qkI,enter]|(apply spl<;>intro h<;>try simp (disch:=omega) only[go_sem,h]))
 all_goals (repeat' split)
 all_goals first | rfl | (exfalso; omega) | (simp_all; done) | skip
theorem q40 (d:Dec):q0e CN 264 [q0b d] (.bool (decide (0≤d.exp))):=by
 refine q04 qlh rfl ?_
 obtain ⟨neg,ds,exp⟩:=d
 simp only[q0b]
 (repeat' first|simp (disch:=omega) only[go_sem,qlh,enter])
 all_goals (simp; try omega)
theorem q5C (d:Dec):q0e CN 635 [q0b d] (.bool (decide (0≤d.exp))):=by
 refine q04 qng rfl ?_
 obtain ⟨neg,ds,exp⟩:=d
 simp only[q0b]
 (repeat' first|simp (disch:=omega) only[go_sem,qng,enter])
 all_goals (simp; try omega)
end Ago
set_option maxRecDepth 100000
set_option exponentiation.threshold 2000
set_option maxHeartbeats 4000000
namespace Ago
open Go (IntKind)
open Go.Lib (compareBytes repeatL)
theorem q0O {d:Dec} (h:q0c d=true):d.digits.length≤120∧-400≤d.exp∧d.exp≤400:=by
 unfold q0c at h
 split at h
 ·rename_i h0
  simp at h
  rw[h0]
  simp
  omega
 ·simp at h
  omega
theorem q6h (n:Nat) (h:n≤2147483648):q0e CN 291 [.str [48],.int .i64 n] (.str (List.replicate n 48)):=by
 have h1:=qm6 [48] n (by simp; omega) h
 rw[qwm] at h1
 exact qgK (F:=qsJ) rfl h1
theorem qlU (a b:Dec) (ha:q0c a=true) (hb:q0c b=true) : ∃ x y e,q0e CN 285 [q0b a,q0b b] (.tup [.str x,.str y,.int .i64 e])∧q7X x y=q58 a b∧x.length≤1000∧y.length≤1000:=by
 obtain ⟨fa1,fa2,fa3⟩:=q0O ha
 obtain ⟨fb1,fb2,fb3⟩:=q0O hb
 have va:=upN (q3y a (by omega))
 have vb:=upN (q3y b (by omega))
 rw[ha] at va
 rw[hb] at vb
 obtain ⟨na,da,ea⟩:=a
 obtain ⟨nb,db,eb⟩:=b
 simp only[q0b] at *
 by_cases h1:da=[]
 ·subst h1
  refine ⟨[],db,eb,q04 q6o rfl ?_,by simp [q58],by simp,by omega⟩
  (repeat' first|simp (disch:=omega) only[go_sem,q6o,enter]|refine q00 _ (va) ?_|refine q00 _ (vb) ?_)
 have hb1:(da == ([]:List UInt8))=false:=by simp [h1]
 by_cases h2:db=[]
 ·subst h2
  refine ⟨da,[],ea,q04 q6o rfl ?_,by simp [q58],by omega,by simp⟩
  (repeat' first|simp (disch:=omega) only[go_sem,q6o,enter,hb1]|refine q00 _ (va) ?_|refine q00 _ (vb) ?_)
 have hb2:(db == ([]:List UInt8))=false:=by simp [h2]
 have key : ∀ m:Int,m≤ea→m≤eb→-400≤m→q0e CN 291 [.str [48],.int .i64 (ea-m)] (.str (List.replicate (ea-m).toNat 48))∧q0e CN 291 [.str [48],.int .i64 (eb-m)] (.str (List.replicate (eb-m).toNat 48)):=by
  intro m k1 k2 k3
  have r1:=q6h (ea-m).toNat (by omega)
  have r2:=q6h (eb-m).toNat (by omega)
  rw[show (((ea-m).toNat:Nat):Int)=ea-m by omega] at r1
  rw[show (((eb-m).toNat:Nat):Int)=eb-m by omega] at r2
  exact ⟨r1,r2⟩
 have hl : ∀ (n:Nat),(List.replicate n (48:UInt8)).length=n:=fun n=>V2
 by_cases h:ea≤eb
 ·obtain ⟨r1,r2⟩:=key ea (by omega) h (by omega)
  refine ⟨pad da (ea-ea).toNat,pad db (eb-ea).toNat,ea,q04 q6o rfl ?_,q8e ⟨na,da,ea⟩ ⟨nb,db,eb⟩ h1 h2 ea (by simp) h,by simp [pad]; omega,by simp [pad]; omega⟩
  have hm : ¬ eb<ea:=by omega
  (repeat' first|simp (disch:=omega) only[go_sem,q6o,enter,hb1,hb2,hm,hl,pad]|refine q00 _ (va) ?_|refine q00 _ (vb) ?_|refine q00 _ (r1) ?_|refine q00 _ (r2) ?_)
  all_goals omega
 ·obtain ⟨r1,r2⟩:=key eb (by omega) (by omega) (by omega)
  refine ⟨pad da (ea-eb).toNat,pad db (eb-eb).toNat,eb,q04 q6o rfl ?_,q8e ⟨na,da,ea⟩ ⟨nb,db,eb⟩ h1 h2 eb (by simp only; omega) (by simp),by simp [pad]; omega,by simp [pad]; omega⟩
  have hm:eb<ea:=by omega
  (repeat' first|simp (disch:=omega) only[go_sem,q6o,enter,hb1,hb2,hm,hl,pad]|refine q00 _ (va) ?_|refine q00 _ (vb) ?_|refine q00 _ (r1) ?_|refine q00 _ (r2) ?_)
  all_goals omega
theorem qfq (a b:Dec) (ha:q0c a=true) (hb:q0c b=true):q0e CN 273 [q0b a,q0b b] (.int .i64 (q58 a b)):=by
 obtain ⟨x,y,e,hr,hc,l1,l2⟩:=qlU a b ha hb
 have hk:=qh4 x y (by omega) (by omega)
 rw[hc] at hk
 refine q04 qkr rfl ?_
 simp only[q0b] at *
 (repeat' first|simp (disch:=omega) only[go_sem,qkr,enter]|refine q00 _ (hr) ?_|refine q00 _ (hk) ?_)
theorem q5l (a b:Dec) (ha:q0c a=true) (hb:q0c b=true):q0e CN 263 [q0b a,q0b b] (.int .i64 (q24 a b)):=by
 have r1:=qfq a b ha hb
 have r2:=qfq b a hb ha
 refine q04 qeS rfl ?_
 unfold q24
 obtain ⟨na,da,ea⟩:=a
 obtain ⟨nb,db,eb⟩:=b
 simp only[q0b] at *
 cases na<;>cases nb
 ·try simp only[Ke,false_and,if_false]
  (repeat' first|simp (disch:=omega) only[go_sem,qeS,enter]|refine q00 _ (r1) ?_)
 ·try simp only[Ke,false_and,if_false,true_and,if_true]
  (repeat' first|simp (disch:=omega) only[go_sem,qeS,enter]|refine q00 _ (r1) ?_)
 ·try simp only[Ke,false_and,if_false,true_and,if_true]
  (repeat' first|simp (disch:=omega) only[go_sem,qeS,enter]|refine q00 _ (r1) ?_)
 ·try simp only[KY,and_false,if_false,if_true]
  (repeat' first|simp (disch:=omega) only[go_sem,qeS,enter]|refine q00 _ (r2) ?_)
theorem qbS (a b:Dec) (ha:a.digits.length≤120) (hb:b.digits.length≤120) (xa : -400≤a.exp∧a.exp≤400) (xb : -400≤b.exp∧b.exp≤400):q0e CN 643 [q0b a,q0b b] (.int .i64 (q58 a b)):=by
 have c0:=q9v a.digits b.digits (by omega) (by omega)
 have hp : ∀ (x:List UInt8) n,(pad x n).length=x.length+n:=by simp [pad]
 have c1:=q9v (pad a.digits (max a.digits.length b.digits.length-a.digits.length)) (pad b.digits (max a.digits.length b.digits.length-b.digits.length)) (by rw[hp]; omega) (by rw[hp]; omega)
 have n1:=upN (q6S (max a.digits.length b.digits.length-a.digits.length) (by omega))
 have n2:=upN (q6S (max a.digits.length b.digits.length-b.digits.length) (by omega))
 have hl : ∀ (n:Nat),(List.replicate n (48:UInt8)).length=n:=fun n=>V2
 refine q04 qb2 rfl ?_
 unfold q58
 obtain ⟨na,da,ea⟩:=a
 obtain ⟨nb,db,eb⟩:=b
 simp only[q0b] at *
 by_cases h1:da=[]
 ·subst h1
  try simp only[true_or,if_true]
  (repeat' first|simp (disch:=omega) only[go_sem,qb2,enter]|refine q00 _ (c0) ?_)
 have hb1:(da == ([]:List UInt8))=false:=by simp [h1]
 by_cases h2:db=[]
 ·subst h2
  try simp only[or_true,if_true]
  (repeat' first|simp (disch:=omega) only[go_sem,qb2,enter,hb1]|refine q00 _ (c0) ?_)
 have hb2:(db == ([]:List UInt8))=false:=by simp [h2]
 rw[if_neg (by simp [h1,h2])]
 by_cases h3:(da.length:Int)+ea<db.length+eb
 ·rw[if_pos h3]
  (repeat' first|simp (disch:=omega) only[go_sem,qb2,enter,hb1,hb2])
  all_goals omega
 rw[if_neg h3]
 by_cases h4:(db.length:Int)+eb<da.length+ea
 ·rw[if_pos h4]
  (repeat' first|simp (disch:=omega) only[go_sem,qb2,enter,hb1,hb2])
  all_goals omega
 rw[if_neg h4]
 have e1:q7X (pad da (max da.length db.length-da.length)) (pad db (max da.length db.length-db.length))=compareBytes (pad da (max da.length db.length-da.length)) (pad db (max da.length db.length-db.length)):=by
  unfold q7X
  rw[hp,hp,if_neg (by omega),if_neg (by omega)]
 rw[e1] at c1
 by_cases h5:da.length<db.length
 ·rw[show max da.length db.length=db.length by omega] at *
  rw[show (((db.length-da.length:Nat):Int))=(db.length:Int)-da.length by omega] at n1
  rw[show (((db.length-db.length:Nat):Int))=(db.length:Int)-db.length by omega] at n2
  simp only[pad] at c1
  (repeat' first|simp (disch:=omega) only[go_sem,qb2,enter,hb1,hb2,hl,pad]|refine q00 _ (n1) ?_|refine q00 _ (n2) ?_|refine q00 _ (c1) ?_)
  all_goals omega
 ·rw[show max da.length db.length=da.length by omega] at *
  rw[show (((da.length-da.length:Nat):Int))=(da.length:Int)-da.length by omega] at n1
  rw[show (((da.length-db.length:Nat):Int))=(da.length:Int)-db.length by omega] at n2
  simp only[pad] at c1
  (repeat' first|simp (disch:=omega) only[go_sem,qb2,enter,hb1,hb2,hl,pad]|refine q00 _ (n1) ?_|refine q00 _ (n2) ?_|refine q00 _ (c1) ?_)
  all_goals omega
theorem q3J (a b:Dec) (ha:q0c a=true) (hb:q0c b=true):q0e CN 634 [q0b a,q0b b] (.int .i64 (q24 a b)):=by
 obtain ⟨fa1,fa2,fa3⟩:=q0O ha
 obtain ⟨fb1,fb2,fb3⟩:=q0O hb
 have r1:=qbS a b fa1 fb1 ⟨fa2,fa3⟩ ⟨fb2,fb3⟩
 have r2:=qbS b a fb1 fa1 ⟨fb2,fb3⟩ ⟨fa2,fa3⟩
 refine q04 qef rfl ?_
 unfold q24
 obtain ⟨na,da,ea⟩:=a
 obtain ⟨nb,db,eb⟩:=b
 simp only[q0b] at *
 cases na<;>cases nb
 ·try simp only[Ke,false_and,if_false]
  (repeat' first|simp (disch:=omega) only[go_sem,qef,enter]|refine q00 _ (r1) ?_)
 ·try simp only[Ke,false_and,if_false,true_and,if_true]
  (repeat' first|simp (disch:=omega) only[go_sem,qef,enter]|refine q00 _ (r1) ?_)
 ·try simp only[Ke,false_and,if_false,true_and,if_true]
  (repeat' first|simp (disch:=omega) only[go_sem,qef,enter]|refine q00 _ (r1) ?_)
 ·try simp only[KY,and_false,if_false,if_true]
  (repeat' first|simp (disch:=omega) only[go_sem,qef,enter]|refine q00 _ (r2) ?_)
end Ago
set_option maxRecDepth 100000
set_option exponentiation.threshold 2000
set_option maxHeartbeats 4000000
namespace Ago
open Go (IntKind)
def inM (p:Prt) (d:Dec):Bool:=
 if p.lo.set=true∧(q24 d p.lo.num<0∨q24 d p.lo.num=0∧p.lo.opn=true) then false
 else if p.hi.set=true∧(0<q24 d p.hi.num∨q24 d p.hi.num=0∧p.hi.opn=true) then false
 else if p.sort=0 then true
 else decide (0≤d.exp) == decide (p.sort=1)
theorem qhr {p:Prt} (h:q2z p=true) (hs:p.lo.set=true):q0c p.lo.num=true:=by
 unfold q2z q3g at h
 simp [hs] at h
 exact h.1.1.1
theorem qgY {p:Prt} (h:q2z p=true) (hs:p.hi.set=true):q0c p.hi.num=true:=by
 unfold q2z q3g at h
 simp [hs] at h
 exact h.1.1.2
theorem qiG (p:Prt) (d:Dec) (hp:q2z p=true) (hd:q0c d=true):q0e CN 251 [q0n p,q0b d] (.bool (inM p d)):=by
 have rl:p.lo.set=true→q0e CN 263 [q0b d,q0b p.lo.num] (.int .i64 (q24 d p.lo.num)):=fun h=>q5l d _ hd (qhr hp h)
 have rh:p.hi.set=true→q0e CN 263 [q0b d,q0b p.hi.num] (.int .i64 (q24 d p.hi.num)):=fun h=>q5l d _ hd (qgY hp h)
 have rw_:=q40 d
 refine q04 qlz rfl ?_
 unfold inM
 obtain ⟨c1,hc1⟩ : ∃ c,q24 d p.lo.num=c:=⟨_,rfl⟩
 obtain ⟨c2,hc2⟩ : ∃ c,q24 d p.hi.num=c:=⟨_,rfl⟩
 rw[hc1] at rl ⊢
 rw[hc2] at rh ⊢
 clear hc1 hc2 hp hd
 obtain ⟨⟨s1,⟨n1,d1,e1⟩,o1⟩,⟨s2,⟨n2,d2,e2⟩,o2⟩,sort⟩:=p
 obtain ⟨neg,ds,exp⟩:=d
 simp only[q0n,q0b] at *
 cases s1<;>cases s2<;>cases o1<;>cases o2<;>simp only[Ke,false_and,and_false,or_false,if_false,true_and,and_true,forall_const] at rl rh ⊢
 all_goals
  (repeat' first|simp (disch:=omega) only[go_sem,qlz,enter]|refine q00 _ (rl) ?_|refine q00 _ (rh) ?_|refine q00 _ (rw_) ?_|(apply spl<;>intro h<;>try simp (disch:=omega) only[go_sem,h]))
 all_goals first
  | (simp; omega)
  | (simp_all; done)
  | (simp_all; omega)
  | (
   have e1:(sort == 1)=decide (sort=1):=by by_cases q:sort=1<;>simp [q]
   by_cases q1:sort=0<;>by_cases q2:sort=1<;>by_cases q3:0≤exp<;>simp [e1,q1,q2,q3]<;>omega)
  | (by_cases q1:sort=0<;>by_cases q2:sort=1<;>by_cases q3:0≤exp<;>simp_all)
  | skip
end Ago
set_option maxRecDepth 100000
set_option exponentiation.threshold 2000
set_option maxHeartbeats 4000000
namespace Ago
open Go (IntKind)
theorem qme (l:List Prt) (hl:qpb l):q0e CN 229 [q3I l] (.bool (q7s l)):=by
 obtain ⟨hl1,hl2⟩:=hl
 refine q04 qdo rfl ?_
 unfold q3I q7s
 by_cases h256:l.length≤256
 case neg=>
  rw[decide_eq_false h256]
  (repeat' first|simp (disch:=omega) only[go_sem,qdo,enter,Ka])
  all_goals omega
 rw[decide_eq_true h256,Kw]
 (repeat' first|simp (disch:=omega) only[go_sem,qdo,enter,Ka]|(apply spl<;>intro h<;>try simp (disch:=omega) only[go_sem,h]))
 all_goals try omega
 refine q06 (α:=Nat) (fun k=>{ tmps:=q0h 20 [(10,.tsl 11 (l.map q0n)),(11,.int .i64 l.length),(12,.int .i64 k)],heap:=[],base:=0 }) (fun k=>k≤l.length∧(l.take k).all q2z=true) (fun k=>l.length-k) 0 rfl ⟨Km _,rfl⟩ ?_
 rintro k ⟨hk,hd⟩
 by_cases hlt:k<l.length
 ·obtain ⟨p,hp⟩:=q05 hlt
  have hp2:=q09 (g:=q0n) hp
  obtain ⟨q1,q2⟩:=hl2 p (Kc hp)
  have hr:=qdT p q1 q2
  simp only[q0n] at hp2 hr
  cases hb:q2z p with
  | true=>
   rw[hb] at hr
   (repeat' first|simp (disch:=omega) only[go_sem,hp2,Ka]|refine q00 _ (hr) ?_|(apply spl<;>intro h<;>try simp (disch:=omega) only[go_sem,h]))
   all_goals try omega
   exact ⟨k+1,rfl,⟨hlt,q0v hp hd hb⟩,by omega⟩
  | false=>
   rw[hb] at hr
   have hn:l.all q2z=false:=q3R hp hb
   rw[hn]
   (repeat' first|simp (disch:=omega) only[go_sem,hp2,Ka]|refine q00 _ (hr) ?_)
   all_goals omega
 ·rw[q0M hlt hk] at hd
  rw[hd]
  (repeat' first|simp (disch:=omega) only[go_sem,Ka])
  all_goals omega
end Ago
set_option maxRecDepth 100000
set_option exponentiation.threshold 2000
set_option maxHeartbeats 4000000
namespace Ago
open Go (IntKind)
end Ago
set_option maxRecDepth 100000
set_option exponentiation.threshold 2000
set_option maxHeartbeats 4000000
namespace Ago
open Go (IntKind)
def qrv (r:List Prt × Int):AV:=.tup [q3I r.1,.int .i64 r.2]
def qwA (p:Prt):List Prt × Int:=if q2z p=true then ([p],0) else ([],1)
theorem qr9 (lo hi:Bnd) (sort:Int) (h1:lo.num.digits.length<2^31) (h2:hi.num.digits.length<2^31):q0e CN 679 [q4z lo,q4z hi,.int .i64 sort] (qrv (qwA ⟨lo,hi,sort⟩)):=by
 have hr:=qdT ⟨lo,hi,sort⟩ h1 h2
 refine q04 qmM rfl ?_
 unfold qwA qrv q3I
 cases hb:q2z ⟨lo,hi,sort⟩<;>rw[hb] at hr
 ·try simp only[Ke,if_false]
  simp only[q4z,q0n,Kt] at *
  (repeat' first|simp (disch:=omega) only[go_sem,qmM,enter]|refine q00 _ (hr) ?_)
 ·try simp only[if_true]
  simp only[q4z,q0n,Kj,Kt] at *
  (repeat' first|simp (disch:=omega) only[go_sem,qmM,enter]|refine q00 _ (hr) ?_|(apply spl<;>intro h<;>try simp (disch:=omega) only[go_sem,h]))
  all_goals rfl
end Ago
set_option maxRecDepth 100000
set_option exponentiation.threshold 2000
namespace Ago
open Go (IntKind)
open Go.Lib (compareBytes repeatL)
theorem q2e (n:Nat):(0:Int)<10^n:=Int.pow_pos (by decide)
def q30 (d:Dec):Int:=q08 d.digits * 10^(d.exp+400).toNat
def q0x (d:Dec):Int:=if d.neg=true then-q30 d else q30 d
theorem qbl : ∀ n,q08 (List.replicate n 48)=0
 | 0=>rfl
 | n+1=>by
  rw[Vr,q1B,qbl n]
  simp
theorem q2r (s:List UInt8) (n:Nat):q08 (pad s n)=q08 s * 10^n:=by
 unfold pad
 rw[q5b,qbl,V2]
 omega
structure Num (s:List UInt8):Prop where
 dig:digits s=true
 head:s[0]?≠some 48
 ne:s≠[]
theorem Num.low {s:List UInt8} (h:Num s):(10:Int)^(s.length-1)≤q08 s:=by
 cases s with
 | nil=>exact absurd rfl h.ne
 | cons c s=>
  have hd:=h.dig
  simp only[digits,Vc,Kf] at hd
  have hb:=q0o s hd.2
  rw[q1B]
  have hc:=hd.1
  simp only[q5n,decide_eq_true_eq] at hc
  have h48:c.toNat≠48:=fun e=>h.head (by simp [UInt8.toNat_inj.1 (show c.toNat=(48:UInt8).toNat from e)])
  have hp:=q2e s.length
  have h1:=Int.mul_le_mul_of_nonneg_right (show (1:Int)≤c.toNat-48 by omega) (show 0≤(10:Int)^s.length by omega)
  rw[Int.one_mul] at h1
  simp only[Kb,Nat.add_sub_cancel]
  omega
theorem Num.pos {s:List UInt8} (h:Num s):0<q08 s:=by
 have:=h.low
 have:=q2e (s.length-1)
 omega
theorem Num.pad {s:List UInt8} (h:Num s) (n:Nat):Num (pad s n):=by
 refine ⟨q7V h.dig (qaS n),?_,?_⟩
 ·unfold Ago.pad
  rw[K9 (Vm.2 h.ne)]
  exact h.head
 ·unfold Ago.pad
  simp [h.ne]
theorem q7E {a b:List UInt8} (ha:Num a) (hb:Num b):(q7X a b<0↔q08 a<q08 b)∧(q7X a b=0↔q08 a=q08 b)∧(q7X a b=0→a=b):=by
 have key : ∀ {x y:List UInt8},Num x→Num y→x.length<y.length→q08 x<q08 y:=fun {x y} hx hy h=>by
  have h1:=(q0o x hx.dig).2
  have h2:=hy.low
  have h3:=q29 (show x.length≤y.length-1 by omega)
  omega
 unfold q7X
 by_cases h1:a.length<b.length
 ·have:=key ha hb h1
  rw[if_pos h1]
  refine ⟨by simp; omega,by simp; omega,by simp⟩
 ·rw[if_neg h1]
  by_cases h2:b.length<a.length
  ·have:=key hb ha h2
   rw[if_pos h2]
   refine ⟨by simp; omega,by simp; omega,by simp⟩
  ·rw[if_neg h2,qcD]
   have hl:a.length=b.length:=by omega
   have l1:=qn4 a b ha.dig hb.dig hl
   by_cases h3:Go.Op.bytesLess a b=true
   ·rw[if_pos h3]
    have:=l1.1 h3
    refine ⟨by simp; omega,by simp; omega,by simp⟩
   ·rw[if_neg h3]
    have h4:=fun h=>h3 (l1.2 h)
    by_cases h5:a=b
    ·rw[if_pos h5]
     subst h5
     simp
    ·rw[if_neg h5]
     have l2:=qn4 b a hb.dig ha.dig hl.symm
     have h6:Go.Op.bytesLess b a=true:=by
      have e1:=qcD b a
      by_cases h7:Go.Op.bytesLess b a=true
      ·exact h7
      ·exfalso
       apply h5
       have : ∀ (x y:List UInt8),x.length=y.length→¬ Go.Op.bytesLess x y=true→¬ Go.Op.bytesLess y x=true→x=y:=by
        intro x
        induction x with
        | nil=>intro y h _ _; cases y with
         | nil=>rfl
         | cons _ _=>simp at h
        | cons u x ih=>intro y h k1 k2; cases y with
         | nil=>simp at h
         | cons v y=>
          simp only[Go.Op.bytesLess,KS,decide_eq_true_eq,Kf,beq_iff_eq,not_or,not_and] at k1 k2
          have e:u=v:=UInt8.le_antisymm (UInt8.not_lt.1 k2.1) (UInt8.not_lt.1 k1.1)
          subst e
          rw[ih y (by simpa using h) (k1.2 rfl) (k2.2 rfl)]
       exact this a b hl h3 h7
     have:=l2.1 h6
     refine ⟨by simp; omega,by simp; omega,by simp⟩
theorem q1w {d:Dec} (h:q0c d=true) (hn:d.digits≠[]):Num d.digits∧q0G d.digits=0∧d.digits.length≤120∧-400≤d.exp∧d.exp≤400:=by
 unfold q0c q56 at h
 rw[if_neg hn] at h
 simp only[Kf,decide_eq_true_eq] at h
 obtain ⟨⟨⟨⟨h1,⟨h2,h3⟩,h4⟩,h5⟩,h6⟩,h7⟩:=h
 exact ⟨⟨h3,h4,hn⟩,h5,h1,h6,h7⟩
theorem q4L {d:Dec} (h:q0c d=true) (hn:d.digits=[]):d=⟨false,[],0⟩:=by
 unfold q0c at h
 rw[if_pos hn] at h
 obtain ⟨n,ds,e⟩:=d
 simp at h hn
 simp [h,hn]
theorem q66 {d:Dec} (h:q0c d=true) (hn:d.digits≠[]):0<q30 d:=by
 obtain ⟨h1,_⟩:=q1w h hn
 exact Int.mul_pos h1.pos (q2e _)
theorem q2G {d:Dec} (hn:d.digits=[]):q30 d=0:=by
 unfold q30
 rw[hn]
 simp [q08]
theorem q3s {d:Dec} (h:q0c d=true):0≤q30 d:=by
 by_cases hn:d.digits=[]
 ·rw[q2G hn]; exact Int.le_refl _
 ·have:=q66 h hn
  omega
theorem qnG {d:Dec} (h:q0c d=true):q30 d<10^920:=by
 by_cases hn:d.digits=[]
 ·rw[q2G hn]; exact q2e _
 ·obtain ⟨h1,_,h2,h3,h4⟩:=q1w h hn
  have hb:=q0o d.digits h1.dig
  have e:q30 d=q08 (pad d.digits (d.exp+400).toNat):=by rw[q2r]; rfl
  rw[e]
  have hb2:=(q0o _ (h1.pad (d.exp+400).toNat).dig).2
  have hl:(pad d.digits (d.exp+400).toNat).length≤920:=by
   simp only[pad,Kh,V2]
   omega
  have:=q29 hl
  omega
theorem q7M (s:List UInt8) (n:Nat) (h:Num s) (h0:q0G s=0):q0G (pad s n)=n:=by
 unfold q0G pad at *
 rw[List.reverse_append,List.reverse_replicate]
 have : ∀ (n:Nat) (l:List UInt8),((List.replicate n 48++l).takeWhile (· == (48:UInt8))).length=n+(l.takeWhile (· == (48:UInt8))).length:=by
  intro n l
  induction n with
  | zero=>simp
  | succ n ih=>
   rw[Vr,Ko,List.takeWhile_cons_of_pos (by rfl),Kb,ih]
   omega
 rw[this,h0]
 rfl
theorem qeb {a b:Dec} (ha:q0c a=true) (hb:q0c b=true):(q58 a b<0↔q30 a<q30 b)∧(q58 a b=0↔q30 a=q30 b)∧(q58 a b=0→a.digits=b.digits∧a.exp=b.exp):=by
 by_cases h1:a.digits=[]
 ·have e1:=q4L ha h1
  by_cases h2:b.digits=[]
  ·have e2:=q4L hb h2
   rw[e1,e2]
   simp [q58,q7X,q7J]
  ·have hp:=q66 hb h2
   rw[q2G h1]
   have hl:=Vm.2 h2
   have:q58 a b = -1:=by
    unfold q58 q7X
    rw[if_pos (.inl h1),h1,if_pos (by simpa using hl)]
   rw[this]
   exact ⟨by simp; omega,by simp; omega,by simp⟩
 by_cases h2:b.digits=[]
 ·have hp:=q66 ha h1
  rw[q2G h2]
  have hl:=Vm.2 h1
  have:q58 a b=1:=by
   unfold q58 q7X
   rw[if_pos (.inr h2),h2,if_neg (by simp),if_pos (by simpa using hl)]
  rw[this]
  exact ⟨by simp; omega,by simp; omega,by simp⟩
 obtain ⟨a1,a2,a3,a4,a5⟩:=q1w ha h1
 obtain ⟨b1,b2,b3,b4,b5⟩:=q1w hb h2
 have e:=q8e a b h1 h2 (-400) a4 b4
 rw[show a.exp - -400=a.exp+400 by omega,show b.exp - -400=b.exp+400 by omega] at e
 have hc:=q7E (a1.pad (a.exp+400).toNat) (b1.pad (b.exp+400).toNat)
 rw[e,q2r,q2r] at hc
 refine ⟨hc.1,hc.2.1,fun h=>?_⟩
 have hpp:=hc.2.2 h
 have z:=congrArg q0G hpp
 rw[q7M _ _ a1 a2,q7M _ _ b1 b2] at z
 refine ⟨?_,by omega⟩
 rw[z] at hpp
 unfold pad at hpp
 exact List.append_cancel_right hpp
theorem q2o {a b:Dec} (ha:q0c a=true) (hb:q0c b=true):(q24 a b<0↔q0x a<q0x b)∧(q24 a b=0↔q0x a=q0x b)∧(q24 a b=0→a=b):=by
 have s1:=qeb ha hb
 have s2:=qeb hb ha
 have na:=q3s ha
 have nb:=q3s hb
 have zn : ∀ {d:Dec},q0c d=true→d.neg=true→0<q30 d:=fun {d} hd hn=>by
  refine q66 hd fun h=>?_
  rw[q4L hd h] at hn
  cases hn
 have pa:=zn ha
 have pb:=zn hb
 have ext:a.neg=b.neg→a.digits=b.digits→a.exp=b.exp→a=b:=fun h1 h2 h3=>by
  obtain ⟨x,y,z⟩:=a
  obtain ⟨u,v,w⟩:=b
  simp only at h1 h2 h3
  rw[h1,h2,h3]
 unfold q24 q0x
 cases h1:a.neg<;>cases h2:b.neg
 ·simp only[Ke,false_and,and_false,if_false]
  exact ⟨s1.1,s1.2.1,fun h=>ext (by rw[h1,h2]) (s1.2.2 h).1 (s1.2.2 h).2⟩
 ·have:=pb h2
  simp only[Ke,false_and,if_false,true_and,if_true]
  refine ⟨by simp; omega,by simp; omega,by simp⟩
 ·have:=pa h1
  simp only[Ke,and_self,if_true]
  refine ⟨by simp; omega,by simp; omega,by simp⟩
 ·simp only[KY,and_false,if_false,if_true]
  refine ⟨by omega,by omega,fun h=>ext (by rw[h1,h2]) (s2.2.2 h).1.symm (s2.2.2 h).2.symm⟩
theorem qcH {a b:Dec} (ha:q0c a=true) (hb:q0c b=true):0<q24 a b↔q0x b<q0x a:=by
 have:=q2o ha hb
 omega
theorem qp4 {d:Dec} (h:q0c d=true) : - 10^920<q0x d∧q0x d<10^920:=by
 have h1:=qnG h
 have h2:=q3s h
 unfold q0x
 generalize (10:Int)^920=B at *
 split<;>omega
end Ago
set_option maxRecDepth 100000
set_option exponentiation.threshold 2000
namespace Ago
structure Cut where
 fin:Int
 num:Dec
 aft:Bool
def qmO:Dec:=⟨false,[],0⟩
def qt1 (b:Bnd):Cut:=if b.set=true then ⟨0,b.num,b.opn⟩ else ⟨-1,qmO,false⟩
def qt4 (b:Bnd):Cut:=if b.set=true then ⟨0,b.num,!b.opn⟩ else ⟨1,qmO,false⟩
def qrK (c:Cut):Prop:=(c.fin=0∧q0c c.num=true)∨((c.fin = -1∨c.fin=1)∧c.num=qmO∧c.aft=false)
def qrI:Int:=10^930
def qid (c:Cut):Int:=if c.fin=0 then 2 * q0x c.num+(if c.aft=true then 1 else 0) else c.fin * qrI
theorem qmr {d:Dec} (h:q0c d=true) : - qrI<2 * q0x d∧2 * q0x d+1<qrI:=by
 have h1:=qp4 h
 have h2:(4:Int) * 10^920≤qrI:=by
  show (4:Int) * 10^920≤10^930
  decide +kernel
 have h3:=q2e 920
 generalize qrI=T at *
 generalize (10:Int)^920=B at *
 omega
theorem qhI {c:Cut} (h:c.fin=0):qid c=2 * q0x c.num+(if c.aft=true then 1 else 0):=by unfold qid; rw[if_pos h]
theorem qrP {c:Cut} (h:c.fin = -1):qid c = - qrI:=by
 unfold qid
 rw[if_neg (by omega),h]
 omega
theorem qsE {c:Cut} (h:c.fin=1):qid c=qrI:=by
 unfold qid
 rw[if_neg (by omega),h]
 omega
theorem q81 {b:Bnd} (h:q3g b=true) (hs:b.set=true):q0c b.num=true:=by
 unfold q3g at h
 rwa [if_pos hs] at h
theorem qv0 {b:Bnd} (h:q3g b=true):qrK (qt1 b):=by
 unfold qt1
 split
 ·rename_i hs
  exact .inl ⟨rfl,q81 h hs⟩
 ·exact .inr ⟨.inl rfl,rfl,rfl⟩
theorem quB {b:Bnd} (h:q3g b=true):qrK (qt4 b):=by
 unfold qt4
 split
 ·rename_i hs
  exact .inl ⟨rfl,q81 h hs⟩
 ·exact .inr ⟨.inr rfl,rfl,rfl⟩
theorem q95 {p:Prt} (h:q2z p=true):q3g p.lo=true∧q3g p.hi=true∧0≤p.sort∧p.sort≤2:=by
 unfold q2z at h
 simp only[Kf,decide_eq_true_eq] at h
 exact ⟨h.1.1.1,h.1.1.2,h.1.2,h.2⟩
def qoM (d:Dec):Int:=if 0≤d.exp then 1 else 2
def qil (s t:Int):Bool:=decide (s=0∨s=t)
theorem qmK {b:Bnd} (h:q3g b=true) {d:Dec} (hd:q0c d=true):qid (qt1 b)≤2 * q0x d↔¬ (b.set=true∧(q24 d b.num<0∨q24 d b.num=0∧b.opn=true)):=by
 have ht:=qmr hd
 unfold qt1
 by_cases hs:b.set=true
 ·rw[if_pos hs,qhI rfl]
  have hv:=q2o hd (q81 h hs)
  cases ho:b.opn<;>simp only[hs,true_and,Ke,and_false,or_false,and_true,if_false,if_true]<;>omega
 ·rw[if_neg hs,qrP rfl]
  rw[Bool.not_eq_true] at hs
  simp only[hs,Ke,false_and,not_false_eq_true,iff_true]
  omega
theorem qmc {b:Bnd} (h:q3g b=true) {d:Dec} (hd:q0c d=true):2 * q0x d<qid (qt4 b)↔¬ (b.set=true∧(0<q24 d b.num∨q24 d b.num=0∧b.opn=true)):=by
 have ht:=qmr hd
 unfold qt4
 by_cases hs:b.set=true
 ·rw[if_pos hs,qhI rfl]
  have hv:=q2o hd (q81 h hs)
  cases ho:b.opn<;>simp only[hs,true_and,Ke,and_false,or_false,and_true,if_false,if_true,V3,Vq]<;>omega
 ·rw[if_neg hs,qsE rfl]
  rw[Bool.not_eq_true] at hs
  simp only[hs,Ke,false_and,not_false_eq_true,iff_true]
  omega
theorem qrn {p:Prt} (hp:q2z p=true) {d:Dec} (hd:q0c d=true):inM p d=(decide (qid (qt1 p.lo)≤2 * q0x d) && decide (2 * q0x d<qid (qt4 p.hi)) && qil p.sort (qoM d)):=by
 obtain ⟨h1,h2,h3,h4⟩:=q95 hp
 have e1:=qmK h1 hd
 have e2:=qmc h2 hd
 unfold inM
 by_cases k1:p.lo.set=true∧(q24 d p.lo.num<0∨q24 d p.lo.num=0∧p.lo.opn=true)
 ·rw[if_pos k1,decide_eq_false (fun h=>(e1.1 h) k1)]
  rfl
 ·rw[if_neg k1,decide_eq_true (e1.2 k1)]
  by_cases k2:p.hi.set=true∧(0<q24 d p.hi.num∨q24 d p.hi.num=0∧p.hi.opn=true)
  ·rw[if_pos k2,decide_eq_false (fun h=>(e2.1 h) k2)]
   rfl
  ·rw[if_neg k2,decide_eq_true (e2.2 k2)]
   unfold qil qoM
   by_cases hs:p.sort=0
   ·simp [hs]
   ·rw[if_neg hs]
    by_cases hx:0≤d.exp<;>by_cases hy:p.sort=1<;>by_cases hz:p.sort=2<;>simp [hs,hx,hy,hz]<;>omega
structure Reg where
 lo:Cut
 hi:Cut
 wh:Bool
 fr:Bool
abbrev qyC:=List (List Prt)
structure CutsOf (sets:qyC) (l:List Cut):Prop where
 mem : ∀ c,c∈l↔(c=⟨-1,qmO,false⟩∨c=⟨1,qmO,false⟩∨∃ s,s∈sets∧∃ p,p∈s∧(c=qt1 p.lo∨c=qt4 p.hi))
 ord:l.Pairwise fun a b=>qid a<qid b
theorem CutsOf.ok {sets:qyC} {l:List Cut} (h:CutsOf sets l) (hs : ∀ s,s∈sets→∀ p,p∈s→q2z p=true) : ∀ c,c∈l→qrK c:=by
 intro c hc
 rcases (h.mem c).1 hc with rfl | rfl | ⟨s,h1,p,h2,rfl | rfl⟩
 ·exact .inr ⟨.inl rfl,rfl,rfl⟩
 ·exact .inr ⟨.inr rfl,rfl,rfl⟩
 ·exact qv0 (q95 (hs s h1 p h2)).1
 ·exact quB (q95 (hs s h1 p h2)).2.1
structure RegsTo (rs:List Reg) (e:Cut):Prop where
 ord : ∀ r,r∈rs→qid r.lo<qid r.hi
 last : ∀ r,rs.getLast?=some r→r.hi=e
end Ago
