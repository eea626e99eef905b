/- Whole numbers,texts and paths as values. -/
import Derived.Test.YtjeahlpkonkjiaaGreatDoorORunA
import Derived.Test.YtjeahlpkonkjiaaGreatDoorORunX
import Derived.Test.YtjeahlpkonkjiaaGreatDoorOCodeN
import Derived.Test.YtjeahlpkonkjiaaGreatDoorORunG
import Derived.Test.YtjeahlpkonkjiaaGreatDoorOMachE
set_option linter.unusedSimpArgs false
set_option linter.unusedVariables false
set_option maxRecDepth 100000
set_option maxHeartbeats 4000000
namespace Ago
open Go (IntKind)


theorem q4S (a b:List UInt8):q09 (a++b)=q09 a * 10^b.length+q09 b:=by
 unfold q09
 rw[List.foldl_append,qbG]
 rfl
theorem qeJ (n:Nat):(UInt8.ofNat (48+n % 10)).toNat=48+n % 10:=by
 rw[UInt8.toNat_ofNat']
 omega
theorem qkJ {n:Nat} (h:n≠0):qlm n=qlm (n / 10)++[UInt8.ofNat (48+n % 10)]:=by
 unfold qlm
 rw[qhu h,List.reverse_cons]
theorem qjf : ∀ (n:Nat),digits (qlm n)=true∧q09 (qlm n)=n∧(n≠0→(qlm n)[0]?≠some 48∧qlm n≠[])
 | 0=>⟨rfl,rfl,fun h=>(h rfl).elim⟩
 | n+1=>by
  obtain ⟨h1,h2,h3⟩:=qjf ((n+1) / 10)
  rw[qkJ (by omega)]
  have hd:=qeJ (n+1)
  refine ⟨q6T h1 (by simp [digits,q64,hd]; omega),?_,fun _=>⟨?_,by simp⟩⟩
  ·rw[q4S,h2]
   simp only[q09,VD,List.foldl_nil,Kb,Kg,hd]
   omega
  ·by_cases h0:(n+1) / 10=0
   ·rw[h0]
    have e:qlm 0=[]:=rfl
    rw[e,Kv,K0]
    intro h
    have h4:=congrArg UInt8.toNat (K8 h)
    rw[hd] at h4
    have e48:UInt8.toNat 48=48:=rfl
    rw[e48] at h4
    omega
   ·obtain ⟨h4,h5⟩:=h3 h0
    rw[K4 (Ve.2 h5)]
    exact h4
termination_by n=>n
decreasing_by omega

theorem q9s (s:List UInt8):s.take (s.length-q0H s)++List.replicate (q0H s) 48=s∧q0H (s.take (s.length-q0H s))=0:=by
 have h:=List.takeWhile_append_dropWhile (p:=fun x=>x == (48:UInt8)) (l:=s.reverse)
 have hall:s.reverse.takeWhile (fun x=>x == (48:UInt8))=List.replicate (q0H s) 48:=by
  refine List.eq_replicate_iff.2 ⟨rfl,fun b hb=>?_⟩
  have:=Ki.1 (List.all_takeWhile (p:=fun x=>x == (48:UInt8)) (l:=s.reverse)) b hb
  simpa using this
 rw[hall] at h
 have h2:s=(s.reverse.dropWhile (fun x=>x == (48:UInt8))).reverse++List.replicate (q0H s) 48:=by
  have:=congrArg List.reverse h
  simpa using this.symm
 have hlen:(s.reverse.dropWhile (fun x=>x == (48:UInt8))).length=s.length-q0H s:=by
  have:=congrArg List.length h2
  simp at this
  omega
 have ht:s.take (s.length-q0H s)=(s.reverse.dropWhile (fun x=>x == (48:UInt8))).reverse:=by
  have gen : ∀ (a b:List UInt8) (m:Nat),s=a++b→a.length=m→s.take m=a:=by
   rintro a b m rfl rfl
   simp
  exact gen _ _ _ h2 (by rw[List.length_reverse,hlen])
 refine ⟨by rw[ht]; exact h2.symm,?_⟩
 rw[ht]
 unfold q0H
 rw[List.reverse_reverse]
 cases hd:s.reverse.dropWhile (fun x=>x == (48:UInt8)) with
 | nil=>rfl
 | cons c l=>
  have hne:s.reverse.dropWhile (fun x=>x == (48:UInt8))≠[]:=by simp [hd]
  have:=List.head_dropWhile_not (fun x=>x == (48:UInt8)) hne
  simp only[hd,List.head_cons] at this
  rw[List.takeWhile_cons_of_neg (by simpa using this)]
  rfl

end Ago
set_option maxRecDepth 100000
set_option maxHeartbeats 4000000
namespace Ago
open Go (IntKind)
theorem upN {f:Nat} {ts:List AV} {v:AV} (h:q0k C0 f ts v):q0k CN f ts v:=
 qcN (qad (C:=C0) (C':=q69 qeB qwN qwA) (fun f fn h=>by
  have h:code f=some fn:=h
  show qeB f=some fn
  unfold qeB
  rw[h]) (fun _ _ _ _ _ h=>by
   obtain ⟨p,x,h,h2⟩:=h
   refine ⟨p,x,?_,h2⟩
   unfold clR at h
   first | (split at h<;>first | exact h | cases h) | cases h) (fun f t v h=>by
   obtain ⟨p,l,h,h2⟩:=h
   refine ⟨p,l,?_,h2⟩
   unfold clP at h
   first | (split at h<;>first | exact h | cases h) | cases h) h)
theorem qdj (b:Bnd) (hs:b.num.digits.length<2^31):q0k CN 262 [q5j b] (.bool (q3V b)):=by
 have hd:=upN (q34 b.num hs)
 refine q04 qb0 rfl ?_
 obtain ⟨set,⟨neg,ds,exp⟩,opn⟩:=b
 simp only[q5j,q0h] at *
 cases set
 ·(repeat' first|simp (disch:=omega) only[go_sem,qb0,enter]|(apply spl<;>intro h<;>try simp (disch:=omega) only[go_sem,h]))
  all_goals (try simp [q3V,Bool.and_assoc])
 ·(repeat' first|simp (disch:=omega) only[go_sem,qb0,enter]|refine q00 _ (hd) ?_|(apply spl<;>intro h<;>try simp (disch:=omega) only[go_sem,h]))
  all_goals (try simp [q3V,Bool.and_assoc])
theorem qdg (p:Prt) (h1:p.lo.num.digits.length<2^31) (h2:p.hi.num.digits.length<2^31):q0k CN 250 [q0m p] (.bool (q3o p)):=by
 have h1:=qdj p.lo h1
 have h2:=qdj p.hi h2
 refine q04 q8K rfl ?_
 obtain ⟨⟨s1,⟨n1,d1,e1⟩,o1⟩,⟨s2,⟨n2,d2,e2⟩,o2⟩,sort⟩:=p
 simp only[q5j,q0m] at *
 unfold q3o
 cases hb1:q3V ⟨s1,⟨n1,d1,e1⟩,o1⟩
 ·rw[hb1] at h1
  (repeat' first|simp (disch:=omega) only[go_sem,q8K,enter]|refine q00 _ (h1) ?_)
 ·rw[hb1] at h1
  cases hb2:q3V ⟨s2,⟨n2,d2,e2⟩,o2⟩
  ·rw[hb2] at h2
   (repeat' first|simp (disch:=omega) only[go_sem,q8K,enter]|refine q00 _ (h1) ?_|refine q00 _ (h2) ?_)
  ·rw[hb2] at h2
   (repeat' first|simp (disch:=omega) only[go_sem,q8K,enter]|refine q00 _ (h1) ?_|refine q00 _ (h2) ?_|(apply spl<;>intro h<;>try simp (disch:=omega) only[go_sem,h]))
   all_goals (simp; try omega)
end Ago
set_option maxRecDepth 100000
set_option maxHeartbeats 4000000
namespace Ago
open Go (IntKind)
open Go.Lib (compareBytes repeatL)
theorem qsO : ∀ n,repeatL [48] n=List.replicate n 48
 | 0=>rfl
 | n+1=>by simp [repeatL,qsO n,Vs]
theorem q6x : ∀ l:List UInt8,compareBytes l l=0
 | []=>rfl
 | a::l=>by
  have : ¬ a<a:=fun h=>UInt8.lt_irrefl a h
  simp [compareBytes,this,q6x l]
theorem qf1 : ∀ a b:List UInt8,compareBytes a b=if Go.Op.bytesLess a b=true then -1 else if a=b then 0 else 1
 | [],[]=>by simp [compareBytes,Go.Op.bytesLess]
 | [],_::_=>by simp [compareBytes,Go.Op.bytesLess]
 | _::_,[]=>by simp [compareBytes,Go.Op.bytesLess]
 | a::xs,b::bs=>by
  unfold compareBytes
  rw[qf1 xs bs]
  by_cases h:a<b
  ·simp [h,Go.Op.bytesLess]
  ·by_cases h2:b<a
   ·have h3 : ¬ a=b:=fun e=>h (by rw[e]; rw[e] at h2; exact h2)
    simp [h,h2,h3,Go.Op.bytesLess]
   ·have h3:a=b:=UInt8.le_antisymm (UInt8.not_lt.1 h2) (UInt8.not_lt.1 h)
    subst h3
    simp [h,Go.Op.bytesLess]
theorem qgz : ∀ (a b z:List UInt8),a.length=b.length→compareBytes (a++z) (b++z)=compareBytes a b
 | [],[],z,_=>by simp [compareBytes,q6x]
 | [],_::_,_,h=>by simp at h
 | _::_,[],_,h=>by simp at h
 | a::xs,b::bs,z,h=>by
  have ih:=qgz xs bs z (by simpa using h)
  simp [compareBytes,ih]
def q9K (a b:List UInt8):Int:=if a.length<b.length then -1 else if b.length<a.length then 1 else compareBytes a b
def pad (a:List UInt8) (n:Nat):List UInt8:=a++List.replicate n 48
def q5u (a b:Dec):Int:=
 if a.digits=[]∨b.digits=[] then q9K a.digits b.digits
 else if a.digits.length+a.exp<b.digits.length+b.exp then -1
 else if b.digits.length+b.exp<a.digits.length+a.exp then 1
 else compareBytes (pad a.digits (max a.digits.length b.digits.length-a.digits.length)) (pad b.digits (max a.digits.length b.digits.length-b.digits.length))
def q2V (a b:Dec):Int:=
 if a.neg=true∧b.neg=false then -1 else if b.neg=true∧a.neg=false then 1 else if a.neg=true then q5u b a else q5u a b
theorem q7x (a b:Dec) (ha:a.digits≠[]) (hb:b.digits≠[]) (m:Int) (h1:m≤a.exp) (h2:m≤b.exp) :
  q9K (pad a.digits (a.exp-m).toNat) (pad b.digits (b.exp-m).toNat)=q5u a b:=by
 have hs:q5u a b=if (a.digits.length:Int)+a.exp<b.digits.length+b.exp then -1 else if (b.digits.length:Int)+b.exp<a.digits.length+a.exp then 1
   else compareBytes (pad a.digits (max a.digits.length b.digits.length-a.digits.length)) (pad b.digits (max a.digits.length b.digits.length-b.digits.length)):=by
  unfold q5u
  rw[if_neg (by simp [ha,hb])]
 rw[hs]
 unfold q9K
 have l1:(pad a.digits (a.exp-m).toNat).length=a.digits.length+(a.exp-m).toNat:=by simp [pad]
 have l2:(pad b.digits (b.exp-m).toNat).length=b.digits.length+(b.exp-m).toNat:=by simp [pad]
 rw[l1,l2]
 by_cases h:(a.digits.length:Int)+a.exp<b.digits.length+b.exp
 ·rw[if_pos h,if_pos (show a.digits.length+(a.exp-m).toNat<b.digits.length+(b.exp-m).toNat by omega)]
 rw[if_neg h,if_neg (show ¬ a.digits.length+(a.exp-m).toNat<b.digits.length+(b.exp-m).toNat by omega)]
 by_cases h':(b.digits.length:Int)+b.exp<a.digits.length+a.exp
 ·rw[if_pos h',if_pos (show b.digits.length+(b.exp-m).toNat<a.digits.length+(a.exp-m).toNat by omega)]
 rw[if_neg h',if_neg (show ¬ b.digits.length+(b.exp-m).toNat<a.digits.length+(a.exp-m).toNat by omega)]
 have key : ∀ (x y:List UInt8) (p q:Nat),x.length+p=y.length+q→compareBytes (pad x p) (pad y q)=compareBytes (pad x (max x.length y.length-x.length)) (pad y (max x.length y.length-y.length)):=by
  intro x y p q h
  have e1:pad x p=pad x (max x.length y.length-x.length)++List.replicate (x.length+p-max x.length y.length) 48:=by
   simp only[pad,Kq,List.replicate_append_replicate]
   congr 2
   omega
  have e2:pad y q=pad y (max x.length y.length-y.length)++List.replicate (x.length+p-max x.length y.length) 48:=by
   simp only[pad,Kq,List.replicate_append_replicate]
   congr 2
   omega
  rw[e1,e2]
  exact qgz _ _ _ (by simp [pad]; omega)
 exact key _ _ _ _ (by omega)
theorem qen (a b:List UInt8):q0k CN 257 [.str a,.str b] (.int .i64 (compareBytes a b)):=by
 have hc:q0k CN 272 [.str a,.str b] (.int .i64 (compareBytes a b)):=qeT (F:=quy) rfl rfl
 refine q04 qk6 rfl ?_
 (repeat' first|simp (disch:=omega) only[go_sem,qk6,enter]|refine q00 _ (hc) ?_)
theorem qg0 (a b:List UInt8) (ha:a.length<2^31) (hb:b.length<2^31):q0k CN 286 [.str a,.str b] (.int .i64 (q9K a b)):=by
 have hc:=qen a b
 refine q04 qkn rfl ?_
 unfold q9K
 (repeat' first|simp (disch:=omega) only[go_sem,qkn,enter]|refine q00 _ (hc) ?_|(apply spl<;>intro h<;>try simp (disch:=omega) only[go_sem,h]))
 all_goals first | (rw[if_pos (by omega)]; done) | (rw[if_neg (by omega),if_pos (by omega)]; done) | (rw[if_neg (by omega),if_neg (by omega)]; done) | skip
theorem q3E (d:Dec):q0k CN 264 [q0h d] (.bool (decide (0≤d.exp))):=by
 refine q04 qjM rfl ?_
 obtain ⟨neg,ds,exp⟩:=d
 simp only[q0h]
 (repeat' first|simp (disch:=omega) only[go_sem,qjM,enter])
 all_goals (simp; try omega)
end Ago
set_option maxRecDepth 100000
set_option maxHeartbeats 4000000
namespace Ago
open Go (IntKind)
open Go.Lib (compareBytes repeatL)
theorem q11 {d:Dec} (h:q0a d=true):d.digits.length≤120∧-400≤d.exp∧d.exp≤400:=by
 unfold q0a at h
 split at h
 ·rename_i h0
  simp at h
  rw[h0]
  simp
  omega
 ·simp at h
  omega
theorem q5y (n:Nat) (h:n≤2147483648):q0k CN 291 [.str [48],.int .i64 n] (.str (List.replicate n 48)):=by
 have h1:=qiN [48] n (by simp; omega) h
 rw[qsO] at h1
 exact qeT (F:=qrk) rfl h1
theorem qj0 (a b:Dec) (ha:q0a a=true) (hb:q0a b=true) : ∃ x y e,q0k CN 285 [q0h a,q0h b] (.tup [.str x,.str y,.int .i64 e])∧q9K x y=q5u a b∧x.length≤1000∧y.length≤1000:=by
 obtain ⟨fa1,fa2,fa3⟩:=q11 ha
 obtain ⟨fb1,fb2,fb3⟩:=q11 hb
 have va:=upN (q34 a (by omega))
 have vb:=upN (q34 b (by omega))
 rw[ha] at va
 rw[hb] at vb
 obtain ⟨na,da,ea⟩:=a
 obtain ⟨nb,db,eb⟩:=b
 simp only[q0h] at *
 by_cases h1:da=[]
 ·subst h1
  refine ⟨[],db,eb,q04 q5R rfl ?_,by simp [q5u],by simp,by omega⟩
  (repeat' first|simp (disch:=omega) only[go_sem,q5R,enter]|refine q00 _ (va) ?_|refine q00 _ (vb) ?_)
 have hb1:(da == ([]:List UInt8))=false:=by simp [h1]
 by_cases h2:db=[]
 ·subst h2
  refine ⟨da,[],ea,q04 q5R rfl ?_,by simp [q5u],by omega,by simp⟩
  (repeat' first|simp (disch:=omega) only[go_sem,q5R,enter,hb1]|refine q00 _ (va) ?_|refine q00 _ (vb) ?_)
 have hb2:(db == ([]:List UInt8))=false:=by simp [h2]
 have key : ∀ m:Int,m≤ea→m≤eb→-400≤m→q0k CN 291 [.str [48],.int .i64 (ea-m)] (.str (List.replicate (ea-m).toNat 48))∧q0k CN 291 [.str [48],.int .i64 (eb-m)] (.str (List.replicate (eb-m).toNat 48)):=by
  intro m k1 k2 k3
  have r1:=q5y (ea-m).toNat (by omega)
  have r2:=q5y (eb-m).toNat (by omega)
  rw[show (((ea-m).toNat:Nat):Int)=ea-m by omega] at r1
  rw[show (((eb-m).toNat:Nat):Int)=eb-m by omega] at r2
  exact ⟨r1,r2⟩
 have hl : ∀ (n:Nat),(List.replicate n (48:UInt8)).length=n:=fun n=>List.length_replicate
 by_cases h:ea≤eb
 ·obtain ⟨r1,r2⟩:=key ea (by omega) h (by omega)
  refine ⟨pad da (ea-ea).toNat,pad db (eb-ea).toNat,ea,q04 q5R rfl ?_,q7x ⟨na,da,ea⟩ ⟨nb,db,eb⟩ h1 h2 ea (by simp) h,by simp [pad]; omega,by simp [pad]; omega⟩
  have hm : ¬ eb<ea:=by omega
  (repeat' first|simp (disch:=omega) only[go_sem,q5R,enter,hb1,hb2,hm,hl,pad]|refine q00 _ (va) ?_|refine q00 _ (vb) ?_|refine q00 _ (r1) ?_|refine q00 _ (r2) ?_)
  all_goals omega
 ·obtain ⟨r1,r2⟩:=key eb (by omega) (by omega) (by omega)
  refine ⟨pad da (ea-eb).toNat,pad db (eb-eb).toNat,eb,q04 q5R rfl ?_,q7x ⟨na,da,ea⟩ ⟨nb,db,eb⟩ h1 h2 eb (by simp only; omega) (by simp),by simp [pad]; omega,by simp [pad]; omega⟩
  have hm:eb<ea:=by omega
  (repeat' first|simp (disch:=omega) only[go_sem,q5R,enter,hb1,hb2,hm,hl,pad]|refine q00 _ (va) ?_|refine q00 _ (vb) ?_|refine q00 _ (r1) ?_|refine q00 _ (r2) ?_)
  all_goals omega
theorem qd5 (a b:Dec) (ha:q0a a=true) (hb:q0a b=true):q0k CN 273 [q0h a,q0h b] (.int .i64 (q5u a b)):=by
 obtain ⟨x,y,e,hr,hc,l1,l2⟩:=qj0 a b ha hb
 have hk:=qg0 x y (by omega) (by omega)
 rw[hc] at hk
 refine q04 qkd rfl ?_
 simp only[q0h] at *
 (repeat' first|simp (disch:=omega) only[go_sem,qkd,enter]|refine q00 _ (hr) ?_|refine q00 _ (hk) ?_)
theorem q4J (a b:Dec) (ha:q0a a=true) (hb:q0a b=true):q0k CN 263 [q0h a,q0h b] (.int .i64 (q2V a b)):=by
 have r1:=qd5 a b ha hb
 have r2:=qd5 b a hb ha
 refine q04 qcI rfl ?_
 unfold q2V
 obtain ⟨na,da,ea⟩:=a
 obtain ⟨nb,db,eb⟩:=b
 simp only[q0h] at *
 cases na<;>cases nb
 ·try simp only[Ke,false_and,if_false]
  (repeat' first|simp (disch:=omega) only[go_sem,qcI,enter]|refine q00 _ (r1) ?_)
 ·try simp only[Ke,false_and,if_false,true_and,if_true]
  (repeat' first|simp (disch:=omega) only[go_sem,qcI,enter]|refine q00 _ (r1) ?_)
 ·try simp only[Ke,false_and,if_false,true_and,if_true]
  (repeat' first|simp (disch:=omega) only[go_sem,qcI,enter]|refine q00 _ (r1) ?_)
 ·try simp only[K1,and_false,if_false,if_true]
  (repeat' first|simp (disch:=omega) only[go_sem,qcI,enter]|refine q00 _ (r2) ?_)
end Ago
set_option maxRecDepth 100000
set_option maxHeartbeats 4000000
namespace Ago
open Go (IntKind)
def inM (p:Prt) (d:Dec):Bool:=
 if p.lo.set=true∧(q2V d p.lo.num<0∨q2V d p.lo.num=0∧p.lo.opn=true) then false
 else if p.hi.set=true∧(0<q2V d p.hi.num∨q2V d p.hi.num=0∧p.hi.opn=true) then false
 else if p.sort=0 then true
 else decide (0≤d.exp) == decide (p.sort=1)
theorem qjc {p:Prt} (h:q3o p=true) (hs:p.lo.set=true):q0a p.lo.num=true:=by
 unfold q3o q3V at h
 simp [hs] at h
 exact h.1.1.1
theorem qiQ {p:Prt} (h:q3o p=true) (hs:p.hi.set=true):q0a p.hi.num=true:=by
 unfold q3o q3V at h
 simp [hs] at h
 exact h.1.1.2
theorem qgP (p:Prt) (d:Dec) (hp:q3o p=true) (hd:q0a d=true):q0k CN 251 [q0m p,q0h d] (.bool (inM p d)):=by
 have rl:p.lo.set=true→q0k CN 263 [q0h d,q0h p.lo.num] (.int .i64 (q2V d p.lo.num)):=fun h=>q4J d _ hd (qjc hp h)
 have rh:p.hi.set=true→q0k CN 263 [q0h d,q0h p.hi.num] (.int .i64 (q2V d p.hi.num)):=fun h=>q4J d _ hd (qiQ hp h)
 have rw_:=q3E d
 refine q04 qkN rfl ?_
 unfold inM
 obtain ⟨c1,hc1⟩ : ∃ c,q2V d p.lo.num=c:=⟨_,rfl⟩
 obtain ⟨c2,hc2⟩ : ∃ c,q2V d p.hi.num=c:=⟨_,rfl⟩
 rw[hc1] at rl ⊢
 rw[hc2] at rh ⊢
 clear hc1 hc2 hp hd
 obtain ⟨⟨s1,⟨n1,d1,e1⟩,o1⟩,⟨s2,⟨n2,d2,e2⟩,o2⟩,sort⟩:=p
 obtain ⟨neg,ds,exp⟩:=d
 simp only[q0m,q0h] at *
 cases s1<;>cases s2<;>cases o1<;>cases o2<;>simp only[Ke,false_and,and_false,or_false,if_false,true_and,and_true,forall_const] at rl rh ⊢
 all_goals
  (repeat' first|simp (disch:=omega) only[go_sem,qkN,enter]|refine q00 _ (rl) ?_|refine q00 _ (rh) ?_|refine q00 _ (rw_) ?_|(apply spl<;>intro h<;>try simp (disch:=omega) only[go_sem,h]))
 all_goals first
  | (simp; omega)
  | (simp_all; done)
  | (simp_all; omega)
  | (
   have e1:(sort == 1)=decide (sort=1):=by by_cases q:sort=1<;>simp [q]
   by_cases q1:sort=0<;>by_cases q2:sort=1<;>by_cases q3:0≤exp<;>simp [e1,q1,q2,q3]<;>omega)
  | (by_cases q1:sort=0<;>by_cases q2:sort=1<;>by_cases q3:0≤exp<;>simp_all)
  | skip
end Ago
set_option maxRecDepth 100000
set_option maxHeartbeats 4000000
namespace Ago
open Go (IntKind)
theorem qiX (l:List Prt) (hl:qpq l):q0k CN 229 [q81 l] (.bool (q7W l)):=by
 obtain ⟨hl1,hl2⟩:=hl
 refine q04 qbA rfl ?_
 unfold q81 q7W
 by_cases h256:l.length≤256
 case neg=>
  rw[decide_eq_false h256]
  (repeat' first|simp (disch:=omega) only[go_sem,qbA,enter,Ka])
  all_goals omega
 rw[decide_eq_true h256,KH]
 (repeat' first|simp (disch:=omega) only[go_sem,qbA,enter,Ka]|(apply spl<;>intro h<;>try simp (disch:=omega) only[go_sem,h]))
 all_goals try omega
 refine q07 (α:=Nat) (fun k=>{ tmps:=q0q 20 [(10,.tsl 11 (l.map q0m)),(11,.int .i64 l.length),(12,.int .i64 k)],heap:=[],base:=0 }) (fun k=>k≤l.length∧(l.take k).all q3o=true) (fun k=>l.length-k) 0 rfl ⟨Kp _,rfl⟩ ?_
 rintro k ⟨hk,hd⟩
 by_cases hlt:k<l.length
 ·obtain ⟨p,hp⟩:=q06 hlt
  have hp2:=q0c (g:=q0m) hp
  obtain ⟨q1,q2⟩:=hl2 p (Kc hp)
  have hr:=qdg p q1 q2
  simp only[q0m] at hp2 hr
  cases hb:q3o p with
  | true=>
   rw[hb] at hr
   (repeat' first|simp (disch:=omega) only[go_sem,hp2,Ka]|refine q00 _ (hr) ?_|(apply spl<;>intro h<;>try simp (disch:=omega) only[go_sem,h]))
   all_goals try omega
   exact ⟨k+1,rfl,⟨hlt,q0M hp hd hb⟩,by omega⟩
  | false=>
   rw[hb] at hr
   have hn:l.all q3o=false:=q7j hp hb
   rw[hn]
   (repeat' first|simp (disch:=omega) only[go_sem,hp2,Ka]|refine q00 _ (hr) ?_)
   all_goals omega
 ·rw[q1j hlt hk] at hd
  rw[hd]
  (repeat' first|simp (disch:=omega) only[go_sem,Ka])
  all_goals omega
end Ago
set_option maxRecDepth 100000
set_option maxHeartbeats 4000000
namespace Ago
open Go (IntKind)
end Ago
set_option maxRecDepth 100000
set_option maxHeartbeats 4000000
namespace Ago
open Go (IntKind)
def qqN (r:List Prt × Int):AV:=.tup [q81 r.1,.int .i64 r.2]
def qvy (p:Prt):List Prt × Int:=if q3o p=true then ([p],0) else ([],1)
theorem qpR (lo hi:Bnd) (sort:Int) (h1:lo.num.digits.length<2^31) (h2:hi.num.digits.length<2^31):q0k CN 679 [q5j lo,q5j hi,.int .i64 sort] (qqN (qvy ⟨lo,hi,sort⟩)):=by
 have hr:=qdg ⟨lo,hi,sort⟩ h1 h2
 refine q04 qk0 rfl ?_
 unfold qvy qqN q81
 cases hb:q3o ⟨lo,hi,sort⟩<;>rw[hb] at hr
 ·try simp only[Ke,if_false]
  simp only[q5j,q0m,Kx] at *
  (repeat' first|simp (disch:=omega) only[go_sem,qk0,enter]|refine q00 _ (hr) ?_)
 ·try simp only[if_true]
  simp only[q5j,q0m,Km,Kx] at *
  (repeat' first|simp (disch:=omega) only[go_sem,qk0,enter]|refine q00 _ (hr) ?_|(apply spl<;>intro h<;>try simp (disch:=omega) only[go_sem,h]))
  all_goals rfl
end Ago
set_option maxRecDepth 100000
namespace Ago
open Go (IntKind)
open Go.Lib (compareBytes repeatL)
theorem q2Q (n:Nat):(0:Int)<10^n:=Int.pow_pos (by decide)
def q2R (d:Dec):Int:=q09 d.digits * 10^(d.exp+400).toNat
def q0n (d:Dec):Int:=if d.neg=true then-q2R d else q2R d
theorem qap : ∀ n,q09 (List.replicate n 48)=0
 | 0=>rfl
 | n+1=>by
  rw[Vs,q1z,qap n]
  simp
theorem q29 (s:List UInt8) (n:Nat):q09 (pad s n)=q09 s * 10^n:=by
 unfold pad
 rw[q4S,qap,List.length_replicate]
 omega
structure Num (s:List UInt8):Prop where
 dig:digits s=true
 head:s[0]?≠some 48
 ne:s≠[]
theorem Num.low {s:List UInt8} (h:Num s):(10:Int)^(s.length-1)≤q09 s:=by
 cases s with
 | nil=>exact absurd rfl h.ne
 | cons c s=>
  have hd:=h.dig
  simp only[digits,K7,Kd] at hd
  have hb:=q0w s hd.2
  rw[q1z]
  have hc:=hd.1
  simp only[q64,decide_eq_true_eq] at hc
  have h48:c.toNat≠48:=fun e=>h.head (by simp [UInt8.toNat_inj.1 (show c.toNat=(48:UInt8).toNat from e)])
  have hp:=q2Q s.length
  have h1:=Int.mul_le_mul_of_nonneg_right (show (1:Int)≤c.toNat-48 by omega) (show 0≤(10:Int)^s.length by omega)
  rw[Int.one_mul] at h1
  simp only[Kb,Nat.add_sub_cancel]
  omega
theorem Num.pos {s:List UInt8} (h:Num s):0<q09 s:=by
 have:=h.low
 have:=q2Q (s.length-1)
 omega
theorem Num.pad {s:List UInt8} (h:Num s) (n:Nat):Num (pad s n):=by
 refine ⟨q6T h.dig (q9Y n),?_,?_⟩
 ·unfold Ago.pad
  rw[K4 (Ve.2 h.ne)]
  exact h.head
 ·unfold Ago.pad
  simp [h.ne]
theorem q6U {a b:List UInt8} (ha:Num a) (hb:Num b):(q9K a b<0↔q09 a<q09 b)∧(q9K a b=0↔q09 a=q09 b)∧(q9K a b=0→a=b):=by
 have key : ∀ {x y:List UInt8},Num x→Num y→x.length<y.length→q09 x<q09 y:=fun {x y} hx hy h=>by
  have h1:=(q0w x hx.dig).2
  have h2:=hy.low
  have h3:=q42 (show x.length≤y.length-1 by omega)
  omega
 unfold q9K
 by_cases h1:a.length<b.length
 ·have:=key ha hb h1
  rw[if_pos h1]
  refine ⟨by simp; omega,by simp; omega,by simp⟩
 ·rw[if_neg h1]
  by_cases h2:b.length<a.length
  ·have:=key hb ha h2
   rw[if_pos h2]
   refine ⟨by simp; omega,by simp; omega,by simp⟩
  ·rw[if_neg h2,qf1]
   have hl:a.length=b.length:=by omega
   have l1:=qi6 a b ha.dig hb.dig hl
   by_cases h3:Go.Op.bytesLess a b=true
   ·rw[if_pos h3]
    have:=l1.1 h3
    refine ⟨by simp; omega,by simp; omega,by simp⟩
   ·rw[if_neg h3]
    have h4:=fun h=>h3 (l1.2 h)
    by_cases h5:a=b
    ·rw[if_pos h5]
     subst h5
     simp
    ·rw[if_neg h5]
     have l2:=qi6 b a hb.dig ha.dig hl.symm
     have h6:Go.Op.bytesLess b a=true:=by
      have e1:=qf1 b a
      by_cases h7:Go.Op.bytesLess b a=true
      ·exact h7
      ·exfalso
       apply h5
       have : ∀ (x y:List UInt8),x.length=y.length→¬ Go.Op.bytesLess x y=true→¬ Go.Op.bytesLess y x=true→x=y:=by
        intro x
        induction x with
        | nil=>intro y h _ _; cases y with
         | nil=>rfl
         | cons _ _=>simp at h
        | cons u x ih=>intro y h k1 k2; cases y with
         | nil=>simp at h
         | cons v y=>
          simp only[Go.Op.bytesLess,KM,decide_eq_true_eq,Kd,beq_iff_eq,not_or,not_and] at k1 k2
          have e:u=v:=UInt8.le_antisymm (UInt8.not_lt.1 k2.1) (UInt8.not_lt.1 k1.1)
          subst e
          rw[ih y (by simpa using h) (k1.2 rfl) (k2.2 rfl)]
       exact this a b hl h3 h7
     have:=l2.1 h6
     refine ⟨by simp; omega,by simp; omega,by simp⟩
theorem q1k {d:Dec} (h:q0a d=true) (hn:d.digits≠[]):Num d.digits∧q0H d.digits=0∧d.digits.length≤120∧-400≤d.exp∧d.exp≤400:=by
 unfold q0a q7m at h
 rw[if_neg hn] at h
 simp only[Kd,decide_eq_true_eq] at h
 obtain ⟨⟨⟨⟨h1,⟨h2,h3⟩,h4⟩,h5⟩,h6⟩,h7⟩:=h
 exact ⟨⟨h3,h4,hn⟩,h5,h1,h6,h7⟩
theorem q4o {d:Dec} (h:q0a d=true) (hn:d.digits=[]):d=⟨false,[],0⟩:=by
 unfold q0a at h
 rw[if_pos hn] at h
 obtain ⟨n,ds,e⟩:=d
 simp at h hn
 simp [h,hn]
theorem q5B {d:Dec} (h:q0a d=true) (hn:d.digits≠[]):0<q2R d:=by
 obtain ⟨h1,_⟩:=q1k h hn
 exact Int.mul_pos h1.pos (q2Q _)
theorem q2o {d:Dec} (hn:d.digits=[]):q2R d=0:=by
 unfold q2R
 rw[hn]
 simp [q09]
theorem q38 {d:Dec} (h:q0a d=true):0≤q2R d:=by
 by_cases hn:d.digits=[]
 ·rw[q2o hn]; exact VZ _
 ·have:=q5B h hn
  omega
theorem qmN {d:Dec} (h:q0a d=true):q2R d<10^920:=by
 by_cases hn:d.digits=[]
 ·rw[q2o hn]; exact q2Q _
 ·obtain ⟨h1,_,h2,h3,h4⟩:=q1k h hn
  have hb:=q0w d.digits h1.dig
  have e:q2R d=q09 (pad d.digits (d.exp+400).toNat):=by rw[q29]; rfl
  rw[e]
  have hb2:=(q0w _ (h1.pad (d.exp+400).toNat).dig).2
  have hl:(pad d.digits (d.exp+400).toNat).length≤920:=by
   simp only[pad,Kk,List.length_replicate]
   omega
  have:=q42 hl
  omega
theorem q70 (s:List UInt8) (n:Nat) (h:Num s) (h0:q0H s=0):q0H (pad s n)=n:=by
 unfold q0H pad at *
 rw[List.reverse_append,List.reverse_replicate]
 have : ∀ (n:Nat) (l:List UInt8),((List.replicate n 48++l).takeWhile (· == (48:UInt8))).length=n+(l.takeWhile (· == (48:UInt8))).length:=by
  intro n l
  induction n with
  | zero=>simp
  | succ n ih=>
   rw[Vs,Kr,List.takeWhile_cons_of_pos (by rfl),Kb,ih]
   omega
 rw[this,h0]
 rfl
theorem qdA {a b:Dec} (ha:q0a a=true) (hb:q0a b=true):(q5u a b<0↔q2R a<q2R b)∧(q5u a b=0↔q2R a=q2R b)∧(q5u a b=0→a.digits=b.digits∧a.exp=b.exp):=by
 by_cases h1:a.digits=[]
 ·have e1:=q4o ha h1
  by_cases h2:b.digits=[]
  ·have e2:=q4o hb h2
   rw[e1,e2]
   simp [q5u,q9K,q6x]
  ·have hp:=q5B hb h2
   rw[q2o h1]
   have hl:=Ve.2 h2
   have:q5u a b = -1:=by
    unfold q5u q9K
    rw[if_pos (.inl h1),h1,if_pos (by simpa using hl)]
   rw[this]
   exact ⟨by simp; omega,by simp; omega,by simp⟩
 by_cases h2:b.digits=[]
 ·have hp:=q5B ha h1
  rw[q2o h2]
  have hl:=Ve.2 h1
  have:q5u a b=1:=by
   unfold q5u q9K
   rw[if_pos (.inr h2),h2,if_neg (by simp),if_pos (by simpa using hl)]
  rw[this]
  exact ⟨by simp; omega,by simp; omega,by simp⟩
 obtain ⟨a1,a2,a3,a4,a5⟩:=q1k ha h1
 obtain ⟨b1,b2,b3,b4,b5⟩:=q1k hb h2
 have e:=q7x a b h1 h2 (-400) a4 b4
 rw[show a.exp - -400=a.exp+400 by omega,show b.exp - -400=b.exp+400 by omega] at e
 have hc:=q6U (a1.pad (a.exp+400).toNat) (b1.pad (b.exp+400).toNat)
 rw[e,q29,q29] at hc
 refine ⟨hc.1,hc.2.1,fun h=>?_⟩
 have hpp:=hc.2.2 h
 have z:=congrArg q0H hpp
 rw[q70 _ _ a1 a2,q70 _ _ b1 b2] at z
 refine ⟨?_,by omega⟩
 rw[z] at hpp
 unfold pad at hpp
 exact List.append_cancel_right hpp
theorem q1R {a b:Dec} (ha:q0a a=true) (hb:q0a b=true):(q2V a b<0↔q0n a<q0n b)∧(q2V a b=0↔q0n a=q0n b)∧(q2V a b=0→a=b):=by
 have s1:=qdA ha hb
 have s2:=qdA hb ha
 have na:=q38 ha
 have nb:=q38 hb
 have zn : ∀ {d:Dec},q0a d=true→d.neg=true→0<q2R d:=fun {d} hd hn=>by
  refine q5B hd fun h=>?_
  rw[q4o hd h] at hn
  cases hn
 have pa:=zn ha
 have pb:=zn hb
 have ext:a.neg=b.neg→a.digits=b.digits→a.exp=b.exp→a=b:=fun h1 h2 h3=>by
  obtain ⟨x,y,z⟩:=a
  obtain ⟨u,v,w⟩:=b
  simp only at h1 h2 h3
  rw[h1,h2,h3]
 unfold q2V q0n
 cases h1:a.neg<;>cases h2:b.neg
 ·simp only[Ke,false_and,and_false,if_false]
  exact ⟨s1.1,s1.2.1,fun h=>ext (by rw[h1,h2]) (s1.2.2 h).1 (s1.2.2 h).2⟩
 ·have:=pb h2
  simp only[Ke,false_and,if_false,true_and,if_true]
  refine ⟨by simp; omega,by simp; omega,by simp⟩
 ·have:=pa h1
  simp only[Ke,and_self,if_true]
  refine ⟨by simp; omega,by simp; omega,by simp⟩
 ·simp only[K1,and_false,if_false,if_true]
  refine ⟨by omega,by omega,fun h=>ext (by rw[h1,h2]) (s2.2.2 h).1.symm (s2.2.2 h).2.symm⟩
theorem qo0 {a b:Dec} (ha:q0a a=true) (hb:q0a b=true):0<q2V a b↔q0n b<q0n a:=by
 have:=q1R ha hb
 omega
theorem qlu {d:Dec} (h:q0a d=true) : - 10^920<q0n d∧q0n d<10^920:=by
 have h1:=qmN h
 have h2:=q38 h
 unfold q0n
 generalize (10:Int)^920=B at *
 split<;>omega
end Ago
set_option maxRecDepth 100000
namespace Ago
structure Cut where
 fin:Int
 num:Dec
 aft:Bool
def qiZ:Dec:=⟨false,[],0⟩
def qrt (b:Bnd):Cut:=if b.set=true then ⟨0,b.num,b.opn⟩ else ⟨-1,qiZ,false⟩
def qrq (b:Bnd):Cut:=if b.set=true then ⟨0,b.num,!b.opn⟩ else ⟨1,qiZ,false⟩
def qpi (c:Cut):Prop:=(c.fin=0∧q0a c.num=true)∨((c.fin = -1∨c.fin=1)∧c.num=qiZ∧c.aft=false)
def qqy:Int:=10^930
def qfL (c:Cut):Int:=if c.fin=0 then 2 * q0n c.num+(if c.aft=true then 1 else 0) else c.fin * qqy
theorem qil {d:Dec} (h:q0a d=true) : - qqy<2 * q0n d∧2 * q0n d+1<qqy:=by
 have h1:=qlu h
 have h2:(4:Int) * 10^920≤qqy:=by
  show (4:Int) * 10^920≤10^930
  decide +kernel
 have h3:=q2Q 920
 generalize qqy=T at *
 generalize (10:Int)^920=B at *
 omega
theorem qfD {c:Cut} (h:c.fin=0):qfL c=2 * q0n c.num+(if c.aft=true then 1 else 0):=by unfold qfL; rw[if_pos h]
theorem qpA {c:Cut} (h:c.fin = -1):qfL c = - qqy:=by
 unfold qfL
 rw[if_neg (by omega),h]
 omega
theorem qpz {c:Cut} (h:c.fin=1):qfL c=qqy:=by
 unfold qfL
 rw[if_neg (by omega),h]
 omega
theorem q7v {b:Bnd} (h:q3V b=true) (hs:b.set=true):q0a b.num=true:=by
 unfold q3V at h
 rwa [if_pos hs] at h
theorem qsY {b:Bnd} (h:q3V b=true):qpi (qrt b):=by
 unfold qrt
 split
 ·rename_i hs
  exact .inl ⟨rfl,q7v h hs⟩
 ·exact .inr ⟨.inl rfl,rfl,rfl⟩
theorem quF {b:Bnd} (h:q3V b=true):qpi (qrq b):=by
 unfold qrq
 split
 ·rename_i hs
  exact .inl ⟨rfl,q7v h hs⟩
 ·exact .inr ⟨.inr rfl,rfl,rfl⟩
theorem q88 {p:Prt} (h:q3o p=true):q3V p.lo=true∧q3V p.hi=true∧0≤p.sort∧p.sort≤2:=by
 unfold q3o at h
 simp only[Kd,decide_eq_true_eq] at h
 exact ⟨h.1.1.1,h.1.1.2,h.1.2,h.2⟩
def qmz (d:Dec):Int:=if 0≤d.exp then 1 else 2
def qfk (s t:Int):Bool:=decide (s=0∨s=t)
theorem qld {b:Bnd} (h:q3V b=true) {d:Dec} (hd:q0a d=true):qfL (qrt b)≤2 * q0n d↔¬ (b.set=true∧(q2V d b.num<0∨q2V d b.num=0∧b.opn=true)):=by
 have ht:=qil hd
 unfold qrt
 by_cases hs:b.set=true
 ·rw[if_pos hs,qfD rfl]
  have hv:=q1R hd (q7v h hs)
  cases ho:b.opn<;>simp only[hs,true_and,Ke,and_false,or_false,and_true,if_false,if_true]<;>omega
 ·rw[if_neg hs,qpA rfl]
  rw[Bool.not_eq_true] at hs
  simp only[hs,Ke,false_and,not_false_eq_true,iff_true]
  omega
theorem qiI {b:Bnd} (h:q3V b=true) {d:Dec} (hd:q0a d=true):2 * q0n d<qfL (qrq b)↔¬ (b.set=true∧(0<q2V d b.num∨q2V d b.num=0∧b.opn=true)):=by
 have ht:=qil hd
 unfold qrq
 by_cases hs:b.set=true
 ·rw[if_pos hs,qfD rfl]
  have hv:=q1R hd (q7v h hs)
  cases ho:b.opn<;>simp only[hs,true_and,Ke,and_false,or_false,and_true,if_false,if_true,V4,VM]<;>omega
 ·rw[if_neg hs,qpz rfl]
  rw[Bool.not_eq_true] at hs
  simp only[hs,Ke,false_and,not_false_eq_true,iff_true]
  omega
theorem qq1 {p:Prt} (hp:q3o p=true) {d:Dec} (hd:q0a d=true):inM p d=(decide (qfL (qrt p.lo)≤2 * q0n d) && decide (2 * q0n d<qfL (qrq p.hi)) && qfk p.sort (qmz d)):=by
 obtain ⟨h1,h2,h3,h4⟩:=q88 hp
 have e1:=qld h1 hd
 have e2:=qiI h2 hd
 unfold inM
 by_cases k1:p.lo.set=true∧(q2V d p.lo.num<0∨q2V d p.lo.num=0∧p.lo.opn=true)
 ·rw[if_pos k1,decide_eq_false (fun h=>(e1.1 h) k1)]
  rfl
 ·rw[if_neg k1,decide_eq_true (e1.2 k1)]
  by_cases k2:p.hi.set=true∧(0<q2V d p.hi.num∨q2V d p.hi.num=0∧p.hi.opn=true)
  ·rw[if_pos k2,decide_eq_false (fun h=>(e2.1 h) k2)]
   rfl
  ·rw[if_neg k2,decide_eq_true (e2.2 k2)]
   unfold qfk qmz
   by_cases hs:p.sort=0
   ·simp [hs]
   ·rw[if_neg hs]
    by_cases hx:0≤d.exp<;>by_cases hy:p.sort=1<;>by_cases hz:p.sort=2<;>simp [hs,hx,hy,hz]<;>omega
structure Reg where
 lo:Cut
 hi:Cut
 wh:Bool
 fr:Bool
abbrev qxV:=List (List Prt)
structure CutsOf (sets:qxV) (l:List Cut):Prop where
 mem : ∀ c,c∈l↔(c=⟨-1,qiZ,false⟩∨c=⟨1,qiZ,false⟩∨∃ s,s∈sets∧∃ p,p∈s∧(c=qrt p.lo∨c=qrq p.hi))
 ord:l.Pairwise fun a b=>qfL a<qfL b
theorem CutsOf.ok {sets:qxV} {l:List Cut} (h:CutsOf sets l) (hs : ∀ s,s∈sets→∀ p,p∈s→q3o p=true) : ∀ c,c∈l→qpi c:=by
 intro c hc
 rcases (h.mem c).1 hc with rfl | rfl | ⟨s,h1,p,h2,rfl | rfl⟩
 ·exact .inr ⟨.inl rfl,rfl,rfl⟩
 ·exact .inr ⟨.inr rfl,rfl,rfl⟩
 ·exact qsY (q88 (hs s h1 p h2)).1
 ·exact quF (q88 (hs s h1 p h2)).2.1
structure RegsTo (rs:List Reg) (e:Cut):Prop where
 ord : ∀ r,r∈rs→qfL r.lo<qfL r.hi
 last : ∀ r,rs.getLast?=some r→r.hi=e
end Ago
