/- Sets of numbers: what is valid; sets of one part,of points. -/
import Derived.Test.YtkibapblgbdhmaaGreatDoorCodeN
import Derived.Test.YtkibapblgbdhmaaGreatDoorRunG
import Derived.Test.YtkibapblgbdhmaaGreatDoorRunA
import Derived.Test.YtkibapblgbdhmaaGreatDoorRunF
import Derived.Test.YtkibapblgbdhmaaGreatDoorMachE
set_option linter.unusedSimpArgs false
set_option linter.unusedVariables false
set_option maxRecDepth 100000
set_option maxHeartbeats 4000000
namespace Ago
open Go (IntKind)
theorem upN {f:Nat} {ts:List AV} {v:AV} (h:q0f C0 f ts v):q0f CN f ts v:=
 qbt (q8W (C:=C0) (C':=q5g qcU qra qqP) (fun f fn h=>by
  have h:code f=some fn:=h
  show qcU f=some fn
  unfold qcU
  rw[h]) (fun _ _ _ _ _ h=>by
   obtain ⟨p,x,h,h2⟩:=h
   refine ⟨p,x,?_,h2⟩
   unfold clR at h
   first | (split at h<;>first | exact h | cases h) | cases h) (fun f t v h=>by
   obtain ⟨p,l,h,h2⟩:=h
   refine ⟨p,l,?_,h2⟩
   unfold clP at h
   first | (split at h<;>first | exact h | cases h) | cases h) h)
end Ago
set_option maxRecDepth 100000
set_option maxHeartbeats 4000000
namespace Ago
open Go (IntKind)
open Go.Lib (compareBytes repeatL)
theorem qoI : ∀ n,repeatL [48] n=List.replicate n 48
 | 0=>rfl
 | n+1=>by simp [repeatL,qoI n,List.replicate_succ]
theorem qbq : ∀ l:List UInt8,compareBytes l l=0
 | []=>rfl
 | a::l=>by
  have : ¬ a<a:=fun h=>UInt8.lt_irrefl a h
  simp [compareBytes,this,qbq l]
theorem qiJ : ∀ a b:List UInt8,compareBytes a b=if Go.Op.bytesLess a b=true then -1 else if a=b then 0 else 1
 | [],[]=>by simp [compareBytes,Go.Op.bytesLess]
 | [],_::_=>by simp [compareBytes,Go.Op.bytesLess]
 | _::_,[]=>by simp [compareBytes,Go.Op.bytesLess]
 | a::xs,b::bs=>by
  unfold compareBytes
  rw[qiJ xs bs]
  by_cases h:a<b
  ·simp [h,Go.Op.bytesLess]
  ·by_cases h2:b<a
   ·have h3 : ¬ a=b:=fun e=>h (by rw[e]; rw[e] at h2; exact h2)
    simp [h,h2,h3,Go.Op.bytesLess]
   ·have h3:a=b:=UInt8.le_antisymm (UInt8.not_lt.1 h2) (UInt8.not_lt.1 h)
    subst h3
    simp [h,Go.Op.bytesLess]
theorem qdN : ∀ (a b z:List UInt8),a.length=b.length→compareBytes (a++z) (b++z)=compareBytes a b
 | [],[],z,_=>by simp [compareBytes,qbq]
 | [],_::_,_,h=>by simp at h
 | _::_,[],_,h=>by simp at h
 | a::xs,b::bs,z,h=>by
  have ih:=qdN xs bs z (by simpa using h)
  simp [compareBytes,ih]
def qiS (a b:List UInt8):Int:=if a.length<b.length then -1 else if b.length<a.length then 1 else compareBytes a b
def pad (a:List UInt8) (n:Nat):List UInt8:=a++List.replicate n 48
def q7F (a b:Dec):Int:=
 if a.digits=[]∨b.digits=[] then qiS a.digits b.digits
 else if a.digits.length+a.exp<b.digits.length+b.exp then -1
 else if b.digits.length+b.exp<a.digits.length+a.exp then 1
 else compareBytes (pad a.digits (max a.digits.length b.digits.length-a.digits.length)) (pad b.digits (max a.digits.length b.digits.length-b.digits.length))
def qe4 (a b:Dec):Int:=
 if a.neg=true∧b.neg=false then -1 else if b.neg=true∧a.neg=false then 1 else if a.neg=true then q7F b a else q7F a b
theorem q9r (a b:Dec) (ha:a.digits≠[]) (hb:b.digits≠[]) (m:Int) (h1:m≤a.exp) (h2:m≤b.exp) :
  qiS (pad a.digits (a.exp-m).toNat) (pad b.digits (b.exp-m).toNat)=q7F a b:=by
 have hs:q7F a b=if (a.digits.length:Int)+a.exp<b.digits.length+b.exp then -1 else if (b.digits.length:Int)+b.exp<a.digits.length+a.exp then 1
   else compareBytes (pad a.digits (max a.digits.length b.digits.length-a.digits.length)) (pad b.digits (max a.digits.length b.digits.length-b.digits.length)):=by
  unfold q7F
  rw[if_neg (by simp [ha,hb])]
 rw[hs]
 unfold qiS
 have l1:(pad a.digits (a.exp-m).toNat).length=a.digits.length+(a.exp-m).toNat:=by simp [pad]
 have l2:(pad b.digits (b.exp-m).toNat).length=b.digits.length+(b.exp-m).toNat:=by simp [pad]
 rw[l1,l2]
 by_cases h:(a.digits.length:Int)+a.exp<b.digits.length+b.exp
 ·rw[if_pos h,if_pos (show a.digits.length+(a.exp-m).toNat<b.digits.length+(b.exp-m).toNat by omega)]
 rw[if_neg h,if_neg (show ¬ a.digits.length+(a.exp-m).toNat<b.digits.length+(b.exp-m).toNat by omega)]
 by_cases h':(b.digits.length:Int)+b.exp<a.digits.length+a.exp
 ·rw[if_pos h',if_pos (show b.digits.length+(b.exp-m).toNat<a.digits.length+(a.exp-m).toNat by omega)]
 rw[if_neg h',if_neg (show ¬ b.digits.length+(b.exp-m).toNat<a.digits.length+(a.exp-m).toNat by omega)]
 have key : ∀ (x y:List UInt8) (p q:Nat),x.length+p=y.length+q→compareBytes (pad x p) (pad y q)=compareBytes (pad x (max x.length y.length-x.length)) (pad y (max x.length y.length-y.length)):=by
  intro x y p q h
  have e1:pad x p=pad x (max x.length y.length-x.length)++List.replicate (x.length+p-max x.length y.length) 48:=by
   simp only[pad,List.append_assoc,List.replicate_append_replicate]
   congr 2
   omega
  have e2:pad y q=pad y (max x.length y.length-y.length)++List.replicate (x.length+p-max x.length y.length) 48:=by
   simp only[pad,List.append_assoc,List.replicate_append_replicate]
   congr 2
   omega
  rw[e1,e2]
  exact qdN _ _ _ (by simp [pad]; omega)
 exact key _ _ _ _ (by omega)
theorem qdd (a b:List UInt8):q0f CN 257 [.str a,.str b] (.int .i64 (compareBytes a b)):=by
 have hc:q0f CN 272 [.str a,.str b] (.int .i64 (compareBytes a b)):=qiC (F:=qo3) rfl rfl
 refine q04 qhd rfl ?_
 (repeat' first|simp (disch:=omega) only[go_sem,qhd,enter]|refine q00 _ (hc) ?_|(apply spl<;>intro h<;>try simp (disch:=omega) only[go_sem,h]))
theorem qko (a b:List UInt8) (ha:a.length<2^31) (hb:b.length<2^31):q0f CN 286 [.str a,.str b] (.int .i64 (qiS a b)):=by
 have hc:=qdd a b
 refine q04 qie rfl ?_
 unfold qiS
 (repeat' first|simp (disch:=omega) only[go_sem,qie,enter]|refine q00 _ (hc) ?_|(apply spl<;>intro h<;>try simp (disch:=omega) only[go_sem,h]))
 all_goals first | (rw[if_pos (by omega)]; done) | (rw[if_neg (by omega),if_pos (by omega)]; done) | (rw[if_neg (by omega),if_neg (by omega)]; done) | skip
theorem qcf (a b:List UInt8) (ha:a.length<2^31) (hb:b.length<2^31):q0f CN 647 [.str a,.str b] (.int .i64 (qiS a b)):=by
 refine q04 qgT rfl ?_
 unfold qiS
 rw[qiJ]
 (repeat' first|simp (disch:=omega) only[go_sem,qgT,enter]|(apply spl<;>intro h<;>try simp (disch:=omega) only[go_sem,h]))
 all_goals (repeat' split)
 all_goals first | rfl | (exfalso; omega) | (simp_all; done) | skip
theorem qfZ (d:Dec):q0f CN 264 [q11 d] (.bool (decide (0≤d.exp))):=by
 refine q04 qhc rfl ?_
 obtain ⟨neg,ds,exp⟩:=d
 simp only[q11]
 (repeat' first|simp (disch:=omega) only[go_sem,qhc,enter]|(apply spl<;>intro h<;>try simp (disch:=omega) only[go_sem,h]))
 all_goals (simp; try omega)
theorem qi7 (d:Dec):q0f CN 635 [q11 d] (.bool (decide (0≤d.exp))):=by
 refine q04 qh4 rfl ?_
 obtain ⟨neg,ds,exp⟩:=d
 simp only[q11]
 (repeat' first|simp (disch:=omega) only[go_sem,qh4,enter]|(apply spl<;>intro h<;>try simp (disch:=omega) only[go_sem,h]))
 all_goals (simp; try omega)
end Ago
set_option maxRecDepth 100000
set_option maxHeartbeats 4000000
namespace Ago
open Go (IntKind)
open Go.Lib (compareBytes repeatL)
theorem q41 {d:Dec} (h:q0Q d=true):d.digits.length≤120∧-400≤d.exp∧d.exp≤400:=by
 unfold q0Q at h
 split at h
 ·rename_i h0
  simp at h
  rw[h0]
  simp
  omega
 ·simp at h
  omega
theorem q9f (n:Nat) (h:n≤2147483648):q0f CN 291 [.str [48],.int .i64 n] (.str (List.replicate n 48)):=by
 have h1:=qm2 [48] n (by simp; omega) h
 rw[qoI] at h1
 exact qiC (F:=qns) rfl h1
theorem qha (a b:Dec) (ha:q0Q a=true) (hb:q0Q b=true) : ∃ x y e,q0f CN 285 [q11 a,q11 b] (.tup [.str x,.str y,.int .i64 e])∧qiS x y=q7F a b∧x.length≤1000∧y.length≤1000:=by
 obtain ⟨fa1,fa2,fa3⟩:=q41 ha
 obtain ⟨fb1,fb2,fb3⟩:=q41 hb
 have va:=upN (q4T a (by omega))
 have vb:=upN (q4T b (by omega))
 rw[ha] at va
 rw[hb] at vb
 obtain ⟨na,da,ea⟩:=a
 obtain ⟨nb,db,eb⟩:=b
 simp only[q11] at *
 by_cases h1:da=[]
 ·subst h1
  refine ⟨[],db,eb,q04 q7v rfl ?_,by simp [q7F],by simp,by omega⟩
  (repeat' first|simp (disch:=omega) only[go_sem,q7v,enter]|refine q00 _ (va) ?_|refine q00 _ (vb) ?_|(apply spl<;>intro h<;>try simp (disch:=omega) only[go_sem,h]))
 have hb1:(da == ([]:List UInt8))=false:=by simp [h1]
 by_cases h2:db=[]
 ·subst h2
  refine ⟨da,[],ea,q04 q7v rfl ?_,by simp [q7F],by omega,by simp⟩
  (repeat' first|simp (disch:=omega) only[go_sem,q7v,enter,hb1]|refine q00 _ (va) ?_|refine q00 _ (vb) ?_|(apply spl<;>intro h<;>try simp (disch:=omega) only[go_sem,h]))
 have hb2:(db == ([]:List UInt8))=false:=by simp [h2]
 have key : ∀ m:Int,m≤ea→m≤eb→-400≤m→q0f CN 291 [.str [48],.int .i64 (ea-m)] (.str (List.replicate (ea-m).toNat 48))∧q0f CN 291 [.str [48],.int .i64 (eb-m)] (.str (List.replicate (eb-m).toNat 48)):=by
  intro m k1 k2 k3
  have r1:=q9f (ea-m).toNat (by omega)
  have r2:=q9f (eb-m).toNat (by omega)
  rw[show (((ea-m).toNat:Nat):Int)=ea-m by omega] at r1
  rw[show (((eb-m).toNat:Nat):Int)=eb-m by omega] at r2
  exact ⟨r1,r2⟩
 have hl : ∀ (n:Nat),(List.replicate n (48:UInt8)).length=n:=fun n=>List.length_replicate
 by_cases h:ea≤eb
 ·obtain ⟨r1,r2⟩:=key ea (by omega) h (by omega)
  refine ⟨pad da (ea-ea).toNat,pad db (eb-ea).toNat,ea,q04 q7v rfl ?_,q9r ⟨na,da,ea⟩ ⟨nb,db,eb⟩ h1 h2 ea (by simp) h,by simp [pad]; omega,by simp [pad]; omega⟩
  have hm : ¬ eb<ea:=by omega
  (repeat' first|simp (disch:=omega) only[go_sem,q7v,enter,hb1,hb2,hm,hl,pad]|refine q00 _ (va) ?_|refine q00 _ (vb) ?_|refine q00 _ (r1) ?_|refine q00 _ (r2) ?_|(apply spl<;>intro h<;>try simp (disch:=omega) only[go_sem,h]))
  all_goals omega
 ·obtain ⟨r1,r2⟩:=key eb (by omega) (by omega) (by omega)
  refine ⟨pad da (ea-eb).toNat,pad db (eb-eb).toNat,eb,q04 q7v rfl ?_,q9r ⟨na,da,ea⟩ ⟨nb,db,eb⟩ h1 h2 eb (by simp only; omega) (by simp),by simp [pad]; omega,by simp [pad]; omega⟩
  have hm:eb<ea:=by omega
  (repeat' first|simp (disch:=omega) only[go_sem,q7v,enter,hb1,hb2,hm,hl,pad]|refine q00 _ (va) ?_|refine q00 _ (vb) ?_|refine q00 _ (r1) ?_|refine q00 _ (r2) ?_|(apply spl<;>intro h<;>try simp (disch:=omega) only[go_sem,h]))
  all_goals omega
theorem qaK (a b:Dec) (ha:q0Q a=true) (hb:q0Q b=true):q0f CN 273 [q11 a,q11 b] (.int .i64 (q7F a b)):=by
 obtain ⟨x,y,e,hr,hc,l1,l2⟩:=qha a b ha hb
 have hk:=qko x y (by omega) (by omega)
 rw[hc] at hk
 refine q04 qgn rfl ?_
 simp only[q11] at *
 (repeat' first|simp (disch:=omega) only[go_sem,qgn,enter]|refine q00 _ (hr) ?_|refine q00 _ (hk) ?_|(apply spl<;>intro h<;>try simp (disch:=omega) only[go_sem,h]))
theorem qey (a b:Dec) (ha:q0Q a=true) (hb:q0Q b=true):q0f CN 263 [q11 a,q11 b] (.int .i64 (qe4 a b)):=by
 have r1:=qaK a b ha hb
 have r2:=qaK b a hb ha
 refine q04 qbl rfl ?_
 unfold qe4
 obtain ⟨na,da,ea⟩:=a
 obtain ⟨nb,db,eb⟩:=b
 simp only[q11] at *
 cases na<;>cases nb
 ·try simp only[Bool.false_eq_true,false_and,if_false]
  (repeat' first|simp (disch:=omega) only[go_sem,qbl,enter]|refine q00 _ (r1) ?_|(apply spl<;>intro h<;>try simp (disch:=omega) only[go_sem,h]))
 ·try simp only[Bool.false_eq_true,false_and,if_false,true_and,if_true]
  (repeat' first|simp (disch:=omega) only[go_sem,qbl,enter]|refine q00 _ (r1) ?_|(apply spl<;>intro h<;>try simp (disch:=omega) only[go_sem,h]))
 ·try simp only[Bool.false_eq_true,false_and,if_false,true_and,if_true]
  (repeat' first|simp (disch:=omega) only[go_sem,qbl,enter]|refine q00 _ (r1) ?_|(apply spl<;>intro h<;>try simp (disch:=omega) only[go_sem,h]))
 ·try simp only[Bool.true_eq_false,and_false,if_false,if_true]
  (repeat' first|simp (disch:=omega) only[go_sem,qbl,enter]|refine q00 _ (r2) ?_|(apply spl<;>intro h<;>try simp (disch:=omega) only[go_sem,h]))
theorem q9c (a b:Dec) (ha:a.digits.length≤120) (hb:b.digits.length≤120) (xa : -400≤a.exp∧a.exp≤400) (xb : -400≤b.exp∧b.exp≤400):q0f CN 643 [q11 a,q11 b] (.int .i64 (q7F a b)):=by
 have c0:=qcf a.digits b.digits (by omega) (by omega)
 have hp : ∀ (x:List UInt8) n,(pad x n).length=x.length+n:=by simp [pad]
 have c1:=qcf (pad a.digits (max a.digits.length b.digits.length-a.digits.length)) (pad b.digits (max a.digits.length b.digits.length-b.digits.length)) (by rw[hp]; omega) (by rw[hp]; omega)
 have n1:=upN (q7P (max a.digits.length b.digits.length-a.digits.length) (by omega))
 have n2:=upN (q7P (max a.digits.length b.digits.length-b.digits.length) (by omega))
 have hl : ∀ (n:Nat),(List.replicate n (48:UInt8)).length=n:=fun n=>List.length_replicate
 refine q04 q8P rfl ?_
 unfold q7F
 obtain ⟨na,da,ea⟩:=a
 obtain ⟨nb,db,eb⟩:=b
 simp only[q11] at *
 by_cases h1:da=[]
 ·subst h1
  try simp only[true_or,if_true]
  (repeat' first|simp (disch:=omega) only[go_sem,q8P,enter]|refine q00 _ (c0) ?_|(apply spl<;>intro h<;>try simp (disch:=omega) only[go_sem,h]))
 have hb1:(da == ([]:List UInt8))=false:=by simp [h1]
 by_cases h2:db=[]
 ·subst h2
  try simp only[or_true,if_true]
  (repeat' first|simp (disch:=omega) only[go_sem,q8P,enter,hb1]|refine q00 _ (c0) ?_|(apply spl<;>intro h<;>try simp (disch:=omega) only[go_sem,h]))
 have hb2:(db == ([]:List UInt8))=false:=by simp [h2]
 rw[if_neg (by simp [h1,h2])]
 by_cases h3:(da.length:Int)+ea<db.length+eb
 ·rw[if_pos h3]
  (repeat' first|simp (disch:=omega) only[go_sem,q8P,enter,hb1,hb2]|(apply spl<;>intro h<;>try simp (disch:=omega) only[go_sem,h]))
  all_goals omega
 rw[if_neg h3]
 by_cases h4:(db.length:Int)+eb<da.length+ea
 ·rw[if_pos h4]
  (repeat' first|simp (disch:=omega) only[go_sem,q8P,enter,hb1,hb2]|(apply spl<;>intro h<;>try simp (disch:=omega) only[go_sem,h]))
  all_goals omega
 rw[if_neg h4]
 have e1:qiS (pad da (max da.length db.length-da.length)) (pad db (max da.length db.length-db.length))=compareBytes (pad da (max da.length db.length-da.length)) (pad db (max da.length db.length-db.length)):=by
  unfold qiS
  rw[hp,hp,if_neg (by omega),if_neg (by omega)]
 rw[e1] at c1
 by_cases h5:da.length<db.length
 ·rw[show max da.length db.length=db.length by omega] at *
  rw[show (((db.length-da.length:Nat):Int))=(db.length:Int)-da.length by omega] at n1
  rw[show (((db.length-db.length:Nat):Int))=(db.length:Int)-db.length by omega] at n2
  simp only[pad] at c1
  (repeat' first|simp (disch:=omega) only[go_sem,q8P,enter,hb1,hb2,hl,pad]|refine q00 _ (n1) ?_|refine q00 _ (n2) ?_|refine q00 _ (c1) ?_|(apply spl<;>intro h<;>try simp (disch:=omega) only[go_sem,h]))
  all_goals omega
 ·rw[show max da.length db.length=da.length by omega] at *
  rw[show (((da.length-da.length:Nat):Int))=(da.length:Int)-da.length by omega] at n1
  rw[show (((da.length-db.length:Nat):Int))=(da.length:Int)-db.length by omega] at n2
  simp only[pad] at c1
  (repeat' first|simp (disch:=omega) only[go_sem,q8P,enter,hb1,hb2,hl,pad]|refine q00 _ (n1) ?_|refine q00 _ (n2) ?_|refine q00 _ (c1) ?_|(apply spl<;>intro h<;>try simp (disch:=omega) only[go_sem,h]))
  all_goals omega
theorem qaX (a b:Dec) (ha:q0Q a=true) (hb:q0Q b=true):q0f CN 634 [q11 a,q11 b] (.int .i64 (qe4 a b)):=by
 obtain ⟨fa1,fa2,fa3⟩:=q41 ha
 obtain ⟨fb1,fb2,fb3⟩:=q41 hb
 have r1:=q9c a b fa1 fb1 ⟨fa2,fa3⟩ ⟨fb2,fb3⟩
 have r2:=q9c b a fb1 fa1 ⟨fb2,fb3⟩ ⟨fa2,fa3⟩
 refine q04 qbT rfl ?_
 unfold qe4
 obtain ⟨na,da,ea⟩:=a
 obtain ⟨nb,db,eb⟩:=b
 simp only[q11] at *
 cases na<;>cases nb
 ·try simp only[Bool.false_eq_true,false_and,if_false]
  (repeat' first|simp (disch:=omega) only[go_sem,qbT,enter]|refine q00 _ (r1) ?_|(apply spl<;>intro h<;>try simp (disch:=omega) only[go_sem,h]))
 ·try simp only[Bool.false_eq_true,false_and,if_false,true_and,if_true]
  (repeat' first|simp (disch:=omega) only[go_sem,qbT,enter]|refine q00 _ (r1) ?_|(apply spl<;>intro h<;>try simp (disch:=omega) only[go_sem,h]))
 ·try simp only[Bool.false_eq_true,false_and,if_false,true_and,if_true]
  (repeat' first|simp (disch:=omega) only[go_sem,qbT,enter]|refine q00 _ (r1) ?_|(apply spl<;>intro h<;>try simp (disch:=omega) only[go_sem,h]))
 ·try simp only[Bool.true_eq_false,and_false,if_false,if_true]
  (repeat' first|simp (disch:=omega) only[go_sem,qbT,enter]|refine q00 _ (r2) ?_|(apply spl<;>intro h<;>try simp (disch:=omega) only[go_sem,h]))
end Ago
