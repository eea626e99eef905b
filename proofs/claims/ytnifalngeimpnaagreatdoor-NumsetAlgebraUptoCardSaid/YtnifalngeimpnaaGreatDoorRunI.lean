/- Round up to a whole number; nextWhole. -/
import Derived.Test.YtnifalngeimpnaaGreatDoorRunH
import Derived.Test.YtnifalngeimpnaaGreatDoorRunA
set_option linter.unusedSimpArgs false
set_option linter.unusedVariables false
set_option maxRecDepth 100000
set_option exponentiation.threshold 2000
set_option maxHeartbeats 4000000
set_option exponentiation.threshold 2000
namespace Ago
open Go (IntKind)
def upQ (neg:Bool) (A:Int) (k:Nat):Int:=if A % T k≠0∧neg=false then A / T k+1 else A / T k
theorem rounds_run (neg odd:Bool) (h:Int):PRun CN 732 [.int .i64 1,.bool neg,.bool odd,.int .i64 h] (.bool (!neg)):=by
 refine prun_of ac732 rfl ?_
 cases neg
 all_goals
  (repeat' first|simp (disch:=omega) only[go_sem,ac732,enter]|(apply spl<;>intro h<;>try simp (disch:=omega) only[go_sem,ac732,enter,h]))
  all_goals (first|omega|rfl)
theorem fold10_one (k:Nat):fold10 (49::List.replicate k 48)=T k:=by
 rw[fold10_cons,fold10_rep,List.length_replicate]
 have:((UInt8.toNat 49:Nat):Int)-48=1:=rfl
 rw[this]
 show 1 * (10:Int)^k+0=10^k
 omega
theorem one_num (k:Nat):Num (49::List.replicate k 48):=⟨by
 simp only[digits,List.all_cons]
 have:=digits_noughts k
 unfold digits at this
 rw[this]
 rfl,by simp,by simp⟩
def oneD:Dec:=⟨false,[49],0⟩
theorem quo_run (d:Dec) (hd:decOk d=true) (he:d.exp<0) (hn:d.digits≠[]):PRun CN 720 [encDec d,encDec oneD,.int .i64 0,.int .i64 1] (.tup [encDec (normG d.neg (dg (upQ d.neg (fold10 d.digits) (-d.exp).toNat)) 0).1,.int .i64 (normG d.neg (dg (upQ d.neg (fold10 d.digits) (-d.exp).toNat)) 0).2]):=by
 obtain ⟨h1,h2,h3,h4,h5⟩:=decOk_num hd hn
 have va:=upN (decOkI_run d (by omega))
 have vb:=upN (decOkI_run oneD (by simp [oneD]))
 rw[hd] at va
 rw[show decOk oneD=true by decide] at vb
 obtain ⟨k,hk⟩ : ∃ k:Nat,(-d.exp).toNat=k:=⟨_,rfl⟩
 have hke : - d.exp=(k:Int):=by omega
 have hk400:k≤400:=by omega
 have hrep:=repeat_run k (by omega)
 have hone:=one_num k
 have hlen:(49::List.replicate k (48:UInt8)).length=k+1:=by simp
 have hdiv:=divide_run d.digits (49::List.replicate k 48) h1.dig hone (by omega) (by omega) hn
 rw[fold10_one] at hdiv
 have hA:=fold10_bound _ h1.dig
 have hT:=T_pos k
 have q0:0≤fold10 d.digits / T k:=Int.ediv_nonneg hA.1 (by omega)
 have m0:0≤fold10 d.digits % T k:=Int.emod_nonneg _ (by omega)
 have hm:=Int.emod_lt_of_pos (fold10 d.digits) hT
 have q1:fold10 d.digits / T k≤fold10 d.digits:=Int.ediv_le_self _ hA.1
 have hA2:fold10 d.digits<10^120:=by have:=pow10_le h3; omega
 have hm2:fold10 d.digits % T k≤fold10 d.digits:=by
  have e:=Int.mul_ediv_add_emod (fold10 d.digits) (T k)
  have:=Int.mul_nonneg (show 0≤T k by omega) q0
  omega
 rw[hk]
 unfold upQ
 generalize fold10 d.digits / T k=Qv at *
 generalize fold10 d.digits % T k=Rv at *
 have p121:(10:Int)^120+1<10^121:=by decide +kernel
 have hql:=dg_len q0 (show Qv<10^120 by omega)
 have hrl:=dg_len m0 (show Rv<10^120 by omega)
 obtain ⟨o1,o2,o3⟩:=dg_ok q0
 obtain ⟨r1,r2,r3⟩:=dg_ok m0
 have hp1:=plus_run (dg Qv) [49] o1 (by decide) (by omega) (by simp)
 rw[o2,f49] at hp1
 have hp2:=plus_run (dg Rv) (dg Rv) r1 r1 (by omega) (by omega)
 have hsl:=dg_len (show 0≤fold10 (dg Rv)+fold10 (dg Rv) by omega) (show fold10 (dg Rv)+fold10 (dg Rv)<10^121 by rw[r2]; omega)
 have hcm:=cmpI_run (dg (fold10 (dg Rv)+fold10 (dg Rv))) (49::List.replicate k 48) (by omega) (by omega)
 have hro:=fun o=>rounds_run d.neg o (cmpS (dg (fold10 (dg Rv)+fold10 (dg Rv))) (49::List.replicate k 48))
 have hn1:=normG_run d.neg (dg Qv) 0 (by omega) (by omega)
 have hn2:=normG_run d.neg (dg (Qv+1)) 0 (by have:=dg_len (show 0≤Qv+1 by omega) (show Qv+1<10^121 by omega); omega) (by omega)
 generalize cmpS (dg (fold10 (dg Rv)+fold10 (dg Rv))) (49::List.replicate k 48)=cc at *
 have hrn:dg Rv=[]↔Rv=0:=dg_nil m0
 generalize dg (fold10 (dg Rv)+fold10 (dg Rv))=rr at *
 -- the last digit of the quotient
 have hqd:dg Qv=[]∨∃ c,(dg Qv)[(dg Qv).length-1]?=some c∧48≤c.toNat∧c.toNat≤57:=by
  by_cases h:dg Qv=[]
  ·exact .inl h
  ·right
   have hl:=List.length_pos_iff.2 h
   obtain ⟨c,hc⟩:=get_some (s:=dg Qv) (k:=(dg Qv).length-1) (by omega)
   have:=List.all_eq_true.1 o1 c (List.mem_of_getElem? hc)
   simp only[digit,decide_eq_true_eq] at this
   exact ⟨c,hc,this⟩
 obtain ⟨nn,ds,ex⟩:=d
 simp only at *
 have hnb:(ds == ([]:List UInt8))=false:=by simp [hn]
 simp only[encDec,oneD] at *
 have hex:ex = -(k:Int):=by omega
 subst hex
 have hk0:0<k:=by omega
 have e1 : ¬ (0:Int) ≤ -(k:Int)-0+0:=by omega
 have e2 : -(-(k:Int)-0+0)=(k:Int):=by omega
 have h491:([49]:List UInt8)++List.replicate k 48=49::List.replicate k 48:=rfl
 have e3 : ¬ (0:Int) ≤ -(k:Int)+0:=by omega
 have e4 : -(-(k:Int)+0)=(k:Int):=by omega
 have e5 : ¬ (0:Int) ≤ -(k:Int):=by omega
 have e6 : - -(k:Int)=(k:Int):=by omega
 have hl49:(49::List.replicate k (48:UInt8)).length≤401:=by simp; omega
 have e0:(([49]:List UInt8) == [])=false:=rfl
 have e7:(0 - -(k:Int))=k:=by omega
 by_cases hr0:Rv=0
 ·rw[if_neg (by simp [hr0])]
  have hre:=hrn.2 hr0
  rw[hre] at hdiv
  cases nn
  all_goals
   refine prun_of ac720 rfl ?_
   (repeat' first|simp (disch:=omega) only[go_sem,ac720,enter,hnb,e0,e1,e2,e3,e4,e5,e6,e7,h491,List.length_replicate,List.length_cons,List.length_nil,Int.sub_zero,Int.add_zero,Int.neg_zero]|refine pure_of _ (va) ?_|refine pure_of _ (vb) ?_|refine pure_of _ (hrep) ?_|refine pure_of _ (hdiv) ?_|refine pure_of _ (hn1) ?_|(apply spl<;>intro h<;>try simp (disch:=omega) only[go_sem,ac720,enter,hnb,e0,e1,e2,e3,e4,e5,e6,e7,h491,List.length_replicate,List.length_cons,List.length_nil,Int.sub_zero,Int.add_zero,Int.neg_zero ,h]))
   all_goals (first|omega|rfl)
 ·have hre : ¬ dg Rv=[]:=fun h=>hr0 (hrn.1 h)
  have hrb:(dg Rv == ([]:List UInt8))=false:=by simp [hre]
  rcases hqd with hqe | ⟨c,hc,c1,c2⟩
  ·rw[hqe] at hdiv hp1 hn1
   cases nn with
   | true=>
    rw[if_neg (by simp),hqe]
    refine prun_of ac720 rfl ?_
    (repeat' first|simp (disch:=omega) only[go_sem,ac720,enter,hnb,hrb,e0,e1,e2,e3,e4,e5,e6,e7,h491,List.length_replicate,List.length_cons,List.length_nil,Int.sub_zero,Int.add_zero,Int.neg_zero]|refine pure_of _ (va) ?_|refine pure_of _ (vb) ?_|refine pure_of _ (hrep) ?_|refine pure_of _ (hdiv) ?_|refine pure_of _ (hp2) ?_|refine pure_of _ (hcm) ?_|refine pure_of _ (hro _) ?_|refine pure_of _ (hn1) ?_|(apply spl<;>intro h<;>try simp (disch:=omega) only[go_sem,ac720,enter,hnb,hrb,e0,e1,e2,e3,e4,e5,e6,e7,h491,List.length_replicate,List.length_cons,List.length_nil,Int.sub_zero,Int.add_zero,Int.neg_zero ,h]))
    all_goals (first|omega|rfl)
   | false=>
    rw[if_pos ⟨hr0,rfl⟩]
    refine prun_of ac720 rfl ?_
    (repeat' first|simp (disch:=omega) only[go_sem,ac720,enter,hnb,hrb,e0,e1,e2,e3,e4,e5,e6,e7,h491,List.length_replicate,List.length_cons,List.length_nil,Int.sub_zero,Int.add_zero,Int.neg_zero]|refine pure_of _ (va) ?_|refine pure_of _ (vb) ?_|refine pure_of _ (hrep) ?_|refine pure_of _ (hdiv) ?_|refine pure_of _ (hp2) ?_|refine pure_of _ (hcm) ?_|refine pure_of _ (hro _) ?_|refine pure_of _ (hp1) ?_|refine pure_of _ (hn2) ?_|(apply spl<;>intro h<;>try simp (disch:=omega) only[go_sem,ac720,enter,hnb,hrb,e0,e1,e2,e3,e4,e5,e6,e7,h491,List.length_replicate,List.length_cons,List.length_nil,Int.sub_zero,Int.add_zero,Int.neg_zero ,h]))
    all_goals (first|omega|rfl)
  ·have hqb:(dg Qv == ([]:List UInt8))=false:=by
    cases hq:dg Qv with
    | nil=>rw[hq] at hc; simp at hc
    | cons x l=>rfl
   have hql0:0<(dg Qv).length:=by
    cases hq:dg Qv with
    | nil=>rw[hq] at hc; simp at hc
    | cons x l=>simp
   have e8:(((dg Qv).length:Int)-1).toNat=(dg Qv).length-1:=by omega
   cases nn with
   | true=>
    rw[if_neg (by simp)]
    generalize dg Qv=qs at *
    refine prun_of ac720 rfl ?_
    (repeat' first|simp (disch:=omega) only[go_sem,ac720,enter,hnb,hrb,hqb,hc,e8,e0,e1,e2,e3,e4,e5,e6,e7,h491,List.length_replicate,List.length_cons,List.length_nil,Int.sub_zero,Int.add_zero,Int.neg_zero]|refine pure_of _ (va) ?_|refine pure_of _ (vb) ?_|refine pure_of _ (hrep) ?_|refine pure_of _ (hdiv) ?_|refine pure_of _ (hp2) ?_|refine pure_of _ (hcm) ?_|refine pure_of _ (hro _) ?_|refine pure_of _ (hn1) ?_|(apply spl<;>intro h<;>try simp (disch:=omega) only[go_sem,ac720,enter,hnb,hrb,hqb,hc,e8,e0,e1,e2,e3,e4,e5,e6,e7,h491,List.length_replicate,List.length_cons,List.length_nil,Int.sub_zero,Int.add_zero,Int.neg_zero ,h]))
    all_goals (first|omega|rfl | skip)
   | false=>
    rw[if_pos ⟨hr0,rfl⟩]
    generalize dg Qv=qs at *
    refine prun_of ac720 rfl ?_
    (repeat' first|simp (disch:=omega) only[go_sem,ac720,enter,hnb,hrb,hqb,hc,e8,e0,e1,e2,e3,e4,e5,e6,e7,h491,List.length_replicate,List.length_cons,List.length_nil,Int.sub_zero,Int.add_zero,Int.neg_zero]|refine pure_of _ (va) ?_|refine pure_of _ (vb) ?_|refine pure_of _ (hrep) ?_|refine pure_of _ (hdiv) ?_|refine pure_of _ (hp2) ?_|refine pure_of _ (hcm) ?_|refine pure_of _ (hro _) ?_|refine pure_of _ (hp1) ?_|refine pure_of _ (hn2) ?_|(apply spl<;>intro h<;>try simp (disch:=omega) only[go_sem,ac720,enter,hnb,hrb,hqb,hc,e8,e0,e1,e2,e3,e4,e5,e6,e7,h491,List.length_replicate,List.length_cons,List.length_nil,Int.sub_zero,Int.add_zero,Int.neg_zero ,h]))
    all_goals (first|omega|rfl | skip)
end Ago
set_option maxRecDepth 100000
set_option exponentiation.threshold 2000
set_option maxHeartbeats 4000000
set_option exponentiation.threshold 2000
namespace Ago
open Go (IntKind)
theorem whole_iff {d:Dec} (hd:decOk d=true):0≤d.exp↔T 400 ∣ valD d:=by
 have hm:T 400 ∣ magD d↔T 400 ∣ valD d:=by
  unfold valD
  split
  ·exact Int.dvd_neg.symm
  ·exact Iff.rfl
 rw[←hm]
 by_cases hn:d.digits=[]
 ·have:=decOk_nil hd hn
  rw[magD_nil hn,this]
  simp
 ·obtain ⟨h1,h2,h3,h4,h5⟩:=decOk_num hd hn
  constructor
  ·intro h
   unfold magD
   exact Int.dvd_trans (T_dvd (show 400≤(d.exp+400).toNat by omega)) (Int.dvd_mul_left _ _)
  ·rintro ⟨c,hc⟩
   rcases Int.lt_or_le d.exp 0 with h | h
   ·exfalso
    have hl:=last_ne h1 h2
    apply hl
    obtain ⟨E,hE⟩ : ∃ E:Nat,(d.exp+400).toNat=E:=⟨_,rfl⟩
    unfold magD at hc
    rw[hE] at hc
    have e:T 400=T (399-E) * 10 * T E:=by
     show (10:Int)^400=10^(399-E) * 10 * 10^E
     rw[show (10:Int)^(399-E) * 10=10^(399-E+1) from (Int.pow_succ 10 (399-E)).symm,←Int.pow_add]
     congr 1
     omega
    rw[e] at hc
    have h6:fold10 d.digits * T E=(T (399-E) * 10 * c) * T E:=by
     show fold10 d.digits * 10^E=_
     rw[hc,Int.mul_assoc (T (399-E) * 10),Int.mul_comm (T E) c,←Int.mul_assoc]
    have h7:=Int.eq_of_mul_eq_mul_right (by have:=T_pos E; omega) h6
    exact ⟨T (399-E) * c,by rw[h7,Int.mul_comm (T (399-E)) 10,Int.mul_assoc]⟩
   ·exact h
def Least (P:Int→Prop) (r:Dec × Bool):Prop:=
 (r.2=true→decOk r.1=true∧P (valD r.1)∧∀ y,decOk y=true→P (valD y)→valD r.1≤valD y)∧(r.2=false→r.1=⟨false,[],0⟩∧∀ y,decOk y=true→¬ P (valD y))
def Above (v:Int) (opn:Bool) (n:Int):Prop:=if opn=true then v<n else v≤n
theorem val_bound {d:Dec} (hd:decOk d=true) (hn:d.digits≠[]) {K:Nat} (h:(d.digits.length:Int)+d.exp+400≤K):magD d<T K:=by
 have hp:=(mag_Pl hd hn).2.2
 obtain ⟨_,_,_,h4,_⟩:=decOk_num hd hn
 have:=T_le (show d.digits.length+(d.exp+400).toNat≤K by omega)
 omega
theorem val_low {d:Dec} (hd:decOk d=true) (hn:d.digits≠[]) {K:Nat} (h:(K:Int)<d.digits.length+d.exp+400):T K≤magD d:=by
 have hp:=(mag_Pl hd hn).2.1
 obtain ⟨_,_,_,h4,_⟩:=decOk_num hd hn
 have:=T_le (show K≤d.digits.length+(d.exp+400).toNat-1 by omega)
 omega
theorem val_abs (d:Dec):valD d=magD d∨valD d = - magD d:=by
 unfold valD
 split
 ·exact .inr rfl
 ·exact .inl rfl
theorem whole_V {n:Int} (h:T 400 ∣ n) (h1 : - T 520≤n) (h2:n≤T 520):IsV n:=by
 have key : ∀ n,T 400 ∣ n→0<n→n≤T 520→IsV n:=fun n h h0 h1=>by
  rcases Int.lt_or_le n (T 520) with h3 | h3
  ·exact V_K2 (L:=520) h0 h3 h (not_dvd h0 (by have:=T_lt (show 520<801 by omega); omega))
  ·have:n=T 520:=by omega
   rw[this]
   exact pow_V (by omega)
 rcases Int.lt_trichotomy n 0 with h3 | h3 | h3
 ·have:=V_pos_neg (key (-n) (Int.dvd_neg.2 h) (by omega) (by omega))
  rwa [Int.neg_neg] at this
 ·rw[h3]
  exact V_zero
 ·exact key n h h3 h2
def roundM (d:Dec):Dec × Int:=normG d.neg (dg (upQ d.neg (fold10 d.digits) (-d.exp).toNat)) 0
theorem fromInt1:PRun CN 129 [.int .i64 1] (encDec oneD):=by
 have h:=upN (fromInt_run 1 (by omega))
 have e:numD 1=oneD:=rfl
 rwa [e] at h
theorem round_run (d:Dec) (hd:decOk d=true) (he:d.exp<0) (hn:d.digits≠[]):PRun CN 716 [encDec d,.int .i64 0,.int .i64 1] (.tup [encDec (roundM d).1,.int .i64 (roundM d).2]):=by
 have hq:=quo_run d hd he hn
 have h1:=fromInt1
 unfold roundM
 generalize normG d.neg (dg (upQ d.neg (fold10 d.digits) (-d.exp).toNat)) 0=r at *
 unfold encDec at *
 refine prun_of ac716 rfl ?_
 (repeat' first|simp (disch:=omega) only[go_sem,ac716,enter]|refine pure_of _ (hq) ?_|refine pure_of _ (h1) ?_|(apply spl<;>intro h<;>try simp (disch:=omega) only[go_sem,ac716,enter ,h]))
 all_goals (first|omega|rfl)
theorem roundM_law {d:Dec} (hd:decOk d=true) (he:d.exp<0) (hn:d.digits≠[]):(roundM d).2=0∧decOk (roundM d).1=true∧T 400 ∣ valD (roundM d).1∧valD d<valD (roundM d).1∧valD (roundM d).1<valD d+T 400:=by
 obtain ⟨h1,h2,h3,h4,h5⟩:=decOk_num hd hn
 obtain ⟨k,hk⟩ : ∃ k:Nat,(-d.exp).toNat=k:=⟨_,rfl⟩
 have hk0:0<k:=by omega
 have hk400:k≤400:=by omega
 have hA:=fold10_bound _ h1.dig
 have hT:=T_pos k
 have hmag:magD d=fold10 d.digits * T (400-k):=by
  unfold magD
  congr 2
  omega
 have e400:T 400=T k * T (400-k):=by
  show (10:Int)^400=10^k * 10^(400-k)
  rw[←Int.pow_add]
  congr 1
  omega
 have hnd : ¬ T 400 ∣ valD d:=fun h=>by have:=(whole_iff hd).2 h; omega
 have q0:0≤fold10 d.digits / T k:=Int.ediv_nonneg hA.1 (by omega)
 have m0:0≤fold10 d.digits % T k:=Int.emod_nonneg _ (by omega)
 have hm:=Int.emod_lt_of_pos (fold10 d.digits) hT
 have hdm:=Int.mul_ediv_add_emod (fold10 d.digits) (T k)
 have hA2:fold10 d.digits<T 120:=by have:=T_le h3; have h6:fold10 d.digits<T d.digits.length:=hA.2; omega
 have hr0:fold10 d.digits % T k≠0:=fun h=>by
  apply hnd
  have:T 400 ∣ magD d:=by
   rw[hmag,e400]
   refine ⟨fold10 d.digits / T k,?_⟩
   have h6:fold10 d.digits=T k * (fold10 d.digits / T k):=by omega
   conv=>lhs; rw[h6]
   rw[Int.mul_assoc,Int.mul_assoc,Int.mul_comm (fold10 d.digits / T k)]
  rcases val_abs d with h6 | h6
  ·rw[h6]; exact this
  ·rw[h6]; exact Int.dvd_neg.2 this
 have hq119:fold10 d.digits / T k<T 119:=by
  rcases Int.lt_or_le (fold10 d.digits / T k) (T 119) with h | h
  ·exact h
  ·have g1:=Int.mul_le_mul_of_nonneg_left h (show 0≤T k by omega)
   have g2:T 1 * T 119≤T k * T 119:=Int.mul_le_mul_of_nonneg_right (T_le hk0) (by have:=T_pos 119; omega)
   have g3:T 1 * T 119=T 120:=(Int.pow_add 10 1 119).symm
   omega
 -- the distance to the next whole number
 have hmag2:magD d=fold10 d.digits / T k * T 400+fold10 d.digits % T k * T (400-k):=by
  rw[hmag,e400]
  conv=>lhs; rw[←hdm]
  rw[Int.add_mul,Int.mul_comm (T k) (fold10 d.digits / T k),Int.mul_assoc]
 have hW:=T_pos (400-k)
 have b1:0<fold10 d.digits % T k * T (400-k):=Int.mul_pos (by omega) hW
 have b2:fold10 d.digits % T k * T (400-k)<T 400:=by
  rw[e400]
  exact Int.mul_lt_mul_of_pos_right hm hW
 have up0:0≤upQ d.neg (fold10 d.digits) k:=by unfold upQ; split<;>omega
 obtain ⟨g1,g2⟩:=normG_val d.neg (n:=upQ d.neg (fold10 d.digits) k) (e:=0) up0 (by omega) (by omega)
 have e00':((0:Int)+400).toNat=400:=rfl
 rw[e00'] at g1 g2
 have hup:upQ d.neg (fold10 d.digits) k≤T 119:=by unfold upQ; split<;>omega
 have hok:(normG d.neg (dg (upQ d.neg (fold10 d.digits) k)) 0).2=0:=by
  by_cases h:(normG d.neg (dg (upQ d.neg (fold10 d.digits) k)) 0).2=0
  ·exact h
  ·exfalso
   have h6:upQ d.neg (fold10 d.digits) k * T 400≤T 520:=by
    have:=Int.mul_le_mul_of_nonneg_right hup (show 0≤T 400 by have:=T_pos 400; omega)
    have e:T 119 * T 400=T 519:=(Int.pow_add 10 119 400).symm
    have:=T_le (show 519≤520 by omega)
    omega
   have h7:0≤upQ d.neg (fold10 d.digits) k * T 400:=Int.mul_nonneg up0 (by have:=T_pos 400; omega)
   obtain ⟨y,hy,hyv⟩:=whole_V (n:=upQ d.neg (fold10 d.digits) k * T 400) (Int.dvd_mul_left _ _) (by have:=T_pos 520; omega) h6
   have h8:=(g2 h).2 y hy
   apply h8
   have:=magD_nonneg hy
   show magD y=upQ d.neg (fold10 d.digits) k * T 400
   rcases val_abs y with h9 | h9<;>omega
 unfold roundM
 rw[hk]
 obtain ⟨g3,g4⟩:=g1 hok
 refine ⟨hok,g3,?_,?_⟩
 ·rw[g4]
  exact Int.dvd_trans (Int.dvd_mul_left (upQ d.neg (fold10 d.digits) k) (T 400)) (Int.dvd_mul_left _ _)
 ·rw[g4]
  show valD d<_ * (upQ d.neg (fold10 d.digits) k * T 400)∧_ * (upQ d.neg (fold10 d.digits) k * T 400)<valD d+T 400
  unfold upQ
  cases hneg:d.neg with
  | false=>
   have hv:valD d=magD d:=by unfold valD; rw[if_neg (by simp [hneg])]
   rw[if_neg (show ¬ false=true by simp),if_pos (show fold10 d.digits % T k≠0∧false=false from ⟨hr0,rfl⟩),hv,hmag2,Int.one_mul,Int.add_mul,Int.one_mul]
   omega
  | true=>
   have hv:valD d = - magD d:=by unfold valD; rw[if_pos hneg]
   rw[if_pos (rfl:true=true),if_neg (show ¬ (fold10 d.digits % T k≠0∧true=false) by simp),hv,hmag2]
   omega
def nextWM (d:Dec) (opn:Bool):Dec × Bool:=
 if d.exp<0 then ((roundM d).1,decide ((roundM d).2=0))
 else if opn=false then (d,true)
 else if d.digits=[]∨(d.digits.length:Int)+d.exp≤120 then ((addM d oneD).1,decide ((addM d oneD).2=0))
 else nextM d
theorem one_ok:decOk oneD=true:=by decide
theorem one_val:valD oneD=T 400:=by
 have e:((0:Int)+400).toNat=400:=rfl
 unfold valD magD oneD
 simp only[Bool.false_eq_true,if_false]
 rw[f49,e,Int.one_mul]
theorem nextW_run (d:Dec) (opn:Bool) (hd:decOk d=true):PRun CN 707 [encDec d,.bool opn] (.tup [encDec (nextWM d opn).1,.bool (nextWM d opn).2]):=by
 have hw:=wholeI_run d
 have hp:=places_run d hd
 have h1:=fromInt1
 have ha:=addD_run d oneD hd one_ok
 have hx:=next_run d hd
 have hneg:d.exp<0→d.digits≠[]:=fun h hn=>by rw[decOk_nil hd hn] at h; simp at h
 have hr:=fun h=>round_run d hd h (hneg h)
 unfold nextWM
 generalize roundM d=R at *
 generalize addM d oneD=A at *
 generalize nextM d=X at *
 obtain ⟨nn,ds,ex⟩:=d
 simp only[encDec] at *
 by_cases he:ex<0
 ·rw[if_pos he]
  have hr:=hr he
  rw[decide_eq_false (show ¬ 0≤ex by omega)] at hw
  by_cases h0:R.2=0
  ·rw[decide_eq_true h0]
   refine prun_of ac707 rfl ?_
   (repeat' first|simp (disch:=omega) only[go_sem,ac707,enter,h0]|refine pure_of _ (hw) ?_|refine pure_of _ (hr) ?_|(apply spl<;>intro h<;>try simp (disch:=omega) only[go_sem,ac707,enter,h0 ,h]))
   all_goals (first|omega|rfl)
  ·rw[decide_eq_false h0]
   refine prun_of ac707 rfl ?_
   (repeat' first|simp (disch:=omega) only[go_sem,ac707,enter,h0]|refine pure_of _ (hw) ?_|refine pure_of _ (hr) ?_|(apply spl<;>intro h<;>try simp (disch:=omega) only[go_sem,ac707,enter,h0 ,h]))
   all_goals (first|omega|rfl)
 ·rw[if_neg he]
  rw[decide_eq_true (show 0≤ex by omega)] at hw
  cases opn with
  | false=>
   rw[if_pos rfl]
   refine prun_of ac707 rfl ?_
   (repeat' first|simp (disch:=omega) only[go_sem,ac707,enter]|refine pure_of _ (hw) ?_|(apply spl<;>intro h<;>try simp (disch:=omega) only[go_sem,ac707,enter ,h]))
   all_goals (first|omega|rfl)
  | true=>
   rw[if_neg (by simp)]
   by_cases hs:ds=[]∨(ds.length:Int)+ex≤120
   ·rw[if_pos hs]
    by_cases hn:ds=[]
    ·subst hn
     by_cases h0:A.2=0
     ·rw[decide_eq_true h0]
      refine prun_of ac707 rfl ?_
      (repeat' first|simp (disch:=omega) only[go_sem,ac707,enter,h0,keep_mk]|refine pure_of _ (hw) ?_|refine pure_of _ (h1) ?_|refine pure_of _ (ha) ?_|(apply spl<;>intro h<;>try simp (disch:=omega) only[go_sem,ac707,enter,h0,keep_mk ,h]))
      all_goals (first|omega|rfl)
     ·rw[decide_eq_false h0]
      refine prun_of ac707 rfl ?_
      (repeat' first|simp (disch:=omega) only[go_sem,ac707,enter,h0,keep_mk]|refine pure_of _ (hw) ?_|refine pure_of _ (h1) ?_|refine pure_of _ (ha) ?_|(apply spl<;>intro h<;>try simp (disch:=omega) only[go_sem,ac707,enter,h0,keep_mk ,h]))
      all_goals (first|omega|rfl)
    ·have hnb:(ds == ([]:List UInt8))=false:=by simp [hn]
     have hs2:(ds.length:Int)+ex≤120:=by
      rcases hs with h | h
      ·exact absurd h hn
      ·exact h
     by_cases h0:A.2=0
     ·rw[decide_eq_true h0]
      refine prun_of ac707 rfl ?_
      (repeat' first|simp (disch:=omega) only[go_sem,ac707,enter,h0,hnb,hs2,keep_mk]|refine pure_of _ (hw) ?_|refine pure_of _ (hp) ?_|refine pure_of _ (h1) ?_|refine pure_of _ (ha) ?_|(apply spl<;>intro h<;>try simp (disch:=omega) only[go_sem,ac707,enter,h0,hnb,hs2,keep_mk ,h]))
      all_goals (first|omega|rfl)
     ·rw[decide_eq_false h0]
      refine prun_of ac707 rfl ?_
      (repeat' first|simp (disch:=omega) only[go_sem,ac707,enter,h0,hnb,hs2,keep_mk]|refine pure_of _ (hw) ?_|refine pure_of _ (hp) ?_|refine pure_of _ (h1) ?_|refine pure_of _ (ha) ?_|(apply spl<;>intro h<;>try simp (disch:=omega) only[go_sem,ac707,enter,h0,hnb,hs2,keep_mk ,h]))
      all_goals (first|omega|rfl)
   ·rw[if_neg hs]
    have hn:ds≠[]:=fun h=>hs (.inl h)
    have hnb:(ds == ([]:List UInt8))=false:=by simp [hn]
    have hs2 : ¬ (ds.length:Int)+ex≤120:=fun h=>hs (.inr h)
    refine prun_of ac707 rfl ?_
    (repeat' first|simp (disch:=omega) only[go_sem,ac707,enter,hnb,hs2,keep_mk]|refine pure_of _ (hw) ?_|refine pure_of _ (hp) ?_|refine pure_of _ (hx) ?_|(apply spl<;>intro h<;>try simp (disch:=omega) only[go_sem,ac707,enter,hnb,hs2,keep_mk ,h]))
    all_goals (first|omega|rfl)
theorem least_some {P:Int→Prop} {x:Dec} (h1:decOk x=true) (h2:P (valD x)) (h3 : ∀ y,decOk y=true→P (valD y)→valD x≤valD y):Least P (x,true):=
 ⟨fun _=>⟨h1,h2,h3⟩,fun h=>(nomatch h)⟩
theorem nextWM_law (d:Dec) (opn:Bool) (hd:decOk d=true):Least (fun n=>Above (valD d) opn n∧T 400 ∣ n) (nextWM d opn):=by
 have h400:=T_pos 400
 unfold nextWM
 by_cases he:d.exp<0
 ·have hn:d.digits≠[]:=fun hn=>by rw[decOk_nil hd hn] at he; simp at he
  obtain ⟨g1,g2,g3,g4,g5⟩:=roundM_law hd he hn
  have hnd : ¬ T 400 ∣ valD d:=fun h=>by have:=(whole_iff hd).2 h; omega
  rw[if_pos he,decide_eq_true g1]
  refine least_some g2 ⟨by unfold Above; split<;>omega,g3⟩ fun y hy hp=>?_
  have hlt:valD d<valD y:=by
   have h1:=hp.1
   unfold Above at h1
   split at h1
   ·exact h1
   ·rcases Int.lt_or_le (valD d) (valD y) with h | h
    ·exact h
    ·exfalso
     have:valD d=valD y:=by omega
     rw[this] at hnd
     exact hnd hp.2
  rcases Int.lt_or_le (valD y) (valD (roundM d).1) with h | h
  ·have:=gap h400 hp.2 g3 h
   omega
  ·exact h
 ·rw[if_neg he]
  have hdw:=(whole_iff hd).1 (by omega)
  cases opn with
  | false=>
   rw[if_pos rfl]
   exact least_some hd ⟨Int.le_refl _,hdw⟩ fun y _ hp=>hp.1
  | true=>
   rw[if_neg (by simp)]
   by_cases hs:d.digits=[]∨(d.digits.length:Int)+d.exp≤120
   ·rw[if_pos hs]
    have hb:magD d<T 520:=by
     by_cases hn:d.digits=[]
     ·rw[magD_nil hn]; exact T_pos _
     ·rcases hs with h | h
      ·exact absurd h hn
      ·exact val_bound hd hn (by omega)
    have hT:=T_lt (show 400<520 by omega)
    have hm0:=magD_nonneg hd
    have hsum:IsV (valD d+T 400):=by
     have h1:T 400 ∣ valD d+T 400:=Int.dvd_add hdw (Int.dvd_refl _)
     refine whole_V h1 (by rcases val_abs d with h | h<;>omega) ?_
     have h2:T 400 ∣ T 520:=T_dvd (by omega)
     exact gap h400 hdw h2 (by rcases val_abs d with h | h<;>omega)
    rcases addV (v:=valD d+T 400) hd one_ok (by rw[one_val]) with ⟨a,b,c⟩ | ⟨a,n1⟩
    ·rw[decide_eq_true a]
     refine least_some b ⟨by rw[c]; show valD d<valD d+T 400; omega,by rw[c]; exact Int.dvd_add hdw (Int.dvd_refl _)⟩ fun y _ hp=>?_
     rw[c]
     exact gap h400 hdw hp.2 hp.1
    ·exact absurd hsum n1
   ·rw[if_neg hs]
    have hn:d.digits≠[]:=fun h=>hs (.inl h)
    have hs2 : ¬ (d.digits.length:Int)+d.exp≤120:=fun h=>hs (.inr h)
    have hlow:T 520≤magD d:=val_low hd hn (by omega)
    obtain ⟨n1,n2⟩:=nextM_law d hd
    refine ⟨fun h=>?_,fun h=>⟨(n2 h).1,fun y hy hp=>?_⟩⟩
    ·obtain ⟨g1,g2,g3⟩:=n1 h
     refine ⟨g1,⟨g2,?_⟩,fun y hy hp=>g3 y hy hp.1⟩
     have h519:T 519<T 520:=T_lt (by omega)
     have p519:=T_pos 519
     have hbig:T 519≤magD (nextM d).1:=by
      have hr0:=magD_nonneg g1
      rcases val_abs d with hv | hv
      ·rcases val_abs (nextM d).1 with hr | hr<;>omega
      ·obtain ⟨y,hy,hyv⟩:=V_pos_neg (pow_V (show 519≤800 by omega))
       have:=g3 y hy (by omega)
       rcases val_abs (nextM d).1 with hr | hr<;>omega
     have hV:IsV (magD (nextM d).1):=by
      rcases val_abs (nextM d).1 with hr | hr
      ·exact ⟨_,g1,hr⟩
      ·have:=V_pos_neg (n:=valD (nextM d).1) ⟨_,g1,rfl⟩
       rwa [hr,Int.neg_neg] at this
     have hd4:T 400 ∣ magD (nextM d).1:=V_K1 (L:=520) hV (by omega) hbig
     rcases val_abs (nextM d).1 with hr | hr
     ·rw[hr]; exact hd4
     ·rw[hr]; exact Int.dvd_neg.2 hd4
    ·have:=(n2 h).2 y hy
     have h1:=hp.1
     have h1:valD d<valD y:=h1
     omega
end Ago
