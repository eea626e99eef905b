/- Digits of numbers; strings.TrimLeft; the digits that decimal.at reads. -/
import Derived.Test.YtnifalngeimpnaaGreatDoorRunB
import Derived.Test.YtnifalngeimpnaaGreatDoorRunA
set_option linter.unusedSimpArgs false
set_option linter.unusedVariables false
set_option maxRecDepth 100000
set_option exponentiation.threshold 2000
set_option maxHeartbeats 4000000
namespace Ago
open Go (IntKind)
def dg (n:Int):List UInt8:=digs n.toNat
theorem dg_ok {n:Int} (h:0≤n):digits (dg n)=true∧fold10 (dg n)=n∧(n≠0→Num (dg n)):=by
 obtain ⟨h1,h2,h3⟩:=digs_ok n.toNat
 unfold dg
 refine ⟨h1,by rw[h2]; omega,fun hn=>?_⟩
 obtain ⟨h4,h5⟩:=h3 (by omega)
 exact ⟨h1,h4,h5⟩
theorem dg_zero:dg 0=[]:=by
 unfold dg digs
 rfl
theorem dg_nil {n:Int} (h:0≤n):dg n=[]↔n=0:=by
 constructor
 ·intro h1
  have h2:=(dg_ok h).2.1
  rw[h1] at h2
  simpa [fold10] using h2.symm
 ·rintro rfl
  exact dg_zero
theorem dg_uniq {s:List UInt8} (h:digits s=true) (h0:s[0]?≠some 48):s=dg (fold10 s):=by
 have hb:=fold10_bound s h
 by_cases hs:s=[]
 ·subst hs
  exact dg_zero.symm
 ·have hn:Num s:=⟨h,h0,hs⟩
  have hp:=hn.pos
  obtain ⟨k1,k2,k3⟩:=dg_ok hb.1
  exact (cmpS_val hn (k3 (by omega))).2.2 ((cmpS_val hn (k3 (by omega))).2.1.2 k2.symm)
def lstrip (s:List UInt8):List UInt8:=s.dropWhile (· == 48)
theorem lstrip_fold : ∀ (s:List UInt8),fold10 (lstrip s)=fold10 s
 | []=>rfl
 | c::s=>by
  unfold lstrip
  rw[List.dropWhile_cons]
  split
  ·rename_i h
   have h:c=48:=by simpa using h
   have:=lstrip_fold s
   unfold lstrip at this
   rw[this,fold10_cons,h]
   simp
  ·rfl
theorem lstrip_dg {s:List UInt8} (h:digits s=true):lstrip s=dg (fold10 s):=by
 have hd:digits (lstrip s)=true:=List.all_eq_true.2 fun x hx=>List.all_eq_true.1 h x ((List.dropWhile_sublist _).subset hx)
 have h0:(lstrip s)[0]?≠some 48:=by
  unfold lstrip
  cases hl:s.dropWhile (· == (48:UInt8)) with
  | nil=>simp
  | cons c l=>
   have hne:s.dropWhile (· == (48:UInt8))≠[]:=by simp [hl]
   have:=List.head_dropWhile_not (fun x=>x == (48:UInt8)) hne
   simp only[hl,List.head_cons] at this
   simpa using this
 rw[←lstrip_fold s]
 exact dg_uniq hd h0
theorem lstrip_at {s:List UInt8} {k:Nat} (hk:k≤s.length) (hd:(s.take k).all (· == 48)=true) (h:k<s.length→∃ c,s[k]?=some c∧c≠48):lstrip s=s.drop k:=by
 unfold lstrip
 induction s generalizing k with
 | nil=>simp
 | cons x s ih=>
  cases k with
  | zero=>
   obtain ⟨c,h1,h2⟩:=h (by simp)
   simp at h1
   subst h1
   rw[List.dropWhile_cons_of_neg (by simpa using h2)]
   rfl
  | succ k=>
   simp only[List.take_succ_cons,List.all_cons,Bool.and_eq_true] at hd
   rw[List.dropWhile_cons_of_pos (by simpa using hd.1),List.drop_succ_cons]
   exact ih (by simpa using hk) hd.2 fun hlt=>by simpa using h (by simpa using hlt)
theorem trimLB_run (s:List UInt8) (hs:s.length<2^31):PRun CN 144 [.str s,.int .u8 48] (.str (lstrip s)):=by
 refine prun_of ac144 rfl ?_
 simp (disch:=omega) only[go_sem,ac144,enter]
 refine loop_of (α:=Nat) (fun k=>{ tmps:=slots 17 [(0,.str (s.drop k)),(1,.int .u8 48)],heap:=[],base:=0 }) (fun k=>k≤s.length∧(s.take k).all (· == 48)=true) (fun k=>s.length-k) 0 (by rw[List.drop_zero]; rfl) ⟨Nat.zero_le _,rfl⟩ ?_
 rintro k ⟨hk,hd⟩
 have hlen:(s.drop k).length=s.length-k:=by simp
 have ht:List.drop 1 (s.drop k)=s.drop (k+1):=by rw[List.drop_drop,Nat.add_comm]
 have htk:List.take (s.length-k) (s.drop k)=s.drop k:=List.take_of_length_le (by simp)
 by_cases hlt:k<s.length
 ·obtain ⟨c,hc⟩:=get_some hlt
  have hc2:(s.drop k)[0]?=some c:=by rw[List.getElem?_drop,Nat.add_zero]; exact hc
  by_cases h48:c=48
  ·have h48i:(c.toNat:Int)=48:=(zero48 c).2 h48
   (repeat' first|simp (disch:=omega) only[go_sem,hlen,hc2,h48i,e00,htk,ht]|(apply spl<;>intro h<;>try simp (disch:=omega) only[go_sem,hlen,hc2,h48i,e00,htk,ht,h]))
   all_goals first | omega | skip
   exact ⟨k+1,rfl,⟨hlt,take_succ_all hc hd (by simpa using h48)⟩,by omega⟩
  ·have h48i : ¬ (c.toNat:Int)=48:=fun e=>h48 ((zero48 c).1 e)
   rw[lstrip_at hk hd (fun _=>⟨c,hc,h48⟩)]
   (repeat' first|simp (disch:=omega) only[go_sem,hlen,hc2,h48i,e00]|(apply spl<;>intro h<;>try simp (disch:=omega) only[go_sem,hlen,hc2,h48i,e00,h]))
   all_goals (first|omega|rfl)
 ·rw[lstrip_at hk hd (fun h=>absurd h hlt)]
  (repeat' first|simp (disch:=omega) only[go_sem,hlen]|(apply spl<;>intro h<;>try simp (disch:=omega) only[go_sem,hlen,h]))
  all_goals (first|omega|rfl)
theorem trimL_run (s:List UInt8) (hs:s.length<2^31):PRun CN 137 [.str s,.str [48]] (.str (lstrip s)):=by
 refine prun_of ac137 rfl ?_
 by_cases h0:s=[]
 ·subst h0
  (repeat' first|simp (disch:=omega) only[go_sem,ac137,enter]|(apply spl<;>intro h<;>try simp (disch:=omega) only[go_sem,ac137,enter,h]))
  all_goals rfl
 ·have hb:(s == ([]:List UInt8))=false:=by simp [h0]
  have hr:=trimLB_run s hs
  have e48:((UInt8.toNat 48:Nat):Int)=48:=rfl
  have en:(([48]:List UInt8) == [])=false:=rfl
  (repeat' first|simp (disch:=omega) only[go_sem,ac137,enter,hb,e48,en]|refine pure_of _ (hr) ?_|(apply spl<;>intro h<;>try simp (disch:=omega) only[go_sem,ac137,enter,hb,e48,en ,h]))
  all_goals (first|omega|rfl)
def atD (s:List UInt8) (i:Nat):Int:=if i<s.length then ((s.getD (s.length-1-i) 48).toNat:Int)-48 else 0
theorem atD_range {s:List UInt8} (h:digits s=true) (i:Nat):0≤atD s i∧atD s i≤9:=by
 unfold atD
 split
 ·rename_i hi
  have hx:s.getD (s.length-1-i) 48∈s:=by
   rw[List.getD_eq_getElem?_getD,List.getElem?_eq_getElem (by omega)]
   exact List.getElem_mem _
  have:=List.all_eq_true.1 h _ hx
  simp only[digit,decide_eq_true_eq] at this
  omega
 ·omega
theorem atC_run (s:List UInt8) (i:Nat) (h:digits s=true) (hs:s.length<2^24) (hi:i<2^24):PRun CN 733 [.str s,.int .i64 i] (.int .i64 (atD s i)):=by
 have hr:=atD_range h i
 refine prun_of ac733 rfl ?_
 unfold atD at *
 by_cases hlt:i<s.length
 ·rw[if_pos hlt] at hr ⊢
  obtain ⟨c,hc⟩:=get_some (s:=s) (k:=s.length-1-i) (by omega)
  have e:((s.length:Int)-1-i).toNat=s.length-1-i:=by omega
  have hg:s.getD (s.length-1-i) 48=c:=by rw[List.getD_eq_getElem?_getD,hc]; rfl
  rw[hg] at hr ⊢
  (repeat' first|simp (disch:=omega) only[go_sem,ac733,enter,e,hc]|(apply spl<;>intro h<;>try simp (disch:=omega) only[go_sem,ac733,enter,e,hc,h]))
  all_goals (first|omega|rfl)
 ·rw[if_neg hlt]
  (repeat' first|simp (disch:=omega) only[go_sem,ac733,enter]|(apply spl<;>intro h<;>try simp (disch:=omega) only[go_sem,ac733,enter,h]))
  all_goals (first|omega|rfl)
def lowD (s:List UInt8) (i:Nat):Int:=fold10 (s.drop (s.length-i))
theorem lowD_zero (s:List UInt8):lowD s 0=0:=by
 unfold lowD
 rw[Nat.sub_zero,List.drop_length]
 rfl
theorem lowD_all {s:List UInt8} {i:Nat} (h:s.length≤i):lowD s i=fold10 s:=by
 unfold lowD
 rw[show s.length-i=0 by omega,List.drop_zero]
theorem lowD_succ (s:List UInt8) (i:Nat):lowD s (i+1)=atD s i * 10^i+lowD s i:=by
 unfold atD
 by_cases hi:i<s.length
 ·rw[if_pos hi]
  unfold lowD
  have e:s.length-i=s.length-(i+1)+1:=by omega
  have hd:s.drop (s.length-(i+1))=s[s.length-(i+1)]::s.drop (s.length-(i+1)+1):=List.drop_eq_getElem_cons (by omega)
  have hg:s.getD (s.length-1-i) 48=s[s.length-(i+1)]:=by
   rw[List.getD_eq_getElem?_getD,show s.length-1-i=s.length-(i+1) by omega,List.getElem?_eq_getElem (by omega)]
   rfl
  have hl:(s.drop (s.length-(i+1)+1)).length=i:=by rw[List.length_drop]; omega
  rw[hd,fold10_cons,hg,e,hl]
 ·rw[if_neg hi,lowD_all (by omega),lowD_all (by omega),Int.zero_mul,Int.zero_add]
end Ago
set_option maxRecDepth 100000
set_option exponentiation.threshold 2000
set_option maxHeartbeats 4000000
namespace Ago
open Go (IntKind)
def padR (n:Nat) (D:List UInt8):List UInt8:=List.replicate (n-D.length) 0++D
theorem padR_len {n:Nat} {D:List UInt8} (h:D.length≤n):(padR n D).length=n:=by
 simp [padR]
 omega
theorem padR_set {n:Nat} {D:List UInt8} (h:D.length<n) (c:UInt8):(encB (padR n D)).set (n-1-D.length) (.int .u8 c.toNat)=encB (padR n (c::D)):=by
 rw[encB_set]
 congr 1
 unfold padR
 have e:n-D.length=n-(c::D).length+1:=by simp; omega
 rw[e,List.replicate_succ',List.append_assoc,List.set_append_right _ _ (by simp; omega)]
 have e2:n-1-D.length-(List.replicate (n-(c::D).length) (0:UInt8)).length=0:=by simp; omega
 rw[e2]
 rfl
theorem encB_at {l:List UInt8} {i:Nat} (h:i<l.length) : ∃ c:UInt8,(encB l)[i]?=some (.int .u8 c.toNat):=by
 obtain ⟨c,hc⟩:=get_some h
 exact ⟨c,encB_get hc⟩
theorem digit_of {x:Int} (h0:0≤x) (h9:x≤9) : ∃ c:UInt8,digit c=true∧(c.toNat:Int)=48+x∧(c.toNat:Int)-48=x:=by
 have hc:(UInt8.ofNat (48+x.toNat)).toNat=48+x.toNat:=by
  rw[UInt8.toNat_ofNat']
  omega
 refine ⟨UInt8.ofNat (48+x.toNat),?_,?_,?_⟩
 ·simp only[digit,hc,decide_eq_true_eq]
  omega
 ·rw[hc]; omega
 ·rw[hc]; omega
theorem plus_run (a b:List UInt8) (ha:digits a=true) (hb:digits b=true) (la:a.length<2^20) (lb:b.length<2^20):PRun CN 721 [.str a,.str b] (.str (dg (fold10 a+fold10 b))):=by
 refine prun_of ac721 rfl ?_
 obtain ⟨n,hn⟩ : ∃ n,max a.length b.length+1=n:=⟨_,rfl⟩
 have hmx:(if (b.length:Int)>a.length then (b.length:Int) else a.length)+1=n:=by split<;>omega
 have hn0 : ¬ ((n:Int)=0):=by omega
 have han:a.length<n:=by omega
 have hbn:b.length<n:=by omega
 have hn24:n<2^21:=by omega
 have hnn:(n:Int)≤2^21:=by omega
 (repeat' first|simp (disch:=omega) only[go_sem,ac721,enter,hmx,hn0,Int.toNat_natCast]|(apply spl<;>intro h<;>try simp (disch:=omega) only[go_sem,ac721,enter,hmx,hn0,Int.toNat_natCast,h]))
 all_goals first | omega | skip
 refine loop_of (α:=Nat × Int × List UInt8) (fun s=>{ tmps:=slots 46 [(0,.str a),(1,.str b),(5,.int .i64 n),(6,.sref 1 0 0 n),(7,.int .i64 s.2.1),(17,.int .i64 n),(18,.int .i64 s.1)],heap:=[.row 1 (encB (padR n s.2.2)) false true 0],base:=0 })
  (fun s=>s.1≤n∧s.2.2.length=s.1∧0≤s.2.1∧s.2.1≤1∧digits s.2.2=true∧fold10 s.2.2+s.2.1 * 10^s.1=lowD a s.1+lowD b s.1) (fun s=>n-s.1) (0,0,[]) (by
   unfold padR encB
   simp only[List.length_nil,Nat.sub_zero,List.append_nil,List.map_replicate]
   rfl) ⟨Nat.zero_le _,rfl,Int.le_refl _,by decide,rfl,by rw[lowD_zero,lowD_zero]; rfl⟩ ?_
 rintro ⟨i,c,D⟩ ⟨hi,hD,hc0,hc1,hdig,hsum⟩
 simp only at hi hD hc0 hc1 hdig hsum
 by_cases hlt:i<n
 ·have r1:=atC_run a i ha (by omega) (by omega)
  have r2:=atC_run b i hb (by omega) (by omega)
  obtain ⟨x0,x9⟩:=atD_range ha i
  obtain ⟨y0,y9⟩:=atD_range hb i
  have ea:=lowD_succ a i
  have eb:=lowD_succ b i
  generalize atD a i=x at *
  generalize atD b i=y at *
  obtain ⟨q,hq⟩ : ∃ q,(c+(x+y)) / 10=q:=⟨_,rfl⟩
  obtain ⟨r,hr⟩ : ∃ r,(c+(x+y)) % 10=r:=⟨_,rfl⟩
  obtain ⟨ch,k1,k2,k3⟩:=digit_of (x:=r) (by omega) (by omega)
  have hset:=padR_set (n:=n) (D:=D) (by omega) ch
  rw[hD] at hset
  have hpl:(encB (padR n D)).length=n:=by rw[encB_length,padR_len (by omega)]
  obtain ⟨old,hold⟩:=encB_at (l:=padR n D) (i:=n-1-i) (by rw[padR_len (by omega)]; omega)
  have e1:((n:Int)-1-i).toNat=n-1-i:=by omega
  have hqt:Int.tdiv (c+(x+y)) 10=q:=by rw[Int.tdiv_eq_ediv_of_nonneg (by omega)]; exact hq
  have hrt:Int.tmod (c+(x+y)) 10=r:=by rw[Int.tmod_eq_emod_of_nonneg (by omega)]; exact hr
  have k2':(48+r:Int)=ch.toNat:=k2.symm
  generalize hR:encB (padR n D)=R at *
  (repeat' first|simp (disch:=omega) only[go_sem,e1,hold,hpl,hqt,hrt,k2',hset]|refine pure_of _ (r1) ?_|refine pure_of _ (r2) ?_|(apply spl<;>intro h<;>try simp (disch:=omega) only[go_sem,e1,hold,hpl,hqt,hrt,k2',hset ,h]))
  all_goals first | omega | skip
  refine ⟨(i+1,q,ch::D),rfl,⟨hlt,by simp [hD],by simp only; omega,by simp only; omega,?_,?_⟩,by simp only; omega⟩
  ·simp only[digits,List.all_cons,k1,Bool.true_and]
   exact hdig
  ·simp only
   rw[fold10_cons,k3,hD,ea,eb,Int.pow_succ]
   generalize (10:Int)^i=P at *
   have h1:c+(x+y)=10 * q+r:=by omega
   have h2:=congrArg (· * P) h1
   simp only[Int.add_mul,Int.mul_assoc] at h2
   rw[show q * (P * 10)=10 * (q * P) by rw[←Int.mul_assoc,Int.mul_comm]]
   omega
 ·have hin:i=n:=by omega
  subst hin
  rw[lowD_all (by omega),lowD_all (by omega)] at hsum
  have hA:=fold10_bound a ha
  have hB:=fold10_bound b hb
  have hDb:=fold10_bound D hdig
  have p1:=pow10_le (show a.length≤i-1 by omega)
  have p2:=pow10_le (show b.length≤i-1 by omega)
  have p3:(10:Int)^i=10 * 10^(i-1):=by
   rw[show i=(i-1)+1 by omega,Int.pow_succ,Int.mul_comm]
   simp
  have p4:=pow10_pos (i-1)
  have hc:c=0:=by
   rcases (show c=0∨c=1 by omega) with h | h
   ·exact h
   ·rw[h] at hsum
    omega
  subst hc
  rw[Int.zero_mul,Int.add_zero] at hsum
  have hpd:padR i D=D:=by unfold padR; rw[hD,Nat.sub_self]; rfl
  have hr:=trimL_run D (by omega)
  rw[lstrip_dg hdig,hsum] at hr
  rw[hpd]
  have hel:(encB D).length=i:=by rw[encB_length,hD]
  have htk:List.take i (encB D)=encB D:=List.take_of_length_le (by omega)
  have hob:=omap_encB D
  generalize encB D=R at *
  (repeat' first|simp (disch:=omega) only[go_sem,hel,htk,hob,List.drop_zero]|refine pure_of _ (hr) ?_|(apply spl<;>intro h<;>try simp (disch:=omega) only[go_sem,hel,htk,hob,List.drop_zero ,h]))
  all_goals (first|omega|rfl)
end Ago
set_option maxRecDepth 100000
set_option exponentiation.threshold 2000
set_option maxHeartbeats 4000000
namespace Ago
open Go (IntKind)
theorem minus_run (a b:List UInt8) (ha:digits a=true) (hb:digits b=true) (la:a.length<2^20) (lb:b.length≤a.length) (hle:fold10 b≤fold10 a):PRun CN 722 [.str a,.str b] (.str (dg (fold10 a-fold10 b))):=by
 refine prun_of ac722 rfl ?_
 obtain ⟨n,hn⟩ : ∃ n,a.length=n:=⟨_,rfl⟩
 by_cases h0:n=0
 ·subst h0
  have ea:a=[]:=List.length_eq_zero_iff.1 hn
  have eb:b=[]:=List.length_eq_zero_iff.1 (by omega)
  subst ea
  subst eb
  have hr:=trimL_run [] (by simp)
  (repeat' first|simp (disch:=omega) only[go_sem,ac722,enter,List.length_nil]|(apply spl<;>intro h<;>try simp (disch:=omega) only[go_sem,ac722,enter,List.length_nil,h]))
  all_goals first | omega | skip
  refine loop_of (α:=Unit) (fun _=>{ tmps:=slots 44 [(0,.str []),(1,.str []),(5,.snil 1),(6,.int .i64 0),(13,.int .i64 0),(14,.int .i64 0)],heap:=[],base:=0 }) (fun _=>True) (fun _=>0) () rfl trivial ?_
  rintro _ _
  (repeat' first|simp (disch:=omega) only[go_sem]|refine pure_of _ (hr) ?_|(apply spl<;>intro h<;>try simp (disch:=omega) only[go_sem,h]))
  all_goals (first|omega|rfl)
 have hn0 : ¬ ((n:Int)=0):=by omega
 (repeat' first|simp (disch:=omega) only[go_sem,ac722,enter,hn,hn0,Int.toNat_natCast]|(apply spl<;>intro h<;>try simp (disch:=omega) only[go_sem,ac722,enter,hn,hn0,Int.toNat_natCast,h]))
 all_goals first | omega | skip
 refine loop_of (α:=Nat × Int × List UInt8) (fun s=>{ tmps:=slots 44 [(0,.str a),(1,.str b),(5,.sref 1 0 0 n),(6,.int .i64 s.2.1),(13,.int .i64 n),(14,.int .i64 s.1)],heap:=[.row 1 (encB (padR n s.2.2)) false true 0],base:=0 })
  (fun s=>s.1≤n∧s.2.2.length=s.1∧0≤s.2.1∧s.2.1≤1∧digits s.2.2=true∧fold10 s.2.2=lowD a s.1-lowD b s.1+s.2.1 * 10^s.1) (fun s=>n-s.1) (0,0,[]) (by
   unfold padR encB
   simp only[List.length_nil,Nat.sub_zero,List.append_nil,List.map_replicate]
   rfl) ⟨Nat.zero_le _,rfl,Int.le_refl _,by decide,rfl,by rw[lowD_zero,lowD_zero]; rfl⟩ ?_
 rintro ⟨i,c,D⟩ ⟨hi,hD,hc0,hc1,hdig,hsum⟩
 simp only at hi hD hc0 hc1 hdig hsum
 by_cases hlt:i<n
 ·have r1:=atC_run a i ha (by omega) (by omega)
  have r2:=atC_run b i hb (by omega) (by omega)
  obtain ⟨x0,x9⟩:=atD_range ha i
  obtain ⟨y0,y9⟩:=atD_range hb i
  have ea:=lowD_succ a i
  have eb:=lowD_succ b i
  generalize atD a i=x at *
  generalize atD b i=y at *
  have hpl:(encB (padR n D)).length=n:=by rw[encB_length,padR_len (by omega)]
  obtain ⟨old,hold⟩:=encB_at (l:=padR n D) (i:=n-1-i) (by rw[padR_len (by omega)]; omega)
  have e1:((n:Int)-1-i).toNat=n-1-i:=by omega
  have hps:=fun ch=>padR_set (n:=n) (D:=D) (by omega) ch
  rw[hD] at hps
  by_cases hneg:x-y-c<0
  ·obtain ⟨ch,k1,k2,k3⟩:=digit_of (x:=x-y-c+10) (by omega) (by omega)
   have k2':(48+(x-y-c+10):Int)=ch.toNat:=k2.symm
   have hset:=hps ch
   generalize hR:encB (padR n D)=R at *
   (repeat' first|simp (disch:=omega) only[go_sem,e1,hold,hpl,hn,hneg,k2',hset]|refine pure_of _ (r1) ?_|refine pure_of _ (r2) ?_|(apply spl<;>intro h<;>try simp (disch:=omega) only[go_sem,e1,hold,hpl,hn,hneg,k2',hset ,h]))
   all_goals first | omega | skip
   refine ⟨(i+1,1,ch::D),rfl,⟨hlt,by simp [hD],by simp only; omega,by simp only; omega,?_,?_⟩,by simp only; omega⟩
   ·simp only[digits,List.all_cons,k1,Bool.true_and]
    exact hdig
   ·simp only
    rw[fold10_cons,k3,hD,ea,eb,Int.pow_succ,hsum]
    generalize (10:Int)^i=P at *
    simp only[Int.add_mul,Int.sub_mul,Int.one_mul]
    omega
  ·obtain ⟨ch,k1,k2,k3⟩:=digit_of (x:=x-y-c) (by omega) (by omega)
   have k2':(48+(x-y-c):Int)=ch.toNat:=k2.symm
   have hset:=hps ch
   generalize hR:encB (padR n D)=R at *
   (repeat' first|simp (disch:=omega) only[go_sem,e1,hold,hpl,hn,hneg,k2',hset]|refine pure_of _ (r1) ?_|refine pure_of _ (r2) ?_|(apply spl<;>intro h<;>try simp (disch:=omega) only[go_sem,e1,hold,hpl,hn,hneg,k2',hset ,h]))
   all_goals first | omega | skip
   refine ⟨(i+1,0,ch::D),rfl,⟨hlt,by simp [hD],by simp only; omega,by simp only; omega,?_,?_⟩,by simp only; omega⟩
   ·simp only[digits,List.all_cons,k1,Bool.true_and]
    exact hdig
   ·simp only
    rw[fold10_cons,k3,hD,ea,eb,Int.pow_succ,hsum]
    generalize (10:Int)^i=P at *
    simp only[Int.add_mul,Int.sub_mul,Int.zero_mul]
    omega
 ·have hin:i=n:=by omega
  subst hin
  rw[lowD_all (by omega),lowD_all (by omega)] at hsum
  have hDb:=fold10_bound D hdig
  rw[hD] at hDb
  have hc:c=0:=by
   rcases (show c=0∨c=1 by omega) with h | h
   ·exact h
   ·rw[h] at hsum
    omega
  subst hc
  rw[Int.zero_mul,Int.add_zero] at hsum
  have hpd:padR i D=D:=by unfold padR; rw[hD,Nat.sub_self]; rfl
  have hr:=trimL_run D (by omega)
  rw[lstrip_dg hdig,hsum] at hr
  rw[hpd]
  have hel:(encB D).length=i:=by rw[encB_length,hD]
  have htk:List.take i (encB D)=encB D:=List.take_of_length_le (by omega)
  have hob:=omap_encB D
  generalize encB D=R at *
  (repeat' first|simp (disch:=omega) only[go_sem,hel,htk,hob,List.drop_zero]|refine pure_of _ (hr) ?_|(apply spl<;>intro h<;>try simp (disch:=omega) only[go_sem,hel,htk,hob,List.drop_zero ,h]))
  all_goals (first|omega|rfl)
def normG (neg:Bool) (s:List UInt8) (e:Int):Dec × Int:=
 if s=[] then (⟨false,[],0⟩,0)
 else if e>400-zeros s∨e < -400-zeros s∨120<s.length-zeros s then (⟨false,[],0⟩,2)
 else (⟨neg,s.take (s.length-zeros s),e+zeros s⟩,0)
theorem normG_run (neg:Bool) (s:List UInt8) (e:Int) (hs:s.length<2^24) (he : -(2^24)≤e∧e≤2^24):PRun CN 138 [.bool neg,.str s,.int .i64 e] (.tup [encDec (normG neg s e).1,.int .i64 (normG neg s e).2]):=by
 refine prun_of ac138 rfl ?_
 unfold normG encDec
 by_cases h0:s=[]
 ·subst h0
  (repeat' first|simp (disch:=omega) only[go_sem,ac138,enter]|(apply spl<;>intro h<;>try simp (disch:=omega) only[go_sem,ac138,enter,h]))
  all_goals (first|omega|rfl)
 ·have hb:(s == ([]:List UInt8))=false:=by simp [h0]
  have hr:=upN (trimRight_run s (by omega))
  have hz:=zeros_le s
  have hlen:(s.take (s.length-zeros s)).length=s.length-zeros s:=by simp
  have e1:((s.length:Int)-((s.length-zeros s:Nat):Int))=zeros s:=by omega
  have e2:((s.length:Int)-(zeros s:Int)).toNat=s.length-zeros s:=by omega
  rw[if_neg h0]
  generalize zeros s=z at *
  by_cases h1:e>400-z∨e < -400-z∨120<s.length-z
  ·rw[if_pos h1]
   by_cases a1:e>400-(z:Int)
   ·(repeat' first|simp (disch:=omega) only[go_sem,ac138,enter,hb,hlen,e1,e2,a1]|refine pure_of _ (hr) ?_|(apply spl<;>intro h<;>try simp (disch:=omega) only[go_sem,ac138,enter,hb,hlen,e1,e2,a1 ,h]))
    all_goals (first|omega|rfl)
   ·by_cases a2:e < -400-(z:Int)
    ·(repeat' first|simp (disch:=omega) only[go_sem,ac138,enter,hb,hlen,e1,e2,a1,a2]|refine pure_of _ (hr) ?_|(apply spl<;>intro h<;>try simp (disch:=omega) only[go_sem,ac138,enter,hb,hlen,e1,e2,a1,a2 ,h]))
     all_goals (first|omega|rfl)
    ·have a3:120<s.length-z:=by omega
     (repeat' first|simp (disch:=omega) only[go_sem,ac138,enter,hb,hlen,e1,e2,a1,a2,a3]|refine pure_of _ (hr) ?_|(apply spl<;>intro h<;>try simp (disch:=omega) only[go_sem,ac138,enter,hb,hlen,e1,e2,a1,a2,a3 ,h]))
     all_goals (first|omega|rfl)
  ·rw[if_neg h1]
   have a1 : ¬ e>400-(z:Int):=fun h=>h1 (.inl h)
   have a2 : ¬ e < -400-(z:Int):=fun h=>h1 (.inr (.inl h))
   have a3 : ¬ 120<s.length-z:=fun h=>h1 (.inr (.inr h))
   (repeat' first|simp (disch:=omega) only[go_sem,ac138,enter,hb,hlen,e1,e2,a1,a2,a3]|refine pure_of _ (hr) ?_|(apply spl<;>intro h<;>try simp (disch:=omega) only[go_sem,ac138,enter,hb,hlen,e1,e2,a1,a2,a3 ,h]))
   all_goals (first|omega|rfl)
end Ago
set_option maxRecDepth 100000
set_option exponentiation.threshold 2000
set_option maxHeartbeats 4000000
namespace Ago
open Go (IntKind)
def alignM (a b:Dec):List UInt8 × List UInt8 × Int:=
 if a.digits=[] then ([],b.digits,b.exp) else if b.digits=[] then (a.digits,[],a.exp)
 else if a.exp≤b.exp then (pad a.digits (a.exp-a.exp).toNat,pad b.digits (b.exp-a.exp).toNat,a.exp)
 else (pad a.digits (a.exp-b.exp).toNat,pad b.digits (b.exp-b.exp).toNat,b.exp)
theorem alignE_run (a b:Dec) (ha:decOk a=true) (hb:decOk b=true):PRun CN 285 [encDec a,encDec b] (.tup [.str (alignM a b).1,.str (alignM a b).2.1,.int .i64 (alignM a b).2.2]):=by
 obtain ⟨fa1,fa2,fa3⟩:=decOk_facts ha
 obtain ⟨fb1,fb2,fb3⟩:=decOk_facts hb
 have va:=upN (decOkI_run a (by omega))
 have vb:=upN (decOkI_run b (by omega))
 rw[ha] at va
 rw[hb] at vb
 unfold alignM
 obtain ⟨na,da,ea⟩:=a
 obtain ⟨nb,db,eb⟩:=b
 simp only[encDec] at *
 refine prun_of ac285 rfl ?_
 by_cases h1:da=[]
 ·subst h1
  (repeat' first|simp (disch:=omega) only[go_sem,ac285,enter]|refine pure_of _ (va) ?_|refine pure_of _ (vb) ?_|(apply spl<;>intro h<;>try simp (disch:=omega) only[go_sem,ac285,enter ,h]))
  all_goals (first|omega|rfl)
 have hb1:(da == ([]:List UInt8))=false:=by simp [h1]
 rw[if_neg h1]
 by_cases h2:db=[]
 ·subst h2
  (repeat' first|simp (disch:=omega) only[go_sem,ac285,enter,hb1]|refine pure_of _ (va) ?_|refine pure_of _ (vb) ?_|(apply spl<;>intro h<;>try simp (disch:=omega) only[go_sem,ac285,enter,hb1 ,h]))
  all_goals (first|omega|rfl)
 have hb2:(db == ([]:List UInt8))=false:=by simp [h2]
 rw[if_neg h2]
 have key : ∀ m:Int,m≤ea→m≤eb→-400≤m→PRun CN 291 [.str [48],.int .i64 (ea-m)] (.str (List.replicate (ea-m).toNat 48))∧PRun CN 291 [.str [48],.int .i64 (eb-m)] (.str (List.replicate (eb-m).toNat 48)):=by
  intro m k1 k2 k3
  have r1:=repeat_run (ea-m).toNat (by omega)
  have r2:=repeat_run (eb-m).toNat (by omega)
  rw[show (((ea-m).toNat:Nat):Int)=ea-m by omega] at r1
  rw[show (((eb-m).toNat:Nat):Int)=eb-m by omega] at r2
  exact ⟨r1,r2⟩
 have hl : ∀ (n:Nat),(List.replicate n (48:UInt8)).length=n:=fun n=>List.length_replicate
 by_cases h:ea≤eb
 ·obtain ⟨r1,r2⟩:=key ea (by omega) h (by omega)
  have hm : ¬ eb<ea:=by omega
  rw[if_pos h]
  (repeat' first|simp (disch:=omega) only[go_sem,ac285,enter,hb1,hb2,hm,hl,pad]|refine pure_of _ (va) ?_|refine pure_of _ (vb) ?_|refine pure_of _ (r1) ?_|refine pure_of _ (r2) ?_|(apply spl<;>intro h<;>try simp (disch:=omega) only[go_sem,ac285,enter,hb1,hb2,hm,hl,pad ,h]))
  all_goals (first|omega|rfl)
 ·obtain ⟨r1,r2⟩:=key eb (by omega) (by omega) (by omega)
  have hm:eb<ea:=by omega
  rw[if_neg h]
  (repeat' first|simp (disch:=omega) only[go_sem,ac285,enter,hb1,hb2,hm,hl,pad]|refine pure_of _ (va) ?_|refine pure_of _ (vb) ?_|refine pure_of _ (r1) ?_|refine pure_of _ (r2) ?_|(apply spl<;>intro h<;>try simp (disch:=omega) only[go_sem,ac285,enter,hb1,hb2,hm,hl,pad ,h]))
  all_goals (first|omega|rfl)
def Cn (s:List UInt8):Prop:=s=[]∨Num s
theorem Cn.dig {s:List UInt8} (h:Cn s):digits s=true:=by
 rcases h with rfl | h
 ·rfl
 ·exact h.dig
theorem dec_cn {d:Dec} (h:decOk d=true):Cn d.digits:=by
 by_cases hn:d.digits=[]
 ·exact .inl hn
 ·exact .inr (decOk_num h hn).1
theorem Cn.pad {s:List UInt8} (h:Cn s) (n:Nat) (hs:s≠[]):Cn (pad s n):=by
 rcases h with h | h
 ·exact absurd h hs
 ·exact .inr (h.pad n)
theorem cmpS_ge {a b:List UInt8} (ha:Cn a) (hb:Cn b):(0≤cmpS a b↔fold10 b≤fold10 a)∧(0≤cmpS a b→b.length≤a.length)∧(¬ 0≤cmpS a b→a.length≤b.length):=by
 have hl:(0≤cmpS a b→b.length≤a.length)∧(¬ 0≤cmpS a b→a.length≤b.length):=by
  unfold cmpS
  by_cases h1:a.length<b.length
  ·rw[if_pos h1]
   exact ⟨fun h=>by omega,fun _=>by omega⟩
  ·rw[if_neg h1]
   exact ⟨fun _=>by omega,fun h=>by
    by_cases h2:b.length<a.length
    ·rw[if_pos h2] at h
     omega
    ·omega⟩
 refine ⟨?_,hl⟩
 rcases ha with rfl | ha
 ·rcases hb with rfl | hb
  ·simp [cmpS,cmpB_self]
  ·have:=hb.pos
   have h2:=List.length_pos_iff.2 hb.ne
   unfold cmpS
   rw[if_pos (by simpa using h2)]
   simp [fold10] at this ⊢
   omega
 ·rcases hb with rfl | hb
  ·have:=ha.pos
   have h2:=List.length_pos_iff.2 ha.ne
   unfold cmpS
   rw[if_neg (by simp),if_pos (by simpa using h2)]
   simp [fold10] at this ⊢
   omega
  ·have:=cmpS_val ha hb
   omega
theorem align_val {a b:Dec} (ha:decOk a=true) (hb:decOk b=true):Cn (alignM a b).1∧Cn (alignM a b).2.1∧(alignM a b).1.length≤1000∧(alignM a b).2.1.length≤1000∧-400≤(alignM a b).2.2∧(alignM a b).2.2≤400∧magD a=fold10 (alignM a b).1 * 10^((alignM a b).2.2+400).toNat∧magD b=fold10 (alignM a b).2.1 * 10^((alignM a b).2.2+400).toNat:=by
 obtain ⟨fa1,fa2,fa3⟩:=decOk_facts ha
 obtain ⟨fb1,fb2,fb3⟩:=decOk_facts hb
 have ca:=dec_cn ha
 have cb:=dec_cn hb
 unfold alignM
 by_cases h1:a.digits=[]
 ·rw[if_pos h1,magD_nil h1]
  refine ⟨.inl rfl,cb,by simp,by simp only; omega,by simp only; omega,by simp only; omega,by simp [fold10],rfl⟩
 rw[if_neg h1]
 by_cases h2:b.digits=[]
 ·rw[if_pos h2,magD_nil h2]
  refine ⟨ca,.inl rfl,by simp only; omega,by simp,by simp only; omega,by simp only; omega,rfl,by simp [fold10]⟩
 rw[if_neg h2]
 have len : ∀ (s:List UInt8) (n:Nat),(pad s n).length=s.length+n:=fun s n=>by simp [pad]
 have sh : ∀ (d:Dec) (m:Int),m≤d.exp→-400≤m→magD d=fold10 (pad d.digits (d.exp-m).toNat) * 10^(m+400).toNat:=fun d m k1 k2=>by
  rw[fold10_pad,Int.mul_assoc,←Int.pow_add]
  unfold magD
  congr 2
  omega
 by_cases h:a.exp≤b.exp
 ·rw[if_pos h]
  refine ⟨ca.pad _ h1,cb.pad _ h2,by simp only[len]; omega,by simp only[len]; omega,by simp only; omega,by simp only; omega,sh a a.exp (by omega) (by omega),sh b a.exp h (by omega)⟩
 ·rw[if_neg h]
  refine ⟨ca.pad _ h1,cb.pad _ h2,by simp only[len]; omega,by simp only[len]; omega,by simp only; omega,by simp only; omega,sh a b.exp (by omega) (by omega),sh b b.exp (by omega) (by omega)⟩
def addM (a b:Dec):Dec × Int:=
 if a.neg=b.neg then normG a.neg (dg (fold10 (alignM a b).1+fold10 (alignM a b).2.1)) (alignM a b).2.2
 else if fold10 (alignM a b).2.1≤fold10 (alignM a b).1 then normG a.neg (dg (fold10 (alignM a b).1-fold10 (alignM a b).2.1)) (alignM a b).2.2
 else normG b.neg (dg (fold10 (alignM a b).2.1-fold10 (alignM a b).1)) (alignM a b).2.2
theorem dg_len {n:Int} {k:Nat} (h0:0≤n) (h:n<10^k):(dg n).length≤k:=by
 by_cases hn:n=0
 ·subst hn
  rw[dg_zero]
  simp
 ·obtain ⟨h1,h2,h3⟩:=dg_ok h0
  have hl:=(h3 hn).low
  rw[h2] at hl
  rcases Nat.lt_or_ge k (dg n).length with hk | hk
  ·have:=pow10_le (show k≤(dg n).length-1 by omega)
   omega
  ·exact hk
theorem pow10_1001:(10:Int)^1000+10^1000≤10^1001:=by decide +kernel
theorem addD_run (a b:Dec) (ha:decOk a=true) (hb:decOk b=true):PRun CN 718 [encDec a,encDec b] (.tup [encDec (addM a b).1,.int .i64 (addM a b).2]):=by
 have h0:=alignE_run a b ha hb
 obtain ⟨c1,c2,l1,l2,e1,e2,_⟩:=align_val ha hb
 obtain ⟨g1,g2,g3⟩:=cmpS_ge c1 c2
 have hcmp:=cmpI_run (alignM a b).1 (alignM a b).2.1 (by omega) (by omega)
 have b1:=fold10_bound _ c1.dig
 have b2:=fold10_bound _ c2.dig
 have p1:=pow10_le l1
 have p2:=pow10_le l2
 have p3:=pow10_1001
 have hsum:=plus_run _ _ c1.dig c2.dig (by omega) (by omega)
 have hn:=fun neg n (h1:0≤n) (h2:n<10^1001)=>normG_run neg (dg n) (alignM a b).2.2 (by have:=dg_len h1 h2; omega) (by omega)
 have n1:=hn a.neg (fold10 (alignM a b).1+fold10 (alignM a b).2.1) (by omega) (by omega)
 have d1:=fun h:fold10 (alignM a b).2.1≤fold10 (alignM a b).1=>minus_run _ _ c1.dig c2.dig (by omega) (g2 (g1.2 h)) h
 have d2:=fun h : ¬ fold10 (alignM a b).2.1≤fold10 (alignM a b).1=>minus_run _ _ c2.dig c1.dig (by omega) (g3 (fun k=>h (g1.1 k))) (by omega)
 have n2:=fun h:fold10 (alignM a b).2.1≤fold10 (alignM a b).1=>hn a.neg (fold10 (alignM a b).1-fold10 (alignM a b).2.1) (by omega) (by omega)
 have n3:=fun h : ¬ fold10 (alignM a b).2.1≤fold10 (alignM a b).1=>hn b.neg (fold10 (alignM a b).2.1-fold10 (alignM a b).1) (by omega) (by omega)
 unfold addM
 clear hn b1 b2 p1 p2 p3 c1 c2 l1 l2 g2 g3 ha hb
 generalize cmpS (alignM a b).1 (alignM a b).2.1=c at *
 generalize fold10 (alignM a b).1=X at *
 generalize fold10 (alignM a b).2.1=Y at *
 generalize alignM a b=al at *
 obtain ⟨x,y,e⟩:=al
 simp only at *
 obtain ⟨na,da,ea⟩:=a
 obtain ⟨nb,db,eb⟩:=b
 simp only[encDec] at *
 refine prun_of ac718 rfl ?_
 by_cases hne:na=nb
 ·subst hne
  rw[if_pos rfl]
  generalize normG na (dg (X+Y)) e=r at *
  cases na
  all_goals
   (repeat' first|simp (disch:=omega) only[go_sem,ac718,enter]|refine pure_of _ (h0) ?_|refine pure_of _ (hsum) ?_|refine pure_of _ (n1) ?_|(apply spl<;>intro h<;>try simp (disch:=omega) only[go_sem,ac718,enter ,h]))
   all_goals (first|omega|rfl)
 ·rw[if_neg hne]
  by_cases hle:Y≤X
  ·rw[if_pos hle]
   have hc:=g1.2 hle
   have d1:=d1 hle
   have n2:=n2 hle
   generalize normG na (dg (X-Y)) e=r at *
   cases na<;>cases nb<;>first | exact absurd rfl hne | skip
   all_goals
    (repeat' first|simp (disch:=omega) only[go_sem,ac718,enter,hc]|refine pure_of _ (h0) ?_|refine pure_of _ (hcmp) ?_|refine pure_of _ (d1) ?_|refine pure_of _ (n2) ?_|(apply spl<;>intro h<;>try simp (disch:=omega) only[go_sem,ac718,enter,hc ,h]))
    all_goals (first|omega|rfl)
  ·rw[if_neg hle]
   have hc : ¬ 0≤c:=fun k=>hle (g1.1 k)
   have d2:=d2 hle
   have n3:=n3 hle
   generalize normG nb (dg (Y-X)) e=r at *
   cases na<;>cases nb<;>first | exact absurd rfl hne | skip
   all_goals
    (repeat' first|simp (disch:=omega) only[go_sem,ac718,enter,hc]|refine pure_of _ (h0) ?_|refine pure_of _ (hcmp) ?_|refine pure_of _ (d2) ?_|refine pure_of _ (n3) ?_|(apply spl<;>intro h<;>try simp (disch:=omega) only[go_sem,ac718,enter,hc ,h]))
    all_goals (first|omega|rfl)
theorem normG_val (neg:Bool) {n e:Int} (hn:0≤n) (he : -400≤e) (he2:e≤400) :
  ((normG neg (dg n) e).2=0→decOk (normG neg (dg n) e).1=true∧valD (normG neg (dg n) e).1=(if neg=true then -1 else 1) * (n * 10^(e+400).toNat)) ∧
  ((normG neg (dg n) e).2≠0→(normG neg (dg n) e).1=⟨false,[],0⟩∧∀ y,decOk y=true→magD y≠n * 10^(e+400).toNat):=by
 obtain ⟨h1,h2,h3⟩:=dg_ok hn
 unfold normG
 by_cases hz:dg n=[]
 ·have h0:n=0:=(dg_nil hn).1 hz
  rw[if_pos hz,h0]
  refine ⟨fun _=>⟨by decide,?_⟩,fun h=>absurd rfl h⟩
  simp [valD,magD,fold10]
 ·rw[if_neg hz]
  have hnum:=h3 fun h=>hz ((dg_nil hn).2 h)
  obtain ⟨z1,z2⟩:=zeros_split (dg n)
  have zl:=zeros_le (dg n)
  have hf:=congrArg fold10 z1
  rw[show (dg n).take ((dg n).length-zeros (dg n))++List.replicate (zeros (dg n)) 48=pad ((dg n).take ((dg n).length-zeros (dg n))) (zeros (dg n)) from rfl,fold10_pad,h2] at hf
  have hlen:((dg n).take ((dg n).length-zeros (dg n))).length=(dg n).length-zeros (dg n):=by simp
  have hnt:Num ((dg n).take ((dg n).length-zeros (dg n))):=by
   have hne:(dg n).take ((dg n).length-zeros (dg n))≠[]:=fun hh=>by
    rw[hh] at hf
    simp [fold10] at hf
    exact hz ((dg_nil hn).2 hf.symm)
   refine ⟨List.all_eq_true.2 fun x hx=>List.all_eq_true.1 h1 x (List.mem_of_mem_take hx),?_,hne⟩
   intro h48
   apply hnum.head
   rw[List.getElem?_take] at h48
   split at h48
   ·exact h48
   ·cases h48
  have hpad:pad (dg n) (e+400).toNat=pad ((dg n).take ((dg n).length-zeros (dg n))) (zeros (dg n)+(e+400).toNat):=by
   conv=>lhs; unfold pad
   conv=>lhs; lhs; rw[←z1]
   unfold pad
   rw[List.append_assoc,List.replicate_append_replicate]
  generalize (dg n).take ((dg n).length-zeros (dg n))=t at *
  generalize zeros (dg n)=z at *
  by_cases hbad:e>400-z∨e < -400-z∨120<(dg n).length-z
  ·rw[if_pos hbad]
   refine ⟨fun h=>by simp at h,fun _=>⟨rfl,fun y hy hm=>?_⟩⟩
   have hyn:y.digits≠[]:=fun h=>by
    rw[magD_nil h] at hm
    have:=hnum.pos
    rw[h2] at this
    have h5:=Int.mul_pos this (pow10_pos (e+400).toNat)
    omega
   obtain ⟨y1,y2,y3,y4,y5⟩:=decOk_num hy hyn
   have e1:fold10 (pad y.digits (y.exp+400).toNat)=fold10 (pad t (z+(e+400).toNat)):=by
    rw[←hpad,fold10_pad,fold10_pad,h2,←hm]
    rfl
   have e2:=(cmpS_val (y1.pad (y.exp+400).toNat) (hnt.pad (z+(e+400).toNat))).2
   have e3:=e2.2 (e2.1.2 e1)
   have e4:=congrArg zeros e3
   rw[zeros_pad _ _ y1 y2,zeros_pad _ _ hnt z2] at e4
   have e5:=congrArg List.length e3
   simp only[pad,List.length_append,List.length_replicate,hlen] at e5
   omega
  ·rw[if_neg hbad]
   refine ⟨fun _=>⟨?_,?_⟩,fun h=>absurd rfl h⟩
   ·unfold decOk numeral
    rw[if_neg hnt.ne]
    simp only[Bool.and_eq_true,decide_eq_true_eq]
    exact ⟨⟨⟨⟨by omega,⟨by omega,hnt.dig⟩,hnt.head⟩,z2⟩,by omega⟩,by omega⟩
   ·have hv : ∀ s:Bool,valD ⟨s,t,e+z⟩=(if s=true then -1 else 1) * (n * 10^(e+400).toNat):=fun s=>by
     have hm:magD ⟨s,t,e+z⟩=n * 10^(e+400).toNat:=by
      unfold magD
      simp only
      rw[←hf,Int.mul_assoc,←Int.pow_add]
      congr 2
      omega
     unfold valD
     rw[hm]
     cases s<;>simp<;>omega
    exact hv neg
theorem mag_val {d:Dec}:magD d=(if d.neg=true then -1 else 1) * valD d:=by
 unfold valD
 cases d.neg<;>simp
theorem addM_val {a b:Dec} (ha:decOk a=true) (hb:decOk b=true):((addM a b).2=0→decOk (addM a b).1=true∧valD (addM a b).1=valD a+valD b)∧((addM a b).2≠0→(addM a b).1=⟨false,[],0⟩∧∀ y,decOk y=true→valD y≠valD a+valD b):=by
 obtain ⟨c1,c2,l1,l2,e1,e2,m1,m2⟩:=align_val ha hb
 have b1:=(fold10_bound _ c1.dig).1
 have b2:=(fold10_bound _ c2.dig).1
 unfold addM
 generalize fold10 (alignM a b).1=X at *
 generalize fold10 (alignM a b).2.1=Y at *
 generalize (alignM a b).2.2=e at *
 have nz : ∀ d,decOk d=true→(d.neg=true→0<magD d):=fun d hd hneg=>magD_pos hd fun h=>by
  rw[decOk_nil hd h] at hneg
  cases hneg
 have sgn : ∀ (neg:Bool) (n v:Int),0≤n→v=(if neg=true then -1 else 1) * (n * 10^(e+400).toNat)→((normG neg (dg n) e).2=0→decOk (normG neg (dg n) e).1=true∧valD (normG neg (dg n) e).1=v)∧((normG neg (dg n) e).2≠0→(normG neg (dg n) e).1=⟨false,[],0⟩∧∀ y,decOk y=true→valD y≠v):=by
  intro neg n v h0 hv
  obtain ⟨k1,k2⟩:=normG_val neg h0 e1 e2
  refine ⟨fun h=>by rw[hv]; exact k1 h,fun h=>⟨(k2 h).1,fun y hy hyv=>(k2 h).2 y hy ?_⟩⟩
  have hn:=magD_nonneg hy
  have hp:0≤n * 10^(e+400).toNat:=Int.mul_nonneg h0 (by have:=pow10_pos (e+400).toNat; omega)
  have h5:=mag_val (d:=y)
  have h6:valD y=(if neg=true then -1 else 1) * (n * 10^(e+400).toNat):=by rw[hyv,hv]
  have fin : ∀ (m v' w:Int) (p q:Bool),0≤m→0≤w→m=(if p=true then -1 else 1) * v'→v'=(if q=true then -1 else 1) * w→m=w:=by
   intro m v' w p q g1 g2 g3 g4
   cases p<;>cases q<;>simp only[Bool.false_eq_true,if_true,if_false] at g3 g4<;>omega
  exact fin _ _ _ _ _ hn hp h5 h6
 have hva:valD a=(if a.neg=true then -1 else 1) * (X * 10^(e+400).toNat):=by unfold valD; rw[m1]; cases a.neg<;>simp
 have hvb:valD b=(if b.neg=true then -1 else 1) * (Y * 10^(e+400).toNat):=by unfold valD; rw[m2]; cases b.neg<;>simp
 by_cases hne:a.neg=b.neg
 ·rw[if_pos hne]
  refine sgn a.neg (X+Y) _ (by omega) ?_
  rw[hva,hvb,←hne,Int.add_mul,Int.mul_add]
 ·rw[if_neg hne]
  by_cases hle:Y≤X
  ·rw[if_pos hle]
   refine sgn a.neg (X-Y) _ (by omega) ?_
   rw[hva,hvb,Int.sub_mul]
   generalize X * 10^(e+400).toNat=p
   generalize Y * 10^(e+400).toNat=q
   cases h1:a.neg<;>cases h2:b.neg<;>first | (exfalso; apply hne; rw[h1,h2]; done) | (simp<;>omega)
  ·rw[if_neg hle]
   refine sgn b.neg (Y-X) _ (by omega) ?_
   rw[hva,hvb,Int.sub_mul]
   generalize X * 10^(e+400).toNat=p
   generalize Y * 10^(e+400).toNat=q
   cases h1:a.neg<;>cases h2:b.neg<;>first | (exfalso; apply hne; rw[h1,h2]; done) | (simp<;>omega)
end Ago
set_option maxRecDepth 100000
set_option exponentiation.threshold 2000
set_option exponentiation.threshold 2000
namespace Ago
def IsV (n:Int):Prop:=∃ d,decOk d=true∧valD d=n
abbrev T (n:Nat):Int:=(10:Int)^n
theorem T_pos (n:Nat):0<T n:=pow10_pos n
theorem T_succ (n:Nat):T (n+1)=10 * T n:=by
 show (10:Int)^(n+1)=10 * 10^n
 rw[Int.pow_succ,Int.mul_comm]
theorem T_le {a b:Nat} (h:a≤b):T a≤T b:=pow10_le h
theorem T_dvd {a b:Nat} (h:a≤b):T a ∣ T b:=⟨(10:Int)^(b-a),by
 show (10:Int)^b=10^a * 10^(b-a)
 rw[←Int.pow_add]
 congr 1
 omega⟩
theorem T_lt {a b:Nat} (h:a<b):T a<T b:=by
 have h1:=T_le (show a+1≤b by omega)
 have h2:=T_succ a
 have h3:=T_pos a
 omega
theorem T_inj {a b:Nat} (h:T a<T b):a<b:=by
 rcases Nat.lt_or_ge a b with h1 | h1
 ·exact h1
 ·have:=T_le h1
  omega
theorem gap {U m n:Int} (hU:0<U) (h1:U ∣ m) (h2:U ∣ n) (h:m<n):m+U≤n:=by
 have:=Int.le_of_dvd (by omega) (Int.dvd_sub h2 h1)
 omega
theorem not_dvd {U x:Int} (h0:0<x) (h:x<U) : ¬ U ∣ x:=fun hd=>by
 have:=Int.le_of_dvd h0 hd
 omega
theorem last_ne {s:List UInt8} (h:Num s) (h0:zeros s=0) : ¬ (10:Int) ∣ fold10 s:=by
 rcases List.eq_nil_or_concat s with rfl | ⟨t,x,rfl⟩
 ·exact absurd rfl h.ne
 ·simp only[List.concat_eq_append] at *
  have hx:digit x=true:=List.all_eq_true.1 h.dig x (by simp)
  simp only[digit,decide_eq_true_eq] at hx
  have hx48:x≠48:=fun e=>by
   rw[e] at h0
   unfold zeros at h0
   simp at h0
  have:x.toNat≠48:=fun e=>hx48 (UInt8.toNat_inj.1 (by simpa using e))
  rw[fold10_append]
  have e:fold10 [x]=x.toNat-48:=by simp [fold10]
  rw[e]
  simp only[List.length_cons,List.length_nil]
  rintro ⟨c,hc⟩
  omega
theorem V_form {m:Int} (h:IsV m) (hp:0<m) : ∃ (c:Int) (E:Nat),m=c * T E∧0<c∧c<T 120∧E≤800∧¬ (10:Int) ∣ c:=by
 obtain ⟨d,hd,rfl⟩:=h
 have hn:d.digits≠[]:=fun hn=>by
  unfold valD at hp
  rw[magD_nil hn] at hp
  split at hp<;>omega
 have hneg:d.neg=false:=by
  cases hx:d.neg with
  | false=>rfl
  | true=>
   have:=magD_nonneg hd
   unfold valD at hp
   rw[if_pos hx] at hp
   omega
 obtain ⟨h1,h2,h3,h4,h5⟩:=decOk_num hd hn
 refine ⟨fold10 d.digits,(d.exp+400).toNat,?_,h1.pos,?_,by omega,last_ne h1 h2⟩
 ·unfold valD
  rw[if_neg (by simp [hneg])]
  rfl
 ·have h6:fold10 d.digits<T d.digits.length:=(fold10_bound _ h1.dig).2
  have:=T_le h3
  omega
theorem V_pos_neg {n:Int} (h:IsV n):IsV (-n):=by
 obtain ⟨d,hd,rfl⟩:=h
 by_cases hn:d.digits=[]
 ·refine ⟨d,hd,?_⟩
  unfold valD
  rw[magD_nil hn]
  split<;>rfl
 ·refine ⟨⟨!d.neg,d.digits,d.exp⟩,?_,?_⟩
  ·unfold decOk at hd ⊢
   rw[if_neg hn] at hd ⊢
   exact hd
  ·unfold valD magD
   cases d.neg<;>simp
theorem V_zero:IsV 0:=⟨⟨false,[],0⟩,by decide,by simp [valD,magD,fold10]⟩
theorem V_K1 {m:Int} {L:Nat} (h:IsV m) (hp:0<m) (hl:T (L-1)≤m):T (L-120) ∣ m:=by
 obtain ⟨c,E,rfl,hc,hc2,hE,_⟩:=V_form h hp
 have h1:c * T E<T 120 * T E:=Int.mul_lt_mul_of_pos_right hc2 (T_pos E)
 have h2:T 120 * T E=T (120+E):=(Int.pow_add 10 120 E).symm
 rw[h2] at h1
 have h3:=T_inj (show T (L-1)<T (120+E) by omega)
 exact Int.dvd_trans (T_dvd (by omega)) (Int.dvd_mul_left _ _)
theorem V_K3 {m:Int} (h:IsV m) (hp:0<m) : ¬ T 801 ∣ m:=by
 obtain ⟨c,E,rfl,hc,hc2,hE,h10⟩:=V_form h hp
 rintro ⟨k,hk⟩
 apply h10
 have e:T 801=T (800-E) * 10 * T E:=by
  show (10:Int)^801=10^(800-E) * 10 * 10^E
  rw[show (10:Int)^(800-E) * 10=10^(800-E+1) from (Int.pow_succ 10 (800-E)).symm,←Int.pow_add]
  congr 1
  omega
 rw[e] at hk
 have h2:c * T E=(T (800-E) * 10 * k) * T E:=by
  rw[hk,Int.mul_assoc (T (800-E) * 10),Int.mul_comm (T E) k,←Int.mul_assoc]
 have h3:=Int.eq_of_mul_eq_mul_right (by have:=T_pos E; omega) h2
 exact ⟨T (800-E) * k,by rw[h3,Int.mul_comm (T (800-E)) 10,Int.mul_assoc]⟩
theorem V_K2 {m:Int} {L:Nat} (hp:0<m) (hl:m<T L) (hd:T (L-120) ∣ m) (hn : ¬ T 801 ∣ m):IsV m:=by
 obtain ⟨c,rfl⟩:=hd
 have hu:L-120≤800:=by
  rcases Nat.lt_or_ge 800 (L-120) with h | h
  ·exact absurd (Int.dvd_trans (T_dvd (show 801≤L-120 by omega)) (Int.dvd_mul_right _ _)) hn
  ·exact h
 generalize hU:L-120=u at *
 have hTu:=T_pos u
 have hc:0<c:=by
  rcases Int.lt_or_le 0 c with h | h
  ·exact h
  ·have:=Int.mul_nonpos_of_nonneg_of_nonpos (show 0≤T u by omega) h
   omega
 have hc2:c<T 120:=by
  rcases Int.lt_or_le c (T 120) with h | h
  ·exact h
  ·have h1:=Int.mul_le_mul_of_nonneg_left h (show 0≤T u by omega)
   have h2:T u * T 120=T (u+120):=(Int.pow_add 10 u 120).symm
   have h3:=T_le (show L≤u+120 by omega)
   omega
 have e1:((u:Int)-400+400).toNat=u:=by omega
 obtain ⟨k1,k2⟩:=normG_val false (n:=c) (e:=(u:Int)-400) (by omega) (by omega) (by omega)
 rw[e1] at k1 k2
 by_cases h0:(normG false (dg c) ((u:Int)-400)).2=0
 ·obtain ⟨k3,k4⟩:=k1 h0
  refine ⟨_,k3,?_⟩
  rw[k4,if_neg (by simp),Int.one_mul,Int.mul_comm]
 ·exfalso
  obtain ⟨h1,h2,h3⟩:=dg_ok (show 0≤c by omega)
  have hnum:=h3 (by omega)
  have hlen:=dg_len (show 0≤c by omega) hc2
  obtain ⟨z1,z2⟩:=zeros_split (dg c)
  have hf:=congrArg fold10 z1
  rw[show (dg c).take ((dg c).length-zeros (dg c))++List.replicate (zeros (dg c)) 48=pad ((dg c).take ((dg c).length-zeros (dg c))) (zeros (dg c)) from rfl,fold10_pad,h2] at hf
  unfold normG at h0
  rw[if_neg hnum.ne] at h0
  generalize (dg c).take ((dg c).length-zeros (dg c))=t at *
  generalize zeros (dg c)=z at *
  split at h0
  ·rename_i hbad
   apply hn
   have hz:801≤u+z:=by omega
   have e2:T u * T z=T (u+z):=(Int.pow_add 10 u z).symm
   rw[←hf]
   refine Int.dvd_trans (T_dvd hz) ⟨fold10 t,?_⟩
   rw[←e2,Int.mul_assoc,Int.mul_comm (T z)]
  ·exact h0 rfl
def Pl (m:Int) (L:Nat):Prop:=1≤L∧T (L-1)≤m∧m<T L
theorem pow_V {L:Nat} (h:L≤800):IsV (T L):=by
 refine V_K2 (L:=L+1) (T_pos L) (T_lt (by omega)) (T_dvd (by omega)) (not_dvd (T_pos L) (T_lt (by omega)))
theorem u_le {m:Int} {L:Nat} (h:IsV m) (hp:Pl m L):L-120≤800:=by
 have h0:=T_pos (L-1)
 have h1:=V_K1 h (by have:=hp.2.1; omega) hp.2.1
 rcases Nat.lt_or_ge 800 (L-120) with h2 | h2
 ·exact absurd (Int.dvd_trans (T_dvd (show 801≤L-120 by omega)) h1) (V_K3 h (by have:=hp.2.1; omega))
 ·exact h2
theorem notV_dvd {m n:Int} {L:Nat} (hp:0<n) (h1:n<T L) (h2:T (L-120) ∣ n) (h : ¬ IsV n):T 801 ∣ n:=by
 rcases Int.lt_or_le 0 0 with h3 | h3
 ·omega
 ·by_cases hd:T 801 ∣ n
  ·exact hd
  ·exact absurd (V_K2 hp h1 h2 hd) h
theorem succ_law {m:Int} {L:Nat} (hm:IsV m) (hp:Pl m L) :
  (IsV (m+T (L-120))→∀ n,IsV n→m<n→m+T (L-120)≤n) ∧
  (¬ IsV (m+T (L-120))→IsV (m+2 * T (L-120))→∀ n,IsV n→m<n→m+2 * T (L-120)≤n) ∧
  (¬ IsV (m+T (L-120))→¬ IsV (m+2 * T (L-120))→IsV (m+11 * T (L-120))→∀ n,IsV n→m<n→m+11 * T (L-120)≤n) ∧
  (¬ IsV (m+T (L-120))→¬ IsV (m+2 * T (L-120))→¬ IsV (m+11 * T (L-120))→∀ n,IsV n→n≤m):=by
 obtain ⟨hL,hlo,hhi⟩:=hp
 have hm0:0<m:=by have:=T_pos (L-1); omega
 have hU:=T_pos (L-120)
 have hdm:=V_K1 hm hm0 hlo
 have hu:=u_le hm ⟨hL,hlo,hhi⟩
 have htop:m+T (L-120)≤T L:=gap hU hdm (T_dvd (by omega)) hhi
 have same : ∀ n,IsV n→m<n→T (L-120) ∣ n:=fun n hn h=>V_K1 hn (by omega) (by omega)
 have h801:T (L-120)<T 801:=T_lt (by omega)
 have hd1:T (L-120) ∣ m+T (L-120):=Int.dvd_add hdm (Int.dvd_refl _)
 have hd2:T (L-120) ∣ m+2 * T (L-120):=Int.dvd_add hdm (Int.dvd_mul_left _ _)
 -- where the next multiple is no decimal,it is one more place
 have full : ¬ IsV (m+T (L-120))→¬ IsV (m+2 * T (L-120))→m+T (L-120)=T L:=by
  intro k1 k2
  rcases Int.lt_or_le (m+T (L-120)) (T L) with h | h
  ·exfalso
   have h1:=notV_dvd (m:=m) (by omega) h hd1 k1
   have h2:m+2 * T (L-120)≤T L:=by
    have:=gap hU hd1 (T_dvd (show L-120≤L by omega)) h
    omega
   have h801p:=T_pos 801
   have hL801:801≤L:=by
    have h3:=Int.le_of_dvd (by omega) h1
    have h4:=T_inj (show T 800<T L by have:=T_lt (show 800<801 by omega); omega)
    omega
   have h3:m+T (L-120)+T 801≤T L:=gap h801p h1 (T_dvd hL801) h
   refine k2 (V_K2 (L:=L) (by omega) (by omega) hd2 fun h4=>?_)
   have h5:=Int.dvd_sub h4 h1
   rw[show m+2 * T (L-120)-(m+T (L-120))=T (L-120) by omega] at h5
   exact not_dvd hU h801 h5
  ·omega
 have big : ¬ IsV (m+T (L-120))→m+T (L-120)=T L→801≤L:=by
  intro k1 k2
  rw[k2] at k1
  rcases Nat.lt_or_ge L 801 with h | h
  ·exact absurd (pow_V (by omega)) k1
  ·exact h
 have e10:801≤L→T (L+1-120)=10 * T (L-120):=fun h=>by rw[←T_succ]; congr 1; omega
 refine ⟨fun h n hn hlt=>gap hU hdm (same n hn hlt) hlt,fun k1 k2 n hn hlt=>?_,fun k1 k2 k3 n hn hlt=>?_,fun k1 k2 k3 n hn=>?_⟩
 ·have h1:=gap hU hdm (same n hn hlt) hlt
  rcases Int.lt_or_le (m+T (L-120)) n with h | h
  ·have:=gap hU hd1 (same n hn hlt) h
   omega
  ·have:n=m+T (L-120):=by omega
   rw[this] at hn
   exact absurd hn k1
 ·have hf:=full k1 k2
  have hb:=big k1 hf
  have h10:=e10 hb
  have h1:=gap hU hdm (same n hn hlt) hlt
  have hne:n≠T L:=fun h=>by rw[h,←hf] at hn; exact k1 hn
  have h2:T (L+1-120) ∣ n:=V_K1 hn (by omega) (by rw[show L+1-1=L by omega]; omega)
  have h3:=gap (T_pos _) (T_dvd (show L+1-120≤L by omega)) h2 (show T L<n by omega)
  omega
 ·have hf:=full k1 k2
  have hb:=big k1 hf
  have h10:=e10 hb
  have hsum:m+11 * T (L-120)=T L+T (L+1-120):=by omega
  have hlt2:T L+T (L+1-120)<T (L+1):=by
   have h1:=T_succ L
   have h2:=T_le (show L+1-120≤L by omega)
   have h3:=T_pos L
   omega
  rw[hsum] at k3
  have h1:=notV_dvd (m:=m) (by have:=T_pos L; have:=T_pos (L+1-120); omega) hlt2 (Int.dvd_add (T_dvd (by omega)) (Int.dvd_refl _)) k3
  have h2:T 801 ∣ T (L+1-120):=by
   have:=Int.dvd_sub h1 (T_dvd (show 801≤L by omega))
   rwa [show T L+T (L+1-120)-T L=T (L+1-120) by omega] at this
  have h3:801≤L+1-120:=by
   rcases Nat.lt_or_ge (L+1-120) 801 with h | h
   ·exact absurd h2 (not_dvd (T_pos _) (T_lt h))
   ·exact h
  rcases Int.lt_or_le m n with h | h
  ·exfalso
   have g1:=gap hU hdm (same n hn h) h
   have g2:T (L+1-120) ∣ n:=V_K1 hn (by omega) (by rw[show L+1-1=L by omega]; omega)
   exact V_K3 hn (by omega) (Int.dvd_trans (T_dvd h3) g2)
  ·exact h
theorem pred_small {m:Int} {L:Nat} (hm:IsV m) (hp:Pl m L) (hu:L≤120):IsV (m-1):=by
 obtain ⟨hL,hlo,hhi⟩:=hp
 have hm0:0<m:=by have:=T_pos (L-1); omega
 by_cases h1:m=1
 ·rw[h1]
  exact V_zero
 ·have h2:=T_le (show L≤120 by omega)
  have h3:=T_lt (show 120<801 by omega)
  refine V_K2 (L:=L) (by omega) (by omega) (by rw[show L-120=0 by omega]; exact ⟨m-1,by show m-1=(10:Int)^0 * (m-1); simp⟩) (not_dvd (by omega) (by omega))
theorem pred_law {m:Int} {L:Nat} (hm:IsV m) (hp:Pl m L) (hu:120<L) :
  (IsV (m-T (L-121))→∀ n,IsV n→n<m→n≤m-T (L-121)) ∧
  (¬ IsV (m-T (L-121))→IsV (m-T (L-120))→∀ n,IsV n→n<m→n≤m-T (L-120)) ∧
  (¬ IsV (m-T (L-121))→¬ IsV (m-T (L-120))→IsV (m-11 * T (L-121))→∀ n,IsV n→n<m→n≤m-11 * T (L-121)) ∧
  (¬ IsV (m-T (L-121))→¬ IsV (m-T (L-120))→¬ IsV (m-11 * T (L-121))→IsV (m-2 * T (L-120))∧∀ n,IsV n→n<m→n≤m-2 * T (L-120)):=by
 obtain ⟨hL,hlo,hhi⟩:=hp
 have hm0:0<m:=by have:=T_pos (L-1); omega
 have hU:=T_pos (L-120)
 have hW:=T_pos (L-121)
 have e10:T (L-120)=10 * T (L-121):=by rw[←T_succ]; congr 1; omega
 have hdm:=V_K1 hm hm0 hlo
 have hule:=u_le hm ⟨hL,hlo,hhi⟩
 have h801:T (L-120)<T 801:=T_lt (by omega)
 have hl2:T (L-120)≤T (L-1):=T_le (by omega)
 have hl3:10 * T (L-2)=T (L-1):=by rw[←T_succ]; congr 1; omega
 have hw2:T (L-121)≤T (L-2):=T_le (by omega)
 have hdl:T (L-120) ∣ T (L-1):=T_dvd (by omega)
 have atLeast:m=T (L-1)∨T (L-1)+T (L-120)≤m:=by
  rcases Int.lt_or_le (T (L-1)) m with h | h
  ·exact .inr (gap hU hdl hdm h)
  ·exact .inl (by omega)
 -- numbers of the same places
 have same : ∀ n,IsV n→T (L-1)≤n→T (L-120) ∣ n:=fun n hn h=>V_K1 hn (by have:=T_pos (L-1); omega) h
 have odd : ∀ n,T (L-120) ∣ n→¬ T (L-120) ∣ n-T (L-121):=fun n h1 h2=>by
  have:=Int.dvd_sub h1 h2
  rw[show n-(n-T (L-121))=T (L-121) by omega] at this
  exact not_dvd hW (by omega) this
 -- all nines
 have nines:IsV (T (L-1)-T (L-121)):=by
  refine V_K2 (L:=L-1) (by omega) (by omega) (by rw[show L-1-120=L-121 by omega]; exact Int.dvd_sub (T_dvd (by omega)) (Int.dvd_refl _)) fun h=>?_
  rcases Nat.lt_or_ge (L-1) 801 with h1 | h1
  ·have:=T_lt h1
   exact not_dvd (by omega) (by omega) h
  ·have h2:=Int.dvd_sub (T_dvd h1) h
   rw[show T (L-1)-(T (L-1)-T (L-121))=T (L-121) by omega] at h2
   exact not_dvd hW (by omega) h2
 have below : ∀ n,IsV n→n<T (L-1)→n≤T (L-1)-T (L-121):=by
  intro n hn h
  rcases Int.lt_or_le n (T (L-2)) with h1 | h1
  ·omega
  ·have hd:T (L-1-120) ∣ n:=V_K1 hn (by have:=T_pos (L-2); omega) (by rw[show L-1-1=L-2 by omega]; exact h1)
   rw[show L-1-120=L-121 by omega] at hd
   have:=gap hW hd (T_dvd (show L-121≤L-1 by omega)) h
   omega
 have s1 : ¬ IsV (m-T (L-121))→T (L-1)+T (L-120)≤m:=fun k1=>by
  rcases atLeast with h | h
  ·rw[h] at k1
   exact absurd nines k1
  ·exact h
 have d1:T (L-120) ∣ m-T (L-120):=Int.dvd_sub hdm (Int.dvd_refl _)
 refine ⟨fun k1 n hn hlt=>?_,fun k1 k2 n hn hlt=>?_,fun k1 k2 k3 n hn hlt=>?_,fun k1 k2 k3=>?_⟩
 ·rcases atLeast with h | h
  ·rw[h] at hlt ⊢
   exact below n hn hlt
  ·exact absurd (same _ k1 (by omega)) (odd m hdm)
 ·have h:=s1 k1
  rcases Int.lt_or_le n (T (L-1)) with h1 | h1
  ·omega
  ·have:=gap hU (same n hn h1) hdm hlt
   omega
 ·have h:=s1 k1
  rcases Int.lt_or_le (T (L-1)) (m-T (L-120)) with h1 | h1
  ·exfalso
   have h2:=gap hU hdl d1 h1
   have h3:=same _ k3 (by omega)
   rw[show m-11 * T (L-121)=m-T (L-120)-T (L-121) by omega] at h3
   exact odd _ d1 h3
  ·have h2:m-T (L-120)=T (L-1):=by omega
   have hne:n≠T (L-1):=fun h3=>by rw[h3,←h2] at hn; exact k2 hn
   have h4:n<T (L-1):=by
    rcases Int.lt_or_le n (T (L-1)) with h5 | h5
    ·exact h5
    ·have:=gap hU (same n hn h5) hdm hlt
     omega
   have:=below n hn h4
   omega
 ·have h:=s1 k1
  have h1:=notV_dvd (m:=m) (L:=L) (by have:=T_pos (L-1); omega) (by omega) d1 k2
  have h2:m-T (L-120)≠T (L-1):=fun h3=>by
   rw[show m-11 * T (L-121)=T (L-1)-T (L-121) by omega] at k3
   exact k3 nines
  have h801p:=T_pos 801
  have hb:801≤L-1:=by
   rcases Nat.lt_or_ge (L-1) 801 with h3 | h3
   ·have h4:=Int.le_of_dvd (by have:=T_pos (L-1); omega) h1
    have h5:=T_le (show L≤801 by omega)
    omega
   ·exact h3
  have h3:=gap h801p (T_dvd hb) h1 (show T (L-1)<m-T (L-120) by omega)
  have d2:T (L-120) ∣ m-2 * T (L-120):=Int.dvd_sub hdm (Int.dvd_mul_left _ _)
  refine ⟨V_K2 (L:=L) (by have:=T_pos (L-1); omega) (by omega) d2 fun h4=>?_,fun n hn hlt=>?_⟩
  ·have h5:=Int.dvd_sub h1 h4
   rw[show m-T (L-120)-(m-2 * T (L-120))=T (L-120) by omega] at h5
   exact not_dvd hU h801 h5
  ·rcases Int.lt_or_le n (T (L-1)) with h4 | h4
   ·omega
   ·have h5:=gap hU (same n hn h4) hdm hlt
    rcases Int.lt_or_le n (m-T (L-120)) with h6 | h6
    ·have:=gap hU (same n hn h4) d1 h6
     omega
    ·have:n=m-T (L-120):=by omega
     rw[this] at hn
     exact absurd hn k2
end Ago
