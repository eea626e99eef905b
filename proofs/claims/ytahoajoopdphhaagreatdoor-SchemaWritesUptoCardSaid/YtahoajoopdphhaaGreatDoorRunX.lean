/- The program's own looks at decimals and times. -/
import Derived.Test.YtahoajoopdphhaaGreatDoorRunA
set_option linter.unusedSimpArgs false
set_option linter.unusedVariables false
set_option maxRecDepth 100000
set_option maxHeartbeats 4000000
namespace Ago
open Go (IntKind)
theorem qm2 (s:List UInt8) (hs:s.length<2^31):q0m C0 158 [.str s] (.bool (digits s)):=by
 refine q05 qmd rfl ?_
 simp (disch:=omega) only[go_sem,qmd,enter]
 refine q0a (α:=Nat) (fun k=>{ tmps:=q0i 20 [(0,.str s),(5,.int .i64 s.length),(6,.int .i64 k)],heap:=[],base:=0 }) (fun k=>k≤s.length∧(s.take k).all qen=true) (fun k=>s.length-k) 0 rfl ⟨Kn _,rfl⟩ ?_
 rintro k ⟨hk,hd⟩
 by_cases hlt:k<s.length
 ·obtain ⟨c,hc⟩:=q08 hlt
  by_cases h:48≤c.toNat∧c.toNat≤57
  ·(repeat' first|simp (disch:=omega) only[go_sem,hc]|(apply spl<;>intro h<;>try simp (disch:=omega) only[go_sem,hc,h]))
   exact ⟨k+1,rfl,⟨hlt,q0C hc hd (by simp [qen,h])⟩,by omega⟩
  ·have hn:digits s=false:=q4y hc (by simp [qen]; omega)
   rw[hn]
   (repeat' first|simp (disch:=omega) only[go_sem,hc]|(apply spl<;>intro h<;>try simp (disch:=omega) only[go_sem,hc,h]))
 ·rw[q0M hlt hk] at hd
  have hn:digits s=true:=hd
  rw[hn]
  (repeat' first|simp (disch:=omega) only[go_sem])
theorem qia (s:List UInt8) (hs:s.length<2^31):q0m C0 149 [.str s] (.bool (q8i s)):=by
 have ha:=qm2 s hs
 refine q05 q8p rfl ?_
 unfold q8i
 cases s with
 | nil=>
  (repeat' first|simp (disch:=omega) only[go_sem,q8p,enter]|refine q00 _ (ha) ?_|(apply spl<;>intro h<;>try simp (disch:=omega) only[go_sem,q8p,enter ,h]))
  all_goals rfl
 | cons c s=>
  have hb:(c::s == ([]:List UInt8))=false:=rfl
  have hc:=qbu c
  simp only[List.length_cons] at hs
  by_cases hl:(c::s).length≤600
  ·cases hd:digits (c::s) with
   | true=>
    rw[hd] at ha
    by_cases h0:c=48
    ·have h0':=hc.2 h0
     (repeat' first|simp (disch:=omega) only[go_sem,q8p,enter,hb,h0',hl]|refine q00 _ (ha) ?_|(apply spl<;>intro h<;>try simp (disch:=omega) only[go_sem,q8p,enter,hb,h0',hl ,h]))
     all_goals (first | omega | simp_all)
     all_goals omega
    ·have h0' : ¬ (c.toNat:Int)=48:=fun e=>h0 (hc.1 e)
     (repeat' first|simp (disch:=omega) only[go_sem,q8p,enter,hb,h0',hl]|refine q00 _ (ha) ?_|(apply spl<;>intro h<;>try simp (disch:=omega) only[go_sem,q8p,enter,hb,h0',hl ,h]))
     all_goals (first | omega | simp_all)
     all_goals omega
   | false=>
    rw[hd] at ha
    (repeat' first|simp (disch:=omega) only[go_sem,q8p,enter,hb,hl]|refine q00 _ (ha) ?_|(apply spl<;>intro h<;>try simp (disch:=omega) only[go_sem,q8p,enter,hb,hl ,h]))
    all_goals simp_all
  ·have hl2:600<s.length+1:=by simp at hl; omega
   (repeat' first|simp (disch:=omega) only[go_sem,q8p,enter,hb,hl]|refine q00 _ (ha) ?_|(apply spl<;>intro h<;>try simp (disch:=omega) only[go_sem,q8p,enter,hb,hl ,h]))
   all_goals (first | omega | simp_all)
   all_goals (intros; omega)
theorem qhW (s:List UInt8) (hs:s.length<2^31):q0m C0 150 [.str s] (.int .i64 (q2T s)):=by
 have hr:=q7E s hs
 have hz:=qcz s
 have hlen:(s.take (s.length-q2T s)).length=s.length-q2T s:=by simp
 have e1:((s.length:Int)-((s.length-q2T s:Nat):Int))=q2T s:=by omega
 refine q05 qm6 rfl ?_
 (repeat' first|simp (disch:=omega) only[go_sem,qm6,enter,hlen,e1]|refine q00 _ (hr) ?_)
theorem qby (d:Dec) (hs:d.digits.length<2^31):q0m C0 140 [q2A d] (.bool (q6C d)):=by
 refine q05 qfb rfl ?_
 obtain ⟨neg,ds,exp⟩:=d
 simp only[q2A] at *
 by_cases h0:ds=[]
 ·subst h0
  (repeat' first|simp (disch:=omega) only[go_sem,qfb,enter]|(apply spl<;>intro h<;>try simp (disch:=omega) only[go_sem,qfb,enter,h]))
  all_goals simp [q6C]
 ·have hb:(ds == ([]:List UInt8))=false:=by simp [h0]
  have hz:=qhW ds hs
  have hv:=qia ds hs
  (repeat' first|simp (disch:=omega) only[go_sem,qfb,enter,hb]|refine q00 _ (hv) ?_|refine q00 _ (hz) ?_|(apply spl<;>intro h<;>try simp (disch:=omega) only[go_sem,qfb,enter,hb ,h]))
  all_goals simp [q6C,h0]
  all_goals first | omega | (intros; omega) | (simp_all; done) | skip
  all_goals (have:(q2T ds:Int)=0↔q2T ds=0:=by omega)
  all_goals simp_all
  all_goals omega
end Ago
namespace Ago
open Go (IntKind)
def qrt (t:Tm):Bool:=decide (1≤t.kind∧t.kind≤4∧0≤t.day∧t.day≤3652058∧0≤t.nano∧t.nano≤86399999999999∧-1439≤t.off∧t.off≤1439)
def qde (t:Tm):Bool:=qrt t && decide (t.kind=2→t.day=0) && decide (t.kind=1→t.nano=0) && decide (t.kind=4∨t.off=0)
def qiU (t:Tm):AV:=.agg [.int .i64 t.kind,.int .i64 t.day,.int .i64 t.nano,.int .i64 t.off]
theorem qgr {t:Tm} (h : ¬ (1≤t.kind∧t.kind≤4∧0≤t.day∧t.day≤3652058∧0≤t.nano∧t.nano≤86399999999999∧-1439≤t.off∧t.off≤1439)):qde t=false:=by
 unfold qde qrt
 rw[decide_eq_false h]
 rfl
theorem qqx (t:Tm):q0m C0 141 [qiU t] (.bool (qde t)):=by
 refine q05 qlr rfl ?_
 unfold qiU
 (repeat' first|simp (disch:=omega) only[go_sem,qlr,enter]|(apply spl<;>intro h<;>try simp (disch:=omega) only[go_sem,qlr,enter,h]))
 all_goals first
  | (rw[qgr (by omega)]; done)
  | (simp [qde,qrt]; omega)
  | (
   have e:qde t=(t.off == 0):=by
    rw[Vd]
    simp [qde,qrt]
    omega
   rw[e])
end Ago
set_option maxRecDepth 100000
set_option maxHeartbeats 4000000
namespace Ago
open Go (IntKind)
theorem qkS (m:Nat) (a:Nat) (h:a<256) (hm:m<256):IntKind.wrap .u8 ((BitVec.ofInt (IntKind.bits .u8) (a:Int) &&& BitVec.ofInt (IntKind.bits .u8) (m:Int)).toNat:Int)=((a &&& m:Nat):Int):=by
 have e:IntKind.bits .u8=8:=rfl
 rw[e,BitVec.toNat_and,BitVec.toNat_ofInt,BitVec.toNat_ofInt]
 have h1:((a:Int) % ((2^8:Nat):Int)).toNat=a:=by omega
 have h2:((m:Int) % ((2^8:Nat):Int)).toNat=m:=by omega
 rw[h1,h2]
 have h3:a &&& m≤a:=Nat.and_le_left
 exact w8 (by omega) (by omega)
theorem b7 (c:UInt8):IntKind.wrap .u8 ((BitVec.ofInt (IntKind.bits .u8) (c.toNat:Int) &&& BitVec.ofInt (IntKind.bits .u8) 7).toNat:Int)=(c.toNat:Int) % 8:=by
 have:=qkS 7 c.toNat c.toNat_lt (by omega)
 rw[show ((7:Nat):Int)=7 from rfl] at this
 rw[this,show (7:Nat)=2^3-1 from rfl,VP]
 omega
theorem b15 (c:UInt8):IntKind.wrap .u8 ((BitVec.ofInt (IntKind.bits .u8) (c.toNat:Int) &&& BitVec.ofInt (IntKind.bits .u8) 15).toNat:Int)=(c.toNat:Int) % 16:=by
 have:=qkS 15 c.toNat c.toNat_lt (by omega)
 rw[show ((15:Nat):Int)=15 from rfl] at this
 rw[this,show (15:Nat)=2^4-1 from rfl,VP]
 omega
theorem b31 (c:UInt8):IntKind.wrap .u8 ((BitVec.ofInt (IntKind.bits .u8) (c.toNat:Int) &&& BitVec.ofInt (IntKind.bits .u8) 31).toNat:Int)=(c.toNat:Int) % 32:=by
 have:=qkS 31 c.toNat c.toNat_lt (by omega)
 rw[show ((31:Nat):Int)=31 from rfl] at this
 rw[this,show (31:Nat)=2^5-1 from rfl,VP]
 omega
theorem b63 (c:UInt8):IntKind.wrap .u8 ((BitVec.ofInt (IntKind.bits .u8) (c.toNat:Int) &&& BitVec.ofInt (IntKind.bits .u8) 63).toNat:Int)=(c.toNat:Int) % 64:=by
 have:=qkS 63 c.toNat c.toNat_lt (by omega)
 rw[show ((63:Nat):Int)=63 from rfl] at this
 rw[this,show (63:Nat)=2^6-1 from rfl,VP]
 omega
theorem qrQ : ∀ n:Fin 256,n.val &&& 192=n.val / 64 * 64:=by decide
theorem q9s (c:UInt8):IntKind.wrap .u8 ((BitVec.ofInt (IntKind.bits .u8) (c.toNat:Int) &&& BitVec.ofInt (IntKind.bits .u8) 192).toNat:Int)=(c.toNat:Int) / 64 * 64:=by
 have:=qkS 192 c.toNat c.toNat_lt (by omega)
 rw[show ((192:Nat):Int)=192 from rfl] at this
 have h:=qrQ ⟨c.toNat,c.toNat_lt⟩
 simp only at h
 rw[this,h]
 omega
def q7l (b:UInt8):Int × Int:=
 if b.toNat<128 then (1,b.toNat) else if b.toNat<192 then (0,0) else if b.toNat<224 then (2,(b.toNat:Int) % 32) else if b.toNat<240 then (3,(b.toNat:Int) % 16) else if b.toNat<248 then (4,(b.toNat:Int) % 8) else (0,0)
theorem qo6 (b:UInt8):q0m C0 94 [.int .u8 b.toNat] (.tup [.int .i64 (q7l b).1,.int .i64 (q7l b).2]):=by
 have hb:=b.toNat_lt
 refine q05 qf0 rfl ?_
 unfold q7l
 by_cases h1:b.toNat<128
 ·rw[if_pos h1]
  (repeat' first|simp (disch:=omega) only[go_sem,qf0,enter,b7,b15,b31]|(apply spl<;>intro h<;>try simp (disch:=omega) only[go_sem,qf0,enter,b7,b15,b31,h]))
 ·rw[if_neg h1]
  by_cases h2:b.toNat<192
  ·rw[if_pos h2]
   (repeat' first|simp (disch:=omega) only[go_sem,qf0,enter,b7,b15,b31]|(apply spl<;>intro h<;>try simp (disch:=omega) only[go_sem,qf0,enter,b7,b15,b31,h]))
  ·rw[if_neg h2]
   by_cases h3:b.toNat<224
   ·rw[if_pos h3]
    (repeat' first|simp (disch:=omega) only[go_sem,qf0,enter,b7,b15,b31]|(apply spl<;>intro h<;>try simp (disch:=omega) only[go_sem,qf0,enter,b7,b15,b31,h]))
   ·rw[if_neg h3]
    by_cases h4:b.toNat<240
    ·rw[if_pos h4]
     (repeat' first|simp (disch:=omega) only[go_sem,qf0,enter,b7,b15,b31]|(apply spl<;>intro h<;>try simp (disch:=omega) only[go_sem,qf0,enter,b7,b15,b31,h]))
    ·rw[if_neg h4]
     by_cases h5:b.toNat<248
     ·rw[if_pos h5]
      (repeat' first|simp (disch:=omega) only[go_sem,qf0,enter,b7,b15,b31]|(apply spl<;>intro h<;>try simp (disch:=omega) only[go_sem,qf0,enter,b7,b15,b31,h]))
     ·rw[if_neg h5]
      (repeat' first|simp (disch:=omega) only[go_sem,qf0,enter,b7,b15,b31]|(apply spl<;>intro h<;>try simp (disch:=omega) only[go_sem,qf0,enter,b7,b15,b31,h]))
theorem q62 (r:Int):q0m C0 95 [.int .i64 r] (.bool (q4g r)):=by
 refine q05 qt6 rfl ?_
 unfold q4g
 (repeat' first|simp (disch:=omega) only[go_sem,qt6,enter]|(apply spl<;>intro h<;>try simp (disch:=omega) only[go_sem,qt6,enter,h]))
 all_goals rfl
theorem q82 (r:Int):q0m C0 96 [.int .i64 r] (.int .i64 (q91 r)):=by
 refine q05 ql2 rfl ?_
 unfold q91
 by_cases h1:r<128
 ·rw[if_pos h1]
  (repeat' first|simp (disch:=omega) only[go_sem,ql2,enter]|(apply spl<;>intro h<;>try simp (disch:=omega) only[go_sem,ql2,enter,h]))
 ·rw[if_neg h1]
  by_cases h2:r<2048
  ·rw[if_pos h2]
   (repeat' first|simp (disch:=omega) only[go_sem,ql2,enter]|(apply spl<;>intro h<;>try simp (disch:=omega) only[go_sem,ql2,enter,h]))
  ·rw[if_neg h2]
   by_cases h3:r<65536
   ·rw[if_pos h3]
    (repeat' first|simp (disch:=omega) only[go_sem,ql2,enter]|(apply spl<;>intro h<;>try simp (disch:=omega) only[go_sem,ql2,enter,h]))
   ·rw[if_neg h3]
    (repeat' first|simp (disch:=omega) only[go_sem,ql2,enter]|(apply spl<;>intro h<;>try simp (disch:=omega) only[go_sem,ql2,enter,h]))
theorem qip {c:UInt8} (h:q1U c=true):(c.toNat:Int) / 64 * 64=128:=by have:=q15.1 h; omega
theorem qi8 {c:UInt8} (h:q1U c=false) : ¬ (c.toNat:Int) / 64 * 64=128:=fun e=>by
 have h2:q1U c=true:=q15.2 (by omega)
 rw[h] at h2
 cases h2
theorem qfs (s:List UInt8) (k:Nat) (hs:s.length<2^31) (hk:k<s.length):q0m C0 84 [.str s,.int .i64 k] (.tup [.int .i64 (qgx s k).1,.int .i64 (qgx s k).2]):=by
 obtain ⟨b,hb⟩:=q08 hk
 have hbt:=b.toNat_lt
 have hdm:qgx s k=q4D s k b:=by unfold qgx; rw[hb]
 have hkn:(k:Int).toNat=k:=rfl
 have hh:=qo6 b
 rw[hdm]
 refine q05 qcn rfl ?_
 by_cases g0:q7l b=(0,0)
 ·have hdec:q4D s k b=(0,0):=by
   unfold q7l at g0
   unfold q4D
   repeat' split
   all_goals first | rfl | omega | (simp_all; done)
  rw[g0] at hh
  rw[hdec]
  (repeat' first|simp (disch:=omega) only[go_sem,qcn,enter,hb,hkn]|refine q00 _ (hh) ?_|(apply spl<;>intro h<;>try simp (disch:=omega) only[go_sem,qcn,enter,hb,hkn ,h]))
 by_cases g1:b.toNat<128
 ·have hhm:q7l b=(1,(b.toNat:Int)):=by unfold q7l; rw[if_pos g1]
  rw[hhm] at hh
  (repeat' first|simp (disch:=omega) only[go_sem,qcn,enter,hb,hkn]|refine q00 _ (hh) ?_|(apply spl<;>intro h<;>try simp (disch:=omega) only[go_sem,qcn,enter,hb,hkn ,h]))
  refine q0a (α:=Unit) (fun _=>{ tmps:=q0i 64 [(0,.str s),(1,.int .i64 k),(4,.int .i64 b.toNat),(6,.int .i64 1),(7,.int .i64 1)],heap:=[],base:=0 }) (fun _=>True) (fun _=>0) () rfl trivial ?_
  rintro _ _
  obtain ⟨r,hr⟩ : ∃ r:Int,r=(b.toNat:Int):=⟨_,rfl⟩
  have hfin:q4D s k b=q1K r 1:=by
   have hc:q4g r=true:=by unfold q4g; simp; omega
   have hw:q91 r=1:=by unfold q91; rw[if_pos (by omega)]
   unfold q4D q1K
   rw[if_pos g1,hc,hw,hr]
   rfl
  rw[←hr]
  have hs1:=q62 r
  have hw1:=q82 r
  unfold q1K at hfin
  cases hc:q4g r with
  | false=>
   rw[hc] at hs1 hfin
   simp only[VL,Km,if_false] at hfin
   rw[hfin]
   (repeat' first|simp (disch:=omega) only[go_sem]|refine q00 _ (hs1) ?_|refine q00 _ (hw1) ?_|(apply spl<;>intro h<;>try simp (disch:=omega) only[go_sem,h]))
  | true=>
   rw[hc] at hs1 hfin
   simp only[Vt] at hfin
   by_cases hw:q91 r=1
   ·rw[hw] at hw1
    rw[hw,if_pos (by simp)] at hfin
    rw[hfin]
    (repeat' first|simp (disch:=omega) only[go_sem]|refine q00 _ (hs1) ?_|refine q00 _ (hw1) ?_|(apply spl<;>intro h<;>try simp (disch:=omega) only[go_sem,h]))
   ·have hw2:(q91 r == 1)=false:=by simpa using hw
    have hw3 : ¬ (q91 r:Int)=1:=by omega
    rw[hw2] at hfin
    simp only[Km,if_false] at hfin
    rw[hfin]
    (repeat' first|simp (disch:=omega) only[go_sem,hw3]|refine q00 _ (hs1) ?_|refine q00 _ (hw1) ?_|(apply spl<;>intro h<;>try simp (disch:=omega) only[go_sem,hw3 ,h]))
 by_cases g2:192≤b.toNat∧b.toNat<224
 ·obtain ⟨g1',g2'⟩:=g2
  have hhm:q7l b=(2,(b.toNat:Int) % 32):=by
   unfold q7l
   repeat' split
   all_goals first | rfl | omega
  rw[hhm] at hh
  by_cases hlen:s.length<k+2
  ·have hnone:s[k+1]?=none:=KQ (by omega)
   have hdec:q4D s k b=(0,0):=by
    unfold q4D
    repeat' split
    all_goals first | rfl | omega | (rw[hnone]; first | rfl | (cases s[k+1]?<;>first | rfl | (cases s[k+2]?<;>rfl)))
   rw[hdec]
   (repeat' first|simp (disch:=omega) only[go_sem,qcn,enter,hb,hkn]|refine q00 _ (hh) ?_|(apply spl<;>intro h<;>try simp (disch:=omega) only[go_sem,qcn,enter,hb,hkn ,h]))
  ·have hd0:True:=trivial
   obtain ⟨c,hc⟩:=q08 (s:=s) (k:=k+1) (by omega)
   have ct:=c.toNat_lt
   have kn1:((k:Int)+1).toNat=k+1:=by omega
   have hdec:q4D s k b=qvc b (some c):=by
    unfold q4D
    repeat' split
    all_goals first | omega | (rw[hc])
   rw[qaA] at hdec
   (repeat' first|simp (disch:=omega) only[go_sem,qcn,enter,hb,hkn]|refine q00 _ (hh) ?_|(apply spl<;>intro h<;>try simp (disch:=omega) only[go_sem,qcn,enter,hb,hkn ,h]))
   refine q0a (α:=Nat) (fun i=>{ tmps:=q0i 64 [(0,.str s),(1,.int .i64 k),(4,.int .i64 (q2h ((b.toNat:Int) % 32) (((b.toNat:Int) % 32) * 64+(c.toNat:Int) % 64) 0 0 i)),(6,.int .i64 2),(7,.int .i64 i)],heap:=[],base:=0 }) (fun i=>1≤i∧i≤2∧(1<i→q1U c=true)) (fun i=>2-i) 1 rfl (by refine ⟨by omega,by omega,fun h=>by omega⟩) ?_
   rintro i ⟨hi1,hi2,ic⟩
   rcases (by omega:i=1∨i=2) with rfl | rfl
   ·have hp:q2h ((b.toNat:Int) % 32) (((b.toNat:Int) % 32) * 64+(c.toNat:Int) % 64) 0 0 1=((b.toNat:Int) % 32):=rfl
    have hq:q2h ((b.toNat:Int) % 32) (((b.toNat:Int) % 32) * 64+(c.toNat:Int) % 64) 0 0 2=(((b.toNat:Int) % 32) * 64+(c.toNat:Int) % 64):=rfl
    rw[hp]
    cases hcc:q1U c with
    | false=>
     have hno:=qi8 hcc
     have hdec0:q4D s k b=(0,0):=by rw[hdec]; simp [hcc]
     rw[hdec0]
     (repeat' first|simp (disch:=omega) only[go_sem,hkn,kn1,hc,q9s,hno,c1',c2',c3',c4']|(apply spl<;>intro h<;>try simp (disch:=omega) only[go_sem,hkn,kn1,hc,q9s,hno,c1',c2',c3',c4',h]))
    | true=>
     have hyes:=qip hcc
     (repeat' first|simp (disch:=omega) only[go_sem,hkn,kn1,hc,q9s,b63,hyes,pw6,q9m,c1',c2',c3',c4']|(apply spl<;>intro h<;>try simp (disch:=omega) only[go_sem,hkn,kn1,hc,q9s,b63,hyes,pw6,q9m,c1',c2',c3',c4',h]))
     exact ⟨2,by rw[hq]; rfl,⟨by omega,by omega,fun _=>by first | exact hcc | trivial⟩,by omega⟩
   ·have hp:q2h ((b.toNat:Int) % 32) (((b.toNat:Int) % 32) * 64+(c.toNat:Int) % 64) 0 0 2=(((b.toNat:Int) % 32) * 64+(c.toNat:Int) % 64):=rfl
    rw[hp]
    have hcc:=ic (by omega)
    have hcc':=q15.1 hcc
    obtain ⟨r,hr⟩ : ∃ r:Int,r=(((b.toNat:Int) % 32) * 64+(c.toNat:Int) % 64):=⟨_,rfl⟩
    have er:(((b.toNat:Int)-192) * 64+((c.toNat:Int)-128))=r:=by omega
    have hfin:q4D s k b=q1K r 2:=by
     rw[hdec,er]
     simp [hcc]
    rw[←hr]
    have hs1:=q62 r
    have hw1:=q82 r
    unfold q1K at hfin
    cases hc:q4g r with
    | false=>
     rw[hc] at hs1 hfin
     simp only[VL,Km,if_false] at hfin
     rw[hfin]
     (repeat' first|simp (disch:=omega) only[go_sem]|refine q00 _ (hs1) ?_|refine q00 _ (hw1) ?_|(apply spl<;>intro h<;>try simp (disch:=omega) only[go_sem,h]))
    | true=>
     rw[hc] at hs1 hfin
     simp only[Vt] at hfin
     by_cases hw:q91 r=2
     ·rw[hw] at hw1
      rw[hw,if_pos (by simp)] at hfin
      rw[hfin]
      (repeat' first|simp (disch:=omega) only[go_sem]|refine q00 _ (hs1) ?_|refine q00 _ (hw1) ?_|(apply spl<;>intro h<;>try simp (disch:=omega) only[go_sem,h]))
     ·have hw2:(q91 r == 2)=false:=by simpa using hw
      have hw3 : ¬ (q91 r:Int)=2:=by omega
      rw[hw2] at hfin
      simp only[Km,if_false] at hfin
      rw[hfin]
      (repeat' first|simp (disch:=omega) only[go_sem,hw3]|refine q00 _ (hs1) ?_|refine q00 _ (hw1) ?_|(apply spl<;>intro h<;>try simp (disch:=omega) only[go_sem,hw3 ,h]))
 by_cases g3:224≤b.toNat∧b.toNat<240
 ·obtain ⟨g1',g2'⟩:=g3
  have hhm:q7l b=(3,(b.toNat:Int) % 16):=by
   unfold q7l
   repeat' split
   all_goals first | rfl | omega
  rw[hhm] at hh
  by_cases hlen:s.length<k+3
  ·have hnone:s[k+2]?=none:=KQ (by omega)
   have hdec:q4D s k b=(0,0):=by
    unfold q4D
    repeat' split
    all_goals first | rfl | omega | (rw[hnone]; first | rfl | (cases s[k+1]?<;>first | rfl | (cases s[k+2]?<;>rfl)))
   rw[hdec]
   (repeat' first|simp (disch:=omega) only[go_sem,qcn,enter,hb,hkn]|refine q00 _ (hh) ?_|(apply spl<;>intro h<;>try simp (disch:=omega) only[go_sem,qcn,enter,hb,hkn ,h]))
  ·have hd0:True:=trivial
   obtain ⟨c,hc⟩:=q08 (s:=s) (k:=k+1) (by omega)
   have ct:=c.toNat_lt
   have kn1:((k:Int)+1).toNat=k+1:=by omega
   obtain ⟨d,hd⟩:=q08 (s:=s) (k:=k+2) (by omega)
   have dt:=d.toNat_lt
   have kn2:((k:Int)+2).toNat=k+2:=by omega
   have hdec:q4D s k b=quU b (some c) (some d):=by
    unfold q4D
    repeat' split
    all_goals first | omega | (rw[hc,hd])
   rw[q9N] at hdec
   (repeat' first|simp (disch:=omega) only[go_sem,qcn,enter,hb,hkn]|refine q00 _ (hh) ?_|(apply spl<;>intro h<;>try simp (disch:=omega) only[go_sem,qcn,enter,hb,hkn ,h]))
   refine q0a (α:=Nat) (fun i=>{ tmps:=q0i 64 [(0,.str s),(1,.int .i64 k),(4,.int .i64 (q2h ((b.toNat:Int) % 16) (((b.toNat:Int) % 16) * 64+(c.toNat:Int) % 64) ((((b.toNat:Int) % 16) * 64+(c.toNat:Int) % 64) * 64+(d.toNat:Int) % 64) 0 i)),(6,.int .i64 3),(7,.int .i64 i)],heap:=[],base:=0 }) (fun i=>1≤i∧i≤3∧(1<i→q1U c=true)∧(2<i→q1U d=true)) (fun i=>3-i) 1 rfl (by refine ⟨by omega,by omega,fun h=>by omega,fun h=>by omega⟩) ?_
   rintro i ⟨hi1,hi2,ic,id⟩
   rcases (by omega:i=1∨i=2∨i=3) with rfl | rfl | rfl
   ·have hp:q2h ((b.toNat:Int) % 16) (((b.toNat:Int) % 16) * 64+(c.toNat:Int) % 64) ((((b.toNat:Int) % 16) * 64+(c.toNat:Int) % 64) * 64+(d.toNat:Int) % 64) 0 1=((b.toNat:Int) % 16):=rfl
    have hq:q2h ((b.toNat:Int) % 16) (((b.toNat:Int) % 16) * 64+(c.toNat:Int) % 64) ((((b.toNat:Int) % 16) * 64+(c.toNat:Int) % 64) * 64+(d.toNat:Int) % 64) 0 2=(((b.toNat:Int) % 16) * 64+(c.toNat:Int) % 64):=rfl
    rw[hp]
    cases hcc:q1U c with
    | false=>
     have hno:=qi8 hcc
     have hdec0:q4D s k b=(0,0):=by rw[hdec]; simp [hcc]
     rw[hdec0]
     (repeat' first|simp (disch:=omega) only[go_sem,hkn,kn1,hc,q9s,hno,c1',c2',c3',c4']|(apply spl<;>intro h<;>try simp (disch:=omega) only[go_sem,hkn,kn1,hc,q9s,hno,c1',c2',c3',c4',h]))
    | true=>
     have hyes:=qip hcc
     (repeat' first|simp (disch:=omega) only[go_sem,hkn,kn1,hc,q9s,b63,hyes,pw6,q9m,c1',c2',c3',c4']|(apply spl<;>intro h<;>try simp (disch:=omega) only[go_sem,hkn,kn1,hc,q9s,b63,hyes,pw6,q9m,c1',c2',c3',c4',h]))
     exact ⟨2,by rw[hq]; rfl,⟨by omega,by omega,fun _=>by first | exact hcc | trivial,fun h=>by omega⟩,by omega⟩
   ·have hp:q2h ((b.toNat:Int) % 16) (((b.toNat:Int) % 16) * 64+(c.toNat:Int) % 64) ((((b.toNat:Int) % 16) * 64+(c.toNat:Int) % 64) * 64+(d.toNat:Int) % 64) 0 2=(((b.toNat:Int) % 16) * 64+(c.toNat:Int) % 64):=rfl
    have hq:q2h ((b.toNat:Int) % 16) (((b.toNat:Int) % 16) * 64+(c.toNat:Int) % 64) ((((b.toNat:Int) % 16) * 64+(c.toNat:Int) % 64) * 64+(d.toNat:Int) % 64) 0 3=((((b.toNat:Int) % 16) * 64+(c.toNat:Int) % 64) * 64+(d.toNat:Int) % 64):=rfl
    rw[hp]
    cases hdc:q1U d with
    | false=>
     have hno:=qi8 hdc
     have hdec0:q4D s k b=(0,0):=by rw[hdec]; simp [hdc]
     rw[hdec0]
     (repeat' first|simp (disch:=omega) only[go_sem,hkn,kn2,hd,q9s,hno,c1',c2',c3',c4']|(apply spl<;>intro h<;>try simp (disch:=omega) only[go_sem,hkn,kn2,hd,q9s,hno,c1',c2',c3',c4',h]))
    | true=>
     have hyes:=qip hdc
     (repeat' first|simp (disch:=omega) only[go_sem,hkn,kn2,hd,q9s,b63,hyes,pw6,q9m,c1',c2',c3',c4']|(apply spl<;>intro h<;>try simp (disch:=omega) only[go_sem,hkn,kn2,hd,q9s,b63,hyes,pw6,q9m,c1',c2',c3',c4',h]))
     exact ⟨3,by rw[hq]; rfl,⟨by omega,by omega,fun h=>ic (by omega),fun _=>by first | exact hdc | trivial⟩,by omega⟩
   ·have hp:q2h ((b.toNat:Int) % 16) (((b.toNat:Int) % 16) * 64+(c.toNat:Int) % 64) ((((b.toNat:Int) % 16) * 64+(c.toNat:Int) % 64) * 64+(d.toNat:Int) % 64) 0 3=((((b.toNat:Int) % 16) * 64+(c.toNat:Int) % 64) * 64+(d.toNat:Int) % 64):=rfl
    rw[hp]
    have hcc:=ic (by omega)
    have hcc':=q15.1 hcc
    have hdc:=id (by omega)
    have hdc':=q15.1 hdc
    obtain ⟨r,hr⟩ : ∃ r:Int,r=((((b.toNat:Int) % 16) * 64+(c.toNat:Int) % 64) * 64+(d.toNat:Int) % 64):=⟨_,rfl⟩
    have er:((((b.toNat:Int)-224) * 64+((c.toNat:Int)-128)) * 64+((d.toNat:Int)-128))=r:=by omega
    have hfin:q4D s k b=q1K r 3:=by
     rw[hdec,er]
     simp [hcc,hdc]
    rw[←hr]
    have hs1:=q62 r
    have hw1:=q82 r
    unfold q1K at hfin
    cases hc:q4g r with
    | false=>
     rw[hc] at hs1 hfin
     simp only[VL,Km,if_false] at hfin
     rw[hfin]
     (repeat' first|simp (disch:=omega) only[go_sem]|refine q00 _ (hs1) ?_|refine q00 _ (hw1) ?_|(apply spl<;>intro h<;>try simp (disch:=omega) only[go_sem,h]))
    | true=>
     rw[hc] at hs1 hfin
     simp only[Vt] at hfin
     by_cases hw:q91 r=3
     ·rw[hw] at hw1
      rw[hw,if_pos (by simp)] at hfin
      rw[hfin]
      (repeat' first|simp (disch:=omega) only[go_sem]|refine q00 _ (hs1) ?_|refine q00 _ (hw1) ?_|(apply spl<;>intro h<;>try simp (disch:=omega) only[go_sem,h]))
     ·have hw2:(q91 r == 3)=false:=by simpa using hw
      have hw3 : ¬ (q91 r:Int)=3:=by omega
      rw[hw2] at hfin
      simp only[Km,if_false] at hfin
      rw[hfin]
      (repeat' first|simp (disch:=omega) only[go_sem,hw3]|refine q00 _ (hs1) ?_|refine q00 _ (hw1) ?_|(apply spl<;>intro h<;>try simp (disch:=omega) only[go_sem,hw3 ,h]))
 by_cases g4:240≤b.toNat∧b.toNat<248
 ·obtain ⟨g1',g2'⟩:=g4
  have hhm:q7l b=(4,(b.toNat:Int) % 8):=by
   unfold q7l
   repeat' split
   all_goals first | rfl | omega
  rw[hhm] at hh
  by_cases hlen:s.length<k+4
  ·have hnone:s[k+3]?=none:=KQ (by omega)
   have hdec:q4D s k b=(0,0):=by
    unfold q4D
    repeat' split
    all_goals first | rfl | omega | (rw[hnone]; first | rfl | (cases s[k+1]?<;>first | rfl | (cases s[k+2]?<;>rfl)))
   rw[hdec]
   (repeat' first|simp (disch:=omega) only[go_sem,qcn,enter,hb,hkn]|refine q00 _ (hh) ?_|(apply spl<;>intro h<;>try simp (disch:=omega) only[go_sem,qcn,enter,hb,hkn ,h]))
  ·have hd0:True:=trivial
   obtain ⟨c,hc⟩:=q08 (s:=s) (k:=k+1) (by omega)
   have ct:=c.toNat_lt
   have kn1:((k:Int)+1).toNat=k+1:=by omega
   obtain ⟨d,hd⟩:=q08 (s:=s) (k:=k+2) (by omega)
   have dt:=d.toNat_lt
   have kn2:((k:Int)+2).toNat=k+2:=by omega
   obtain ⟨e,he⟩:=q08 (s:=s) (k:=k+3) (by omega)
   have et:=e.toNat_lt
   have kn3:((k:Int)+3).toNat=k+3:=by omega
   have hdec:q4D s k b=qvz b (some c) (some d) (some e):=by
    unfold q4D
    repeat' split
    all_goals first | omega | (rw[hc,hd,he])
   rw[qap] at hdec
   (repeat' first|simp (disch:=omega) only[go_sem,qcn,enter,hb,hkn]|refine q00 _ (hh) ?_|(apply spl<;>intro h<;>try simp (disch:=omega) only[go_sem,qcn,enter,hb,hkn ,h]))
   refine q0a (α:=Nat) (fun i=>{ tmps:=q0i 64 [(0,.str s),(1,.int .i64 k),(4,.int .i64 (q2h ((b.toNat:Int) % 8) (((b.toNat:Int) % 8) * 64+(c.toNat:Int) % 64) ((((b.toNat:Int) % 8) * 64+(c.toNat:Int) % 64) * 64+(d.toNat:Int) % 64) (((((b.toNat:Int) % 8) * 64+(c.toNat:Int) % 64) * 64+(d.toNat:Int) % 64) * 64+(e.toNat:Int) % 64) i)),(6,.int .i64 4),(7,.int .i64 i)],heap:=[],base:=0 }) (fun i=>1≤i∧i≤4∧(1<i→q1U c=true)∧(2<i→q1U d=true)∧(3<i→q1U e=true)) (fun i=>4-i) 1 rfl (by refine ⟨by omega,by omega,fun h=>by omega,fun h=>by omega,fun h=>by omega⟩) ?_
   rintro i ⟨hi1,hi2,ic,id,ie⟩
   rcases (by omega:i=1∨i=2∨i=3∨i=4) with rfl | rfl | rfl | rfl
   ·have hp:q2h ((b.toNat:Int) % 8) (((b.toNat:Int) % 8) * 64+(c.toNat:Int) % 64) ((((b.toNat:Int) % 8) * 64+(c.toNat:Int) % 64) * 64+(d.toNat:Int) % 64) (((((b.toNat:Int) % 8) * 64+(c.toNat:Int) % 64) * 64+(d.toNat:Int) % 64) * 64+(e.toNat:Int) % 64) 1=((b.toNat:Int) % 8):=rfl
    have hq:q2h ((b.toNat:Int) % 8) (((b.toNat:Int) % 8) * 64+(c.toNat:Int) % 64) ((((b.toNat:Int) % 8) * 64+(c.toNat:Int) % 64) * 64+(d.toNat:Int) % 64) (((((b.toNat:Int) % 8) * 64+(c.toNat:Int) % 64) * 64+(d.toNat:Int) % 64) * 64+(e.toNat:Int) % 64) 2=(((b.toNat:Int) % 8) * 64+(c.toNat:Int) % 64):=rfl
    rw[hp]
    cases hcc:q1U c with
    | false=>
     have hno:=qi8 hcc
     have hdec0:q4D s k b=(0,0):=by rw[hdec]; simp [hcc]
     rw[hdec0]
     (repeat' first|simp (disch:=omega) only[go_sem,hkn,kn1,hc,q9s,hno,c1',c2',c3',c4']|(apply spl<;>intro h<;>try simp (disch:=omega) only[go_sem,hkn,kn1,hc,q9s,hno,c1',c2',c3',c4',h]))
    | true=>
     have hyes:=qip hcc
     (repeat' first|simp (disch:=omega) only[go_sem,hkn,kn1,hc,q9s,b63,hyes,pw6,q9m,c1',c2',c3',c4']|(apply spl<;>intro h<;>try simp (disch:=omega) only[go_sem,hkn,kn1,hc,q9s,b63,hyes,pw6,q9m,c1',c2',c3',c4',h]))
     exact ⟨2,by rw[hq]; rfl,⟨by omega,by omega,fun _=>by first | exact hcc | trivial,fun h=>by omega,fun h=>by omega⟩,by omega⟩
   ·have hp:q2h ((b.toNat:Int) % 8) (((b.toNat:Int) % 8) * 64+(c.toNat:Int) % 64) ((((b.toNat:Int) % 8) * 64+(c.toNat:Int) % 64) * 64+(d.toNat:Int) % 64) (((((b.toNat:Int) % 8) * 64+(c.toNat:Int) % 64) * 64+(d.toNat:Int) % 64) * 64+(e.toNat:Int) % 64) 2=(((b.toNat:Int) % 8) * 64+(c.toNat:Int) % 64):=rfl
    have hq:q2h ((b.toNat:Int) % 8) (((b.toNat:Int) % 8) * 64+(c.toNat:Int) % 64) ((((b.toNat:Int) % 8) * 64+(c.toNat:Int) % 64) * 64+(d.toNat:Int) % 64) (((((b.toNat:Int) % 8) * 64+(c.toNat:Int) % 64) * 64+(d.toNat:Int) % 64) * 64+(e.toNat:Int) % 64) 3=((((b.toNat:Int) % 8) * 64+(c.toNat:Int) % 64) * 64+(d.toNat:Int) % 64):=rfl
    rw[hp]
    cases hdc:q1U d with
    | false=>
     have hno:=qi8 hdc
     have hdec0:q4D s k b=(0,0):=by rw[hdec]; simp [hdc]
     rw[hdec0]
     (repeat' first|simp (disch:=omega) only[go_sem,hkn,kn2,hd,q9s,hno,c1',c2',c3',c4']|(apply spl<;>intro h<;>try simp (disch:=omega) only[go_sem,hkn,kn2,hd,q9s,hno,c1',c2',c3',c4',h]))
    | true=>
     have hyes:=qip hdc
     (repeat' first|simp (disch:=omega) only[go_sem,hkn,kn2,hd,q9s,b63,hyes,pw6,q9m,c1',c2',c3',c4']|(apply spl<;>intro h<;>try simp (disch:=omega) only[go_sem,hkn,kn2,hd,q9s,b63,hyes,pw6,q9m,c1',c2',c3',c4',h]))
     exact ⟨3,by rw[hq]; rfl,⟨by omega,by omega,fun h=>ic (by omega),fun _=>by first | exact hdc | trivial,fun h=>by omega⟩,by omega⟩
   ·have hp:q2h ((b.toNat:Int) % 8) (((b.toNat:Int) % 8) * 64+(c.toNat:Int) % 64) ((((b.toNat:Int) % 8) * 64+(c.toNat:Int) % 64) * 64+(d.toNat:Int) % 64) (((((b.toNat:Int) % 8) * 64+(c.toNat:Int) % 64) * 64+(d.toNat:Int) % 64) * 64+(e.toNat:Int) % 64) 3=((((b.toNat:Int) % 8) * 64+(c.toNat:Int) % 64) * 64+(d.toNat:Int) % 64):=rfl
    have hq:q2h ((b.toNat:Int) % 8) (((b.toNat:Int) % 8) * 64+(c.toNat:Int) % 64) ((((b.toNat:Int) % 8) * 64+(c.toNat:Int) % 64) * 64+(d.toNat:Int) % 64) (((((b.toNat:Int) % 8) * 64+(c.toNat:Int) % 64) * 64+(d.toNat:Int) % 64) * 64+(e.toNat:Int) % 64) 4=(((((b.toNat:Int) % 8) * 64+(c.toNat:Int) % 64) * 64+(d.toNat:Int) % 64) * 64+(e.toNat:Int) % 64):=rfl
    rw[hp]
    cases hec:q1U e with
    | false=>
     have hno:=qi8 hec
     have hdec0:q4D s k b=(0,0):=by rw[hdec]; simp [hec]
     rw[hdec0]
     (repeat' first|simp (disch:=omega) only[go_sem,hkn,kn3,he,q9s,hno,c1',c2',c3',c4']|(apply spl<;>intro h<;>try simp (disch:=omega) only[go_sem,hkn,kn3,he,q9s,hno,c1',c2',c3',c4',h]))
    | true=>
     have hyes:=qip hec
     (repeat' first|simp (disch:=omega) only[go_sem,hkn,kn3,he,q9s,b63,hyes,pw6,q9m,c1',c2',c3',c4']|(apply spl<;>intro h<;>try simp (disch:=omega) only[go_sem,hkn,kn3,he,q9s,b63,hyes,pw6,q9m,c1',c2',c3',c4',h]))
     exact ⟨4,by rw[hq]; rfl,⟨by omega,by omega,fun h=>ic (by omega),fun h=>id (by omega),fun _=>by first | exact hec | trivial⟩,by omega⟩
   ·have hp:q2h ((b.toNat:Int) % 8) (((b.toNat:Int) % 8) * 64+(c.toNat:Int) % 64) ((((b.toNat:Int) % 8) * 64+(c.toNat:Int) % 64) * 64+(d.toNat:Int) % 64) (((((b.toNat:Int) % 8) * 64+(c.toNat:Int) % 64) * 64+(d.toNat:Int) % 64) * 64+(e.toNat:Int) % 64) 4=(((((b.toNat:Int) % 8) * 64+(c.toNat:Int) % 64) * 64+(d.toNat:Int) % 64) * 64+(e.toNat:Int) % 64):=rfl
    rw[hp]
    have hcc:=ic (by omega)
    have hcc':=q15.1 hcc
    have hdc:=id (by omega)
    have hdc':=q15.1 hdc
    have hec:=ie (by omega)
    have hec':=q15.1 hec
    obtain ⟨r,hr⟩ : ∃ r:Int,r=(((((b.toNat:Int) % 8) * 64+(c.toNat:Int) % 64) * 64+(d.toNat:Int) % 64) * 64+(e.toNat:Int) % 64):=⟨_,rfl⟩
    have er:(((((b.toNat:Int)-240) * 64+((c.toNat:Int)-128)) * 64+((d.toNat:Int)-128)) * 64+((e.toNat:Int)-128))=r:=by omega
    have hfin:q4D s k b=q1K r 4:=by
     rw[hdec,er]
     simp [hcc,hdc,hec]
    rw[←hr]
    have hs1:=q62 r
    have hw1:=q82 r
    unfold q1K at hfin
    cases hc:q4g r with
    | false=>
     rw[hc] at hs1 hfin
     simp only[VL,Km,if_false] at hfin
     rw[hfin]
     (repeat' first|simp (disch:=omega) only[go_sem]|refine q00 _ (hs1) ?_|refine q00 _ (hw1) ?_|(apply spl<;>intro h<;>try simp (disch:=omega) only[go_sem,h]))
    | true=>
     rw[hc] at hs1 hfin
     simp only[Vt] at hfin
     by_cases hw:q91 r=4
     ·rw[hw] at hw1
      rw[hw,if_pos (by simp)] at hfin
      rw[hfin]
      (repeat' first|simp (disch:=omega) only[go_sem]|refine q00 _ (hs1) ?_|refine q00 _ (hw1) ?_|(apply spl<;>intro h<;>try simp (disch:=omega) only[go_sem,h]))
     ·have hw2:(q91 r == 4)=false:=by simpa using hw
      have hw3 : ¬ (q91 r:Int)=4:=by omega
      rw[hw2] at hfin
      simp only[Km,if_false] at hfin
      rw[hfin]
      (repeat' first|simp (disch:=omega) only[go_sem,hw3]|refine q00 _ (hs1) ?_|refine q00 _ (hw1) ?_|(apply spl<;>intro h<;>try simp (disch:=omega) only[go_sem,hw3 ,h]))
 exfalso
 apply g0
 unfold q7l
 repeat' split
 all_goals first | rfl | omega
end Ago
set_option maxRecDepth 100000
set_option maxHeartbeats 4000000
namespace Ago
open Go (IntKind)
theorem qpw (s:List UInt8) (hs:s.length<2^30) : ∃ n:Int,q0m C0 63 [.str s] (.tup [.int .i64 n,.int .i64 (if utf s then 0 else 5)]):=by
 have h:=q4I (C:=C0) (f:=63) (ts:=[.str s]) (k:=fun v=>∃ n:Int,v = .tup [.int .i64 n,.int .i64 (if utf s then 0 else 5)]) qtJ rfl (by
  (repeat' first|simp (disch:=omega) only[go_sem,qtJ,enter]|(apply spl<;>intro h<;>try simp (disch:=omega) only[go_sem,qtJ,enter,h]))
  refine q0a (α:=Nat × Nat) (fun a=>{ tmps:=q0i 26 [(0,.str s),(4,.int .i64 a.2),(5,.int .i64 a.1)],heap:=[],base:=0 }) (fun a=>a.1≤s.length∧a.2≤a.1∧utf s=q79 s (s.length-a.1+1) a.1) (fun a=>s.length-a.1) (0,0) rfl ⟨by simp,by simp,rfl⟩ ?_
  rintro ⟨k,j⟩ ⟨hk,hl,hw⟩
  simp only at hk hl hw
  by_cases hlt:k<s.length
  ·have hd:=qfs s k (by omega) hlt
   obtain ⟨m,hm,hsz⟩:=q9T s k
   rw[hm] at hd
   by_cases h0:m=0
   ·subst h0
    rw[qdQ hlt hm] at hw
    rw[hw]
    (repeat' first|simp (disch:=omega) only[go_sem]|refine q00 _ (hd) ?_|(apply spl<;>intro h<;>try simp (disch:=omega) only[go_sem,h]))
    exact ⟨_,rfl⟩
   ·rw[qee hlt hm h0] at hw
    (repeat' first|simp (disch:=omega) only[go_sem]|refine q00 _ (hd) ?_|(apply spl<;>intro h<;>try simp (disch:=omega) only[go_sem,h]))
    exact ⟨(k+m,j+1),rfl,⟨by simp only; omega,by simp only; omega,hw⟩,by simp only; omega⟩
  ·rw[qht (by omega)] at hw
   rw[hw]
   (repeat' first|simp (disch:=omega) only[go_sem]|(apply spl<;>intro h<;>try simp (disch:=omega) only[go_sem,h]))
   exact ⟨_,rfl⟩)
 obtain ⟨v,h1,n,rfl⟩:=h
 exact ⟨n,h1⟩
theorem q9k (s:List UInt8) (hs:s.length<2^30):q0m C0 46 [.str s] (.bool (utf s)):=by
 obtain ⟨n,hb⟩:=qpw s hs
 refine q05 qr4 rfl ?_
 cases hu:utf s with
 | true=>
  rw[hu] at hb
  simp only[if_true] at hb
  (repeat' first|simp (disch:=omega) only[go_sem,qr4,enter]|refine q00 _ (hb) ?_|(apply spl<;>intro h<;>try simp (disch:=omega) only[go_sem,qr4,enter ,h]))
 | false=>
  rw[hu] at hb
  simp only[Km,if_false] at hb
  (repeat' first|simp (disch:=omega) only[go_sem,qr4,enter]|refine q00 _ (hb) ?_|(apply spl<;>intro h<;>try simp (disch:=omega) only[go_sem,qr4,enter ,h]))
end Ago
set_option maxRecDepth 100000
set_option maxHeartbeats 4000000
namespace Ago
open Go (IntKind)

def Flat (H:Heap):Prop:=∀ j b,H[j]?=some b→∃ n els,b=Blk.row n els false true j
theorem Flat.nil:Flat []:=fun j b h=>by simp at h
theorem Flat.push {H:Heap} (h:Flat H) (n:Nat) (els:List AV):Flat (H++[.row n els false true H.length]):=fun j b hj=>by
 by_cases hlt:j<H.length
 ·rw[KG hlt] at hj
  exact h j b hj
 ·rw[KJ (by omega)] at hj
  have e:j-H.length=0:=by
   have:=(Ks.1 hj).1
   simp at this
   omega
  rw[e] at hj
  obtain rfl:j=H.length:=by omega
  cases hj
  exact ⟨n,els,rfl⟩
theorem Flat.push' {H:Heap} {k:Nat} (h:Flat H) (n:Nat) (els:List AV) (hk:k=H.length):Flat (H++[.row n els false true k]):=by
 subst hk
 exact h.push n els
theorem Flat.set {H:Heap} (h:Flat H) (r n:Nat) (els:List AV):Flat (H.set r (.row n els false true r)):=fun j b hj=>by
 rw[List.getElem?_set] at hj
 split at hj
 ·rename_i e
  subst e
  split at hj
  ·cases hj
   exact ⟨n,els,rfl⟩
  ·cases hj
 ·exact h j b hj
theorem q7C (r k:Nat) : ∀ (H:Heap) (i:Nat),(∀ j b,H[j]?=some b→∃ n els,b=Blk.row n els false true (i+j))→q0D r r k H i=some H
 | [],_,_=>rfl
 | b::H,i,h=>by
  have ih:=q7C r k H (i+1) fun j b hj=>by
   obtain ⟨n,els,e⟩:=h (j+1) b (by simpa using hj)
   exact ⟨n,els,by rw[e]; congr 1; omega⟩
  obtain ⟨n,els,rfl⟩:=h 0 b (by simp)
  unfold q0D
  rw[ih]
  simp only[Vs]
  rw[if_neg (by omega)]
theorem Flat.strike {H:Heap} (h:Flat H) (r k:Nat):q0D r r k H 0=some H:=q7C r k H 0 fun j b hj=>by
 rw[KS]
 exact h j b hj
theorem Flat.refs {H:Heap} (h:Flat H):H.flatMap Blk.refs=[]:=by
 rw[VN]
 intro b hb
 obtain ⟨j,hj⟩:=Vp hb
 obtain ⟨n,els,rfl⟩:=h j b hj
 rfl
theorem Flat.left {H E:Heap} (h:Flat (H++E)):Flat H:=fun j b hj=>h j b (by
 rw[KG (Ks.1 hj).1]
 exact hj)

theorem q1S {H l:Heap} {b:Blk} {m:Nat} (h:m=H.length):(H++b::l)[m]?=some b:=by
 subst h
 rw[KJ (Kr _),Nat.sub_self]
 rfl
theorem q6Q {H l:Heap} {a b:Blk} {m:Nat} (h:m=H.length+1):(H++a::b::l)[m]?=some b:=by
 subst h
 rw[KJ (by omega),VG]
 rfl
theorem q53 {H l:Heap} {b x:Blk} {m:Nat} (h:m=H.length):(H++b::l).set m x=H++x::l:=by
 subst h
 rw[List.set_append_right _ _ (Kr _),Nat.sub_self]
 rfl
theorem qij {H l:Heap} {a b x:Blk} {m:Nat} (h:m=H.length+1):(H++a::b::l).set m x=H++a::x::l:=by
 subst h
 rw[List.set_append_right _ _ (by omega),VG]
 rfl
theorem q2O {H l:Heap} {m:Nat} (h:m<H.length):(H++l)[m]?=H[m]?:=KG h
theorem setL {H l:Heap} {m:Nat} {x:Blk} (h:m<H.length):(H++l).set m x=H.set m x++l:=List.set_append_left _ _ h


theorem q5M (ks:List Nat) : ∀ (E:Heap) (j:Nat),(∀ b,b∈E→∃ n els fam,b=Blk.row n els false true fam)→q1c ks E j=[]
 | [],_,_=>rfl
 | b::E,j,h=>by
  obtain ⟨n,els,fam,rfl⟩:=h b (by simp)
  unfold q1c
  exact q5M ks E (j+1) fun b hb=>h b (by simp [hb])
theorem Flat.mem {H:Heap} (h:Flat H) : ∀ b,b∈H→∃ n els fam,b=Blk.row n els false true fam:=fun b hb=>by
 obtain ⟨j,hj⟩:=Vp hb
 obtain ⟨n,els,rfl⟩:=h j b hj
 exact ⟨n,els,j,rfl⟩
theorem qcr {H:Heap} {f:Nat→Option Nat} {g:Nat→Nat} {m:Nat} (hg : ∀ j,j<m→g j=j) : ∀ (H:Heap) (i:Nat),(∀ j b,H[j]?=some b→∃ n els,b=Blk.row n els false true (i+j))→i+H.length≤m→H.map (Blk.ren f g)=H
 | [],_,_,_=>rfl
 | b::H,i,h,hm=>by
  have ih:=qcr (H:=H) (f:=f) hg H (i+1) (fun j b hj=>by
   obtain ⟨n,els,e⟩:=h (j+1) b (by simpa using hj)
   exact ⟨n,els,by rw[e]; congr 1; omega⟩) (by simp at hm; omega)
  obtain ⟨n,els,rfl⟩:=h 0 b (by simp)
  rw[Kd,ih]
  simp only[Blk.ren,if_true,Vs]
  rw[hg i (by simp at hm; omega)]

theorem q9V (H:Heap) (base:Nat) : ∀ (k:Nat) (todo seen:List Nat),(∀ r,r∈todo→r<base)→q1M H base k todo seen=seen
 | 0,_,_,_=>rfl
 | _+1,[],_,_=>rfl
 | k+1,r::todo,seen,h=>by
  unfold q1M
  rw[if_pos (h r (by simp))]
  exact q9V H base k todo seen fun x hx=>h x (by simp [hx])

theorem q3o {live:List Nat} {tm:List AV} {H E:Heap} {rb m:Nat} (hm:m=H.length) (hF:Flat (H++E)) {L:List AV} (hL:q0l live 0 tm=L) (hr : ∀ r,r∈L.flatMap (AV.refsN 6)→r<m) (hi:L.map (AV.renN (q0V m []) 6)=L) :
  St.norm live ⟨tm,H++E,m,rb⟩=⟨L,H,m,0⟩:=by
 subst hm
 unfold St.norm St.normTm
 rw[hL]
 have h1:((H++E).take H.length)=H:=by simp
 have h2:((H++E).drop H.length)=E:=by simp
 simp only[h1]
 rw[hF.left.refs,Kj,q9V _ _ _ _ _ hr]
 unfold St.normBy
 simp only[h1,h2,Kl,Kj]
 rw[q5M [] E _ fun b hb=>hF.mem b (by simp [hb])]
 have hc:q1f (q0V H.length []) H=true:=by
  unfold q1f
  rw[Kp]
  intro b hb
  obtain ⟨n,els,fam,rfl⟩:=hF.left.mem b hb
  rfl
 simp only[hc,q6U,q3i,V7,q4l]
 rw[hi,qcr (m:=H.length) (H:=H) (fun j hj=>by unfold q2K; rw[if_pos hj]) H 0 (fun j b hj=>by rw[KS]; exact hF.left j b hj) (by omega)]

theorem q34 {live:List Nat} {tm:List AV} {H E:Heap} {rb m n:Nat} {els:List AV} (hm:m=H.length) (hF:Flat (H ++ .row n els false true m::E)) {L:List AV} (hL:q0l live 0 tm=L)
  (hr:q1M (H ++ .row n els false true m::E) m 4000 (L.flatMap (AV.refsN 6)) []=[m]) (hi:L.map (AV.renN (q0V m [m]) 6)=L) :
  St.norm live ⟨tm,H ++ .row n els false true m::E,m,rb⟩=⟨L,H++[.row n els false true m],m,0⟩:=by
 subst hm
 unfold St.norm St.normTm
 rw[hL]
 have h1:((H ++ .row n els false true H.length::E).take H.length)=H:=by simp
 have h2:((H ++ .row n els false true H.length::E).drop H.length) = .row n els false true H.length::E:=by simp
 have hFl:Flat H:=hF.left
 simp only[h1]
 rw[hFl.refs,Kj,hr]
 unfold St.normBy
 have h3:(H ++ .row n els false true H.length::E).getD H.length .gone = .row n els false true H.length:=by
  rw[Ko,q1S rfl]
  rfl
 simp only[h1,h2,Kd,Kl,h3]
 rw[q5M [H.length] (.row n els false true H.length::E) _ fun b hb=>hF.mem b (by simp at hb ⊢; exact .inr hb)]
 have hF1:=hFl.push n els
 have hc:q1f (q0V H.length [H.length]) (H++[.row n els false true H.length])=true:=by
  unfold q1f
  rw[Kp]
  intro b hb
  obtain ⟨n,els,fam,rfl⟩:=hF1.mem b hb
  rfl
 simp only[hc,q6U,q3i,V7,q4l]
 have hg : ∀ j,j<H.length+1→q2K (H++Blk.row n els false true H.length::E) H.length [H.length] j=j:=fun j hj=>by
  unfold q2K
  by_cases hlt:j<H.length
  ·rw[if_pos hlt]
  ·rw[if_neg hlt]
   have:j=H.length:=by omega
   subst this
   rw[List.findIdx_cons,h3]
   simp [Blk.famOf]
 have hren:=qcr (m:=H.length+1) (H:=H) (f:=q0V H.length [H.length]) hg (H++[Blk.row n els false true H.length]) 0 (fun j b hj=>by rw[KS]; exact hF1 j b hj) (by simp)
 rw[hi,hren]
end Ago
set_option maxRecDepth 100000
set_option maxHeartbeats 4000000
namespace Ago
open Go (IntKind)
attribute [go_sem] Ka q0o
end Ago
set_option maxRecDepth 100000
set_option maxHeartbeats 4000000
namespace Ago
open Go (IntKind)
end Ago
