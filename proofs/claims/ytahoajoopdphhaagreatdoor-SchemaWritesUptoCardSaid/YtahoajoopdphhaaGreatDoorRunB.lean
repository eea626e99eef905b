/- The form of a node of a schema,on both sides. -/
import Derived.Test.YtahoajoopdphhaaGreatDoorRunG
import Derived.Test.YtahoajoopdphhaaGreatDoorRunF
set_option linter.unusedSimpArgs false
set_option linter.unusedVariables false
set_option maxRecDepth 100000
set_option maxHeartbeats 8000000
namespace Ago
open Go (IntKind)
def q2f (x:Sch):Bool:=decide ((x.s.op=3∨x.s.mask=0)∧(x.s.op=5∨x.s.op=9∨x.s.min=0∧x.s.max=0)∧(x.s.op=4∨x.s.parts.length=0) ∧
 (x.s.op=8∨x.s.vals.length=0)∧(x.s.op=10∨x.p.length=0)∧((x.s.op=9∨x.s.op=10∨x.s.op=13)∧x.a.length=1∨(x.s.op=11∨x.s.op=12)∧1≤x.a.length∨¬ (9≤x.s.op∧x.s.op≤13)∧x.a.length=0)) &&
 (decide (x.s.op=7∨x.s.op=14) || x.s.name == []) && (decide (x.s.op=6) || q2p x.s.pat)
def q4A (x:Sch):Bool:=decide (0≤x.s.min∧x.s.min≤65536∧(x.s.max = -1∨x.s.min≤x.s.max∧x.s.max≤65536))
def q6m (v:V):Bool:=decide (v.s.kind<6) && decide (q42 v=0)
def q5A (k:List UInt8):Bool:=utf k && decide (k.length≤1024)
def q18 (x:Sch):Bool:=decide (1≤x.s.op∧x.s.op≤14) && q2f x &&
 (if x.s.op=3 then decide (0≤x.s.mask∧x.s.mask≤255) else if x.s.op=4 then qiv x.s.parts else if x.s.op=5 then q4A x else if x.s.op=6 then q7e x.s.pat
 else if x.s.op=8 then x.s.vals.all q6m && decide (x.s.vals.length≤256) else if x.s.op=9 then q4A x else if x.s.op=10 then x.p.all fun p=>q5A p.1.key else true)
theorem quv (n:Int):n=1∨n=2∨n=3∨n=4∨n=5∨n=6∨n=7∨n=8∨n=9∨n=10∨n=11∨n=12∨n=13∨n=14∨(n<1∨14<n):=by omega
def q2Z (op mask mn mx:Int) (name:List UInt8) (parts:List AV) (po pl ph pm px:Int) (pa vals props args:List AV):Bool:=
 decide (op=0∧mask=0∧mn=0∧mx=0∧parts.length=0∧vals.length=0∧props.length=0∧args.length=0∧po=0∧pl=0∧ph=0∧pm=0∧px=0∧pa.length=0) && name == []
theorem q4u (op mask mn mx:Int) (name:List UInt8) (parts:List AV) (po pl ph pm px:Int) (pa vals props args:List AV) (h1:parts.length<2^30) (h2:pa.length<2^30) (h3:vals.length<2^30) (h4:props.length<2^30) (h5:args.length<2^30) :
  q0m CS 597 [.agg [.int .i64 op,.int .i64 mask,.int .i64 mn,.int .i64 mx,.str name,.tsl 11 parts,.int .i64 po,.int .i64 pl,.int .i64 ph,.int .i64 pm,.int .i64 px,.tsl 6 pa,.tsl 13 vals,.tsl 17 props,.tsl 15 args]] (.bool (q2Z op mask mn mx name parts po pl ph pm px pa vals props args)):=by
 refine q05 qjT rfl ?_
 unfold q2Z
 cases hnb:name == []
 ·rw[Wa]
  (repeat' first|simp (disch:=omega) only[go_sem,qjT,enter,hnb]|(apply spl<;>intro h<;>try simp (disch:=omega) only[go_sem,h]))
  all_goals rfl
 ·rw[Bool.and_true]
  (repeat' first|simp (disch:=omega) only[go_sem,qjT,enter,hnb]|(apply spl<;>intro h<;>try simp (disch:=omega) only[go_sem,h]))
  all_goals first
   | exact qi2 (by omega)
   | exact qhE (by omega)
   | exact qcX (by omega)
   | exact qiN (by omega)
   | exact qbz (by omega)
   | exact qi7 (by omega)
   | skip
theorem qoS {b:Bool} (h : ¬ b=true):some (AV.bool false)=some (AV.bool b):=by
 cases b
 ·rfl
 ·exact (h rfl).elim
theorem qov {b:Bool} (h:b=true):some (AV.bool true)=some (AV.bool b):=by rw[h]
theorem qlc {b:Bool} {P:Prop} [Decidable P] (h:P↔b=true):some (AV.bool (decide P))=some (AV.bool b):=by
 by_cases p:P
 ·rw[h.1 p,decide_eq_true p]
 ·have : ¬ b=true:=fun e=>p (h.2 e)
  simp [p,this]
theorem qoy {b:Bool} {x y:Int} (h:x=y↔b=true):some (AV.bool (x == y))=some (AV.bool b):=by
 rw[q88]
 exact qlc h
theorem qj1 (x:Sch) (hx:x.bulk≤2^24):q0m CS 599 [q06 x] (.bool (q2f x)):=by
 have L:=Sch.lens hx
 have l1:=L.parts
 have l2:=L.vals
 have l3:=L.props
 have l4:=L.args
 have hp:=qb8 x.s.pat (by have:=L.pat; omega)
 obtain ⟨nb,hnb⟩ : ∃ b,(x.s.name == ([]:List UInt8))=b:=⟨_,rfl⟩
 obtain ⟨pb,hpn⟩ : ∃ b,q2p x.s.pat=b:=⟨_,rfl⟩
 refine q05 qlU rfl ?_
 rw[q02]
 rw[q0e,hpn] at hp
 (repeat' first|simp (disch:=omega) only[go_sem,qlU,enter,Ka,hnb]|refine q00 _ (hp) ?_|(apply spl<;>intro h<;>try simp (disch:=omega) only[go_sem,h]))
 all_goals
  cases nb<;>cases pb<;>first
   | contradiction
   | rfl
   | omega
   | (
    (first | refine qoS ?_ | refine qov ?_ | refine qlc ?_ | refine qoy ?_)
    simp only[q2f,hnb,hpn,Kk,K6,decide_eq_true_eq,Km,or_false,and_true,and_false,or_true]
    omega)
   | (
    (first | refine qoS ?_ | refine qov ?_ | refine qlc ?_ | refine qoy ?_)
    simp only[q2f,hnb,hpn,Kk,K6,decide_eq_true_eq,Km,or_false,and_true,and_false,or_true,not_false_eq_true]
    done)
   | skip
theorem qhO (x:Sch):q0m CS 601 [q06 x,.int .i64 65536] (.bool (q4A x)):=by
 refine q05 qof rfl ?_
 rw[q02]
 unfold q4A
 (repeat' first|simp (disch:=omega) only[go_sem,qof,enter]|(apply spl<;>intro h<;>try simp (disch:=omega) only[go_sem,h]))
 all_goals first
  | exact qi2 (by omega)
  | exact qhE (by omega)
  | exact qcX (by omega)
  | exact qiN (by omega)
  | exact qbz (by omega)
  | exact qi7 (by omega)
  | skip
theorem qjn (v:V):q0m CS 602 [q0g v] (.bool (decide (v.s.kind<6))):=by
 refine q05 qmU rfl ?_
 rw[q07]
 (repeat' first|simp (disch:=omega) only[go_sem,qmU,enter])
theorem qjq (k:List UInt8) (hk:k.length<2^30):q0m CS 603 [.str k] (.bool (q5A k)):=by
 have hu:=upS (qcS k hk)
 refine q05 qkR rfl ?_
 unfold q5A
 cases hb:utf k<;>rw[hb] at hu
 ·(repeat' first|simp (disch:=omega) only[go_sem,qkR,enter]|refine q00 _ (hu) ?_|(apply spl<;>intro h<;>try simp (disch:=omega) only[go_sem,h]))
  all_goals first | rfl | (simp; done) | omega | skip
 ·(repeat' first|simp (disch:=omega) only[go_sem,qkR,enter]|refine q00 _ (hu) ?_|(apply spl<;>intro h<;>try simp (disch:=omega) only[go_sem,h]))
  all_goals first | rfl | (simp; omega) | omega | skip
def fmtNames:List (List UInt8):=[[98,97,115,101,54,52],[100,97,116,101],[100,97,116,101,116,105,109,101],[104,101,120],[105,110,115,116,97,110,116],[105,110,116,101,103,101,114],[105,112,118,52],[110,97,109,101],[110,117,109,98,101,114],[112,97,116,104],[116,105,109,101],[117,117,105,100]]
def q3f (s:List UInt8):Bool:=fmtNames.any fun x=>x == s
theorem qms:q0m CS 624 [] (.tsl 1 (fmtNames.map .str)):=by
 refine q05 qn5 rfl ?_
 (repeat' first|simp (disch:=omega) only[go_sem,qn5,enter,fmtNames])
theorem q3j {α:Type} {s:List α} {k:Nat} {c:α} {p:α→Bool} (hc:s[k]?=some c) (h:(s.take k).any p=false) (hp:p c=false):(s.take (k+1)).any p=false:=by
 rw[KD,hc]
 simp [h,hp]
theorem qeq {α:Type} {s:List α} {k:Nat} {c:α} {p:α→Bool} (hc:s[k]?=some c) (hp:p c=true):s.any p=true:=List.any_eq_true.2 ⟨c,Kc hc,hp⟩
theorem qj8 (s:List UInt8) : ∃ n:Int,q0m CS 598 [.str s] (.int .i64 n)∧(n<12↔q3f s=true):=by
 have hn:=qms
 have h:=q4I (C:=CS) (f:=598) (ts:=[.str s]) (k:=fun w=>∃ n:Int,w = .int .i64 n∧(n<12↔q3f s=true)) qmo rfl (by
  have hl:(fmtNames.map AV.str).length=12:=rfl
  (repeat' first|simp (disch:=omega) only[go_sem,qmo,enter,hl]|refine q00 _ (hn) ?_|(apply spl<;>intro h<;>try simp (disch:=omega) only[go_sem,h]))
  refine q0a (α:=Nat) (fun k=>{ tmps:=q0i 17 [(0,.str s),(5,.tsl 1 (fmtNames.map .str)),(6,.int .i64 12),(7,.int .i64 k)],heap:=[],base:=0 }) (fun k=>k≤12∧(fmtNames.take k).any (fun x=>x == s)=false) (fun k=>12-k) 0 rfl ⟨Kn _,rfl⟩ ?_
  rintro k ⟨hk,ha⟩
  by_cases hlt:k<12
  ·obtain ⟨y,hy⟩ : ∃ y,fmtNames[k]?=some y:=q08 hlt
   have hy2:=q0d (g:=AV.str) hy
   cases hb:y == s with
   | true=>
    have hkn:q3f s=true:=qeq hy hb
    (repeat' first|simp (disch:=omega) only[go_sem,hy2,hb]|(apply spl<;>intro h<;>try simp (disch:=omega) only[go_sem,h]))
    exact ⟨_,rfl,fun _=>hkn,fun _=>by omega⟩
   | false=>
    (repeat' first|simp (disch:=omega) only[go_sem,hy2,hb]|(apply spl<;>intro h<;>try simp (disch:=omega) only[go_sem,h]))
    all_goals try omega
    exact ⟨k+1,rfl,⟨by omega,q3j hy ha hb⟩,by omega⟩
  ·have hk2:k=12:=by omega
   subst hk2
   have hkn:q3f s=false:=ha
   (repeat' first|simp (disch:=omega) only[go_sem,hl]|(apply spl<;>intro h<;>try simp (disch:=omega) only[go_sem,h]))
   exact ⟨12,rfl,by simp [hkn]⟩)
 obtain ⟨w,h1,n,rfl,h2⟩:=h
 exact ⟨n,h1,h2⟩
theorem qlv (s:List UInt8):q0m CS 563 [.str s] (.bool (q3f s)):=by
 obtain ⟨n,h1,h2⟩:=qj8 s
 refine q05 qmx rfl ?_
 (repeat' first|simp (disch:=omega) only[go_sem,qmx,enter]|refine q00 _ (h1) ?_|(apply spl<;>intro h<;>try simp (disch:=omega) only[go_sem,h]))
 all_goals (cases hb:q3f s<;>simp [hb] at h2 ⊢<;>omega)
theorem qlw (s:List UInt8) : ∃ t,q0m CS 604 [.str s] (.str t)∧(t == ([]:List UInt8)) = !q3f s:=by
 have h:=q4I (C:=CS) (f:=604) (ts:=[.str s]) (k:=fun w=>∃ t,w = .str t∧(t == ([]:List UInt8)) = !q3f s) qlX rfl (by
  (repeat' first|simp (disch:=omega) only[go_sem,qlX,enter]|(apply spl<;>intro h<;>try simp (disch:=omega) only[go_sem,h]))
  all_goals (refine ⟨_,rfl,?_⟩; simp_all [q3f,fmtNames])
  all_goals ((repeat' (refine And.intro ?_ ?_))<;>(intro e; exact absurd e.symm (by assumption))))
 obtain ⟨w,h1,t,rfl,h2⟩:=h
 exact ⟨t,h1,h2⟩
theorem qed (s:List UInt8):q0m CS 565 [.str s] (.bool (q3f s)):=by
 obtain ⟨t,h1,h2⟩:=qlw s
 refine q05 qlY rfl ?_
 (repeat' first|simp (disch:=omega) only[go_sem,qlY,enter,h2,Bool.not_not]|refine q00 _ (h1) ?_)
end Ago
set_option maxRecDepth 100000
set_option maxHeartbeats 8000000
namespace Ago
open Go (IntKind)
theorem Sch.slim {x:Sch} (hx:x.bulk≤2^24):qpA x.s.parts:=by
 have L:=Sch.lens (N:=2^24) hx
 exact ⟨L.parts,fun p hp=>by have:=L.part p hp; omega⟩
theorem qfa (x:Sch) (hx:x.bulk≤2^24):q0m CS 564 [q06 x] (.bool (q18 x)):=by
 have L:=Sch.lens hx
 have l1:=L.parts
 have l2:=L.vals
 have l3:=L.props
 have l4:=L.args
 have hpb:=L.pat
 have hu:=qj1 x hx
 have hs:=qqg x.s.parts (Sch.slim hx)
 have hbd:=qhO x
 have hpv:=q5S x.s.pat (by omega)
 refine q05 qf1 rfl ?_
 unfold qhH at hs
 rw[q0e] at hpv
 cases hbl:q2f x
 ·rw[hbl] at hu
  have hf:q18 x=false:=by unfold q18; rw[hbl,Wa,VL]
  rw[hf]
  rw[q02] at hu ⊢
  (repeat' first|simp (disch:=omega) only[go_sem,qf1,enter,Ka]|refine q00 _ (hu) ?_|(apply spl<;>intro h<;>try simp (disch:=omega) only[go_sem,h]))
 rw[hbl] at hu
 rcases quv x.s.op with hop | hop | hop | hop | hop | hop | hop | hop | hop | hop | hop | hop | hop | hop | hop
 case inr.inr.inr.inr.inr.inr.inr.inl=>
  have hfm:q18 x=(x.s.vals.all q6m && decide (x.s.vals.length≤256)):=by simp [q18,hbl,hop]
  rw[hfm]
  rw[q02] at hu ⊢
  rw[hop] at hu ⊢
  (repeat' first|simp (disch:=omega) only[go_sem,qf1,enter,Ka]|refine q00 _ (hu) ?_|(apply spl<;>intro h<;>try simp (disch:=omega) only[go_sem,h]))
  refine q0a (α:=Nat) (fun k=>{ tmps:=q0i 94 [(1,.ptr 15 0 0 0),(3,.int .i64 k)],heap:=[.row 15 [q06 x] false true 0],base:=0 }) (fun k=>k≤x.s.vals.length∧(x.s.vals.take k).all q6m=true) (fun k=>x.s.vals.length-k) 0 (by rw[q02,hop]; rfl) ⟨Kn _,rfl⟩ ?_
  rintro k ⟨hk,ha⟩
  rw[q02,hop]
  by_cases hlt:k<x.s.vals.length
  ·obtain ⟨y,hy⟩:=q08 hlt
   have hym:=Kc hy
   have hy2:=q0d (g:=q0g) hy
   have r1:=qjn y
   have r2:=upS (qdu y (by have:=L.val y hym; omega))
   rw[q07] at hy2 r1 r2
   by_cases hsc:q6m y=true
   ·have hsc2:=hsc
    simp only[q6m,Kk,decide_eq_true_eq] at hsc2
    obtain ⟨c1,c2⟩:=hsc2
    rw[decide_eq_true c1] at r1
    rw[c2] at r2
    (repeat' first|simp (disch:=omega) only[go_sem,hy2,Ka]|refine q00 _ (r1) ?_|refine q00 _ (r2) ?_|(apply spl<;>intro h<;>try simp (disch:=omega) only[go_sem,h]))
    all_goals try omega
    refine ⟨k+1,?_,⟨hlt,q0C hy ha hsc⟩,by omega⟩
    first | rfl | (rw[q02 x,hop]; rfl)
   ·have hn:x.s.vals.all q6m=false:=q4y hy (by simpa using hsc)
    rw[hn,VL]
    by_cases c1:y.s.kind<6
    ·have c2 : ¬ q42 y=0:=fun c2=>hsc (by simp [q6m,c1,c2])
     rw[decide_eq_true c1] at r1
     (repeat' first|simp (disch:=omega) only[go_sem,hy2,Ka]|refine q00 _ (r1) ?_|refine q00 _ (r2) ?_|(apply spl<;>intro h<;>try simp (disch:=omega) only[go_sem,h]))
     all_goals first | omega | (exact (c2 (by assumption)).elim) | skip
    ·rw[decide_eq_false c1] at r1
     (repeat' first|simp (disch:=omega) only[go_sem,hy2,Ka]|refine q00 _ (r1) ?_|refine q00 _ (r2) ?_|(apply spl<;>intro h<;>try simp (disch:=omega) only[go_sem,h]))
     all_goals omega
  ·rw[q0M hlt hk] at ha
   rw[ha,Vt]
   (repeat' first|simp (disch:=omega) only[go_sem,Ka]|(apply spl<;>intro h<;>try simp (disch:=omega) only[go_sem,h]))
   all_goals first | rfl | (exact qcX (by omega)) | skip
 case inr.inr.inr.inr.inr.inr.inr.inr.inr.inl=>
  have hfm:q18 x=x.p.all fun p=>q5A p.1.key:=by simp [q18,hbl,hop]
  rw[hfm]
  rw[q02] at hu ⊢
  rw[hop] at hu ⊢
  (repeat' first|simp (disch:=omega) only[go_sem,qf1,enter,Ka]|refine q00 _ (hu) ?_|(apply spl<;>intro h<;>try simp (disch:=omega) only[go_sem,h]))
  refine q0a (α:=Nat) (fun k=>{ tmps:=q0i 94 [(1,.ptr 15 0 0 0),(4,.int .i64 k)],heap:=[.row 15 [q06 x] false true 0],base:=0 }) (fun k=>k≤x.p.length∧(x.p.take k).all (fun p=>q5A p.1.key)=true) (fun k=>x.p.length-k) 0 (by rw[q02,hop]; rfl) ⟨Kn _,rfl⟩ ?_
  rintro k ⟨hk,ha⟩
  rw[q02,hop]
  by_cases hlt:k<x.p.length
  ·obtain ⟨y,hy⟩:=q08 hlt
   have hym:=Kc hy
   have hy2:=q0d (g:=q1k) hy
   have r1:=qjq y.1.key (by have:=(L.pkids y hym).2; omega)
   rw[q2g] at hy2
   cases hb:q5A y.1.key with
   | true=>
    rw[hb] at r1
    (repeat' first|simp (disch:=omega) only[go_sem,hy2,Ka]|refine q00 _ (r1) ?_|(apply spl<;>intro h<;>try simp (disch:=omega) only[go_sem,h]))
    all_goals try omega
    refine ⟨k+1,?_,⟨hlt,q0C hy ha hb⟩,by omega⟩
    first | rfl | (rw[q02 x,hop]; rfl)
   | false=>
    rw[hb] at r1
    have hn:(x.p.all fun p=>q5A p.1.key)=false:=q4y hy hb
    rw[hn]
    (repeat' first|simp (disch:=omega) only[go_sem,hy2,Ka]|refine q00 _ (r1) ?_|(apply spl<;>intro h<;>try simp (disch:=omega) only[go_sem,h]))
    all_goals omega
  ·rw[q0M hlt hk] at ha
   rw[ha]
   (repeat' first|simp (disch:=omega) only[go_sem,Ka]|(apply spl<;>intro h<;>try simp (disch:=omega) only[go_sem,h]))
 all_goals
  rw[q02] at hu hbd ⊢
  try rw[hop] at hu hbd ⊢
  (repeat' first|simp (disch:=omega) only[go_sem,qf1,enter,Ka]|refine q00 _ (hu) ?_|refine q00 _ (hs) ?_|refine q00 _ (hbd) ?_|refine q00 _ (hpv) ?_|(apply spl<;>intro h<;>try simp (disch:=omega) only[go_sem,h]))
  all_goals first
   | rfl
   | omega
   | (simp only[q18,hbl,hop,Int.reduceEq,Int.reduceLE,if_true,if_false,and_self,decide_true,Vt,Bool.and_true]; done)
   | (simp [q18,hbl,hop]; done)
   | (simp [q18,hbl,hop]; omega)
   | skip
theorem qns (x:Sch) (hx:x.bulk≤2^24):q0m CS 562 [q06 x] (.bool (q18 x)):=by
 have L:=Sch.lens hx
 have l1:=L.parts
 have l2:=L.vals
 have l3:=L.props
 have l4:=L.args
 have hpb:=L.pat
 have hpa:=(Pat.lens (p:=x.s.pat) (N:=2^24) (by omega)).args
 have hs:=qnS x.s.parts (Sch.slim hx)
 have hpv:=q8V x.s.pat (by omega)
 have lo1:(x.s.parts.map q0p).length<2^30:=by rw[Ka]; omega
 have lo2:(x.s.pat.a.map q04).length<2^30:=by rw[Ka]; omega
 have lo3:(x.s.vals.map q0g).length<2^30:=by rw[Ka]; omega
 have lo4:(x.p.map q1k).length<2^30:=by rw[Ka]; omega
 have lo5:(x.a.map q06).length<2^30:=by rw[Ka]; omega
 have lo6:([]:List AV).length<2^30:=by simp
 refine q05 qb1 rfl ?_
 unfold qhH at hs
 rw[q0e] at hpv
 have hfact:True:=trivial
 rcases quv x.s.op with hop | hop | hop | hop | hop | hop | hop | hop | hop | hop | hop | hop | hop | hop | hop
 case inr.inr.inr.inl=>
  rw[q02]
  rw[hop]
  cases hfact:qiv x.s.parts<;>rw[hfact] at hs
  ·(repeat' first|simp (disch:=omega) only[go_sem,qb1,enter,Ka]|refine q00 _ (hs) ?_|refine q00 _ ((q4u _ _ _ _ _ _ _ _ _ _ _ _ _ _ _ (by assumption) (by assumption) (by assumption) (by assumption) (by assumption))) ?_|(apply spl<;>intro h<;>try simp (disch:=omega) only[go_sem,h]))
   all_goals
    first
     | rfl
     | omega
     | (
      cases hnb:x.s.name == []<;>first
       | (
        refine congrArg (fun b=>some (AV.bool b)) (Vd.2 ?_)
        simp only[q18,q2f,q2p,q2Z,q4A,hfact,hnb,Ka,List.length_nil,beq_self_eq_true,Kk,K6,decide_eq_true_eq,hop,Int.reduceEq,Int.reduceLE,if_true,if_false,Km,Vb,true_iff,false_iff,iff_false,iff_true,and_true,true_and,or_true,true_or,false_or,or_false,and_false,false_and,not_true_eq_false,not_false_eq_true]
        omega)
       | (
        refine congrArg (fun b=>some (AV.bool b)) (Vd.2 ?_)
        simp only[q18,q2f,q2p,q2Z,q4A,hfact,hnb,Ka,List.length_nil,beq_self_eq_true,Kk,K6,decide_eq_true_eq,hop,Int.reduceEq,Int.reduceLE,if_true,if_false,Km,Vb,true_iff,false_iff,iff_false,iff_true,and_true,true_and,or_true,true_or,false_or,or_false,and_false,false_and,not_true_eq_false,not_false_eq_true]
        done))
     | skip
  ·(repeat' first|simp (disch:=omega) only[go_sem,qb1,enter,Ka]|refine q00 _ (hs) ?_|refine q00 _ ((q4u _ _ _ _ _ _ _ _ _ _ _ _ _ _ _ (by assumption) (by assumption) (by assumption) (by assumption) (by assumption))) ?_|(apply spl<;>intro h<;>try simp (disch:=omega) only[go_sem,h]))
   all_goals
    first
     | rfl
     | omega
     | (
      cases hnb:x.s.name == []<;>first
       | (
        refine congrArg (fun b=>some (AV.bool b)) (Vd.2 ?_)
        simp only[q18,q2f,q2p,q2Z,q4A,hfact,hnb,Ka,List.length_nil,beq_self_eq_true,Kk,K6,decide_eq_true_eq,hop,Int.reduceEq,Int.reduceLE,if_true,if_false,Km,Vb,true_iff,false_iff,iff_false,iff_true,and_true,true_and,or_true,true_or,false_or,or_false,and_false,false_and,not_true_eq_false,not_false_eq_true]
        omega)
       | (
        refine congrArg (fun b=>some (AV.bool b)) (Vd.2 ?_)
        simp only[q18,q2f,q2p,q2Z,q4A,hfact,hnb,Ka,List.length_nil,beq_self_eq_true,Kk,K6,decide_eq_true_eq,hop,Int.reduceEq,Int.reduceLE,if_true,if_false,Km,Vb,true_iff,false_iff,iff_false,iff_true,and_true,true_and,or_true,true_or,false_or,or_false,and_false,false_and,not_true_eq_false,not_false_eq_true]
        done))
     | skip
 case inr.inr.inr.inr.inr.inl=>
  rw[q02]
  rw[hop]
  cases hfact:q7e x.s.pat<;>rw[hfact] at hpv
  ·(repeat' first|simp (disch:=omega) only[go_sem,qb1,enter,Ka]|refine q00 _ (hpv) ?_|refine q00 _ ((q4u _ _ _ _ _ _ _ _ _ _ _ _ _ _ _ (by assumption) (by assumption) (by assumption) (by assumption) (by assumption))) ?_|(apply spl<;>intro h<;>try simp (disch:=omega) only[go_sem,h]))
   all_goals
    first
     | rfl
     | omega
     | (
      cases hnb:x.s.name == []<;>first
       | (
        refine congrArg (fun b=>some (AV.bool b)) (Vd.2 ?_)
        simp only[q18,q2f,q2p,q2Z,q4A,hfact,hnb,Ka,List.length_nil,beq_self_eq_true,Kk,K6,decide_eq_true_eq,hop,Int.reduceEq,Int.reduceLE,if_true,if_false,Km,Vb,true_iff,false_iff,iff_false,iff_true,and_true,true_and,or_true,true_or,false_or,or_false,and_false,false_and,not_true_eq_false,not_false_eq_true]
        omega)
       | (
        refine congrArg (fun b=>some (AV.bool b)) (Vd.2 ?_)
        simp only[q18,q2f,q2p,q2Z,q4A,hfact,hnb,Ka,List.length_nil,beq_self_eq_true,Kk,K6,decide_eq_true_eq,hop,Int.reduceEq,Int.reduceLE,if_true,if_false,Km,Vb,true_iff,false_iff,iff_false,iff_true,and_true,true_and,or_true,true_or,false_or,or_false,and_false,false_and,not_true_eq_false,not_false_eq_true]
        done))
     | skip
  ·(repeat' first|simp (disch:=omega) only[go_sem,qb1,enter,Ka]|refine q00 _ (hpv) ?_|refine q00 _ ((q4u _ _ _ _ _ _ _ _ _ _ _ _ _ _ _ (by assumption) (by assumption) (by assumption) (by assumption) (by assumption))) ?_|(apply spl<;>intro h<;>try simp (disch:=omega) only[go_sem,h]))
   all_goals
    first
     | rfl
     | omega
     | (
      cases hnb:x.s.name == []<;>first
       | (
        refine congrArg (fun b=>some (AV.bool b)) (Vd.2 ?_)
        simp only[q18,q2f,q2p,q2Z,q4A,hfact,hnb,Ka,List.length_nil,beq_self_eq_true,Kk,K6,decide_eq_true_eq,hop,Int.reduceEq,Int.reduceLE,if_true,if_false,Km,Vb,true_iff,false_iff,iff_false,iff_true,and_true,true_and,or_true,true_or,false_or,or_false,and_false,false_and,not_true_eq_false,not_false_eq_true]
        omega)
       | (
        refine congrArg (fun b=>some (AV.bool b)) (Vd.2 ?_)
        simp only[q18,q2f,q2p,q2Z,q4A,hfact,hnb,Ka,List.length_nil,beq_self_eq_true,Kk,K6,decide_eq_true_eq,hop,Int.reduceEq,Int.reduceLE,if_true,if_false,Km,Vb,true_iff,false_iff,iff_false,iff_true,and_true,true_and,or_true,true_or,false_or,or_false,and_false,false_and,not_true_eq_false,not_false_eq_true]
        done))
     | skip
 case inr.inr.inr.inr.inr.inr.inr.inl=>
  rw[q02]
  rw[hop]
  (repeat' first|simp (disch:=omega) only[go_sem,qb1,enter,Ka]|(apply spl<;>intro h<;>try simp (disch:=omega) only[go_sem,h]))
  all_goals
   first
    | rfl
    | omega
    | (
     cases hnb:x.s.name == []<;>first
      | (
       refine congrArg (fun b=>some (AV.bool b)) (Vd.2 ?_)
       simp only[q18,q2f,q2p,q2Z,q4A,hfact,hnb,Ka,List.length_nil,beq_self_eq_true,Kk,K6,decide_eq_true_eq,hop,Int.reduceEq,Int.reduceLE,if_true,if_false,Km,Vb,true_iff,false_iff,iff_false,iff_true,and_true,true_and,or_true,true_or,false_or,or_false,and_false,false_and,not_true_eq_false,not_false_eq_true]
       omega)
      | (
       refine congrArg (fun b=>some (AV.bool b)) (Vd.2 ?_)
       simp only[q18,q2f,q2p,q2Z,q4A,hfact,hnb,Ka,List.length_nil,beq_self_eq_true,Kk,K6,decide_eq_true_eq,hop,Int.reduceEq,Int.reduceLE,if_true,if_false,Km,Vb,true_iff,false_iff,iff_false,iff_true,and_true,true_and,or_true,true_or,false_or,or_false,and_false,false_and,not_true_eq_false,not_false_eq_true]
       done))
    | skip
  refine q0a (α:=Nat) (fun k=>{ tmps:=q0i 165 [(3,.ptr 15 0 0 0),(102,.tsl 13 (x.s.vals.map q0g)),(103,.int .i64 x.s.vals.length),(104,.int .i64 k)],heap:=[.row 15 [.agg [.int .i64 0,.int .i64 x.s.mask,.int .i64 x.s.min,.int .i64 x.s.max,.str x.s.name,.tsl 11 (x.s.parts.map q0p),.int .i64 x.s.pat.s.op,.int .i64 x.s.pat.s.lo,.int .i64 x.s.pat.s.hi,.int .i64 x.s.pat.s.min,.int .i64 x.s.pat.s.max,.tsl 6 (x.s.pat.a.map q04),.snil 13,.tsl 17 (x.p.map q1k),.tsl 15 (x.a.map q06)]] false true 0],base:=0 }) (fun k=>k≤x.s.vals.length∧(x.s.vals.take k).all q6m=true) (fun k=>x.s.vals.length-k) 0 rfl ⟨Kn _,rfl⟩ ?_
  rintro k ⟨hk,ha⟩
  by_cases hlt:k<x.s.vals.length
  ·obtain ⟨y,hy⟩:=q08 hlt
   have hym:=Kc hy
   have hy2:=q0d (g:=q0g) hy
   have r2:=upS (qbq y (by have:=L.val y hym; omega))
   rw[q07] at hy2 r2
   by_cases hsc:q6m y=true
   ·have hsc2:=hsc
    simp only[q6m,Kk,decide_eq_true_eq] at hsc2
    obtain ⟨c1,c2⟩:=hsc2
    rw[c2] at r2
    (repeat' first|simp (disch:=omega) only[go_sem,hy2,Ka]|refine q00 _ (r2) ?_|(apply spl<;>intro h<;>try simp (disch:=omega) only[go_sem,h]))
    all_goals try omega
    exact ⟨k+1,rfl,⟨hlt,q0C hy ha hsc⟩,by omega⟩
   ·have hn:x.s.vals.all q6m=false:=q4y hy (by simpa using hsc)
    have hfm:q18 x=false:=by simp [q18,hop,hn]
    rw[hfm]
    by_cases c1:y.s.kind<6
    ·have c2 : ¬ q42 y=0:=fun c2=>hsc (by simp [q6m,c1,c2])
     (repeat' first|simp (disch:=omega) only[go_sem,hy2,Ka]|refine q00 _ (r2) ?_|(apply spl<;>intro h<;>try simp (disch:=omega) only[go_sem,h]))
     all_goals omega
    ·(repeat' first|simp (disch:=omega) only[go_sem,hy2,Ka]|refine q00 _ (r2) ?_|(apply spl<;>intro h<;>try simp (disch:=omega) only[go_sem,h]))
     all_goals omega
  ·rw[q0M hlt hk] at ha
   have hfact:=ha
   (repeat' first|simp (disch:=omega) only[go_sem,Ka]|refine q00 _ ((q4u _ _ _ _ _ _ _ _ _ _ _ _ _ _ _ (by assumption) (by assumption) (by assumption) (by assumption) (by assumption))) ?_|(apply spl<;>intro h<;>try simp (disch:=omega) only[go_sem,h]))
   all_goals
    first
     | rfl
     | omega
     | (
      cases hnb:x.s.name == []<;>first
       | (
        refine congrArg (fun b=>some (AV.bool b)) (Vd.2 ?_)
        simp only[q18,q2f,q2p,q2Z,q4A,hfact,hnb,Ka,List.length_nil,beq_self_eq_true,Kk,K6,decide_eq_true_eq,hop,Int.reduceEq,Int.reduceLE,if_true,if_false,Km,Vb,true_iff,false_iff,iff_false,iff_true,and_true,true_and,or_true,true_or,false_or,or_false,and_false,false_and,not_true_eq_false,not_false_eq_true]
        omega)
       | (
        refine congrArg (fun b=>some (AV.bool b)) (Vd.2 ?_)
        simp only[q18,q2f,q2p,q2Z,q4A,hfact,hnb,Ka,List.length_nil,beq_self_eq_true,Kk,K6,decide_eq_true_eq,hop,Int.reduceEq,Int.reduceLE,if_true,if_false,Km,Vb,true_iff,false_iff,iff_false,iff_true,and_true,true_and,or_true,true_or,false_or,or_false,and_false,false_and,not_true_eq_false,not_false_eq_true]
        done))
     | skip
 case inr.inr.inr.inr.inr.inr.inr.inr.inr.inl=>
  rw[q02]
  rw[hop]
  (repeat' first|simp (disch:=omega) only[go_sem,qb1,enter,Ka]|(apply spl<;>intro h<;>try simp (disch:=omega) only[go_sem,h]))
  all_goals
   first
    | rfl
    | omega
    | (
     cases hnb:x.s.name == []<;>first
      | (
       refine congrArg (fun b=>some (AV.bool b)) (Vd.2 ?_)
       simp only[q18,q2f,q2p,q2Z,q4A,hfact,hnb,Ka,List.length_nil,beq_self_eq_true,Kk,K6,decide_eq_true_eq,hop,Int.reduceEq,Int.reduceLE,if_true,if_false,Km,Vb,true_iff,false_iff,iff_false,iff_true,and_true,true_and,or_true,true_or,false_or,or_false,and_false,false_and,not_true_eq_false,not_false_eq_true]
       omega)
      | (
       refine congrArg (fun b=>some (AV.bool b)) (Vd.2 ?_)
       simp only[q18,q2f,q2p,q2Z,q4A,hfact,hnb,Ka,List.length_nil,beq_self_eq_true,Kk,K6,decide_eq_true_eq,hop,Int.reduceEq,Int.reduceLE,if_true,if_false,Km,Vb,true_iff,false_iff,iff_false,iff_true,and_true,true_and,or_true,true_or,false_or,or_false,and_false,false_and,not_true_eq_false,not_false_eq_true]
       done))
    | skip
  refine q0a (α:=Nat) (fun k=>{ tmps:=q0i 165 [(1,.ptr 15 0 0 0),(3,.ptr 15 1 0 0),(122,.tsl 17 (x.p.map q1k)),(123,.int .i64 x.p.length),(124,.int .i64 k)],heap:=[.row 15 [.agg [.int .i64 10,.int .i64 x.s.mask,.int .i64 x.s.min,.int .i64 x.s.max,.str x.s.name,.tsl 11 (x.s.parts.map q0p),.int .i64 x.s.pat.s.op,.int .i64 x.s.pat.s.lo,.int .i64 x.s.pat.s.hi,.int .i64 x.s.pat.s.min,.int .i64 x.s.pat.s.max,.tsl 6 (x.s.pat.a.map q04),.tsl 13 (x.s.vals.map q0g),.tsl 17 (x.p.map q1k),.tsl 15 (x.a.map q06)]] false true 0,.row 15 [.agg [.int .i64 0,.int .i64 x.s.mask,.int .i64 x.s.min,.int .i64 x.s.max,.str x.s.name,.tsl 11 (x.s.parts.map q0p),.int .i64 x.s.pat.s.op,.int .i64 x.s.pat.s.lo,.int .i64 x.s.pat.s.hi,.int .i64 x.s.pat.s.min,.int .i64 x.s.pat.s.max,.tsl 6 (x.s.pat.a.map q04),.tsl 13 (x.s.vals.map q0g),.snil 17,.snil 15]] false true 1],base:=0 }) (fun k=>k≤x.p.length∧(x.p.take k).all (fun p=>q5A p.1.key)=true) (fun k=>x.p.length-k) 0 rfl ⟨Kn _,rfl⟩ ?_
  rintro k ⟨hk,ha⟩
  by_cases hlt:k<x.p.length
  ·obtain ⟨y,hy⟩:=q08 hlt
   have hym:=Kc hy
   have hy2:=q0d (g:=q1k) hy
   have hkl:=(L.pkids y hym).2
   have r2:=upS (q9k y.1.key (by omega))
   rw[q2g] at hy2
   by_cases hsc:q5A y.1.key=true
   ·have hsc2:=hsc
    simp only[q5A,Kk,decide_eq_true_eq] at hsc2
    obtain ⟨c1,c2⟩:=hsc2
    rw[c1] at r2
    (repeat' first|simp (disch:=omega) only[go_sem,hy2,Ka]|refine q00 _ (r2) ?_|(apply spl<;>intro h<;>try simp (disch:=omega) only[go_sem,h]))
    all_goals try omega
    exact ⟨k+1,rfl,⟨hlt,q0C hy ha hsc⟩,by omega⟩
   ·have hn:(x.p.all fun p=>q5A p.1.key)=false:=q4y hy (by simpa using hsc)
    have hfm:q18 x=false:=by
     unfold q18
     rw[hop,hn]
     simp
    rw[hfm]
    cases hu:utf y.1.key with
    | true=>
     rw[hu] at r2
     have c2 : ¬ y.1.key.length≤1024:=fun c2=>hsc (by simp [q5A,hu,c2])
     (repeat' first|simp (disch:=omega) only[go_sem,hy2,Ka]|refine q00 _ (r2) ?_|(apply spl<;>intro h<;>try simp (disch:=omega) only[go_sem,h]))
     all_goals omega
    | false=>
     rw[hu] at r2
     (repeat' first|simp (disch:=omega) only[go_sem,hy2,Ka]|refine q00 _ (r2) ?_|(apply spl<;>intro h<;>try simp (disch:=omega) only[go_sem,h]))
     all_goals omega
  ·rw[q0M hlt hk] at ha
   have hfact:=ha
   (repeat' first|simp (disch:=omega) only[go_sem,Ka]|refine q00 _ ((q4u _ _ _ _ _ _ _ _ _ _ _ _ _ _ _ (by assumption) (by assumption) (by assumption) (by assumption) (by assumption))) ?_|(apply spl<;>intro h<;>try simp (disch:=omega) only[go_sem,h]))
   all_goals
    first
     | rfl
     | omega
     | (
      cases hnb:x.s.name == []<;>first
       | (
        refine congrArg (fun b=>some (AV.bool b)) (Vd.2 ?_)
        simp only[q18,q2f,q2p,q2Z,q4A,hfact,hnb,Ka,List.length_nil,beq_self_eq_true,Kk,K6,decide_eq_true_eq,hop,Int.reduceEq,Int.reduceLE,if_true,if_false,Km,Vb,true_iff,false_iff,iff_false,iff_true,and_true,true_and,or_true,true_or,false_or,or_false,and_false,false_and,not_true_eq_false,not_false_eq_true]
        omega)
       | (
        refine congrArg (fun b=>some (AV.bool b)) (Vd.2 ?_)
        simp only[q18,q2f,q2p,q2Z,q4A,hfact,hnb,Ka,List.length_nil,beq_self_eq_true,Kk,K6,decide_eq_true_eq,hop,Int.reduceEq,Int.reduceLE,if_true,if_false,Km,Vb,true_iff,false_iff,iff_false,iff_true,and_true,true_and,or_true,true_or,false_or,or_false,and_false,false_and,not_true_eq_false,not_false_eq_true]
        done))
     | skip
 all_goals
  rw[q02]
  try rw[hop]
  (repeat' first|simp (disch:=omega) only[go_sem,qb1,enter,Ka]|refine q00 _ ((q4u _ _ _ _ _ _ _ _ _ _ _ _ _ _ _ (by assumption) (by assumption) (by assumption) (by assumption) (by assumption))) ?_|(apply spl<;>intro h<;>try simp (disch:=omega) only[go_sem,h]))
  all_goals
   first
    | rfl
    | omega
    | (
     cases hnb:x.s.name == []<;>first
      | (
       refine congrArg (fun b=>some (AV.bool b)) (Vd.2 ?_)
       simp only[q18,q2f,q2p,q2Z,q4A,hfact,hnb,Ka,List.length_nil,beq_self_eq_true,Kk,K6,decide_eq_true_eq,hop,Int.reduceEq,Int.reduceLE,if_true,if_false,Km,Vb,true_iff,false_iff,iff_false,iff_true,and_true,true_and,or_true,true_or,false_or,or_false,and_false,false_and,not_true_eq_false,not_false_eq_true]
       omega)
      | (
       refine congrArg (fun b=>some (AV.bool b)) (Vd.2 ?_)
       simp only[q18,q2f,q2p,q2Z,q4A,hfact,hnb,Ka,List.length_nil,beq_self_eq_true,Kk,K6,decide_eq_true_eq,hop,Int.reduceEq,Int.reduceLE,if_true,if_false,Km,Vb,true_iff,false_iff,iff_false,iff_true,and_true,true_and,or_true,true_or,false_or,or_false,and_false,false_and,not_true_eq_false,not_false_eq_true]
       done))
    | skip
end Ago
