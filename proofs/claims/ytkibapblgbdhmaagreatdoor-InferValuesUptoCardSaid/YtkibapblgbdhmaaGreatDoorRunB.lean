/- The form of a node of a schema,on both sides. -/
import Derived.Test.YtkibapblgbdhmaaGreatDoorRunG
import Derived.Test.YtkibapblgbdhmaaGreatDoorRunF
set_option linter.unusedSimpArgs false
set_option linter.unusedVariables false
set_option maxRecDepth 100000
set_option maxHeartbeats 8000000
namespace Ago
open Go (IntKind)
def q1J (x:Sch):Bool:=decide ((x.s.op=3∨x.s.mask=0)∧(x.s.op=5∨x.s.op=9∨x.s.min=0∧x.s.max=0)∧(x.s.op=4∨x.s.parts.length=0) ∧
 (x.s.op=8∨x.s.vals.length=0)∧(x.s.op=10∨x.p.length=0)∧((x.s.op=9∨x.s.op=10∨x.s.op=13)∧x.a.length=1∨(x.s.op=11∨x.s.op=12)∧1≤x.a.length∨¬ (9≤x.s.op∧x.s.op≤13)∧x.a.length=0)) &&
 (decide (x.s.op=7∨x.s.op=14) || x.s.name == []) && (decide (x.s.op=6) || q1E x.s.pat)
def q3w (x:Sch):Bool:=decide (0≤x.s.min∧x.s.min≤65536∧(x.s.max = -1∨x.s.min≤x.s.max∧x.s.max≤65536))
def q6d (v:V):Bool:=decide (v.s.kind<6) && decide (q3q v=0)
def q4n (k:List UInt8):Bool:=utf k && decide (k.length≤1024)
def q1p (x:Sch):Bool:=decide (1≤x.s.op∧x.s.op≤14) && q1J x &&
 (if x.s.op=3 then decide (0≤x.s.mask∧x.s.mask≤255) else if x.s.op=4 then qga x.s.parts else if x.s.op=5 then q3w x else if x.s.op=6 then qcM x.s.pat
 else if x.s.op=8 then x.s.vals.all q6d && decide (x.s.vals.length≤256) else if x.s.op=9 then q3w x else if x.s.op=10 then x.p.all fun p=>q4n p.1.key else true)
theorem qo0 (n:Int):n=1∨n=2∨n=3∨n=4∨n=5∨n=6∨n=7∨n=8∨n=9∨n=10∨n=11∨n=12∨n=13∨n=14∨(n<1∨14<n):=by omega
def q2h (op mask mn mx:Int) (name:List UInt8) (parts:List AV) (po pl ph pm px:Int) (pa vals props args:List AV):Bool:=
 decide (op=0∧mask=0∧mn=0∧mx=0∧parts.length=0∧vals.length=0∧props.length=0∧args.length=0∧po=0∧pl=0∧ph=0∧pm=0∧px=0∧pa.length=0) && name == []
theorem q3r (op mask mn mx:Int) (name:List UInt8) (parts:List AV) (po pl ph pm px:Int) (pa vals props args:List AV) (h1:parts.length<2^30) (h2:pa.length<2^30) (h3:vals.length<2^30) (h4:props.length<2^30) (h5:args.length<2^30) :
  q0f CS 597 [.agg [.int .i64 op,.int .i64 mask,.int .i64 mn,.int .i64 mx,.str name,.tsl 11 parts,.int .i64 po,.int .i64 pl,.int .i64 ph,.int .i64 pm,.int .i64 px,.tsl 6 pa,.tsl 13 vals,.tsl 17 props,.tsl 15 args]] (.bool (q2h op mask mn mx name parts po pl ph pm px pa vals props args)):=by
 refine q04 qir rfl ?_
 unfold q2h
 cases hnb:name == []
 ·rw[Bool.and_false]
  (repeat' first|simp (disch:=omega) only[go_sem,qir,enter,hnb]|(apply spl<;>intro h<;>try simp (disch:=omega) only[go_sem,h]))
  all_goals rfl
 ·rw[Bool.and_true]
  (repeat' first|simp (disch:=omega) only[go_sem,qir,enter,hnb]|(apply spl<;>intro h<;>try simp (disch:=omega) only[go_sem,h]))
  all_goals first
   | exact qgf (by omega)
   | exact qfp (by omega)
   | exact qas (by omega)
   | exact qge (by omega)
   | exact q9I (by omega)
   | exact qgg (by omega)
   | skip
theorem qlx {b:Bool} (h : ¬ b=true):some (AV.bool false)=some (AV.bool b):=by
 cases b
 ·rfl
 ·exact (h rfl).elim
theorem qlI {b:Bool} (h:b=true):some (AV.bool true)=some (AV.bool b):=by rw[h]
theorem qhQ {b:Bool} {P:Prop} [Decidable P] (h:P↔b=true):some (AV.bool (decide P))=some (AV.bool b):=by
 by_cases p:P
 ·rw[h.1 p,decide_eq_true p]
 ·have : ¬ b=true:=fun e=>p (h.2 e)
  simp [p,this]
theorem qlG {b:Bool} {x y:Int} (h:x=y↔b=true):some (AV.bool (x == y))=some (AV.bool b):=by
 rw[q6B]
 exact qhQ h
theorem qfL (x:Sch) (hx:x.bulk≤2^24):q0f CS 599 [q03 x] (.bool (q1J x)):=by
 have L:=Sch.lens hx
 have l1:=L.parts
 have l2:=L.vals
 have l3:=L.props
 have l4:=L.args
 have hp:=q8T x.s.pat (by have:=L.pat; omega)
 obtain ⟨nb,hnb⟩ : ∃ b,(x.s.name == ([]:List UInt8))=b:=⟨_,rfl⟩
 obtain ⟨pb,hpn⟩ : ∃ b,q1E x.s.pat=b:=⟨_,rfl⟩
 refine q04 qk4 rfl ?_
 rw[q01]
 rw[q0e,hpn] at hp
 (repeat' first|simp (disch:=omega) only[go_sem,qk4,enter,List.length_map,hnb]|refine q00 _ (hp) ?_|(apply spl<;>intro h<;>try simp (disch:=omega) only[go_sem,h]))
 all_goals
  cases nb<;>cases pb<;>first
   | contradiction
   | rfl
   | omega
   | (
    (first | refine qlx ?_ | refine qlI ?_ | refine qhQ ?_ | refine qlG ?_)
    simp only[q1J,hnb,hpn,Bool.and_eq_true,Bool.or_eq_true,decide_eq_true_eq,Bool.false_eq_true,or_false,and_true,and_false,or_true]
    omega)
   | (
    (first | refine qlx ?_ | refine qlI ?_ | refine qhQ ?_ | refine qlG ?_)
    simp only[q1J,hnb,hpn,Bool.and_eq_true,Bool.or_eq_true,decide_eq_true_eq,Bool.false_eq_true,or_false,and_true,and_false,or_true,not_false_eq_true]
    done)
   | skip
theorem qfu (x:Sch):q0f CS 601 [q03 x,.int .i64 65536] (.bool (q3w x)):=by
 refine q04 qkJ rfl ?_
 rw[q01]
 unfold q3w
 (repeat' first|simp (disch:=omega) only[go_sem,qkJ,enter]|(apply spl<;>intro h<;>try simp (disch:=omega) only[go_sem,h]))
 all_goals first
  | exact qgf (by omega)
  | exact qfp (by omega)
  | exact qas (by omega)
  | exact qge (by omega)
  | exact q9I (by omega)
  | exact qgg (by omega)
  | skip
theorem qgU (v:V):q0f CS 602 [q0j v] (.bool (decide (v.s.kind<6))):=by
 refine q04 qkc rfl ?_
 rw[q07]
 (repeat' first|simp (disch:=omega) only[go_sem,qkc,enter]|(apply spl<;>intro h<;>try simp (disch:=omega) only[go_sem,h]))
theorem qip (k:List UInt8) (hk:k.length<2^30):q0f CS 603 [.str k] (.bool (q4n k)):=by
 have hu:=upS (qam k hk)
 refine q04 qi6 rfl ?_
 unfold q4n
 cases hb:utf k<;>rw[hb] at hu
 ·(repeat' first|simp (disch:=omega) only[go_sem,qi6,enter]|refine q00 _ (hu) ?_|(apply spl<;>intro h<;>try simp (disch:=omega) only[go_sem,h]))
  all_goals first | rfl | (simp; done) | omega | skip
 ·(repeat' first|simp (disch:=omega) only[go_sem,qi6,enter]|refine q00 _ (hu) ?_|(apply spl<;>intro h<;>try simp (disch:=omega) only[go_sem,h]))
  all_goals first | rfl | (simp; omega) | omega | skip
def fmtNames:List (List UInt8):=[[98,97,115,101,54,52],[100,97,116,101],[100,97,116,101,116,105,109,101],[104,101,120],[105,110,115,116,97,110,116],[105,110,116,101,103,101,114],[105,112,118,52],[110,97,109,101],[110,117,109,98,101,114],[112,97,116,104],[116,105,109,101],[117,117,105,100]]
def q2m (s:List UInt8):Bool:=fmtNames.any fun x=>x == s
theorem qlc:q0f CS 624 [] (.tsl 1 (fmtNames.map .str)):=by
 refine q04 qjl rfl ?_
 (repeat' first|simp (disch:=omega) only[go_sem,qjl,enter,fmtNames]|(apply spl<;>intro h<;>try simp (disch:=omega) only[go_sem,h]))
theorem q47 {α:Type} {s:List α} {k:Nat} {c:α} {p:α→Bool} (hc:s[k]?=some c) (h:(s.take k).any p=false) (hp:p c=false):(s.take (k+1)).any p=false:=by
 rw[List.take_add_one,hc]
 simp [h,hp]
theorem qbj {α:Type} {s:List α} {k:Nat} {c:α} {p:α→Bool} (hc:s[k]?=some c) (hp:p c=true):s.any p=true:=List.any_eq_true.2 ⟨c,List.mem_of_getElem? hc,hp⟩
theorem qfw (s:List UInt8) : ∃ n:Int,q0f CS 598 [.str s] (.int .i64 n)∧(n<12↔q2m s=true):=by
 have hn:=qlc
 have h:=q3A (C:=CS) (f:=598) (ts:=[.str s]) (k:=fun w=>∃ n:Int,w = .int .i64 n∧(n<12↔q2m s=true)) qkd rfl (by
  have hl:(fmtNames.map AV.str).length=12:=rfl
  (repeat' first|simp (disch:=omega) only[go_sem,qkd,enter,hl]|refine q00 _ (hn) ?_|(apply spl<;>intro h<;>try simp (disch:=omega) only[go_sem,h]))
  refine q08 (α:=Nat) (fun k=>{ tmps:=q0i 17 [(0,.str s),(5,.tsl 1 (fmtNames.map .str)),(6,.int .i64 12),(7,.int .i64 k)],heap:=[],base:=0 }) (fun k=>k≤12∧(fmtNames.take k).any (fun x=>x == s)=false) (fun k=>12-k) 0 rfl ⟨Nat.zero_le _,rfl⟩ ?_
  rintro k ⟨hk,ha⟩
  by_cases hlt:k<12
  ·obtain ⟨y,hy⟩ : ∃ y,fmtNames[k]?=some y:=q06 hlt
   have hy2:=q09 (g:=AV.str) hy
   cases hb:y == s with
   | true=>
    have hkn:q2m s=true:=qbj hy hb
    (repeat' first|simp (disch:=omega) only[go_sem,hy2,hb]|(apply spl<;>intro h<;>try simp (disch:=omega) only[go_sem,h]))
    exact ⟨_,rfl,fun _=>hkn,fun _=>by omega⟩
   | false=>
    (repeat' first|simp (disch:=omega) only[go_sem,hy2,hb]|(apply spl<;>intro h<;>try simp (disch:=omega) only[go_sem,h]))
    all_goals try omega
    exact ⟨k+1,rfl,⟨by omega,q47 hy ha hb⟩,by omega⟩
  ·have hk2:k=12:=by omega
   subst hk2
   have hkn:q2m s=false:=ha
   (repeat' first|simp (disch:=omega) only[go_sem,hl]|(apply spl<;>intro h<;>try simp (disch:=omega) only[go_sem,h]))
   exact ⟨12,rfl,by simp [hkn]⟩)
 obtain ⟨w,h1,n,rfl,h2⟩:=h
 exact ⟨n,h1,h2⟩
theorem qiv (s:List UInt8):q0f CS 563 [.str s] (.bool (q2m s)):=by
 obtain ⟨n,h1,h2⟩:=qfw s
 refine q04 qkb rfl ?_
 (repeat' first|simp (disch:=omega) only[go_sem,qkb,enter]|refine q00 _ (h1) ?_|(apply spl<;>intro h<;>try simp (disch:=omega) only[go_sem,h]))
 all_goals (cases hb:q2m s<;>simp [hb] at h2 ⊢<;>omega)
theorem qi0 (s:List UInt8) : ∃ t,q0f CS 604 [.str s] (.str t)∧(t == ([]:List UInt8)) = !q2m s:=by
 have h:=q3A (C:=CS) (f:=604) (ts:=[.str s]) (k:=fun w=>∃ t,w = .str t∧(t == ([]:List UInt8)) = !q2m s) qj6 rfl (by
  (repeat' first|simp (disch:=omega) only[go_sem,qj6,enter]|(apply spl<;>intro h<;>try simp (disch:=omega) only[go_sem,h]))
  all_goals (refine ⟨_,rfl,?_⟩; simp_all [q2m,fmtNames])
  all_goals ((repeat' (refine And.intro ?_ ?_))<;>(intro e; exact absurd e.symm (by assumption))))
 obtain ⟨w,h1,t,rfl,h2⟩:=h
 exact ⟨t,h1,h2⟩
theorem qce (s:List UInt8):q0f CS 565 [.str s] (.bool (q2m s)):=by
 obtain ⟨t,h1,h2⟩:=qi0 s
 refine q04 qkY rfl ?_
 (repeat' first|simp (disch:=omega) only[go_sem,qkY,enter,h2,Bool.not_not]|refine q00 _ (h1) ?_|(apply spl<;>intro h<;>try simp (disch:=omega) only[go_sem,h]))
end Ago
set_option maxRecDepth 100000
set_option maxHeartbeats 8000000
namespace Ago
open Go (IntKind)
theorem Sch.slim {x:Sch} (hx:x.bulk≤2^24):qmd x.s.parts:=by
 have L:=Sch.lens (N:=2^24) hx
 exact ⟨L.parts,fun p hp=>by have:=L.part p hp; omega⟩
theorem qcN (x:Sch) (hx:x.bulk≤2^24):q0f CS 564 [q03 x] (.bool (q1p x)):=by
 have L:=Sch.lens hx
 have l1:=L.parts
 have l2:=L.vals
 have l3:=L.props
 have l4:=L.args
 have hpb:=L.pat
 have hu:=qfL x hx
 have hs:=qlS x.s.parts (Sch.slim hx)
 have hbd:=qfu x
 have hpv:=q85 x.s.pat (by omega)
 refine q04 qdn rfl ?_
 unfold q5N at hs
 rw[q0e] at hpv
 cases hbl:q1J x
 ·rw[hbl] at hu
  have hf:q1p x=false:=by unfold q1p; rw[hbl,Bool.and_false,Bool.false_and]
  rw[hf]
  rw[q01] at hu ⊢
  (repeat' first|simp (disch:=omega) only[go_sem,qdn,enter,List.length_map]|refine q00 _ (hu) ?_|(apply spl<;>intro h<;>try simp (disch:=omega) only[go_sem,h]))
 rw[hbl] at hu
 rcases qo0 x.s.op with hop | hop | hop | hop | hop | hop | hop | hop | hop | hop | hop | hop | hop | hop | hop
 case inr.inr.inr.inr.inr.inr.inr.inl=>
  have hfm:q1p x=(x.s.vals.all q6d && decide (x.s.vals.length≤256)):=by simp [q1p,hbl,hop]
  rw[hfm]
  rw[q01] at hu ⊢
  rw[hop] at hu ⊢
  (repeat' first|simp (disch:=omega) only[go_sem,qdn,enter,List.length_map]|refine q00 _ (hu) ?_|(apply spl<;>intro h<;>try simp (disch:=omega) only[go_sem,h]))
  refine q08 (α:=Nat) (fun k=>{ tmps:=q0i 94 [(1,.ptr 15 0 0 0),(3,.int .i64 k)],heap:=[.row 15 [q03 x] false true 0],base:=0 }) (fun k=>k≤x.s.vals.length∧(x.s.vals.take k).all q6d=true) (fun k=>x.s.vals.length-k) 0 (by rw[q01,hop]; rfl) ⟨Nat.zero_le _,rfl⟩ ?_
  rintro k ⟨hk,ha⟩
  rw[q01,hop]
  by_cases hlt:k<x.s.vals.length
  ·obtain ⟨y,hy⟩:=q06 hlt
   have hym:=List.mem_of_getElem? hy
   have hy2:=q09 (g:=q0j) hy
   have r1:=qgU y
   have r2:=upS (qbL y (by have:=L.val y hym; omega))
   rw[q07] at hy2 r1 r2
   by_cases hsc:q6d y=true
   ·have hsc2:=hsc
    simp only[q6d,Bool.and_eq_true,decide_eq_true_eq] at hsc2
    obtain ⟨c1,c2⟩:=hsc2
    rw[decide_eq_true c1] at r1
    rw[c2] at r2
    (repeat' first|simp (disch:=omega) only[go_sem,hy2,List.length_map]|refine q00 _ (r1) ?_|refine q00 _ (r2) ?_|(apply spl<;>intro h<;>try simp (disch:=omega) only[go_sem,h]))
    all_goals try omega
    refine ⟨k+1,?_,⟨hlt,q0A hy ha hsc⟩,by omega⟩
    first | rfl | (rw[q01 x,hop]; rfl)
   ·have hn:x.s.vals.all q6d=false:=q3o hy (by simpa using hsc)
    rw[hn,Bool.false_and]
    by_cases c1:y.s.kind<6
    ·have c2 : ¬ q3q y=0:=fun c2=>hsc (by simp [q6d,c1,c2])
     rw[decide_eq_true c1] at r1
     (repeat' first|simp (disch:=omega) only[go_sem,hy2,List.length_map]|refine q00 _ (r1) ?_|refine q00 _ (r2) ?_|(apply spl<;>intro h<;>try simp (disch:=omega) only[go_sem,h]))
     all_goals first | omega | (exact (c2 (by assumption)).elim) | skip
    ·rw[decide_eq_false c1] at r1
     (repeat' first|simp (disch:=omega) only[go_sem,hy2,List.length_map]|refine q00 _ (r1) ?_|refine q00 _ (r2) ?_|(apply spl<;>intro h<;>try simp (disch:=omega) only[go_sem,h]))
     all_goals omega
  ·rw[q0C hlt hk] at ha
   rw[ha,Bool.true_and]
   (repeat' first|simp (disch:=omega) only[go_sem,List.length_map]|(apply spl<;>intro h<;>try simp (disch:=omega) only[go_sem,h]))
   all_goals first | rfl | (exact qas (by omega)) | skip
 case inr.inr.inr.inr.inr.inr.inr.inr.inr.inl=>
  have hfm:q1p x=x.p.all fun p=>q4n p.1.key:=by simp [q1p,hbl,hop]
  rw[hfm]
  rw[q01] at hu ⊢
  rw[hop] at hu ⊢
  (repeat' first|simp (disch:=omega) only[go_sem,qdn,enter,List.length_map]|refine q00 _ (hu) ?_|(apply spl<;>intro h<;>try simp (disch:=omega) only[go_sem,h]))
  refine q08 (α:=Nat) (fun k=>{ tmps:=q0i 94 [(1,.ptr 15 0 0 0),(4,.int .i64 k)],heap:=[.row 15 [q03 x] false true 0],base:=0 }) (fun k=>k≤x.p.length∧(x.p.take k).all (fun p=>q4n p.1.key)=true) (fun k=>x.p.length-k) 0 (by rw[q01,hop]; rfl) ⟨Nat.zero_le _,rfl⟩ ?_
  rintro k ⟨hk,ha⟩
  rw[q01,hop]
  by_cases hlt:k<x.p.length
  ·obtain ⟨y,hy⟩:=q06 hlt
   have hym:=List.mem_of_getElem? hy
   have hy2:=q09 (g:=q0h) hy
   have r1:=qip y.1.key (by have:=(L.pkids y hym).2; omega)
   rw[q0m] at hy2
   cases hb:q4n y.1.key with
   | true=>
    rw[hb] at r1
    (repeat' first|simp (disch:=omega) only[go_sem,hy2,List.length_map]|refine q00 _ (r1) ?_|(apply spl<;>intro h<;>try simp (disch:=omega) only[go_sem,h]))
    all_goals try omega
    refine ⟨k+1,?_,⟨hlt,q0A hy ha hb⟩,by omega⟩
    first | rfl | (rw[q01 x,hop]; rfl)
   | false=>
    rw[hb] at r1
    have hn:(x.p.all fun p=>q4n p.1.key)=false:=q3o hy hb
    rw[hn]
    (repeat' first|simp (disch:=omega) only[go_sem,hy2,List.length_map]|refine q00 _ (r1) ?_|(apply spl<;>intro h<;>try simp (disch:=omega) only[go_sem,h]))
    all_goals omega
  ·rw[q0C hlt hk] at ha
   rw[ha]
   (repeat' first|simp (disch:=omega) only[go_sem,List.length_map]|(apply spl<;>intro h<;>try simp (disch:=omega) only[go_sem,h]))
 all_goals
  rw[q01] at hu hbd ⊢
  try rw[hop] at hu hbd ⊢
  (repeat' first|simp (disch:=omega) only[go_sem,qdn,enter,List.length_map]|refine q00 _ (hu) ?_|refine q00 _ (hs) ?_|refine q00 _ (hbd) ?_|refine q00 _ (hpv) ?_|(apply spl<;>intro h<;>try simp (disch:=omega) only[go_sem,h]))
  all_goals first
   | rfl
   | omega
   | (simp only[q1p,hbl,hop,Int.reduceEq,Int.reduceLE,if_true,if_false,and_self,decide_true,Bool.true_and,Bool.and_true]; done)
   | (simp [q1p,hbl,hop]; done)
   | (simp [q1p,hbl,hop]; omega)
   | skip
theorem qkq (x:Sch) (hx:x.bulk≤2^24):q0f CS 562 [q03 x] (.bool (q1p x)):=by
 have L:=Sch.lens hx
 have l1:=L.parts
 have l2:=L.vals
 have l3:=L.props
 have l4:=L.args
 have hpb:=L.pat
 have hpa:=(Pat.lens (p:=x.s.pat) (N:=2^24) (by omega)).args
 have hs:=qjm x.s.parts (Sch.slim hx)
 have hpv:=qaV x.s.pat (by omega)
 have lo1:(x.s.parts.map q0p).length<2^30:=by rw[List.length_map]; omega
 have lo2:(x.s.pat.a.map q0v).length<2^30:=by rw[List.length_map]; omega
 have lo3:(x.s.vals.map q0j).length<2^30:=by rw[List.length_map]; omega
 have lo4:(x.p.map q0h).length<2^30:=by rw[List.length_map]; omega
 have lo5:(x.a.map q03).length<2^30:=by rw[List.length_map]; omega
 have lo6:([]:List AV).length<2^30:=by simp
 refine q04 q8O rfl ?_
 unfold q5N at hs
 rw[q0e] at hpv
 have hfact:True:=trivial
 rcases qo0 x.s.op with hop | hop | hop | hop | hop | hop | hop | hop | hop | hop | hop | hop | hop | hop | hop
 case inr.inr.inr.inl=>
  rw[q01]
  rw[hop]
  cases hfact:qga x.s.parts<;>rw[hfact] at hs
  ·(repeat' first|simp (disch:=omega) only[go_sem,q8O,enter,List.length_map]|refine q00 _ (hs) ?_|refine q00 _ ((q3r _ _ _ _ _ _ _ _ _ _ _ _ _ _ _ (by assumption) (by assumption) (by assumption) (by assumption) (by assumption))) ?_|(apply spl<;>intro h<;>try simp (disch:=omega) only[go_sem,h]))
   all_goals
    first
     | rfl
     | omega
     | (
      cases hnb:x.s.name == []<;>first
       | (
        refine congrArg (fun b=>some (AV.bool b)) (Bool.eq_iff_iff.2 ?_)
        simp only[q1p,q1J,q1E,q2h,q3w,hfact,hnb,List.length_map,List.length_nil,beq_self_eq_true,Bool.and_eq_true,Bool.or_eq_true,decide_eq_true_eq,hop,Int.reduceEq,Int.reduceLE,if_true,if_false,Bool.false_eq_true,Bool.true_eq_false,true_iff,false_iff,iff_false,iff_true,and_true,true_and,or_true,true_or,false_or,or_false,and_false,false_and,not_true_eq_false,not_false_eq_true]
        omega)
       | (
        refine congrArg (fun b=>some (AV.bool b)) (Bool.eq_iff_iff.2 ?_)
        simp only[q1p,q1J,q1E,q2h,q3w,hfact,hnb,List.length_map,List.length_nil,beq_self_eq_true,Bool.and_eq_true,Bool.or_eq_true,decide_eq_true_eq,hop,Int.reduceEq,Int.reduceLE,if_true,if_false,Bool.false_eq_true,Bool.true_eq_false,true_iff,false_iff,iff_false,iff_true,and_true,true_and,or_true,true_or,false_or,or_false,and_false,false_and,not_true_eq_false,not_false_eq_true]
        done))
     | skip
  ·(repeat' first|simp (disch:=omega) only[go_sem,q8O,enter,List.length_map]|refine q00 _ (hs) ?_|refine q00 _ ((q3r _ _ _ _ _ _ _ _ _ _ _ _ _ _ _ (by assumption) (by assumption) (by assumption) (by assumption) (by assumption))) ?_|(apply spl<;>intro h<;>try simp (disch:=omega) only[go_sem,h]))
   all_goals
    first
     | rfl
     | omega
     | (
      cases hnb:x.s.name == []<;>first
       | (
        refine congrArg (fun b=>some (AV.bool b)) (Bool.eq_iff_iff.2 ?_)
        simp only[q1p,q1J,q1E,q2h,q3w,hfact,hnb,List.length_map,List.length_nil,beq_self_eq_true,Bool.and_eq_true,Bool.or_eq_true,decide_eq_true_eq,hop,Int.reduceEq,Int.reduceLE,if_true,if_false,Bool.false_eq_true,Bool.true_eq_false,true_iff,false_iff,iff_false,iff_true,and_true,true_and,or_true,true_or,false_or,or_false,and_false,false_and,not_true_eq_false,not_false_eq_true]
        omega)
       | (
        refine congrArg (fun b=>some (AV.bool b)) (Bool.eq_iff_iff.2 ?_)
        simp only[q1p,q1J,q1E,q2h,q3w,hfact,hnb,List.length_map,List.length_nil,beq_self_eq_true,Bool.and_eq_true,Bool.or_eq_true,decide_eq_true_eq,hop,Int.reduceEq,Int.reduceLE,if_true,if_false,Bool.false_eq_true,Bool.true_eq_false,true_iff,false_iff,iff_false,iff_true,and_true,true_and,or_true,true_or,false_or,or_false,and_false,false_and,not_true_eq_false,not_false_eq_true]
        done))
     | skip
 case inr.inr.inr.inr.inr.inl=>
  rw[q01]
  rw[hop]
  cases hfact:qcM x.s.pat<;>rw[hfact] at hpv
  ·(repeat' first|simp (disch:=omega) only[go_sem,q8O,enter,List.length_map]|refine q00 _ (hpv) ?_|refine q00 _ ((q3r _ _ _ _ _ _ _ _ _ _ _ _ _ _ _ (by assumption) (by assumption) (by assumption) (by assumption) (by assumption))) ?_|(apply spl<;>intro h<;>try simp (disch:=omega) only[go_sem,h]))
   all_goals
    first
     | rfl
     | omega
     | (
      cases hnb:x.s.name == []<;>first
       | (
        refine congrArg (fun b=>some (AV.bool b)) (Bool.eq_iff_iff.2 ?_)
        simp only[q1p,q1J,q1E,q2h,q3w,hfact,hnb,List.length_map,List.length_nil,beq_self_eq_true,Bool.and_eq_true,Bool.or_eq_true,decide_eq_true_eq,hop,Int.reduceEq,Int.reduceLE,if_true,if_false,Bool.false_eq_true,Bool.true_eq_false,true_iff,false_iff,iff_false,iff_true,and_true,true_and,or_true,true_or,false_or,or_false,and_false,false_and,not_true_eq_false,not_false_eq_true]
        omega)
       | (
        refine congrArg (fun b=>some (AV.bool b)) (Bool.eq_iff_iff.2 ?_)
        simp only[q1p,q1J,q1E,q2h,q3w,hfact,hnb,List.length_map,List.length_nil,beq_self_eq_true,Bool.and_eq_true,Bool.or_eq_true,decide_eq_true_eq,hop,Int.reduceEq,Int.reduceLE,if_true,if_false,Bool.false_eq_true,Bool.true_eq_false,true_iff,false_iff,iff_false,iff_true,and_true,true_and,or_true,true_or,false_or,or_false,and_false,false_and,not_true_eq_false,not_false_eq_true]
        done))
     | skip
  ·(repeat' first|simp (disch:=omega) only[go_sem,q8O,enter,List.length_map]|refine q00 _ (hpv) ?_|refine q00 _ ((q3r _ _ _ _ _ _ _ _ _ _ _ _ _ _ _ (by assumption) (by assumption) (by assumption) (by assumption) (by assumption))) ?_|(apply spl<;>intro h<;>try simp (disch:=omega) only[go_sem,h]))
   all_goals
    first
     | rfl
     | omega
     | (
      cases hnb:x.s.name == []<;>first
       | (
        refine congrArg (fun b=>some (AV.bool b)) (Bool.eq_iff_iff.2 ?_)
        simp only[q1p,q1J,q1E,q2h,q3w,hfact,hnb,List.length_map,List.length_nil,beq_self_eq_true,Bool.and_eq_true,Bool.or_eq_true,decide_eq_true_eq,hop,Int.reduceEq,Int.reduceLE,if_true,if_false,Bool.false_eq_true,Bool.true_eq_false,true_iff,false_iff,iff_false,iff_true,and_true,true_and,or_true,true_or,false_or,or_false,and_false,false_and,not_true_eq_false,not_false_eq_true]
        omega)
       | (
        refine congrArg (fun b=>some (AV.bool b)) (Bool.eq_iff_iff.2 ?_)
        simp only[q1p,q1J,q1E,q2h,q3w,hfact,hnb,List.length_map,List.length_nil,beq_self_eq_true,Bool.and_eq_true,Bool.or_eq_true,decide_eq_true_eq,hop,Int.reduceEq,Int.reduceLE,if_true,if_false,Bool.false_eq_true,Bool.true_eq_false,true_iff,false_iff,iff_false,iff_true,and_true,true_and,or_true,true_or,false_or,or_false,and_false,false_and,not_true_eq_false,not_false_eq_true]
        done))
     | skip
 case inr.inr.inr.inr.inr.inr.inr.inl=>
  rw[q01]
  rw[hop]
  (repeat' first|simp (disch:=omega) only[go_sem,q8O,enter,List.length_map]|(apply spl<;>intro h<;>try simp (disch:=omega) only[go_sem,h]))
  all_goals
   first
    | rfl
    | omega
    | (
     cases hnb:x.s.name == []<;>first
      | (
       refine congrArg (fun b=>some (AV.bool b)) (Bool.eq_iff_iff.2 ?_)
       simp only[q1p,q1J,q1E,q2h,q3w,hfact,hnb,List.length_map,List.length_nil,beq_self_eq_true,Bool.and_eq_true,Bool.or_eq_true,decide_eq_true_eq,hop,Int.reduceEq,Int.reduceLE,if_true,if_false,Bool.false_eq_true,Bool.true_eq_false,true_iff,false_iff,iff_false,iff_true,and_true,true_and,or_true,true_or,false_or,or_false,and_false,false_and,not_true_eq_false,not_false_eq_true]
       omega)
      | (
       refine congrArg (fun b=>some (AV.bool b)) (Bool.eq_iff_iff.2 ?_)
       simp only[q1p,q1J,q1E,q2h,q3w,hfact,hnb,List.length_map,List.length_nil,beq_self_eq_true,Bool.and_eq_true,Bool.or_eq_true,decide_eq_true_eq,hop,Int.reduceEq,Int.reduceLE,if_true,if_false,Bool.false_eq_true,Bool.true_eq_false,true_iff,false_iff,iff_false,iff_true,and_true,true_and,or_true,true_or,false_or,or_false,and_false,false_and,not_true_eq_false,not_false_eq_true]
       done))
    | skip
  refine q08 (α:=Nat) (fun k=>{ tmps:=q0i 165 [(3,.ptr 15 0 0 0),(102,.tsl 13 (x.s.vals.map q0j)),(103,.int .i64 x.s.vals.length),(104,.int .i64 k)],heap:=[.row 15 [.agg [.int .i64 0,.int .i64 x.s.mask,.int .i64 x.s.min,.int .i64 x.s.max,.str x.s.name,.tsl 11 (x.s.parts.map q0p),.int .i64 x.s.pat.s.op,.int .i64 x.s.pat.s.lo,.int .i64 x.s.pat.s.hi,.int .i64 x.s.pat.s.min,.int .i64 x.s.pat.s.max,.tsl 6 (x.s.pat.a.map q0v),.snil 13,.tsl 17 (x.p.map q0h),.tsl 15 (x.a.map q03)]] false true 0],base:=0 }) (fun k=>k≤x.s.vals.length∧(x.s.vals.take k).all q6d=true) (fun k=>x.s.vals.length-k) 0 rfl ⟨Nat.zero_le _,rfl⟩ ?_
  rintro k ⟨hk,ha⟩
  by_cases hlt:k<x.s.vals.length
  ·obtain ⟨y,hy⟩:=q06 hlt
   have hym:=List.mem_of_getElem? hy
   have hy2:=q09 (g:=q0j) hy
   have r2:=upS (q8Z y (by have:=L.val y hym; omega))
   rw[q07] at hy2 r2
   by_cases hsc:q6d y=true
   ·have hsc2:=hsc
    simp only[q6d,Bool.and_eq_true,decide_eq_true_eq] at hsc2
    obtain ⟨c1,c2⟩:=hsc2
    rw[c2] at r2
    (repeat' first|simp (disch:=omega) only[go_sem,hy2,List.length_map]|refine q00 _ (r2) ?_|(apply spl<;>intro h<;>try simp (disch:=omega) only[go_sem,h]))
    all_goals try omega
    exact ⟨k+1,rfl,⟨hlt,q0A hy ha hsc⟩,by omega⟩
   ·have hn:x.s.vals.all q6d=false:=q3o hy (by simpa using hsc)
    have hfm:q1p x=false:=by simp [q1p,hop,hn]
    rw[hfm]
    by_cases c1:y.s.kind<6
    ·have c2 : ¬ q3q y=0:=fun c2=>hsc (by simp [q6d,c1,c2])
     (repeat' first|simp (disch:=omega) only[go_sem,hy2,List.length_map]|refine q00 _ (r2) ?_|(apply spl<;>intro h<;>try simp (disch:=omega) only[go_sem,h]))
     all_goals omega
    ·(repeat' first|simp (disch:=omega) only[go_sem,hy2,List.length_map]|refine q00 _ (r2) ?_|(apply spl<;>intro h<;>try simp (disch:=omega) only[go_sem,h]))
     all_goals omega
  ·rw[q0C hlt hk] at ha
   have hfact:=ha
   (repeat' first|simp (disch:=omega) only[go_sem,List.length_map]|refine q00 _ ((q3r _ _ _ _ _ _ _ _ _ _ _ _ _ _ _ (by assumption) (by assumption) (by assumption) (by assumption) (by assumption))) ?_|(apply spl<;>intro h<;>try simp (disch:=omega) only[go_sem,h]))
   all_goals
    first
     | rfl
     | omega
     | (
      cases hnb:x.s.name == []<;>first
       | (
        refine congrArg (fun b=>some (AV.bool b)) (Bool.eq_iff_iff.2 ?_)
        simp only[q1p,q1J,q1E,q2h,q3w,hfact,hnb,List.length_map,List.length_nil,beq_self_eq_true,Bool.and_eq_true,Bool.or_eq_true,decide_eq_true_eq,hop,Int.reduceEq,Int.reduceLE,if_true,if_false,Bool.false_eq_true,Bool.true_eq_false,true_iff,false_iff,iff_false,iff_true,and_true,true_and,or_true,true_or,false_or,or_false,and_false,false_and,not_true_eq_false,not_false_eq_true]
        omega)
       | (
        refine congrArg (fun b=>some (AV.bool b)) (Bool.eq_iff_iff.2 ?_)
        simp only[q1p,q1J,q1E,q2h,q3w,hfact,hnb,List.length_map,List.length_nil,beq_self_eq_true,Bool.and_eq_true,Bool.or_eq_true,decide_eq_true_eq,hop,Int.reduceEq,Int.reduceLE,if_true,if_false,Bool.false_eq_true,Bool.true_eq_false,true_iff,false_iff,iff_false,iff_true,and_true,true_and,or_true,true_or,false_or,or_false,and_false,false_and,not_true_eq_false,not_false_eq_true]
        done))
     | skip
 case inr.inr.inr.inr.inr.inr.inr.inr.inr.inl=>
  rw[q01]
  rw[hop]
  (repeat' first|simp (disch:=omega) only[go_sem,q8O,enter,List.length_map]|(apply spl<;>intro h<;>try simp (disch:=omega) only[go_sem,h]))
  all_goals
   first
    | rfl
    | omega
    | (
     cases hnb:x.s.name == []<;>first
      | (
       refine congrArg (fun b=>some (AV.bool b)) (Bool.eq_iff_iff.2 ?_)
       simp only[q1p,q1J,q1E,q2h,q3w,hfact,hnb,List.length_map,List.length_nil,beq_self_eq_true,Bool.and_eq_true,Bool.or_eq_true,decide_eq_true_eq,hop,Int.reduceEq,Int.reduceLE,if_true,if_false,Bool.false_eq_true,Bool.true_eq_false,true_iff,false_iff,iff_false,iff_true,and_true,true_and,or_true,true_or,false_or,or_false,and_false,false_and,not_true_eq_false,not_false_eq_true]
       omega)
      | (
       refine congrArg (fun b=>some (AV.bool b)) (Bool.eq_iff_iff.2 ?_)
       simp only[q1p,q1J,q1E,q2h,q3w,hfact,hnb,List.length_map,List.length_nil,beq_self_eq_true,Bool.and_eq_true,Bool.or_eq_true,decide_eq_true_eq,hop,Int.reduceEq,Int.reduceLE,if_true,if_false,Bool.false_eq_true,Bool.true_eq_false,true_iff,false_iff,iff_false,iff_true,and_true,true_and,or_true,true_or,false_or,or_false,and_false,false_and,not_true_eq_false,not_false_eq_true]
       done))
    | skip
  refine q08 (α:=Nat) (fun k=>{ tmps:=q0i 165 [(1,.ptr 15 0 0 0),(3,.ptr 15 1 0 0),(122,.tsl 17 (x.p.map q0h)),(123,.int .i64 x.p.length),(124,.int .i64 k)],heap:=[.row 15 [.agg [.int .i64 10,.int .i64 x.s.mask,.int .i64 x.s.min,.int .i64 x.s.max,.str x.s.name,.tsl 11 (x.s.parts.map q0p),.int .i64 x.s.pat.s.op,.int .i64 x.s.pat.s.lo,.int .i64 x.s.pat.s.hi,.int .i64 x.s.pat.s.min,.int .i64 x.s.pat.s.max,.tsl 6 (x.s.pat.a.map q0v),.tsl 13 (x.s.vals.map q0j),.tsl 17 (x.p.map q0h),.tsl 15 (x.a.map q03)]] false true 0,.row 15 [.agg [.int .i64 0,.int .i64 x.s.mask,.int .i64 x.s.min,.int .i64 x.s.max,.str x.s.name,.tsl 11 (x.s.parts.map q0p),.int .i64 x.s.pat.s.op,.int .i64 x.s.pat.s.lo,.int .i64 x.s.pat.s.hi,.int .i64 x.s.pat.s.min,.int .i64 x.s.pat.s.max,.tsl 6 (x.s.pat.a.map q0v),.tsl 13 (x.s.vals.map q0j),.snil 17,.snil 15]] false true 1],base:=0 }) (fun k=>k≤x.p.length∧(x.p.take k).all (fun p=>q4n p.1.key)=true) (fun k=>x.p.length-k) 0 rfl ⟨Nat.zero_le _,rfl⟩ ?_
  rintro k ⟨hk,ha⟩
  by_cases hlt:k<x.p.length
  ·obtain ⟨y,hy⟩:=q06 hlt
   have hym:=List.mem_of_getElem? hy
   have hy2:=q09 (g:=q0h) hy
   have hkl:=(L.pkids y hym).2
   have r2:=upS (q76 y.1.key (by omega))
   rw[q0m] at hy2
   by_cases hsc:q4n y.1.key=true
   ·have hsc2:=hsc
    simp only[q4n,Bool.and_eq_true,decide_eq_true_eq] at hsc2
    obtain ⟨c1,c2⟩:=hsc2
    rw[c1] at r2
    (repeat' first|simp (disch:=omega) only[go_sem,hy2,List.length_map]|refine q00 _ (r2) ?_|(apply spl<;>intro h<;>try simp (disch:=omega) only[go_sem,h]))
    all_goals try omega
    exact ⟨k+1,rfl,⟨hlt,q0A hy ha hsc⟩,by omega⟩
   ·have hn:(x.p.all fun p=>q4n p.1.key)=false:=q3o hy (by simpa using hsc)
    have hfm:q1p x=false:=by
     unfold q1p
     rw[hop,hn]
     simp
    rw[hfm]
    cases hu:utf y.1.key with
    | true=>
     rw[hu] at r2
     have c2 : ¬ y.1.key.length≤1024:=fun c2=>hsc (by simp [q4n,hu,c2])
     (repeat' first|simp (disch:=omega) only[go_sem,hy2,List.length_map]|refine q00 _ (r2) ?_|(apply spl<;>intro h<;>try simp (disch:=omega) only[go_sem,h]))
     all_goals omega
    | false=>
     rw[hu] at r2
     (repeat' first|simp (disch:=omega) only[go_sem,hy2,List.length_map]|refine q00 _ (r2) ?_|(apply spl<;>intro h<;>try simp (disch:=omega) only[go_sem,h]))
     all_goals omega
  ·rw[q0C hlt hk] at ha
   have hfact:=ha
   (repeat' first|simp (disch:=omega) only[go_sem,List.length_map]|refine q00 _ ((q3r _ _ _ _ _ _ _ _ _ _ _ _ _ _ _ (by assumption) (by assumption) (by assumption) (by assumption) (by assumption))) ?_|(apply spl<;>intro h<;>try simp (disch:=omega) only[go_sem,h]))
   all_goals
    first
     | rfl
     | omega
     | (
      cases hnb:x.s.name == []<;>first
       | (
        refine congrArg (fun b=>some (AV.bool b)) (Bool.eq_iff_iff.2 ?_)
        simp only[q1p,q1J,q1E,q2h,q3w,hfact,hnb,List.length_map,List.length_nil,beq_self_eq_true,Bool.and_eq_true,Bool.or_eq_true,decide_eq_true_eq,hop,Int.reduceEq,Int.reduceLE,if_true,if_false,Bool.false_eq_true,Bool.true_eq_false,true_iff,false_iff,iff_false,iff_true,and_true,true_and,or_true,true_or,false_or,or_false,and_false,false_and,not_true_eq_false,not_false_eq_true]
        omega)
       | (
        refine congrArg (fun b=>some (AV.bool b)) (Bool.eq_iff_iff.2 ?_)
        simp only[q1p,q1J,q1E,q2h,q3w,hfact,hnb,List.length_map,List.length_nil,beq_self_eq_true,Bool.and_eq_true,Bool.or_eq_true,decide_eq_true_eq,hop,Int.reduceEq,Int.reduceLE,if_true,if_false,Bool.false_eq_true,Bool.true_eq_false,true_iff,false_iff,iff_false,iff_true,and_true,true_and,or_true,true_or,false_or,or_false,and_false,false_and,not_true_eq_false,not_false_eq_true]
        done))
     | skip
 all_goals
  rw[q01]
  try rw[hop]
  (repeat' first|simp (disch:=omega) only[go_sem,q8O,enter,List.length_map]|refine q00 _ ((q3r _ _ _ _ _ _ _ _ _ _ _ _ _ _ _ (by assumption) (by assumption) (by assumption) (by assumption) (by assumption))) ?_|(apply spl<;>intro h<;>try simp (disch:=omega) only[go_sem,h]))
  all_goals
   first
    | rfl
    | omega
    | (
     cases hnb:x.s.name == []<;>first
      | (
       refine congrArg (fun b=>some (AV.bool b)) (Bool.eq_iff_iff.2 ?_)
       simp only[q1p,q1J,q1E,q2h,q3w,hfact,hnb,List.length_map,List.length_nil,beq_self_eq_true,Bool.and_eq_true,Bool.or_eq_true,decide_eq_true_eq,hop,Int.reduceEq,Int.reduceLE,if_true,if_false,Bool.false_eq_true,Bool.true_eq_false,true_iff,false_iff,iff_false,iff_true,and_true,true_and,or_true,true_or,false_or,or_false,and_false,false_and,not_true_eq_false,not_false_eq_true]
       omega)
      | (
       refine congrArg (fun b=>some (AV.bool b)) (Bool.eq_iff_iff.2 ?_)
       simp only[q1p,q1J,q1E,q2h,q3w,hfact,hnb,List.length_map,List.length_nil,beq_self_eq_true,Bool.and_eq_true,Bool.or_eq_true,decide_eq_true_eq,hop,Int.reduceEq,Int.reduceLE,if_true,if_false,Bool.false_eq_true,Bool.true_eq_false,true_iff,false_iff,iff_false,iff_true,and_true,true_and,or_true,true_or,false_or,or_false,and_false,false_and,not_true_eq_false,not_false_eq_true]
       done))
    | skip
end Ago
