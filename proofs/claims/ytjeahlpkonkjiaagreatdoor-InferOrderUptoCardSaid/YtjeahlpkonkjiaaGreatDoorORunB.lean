/- The form of a node of a schema,on both sides. -/
import Derived.Test.YtjeahlpkonkjiaaGreatDoorORunG
import Derived.Test.YtjeahlpkonkjiaaGreatDoorORunF
set_option linter.unusedSimpArgs false
set_option linter.unusedVariables false
set_option maxRecDepth 100000
set_option maxHeartbeats 8000000
namespace Ago
open Go (IntKind)
def q1Q (x:Sch):Bool:=decide ((x.s.op=3∨x.s.mask=0)∧(x.s.op=5∨x.s.op=9∨x.s.min=0∧x.s.max=0)∧(x.s.op=4∨x.s.parts.length=0) ∧
 (x.s.op=8∨x.s.vals.length=0)∧(x.s.op=10∨x.p.length=0)∧((x.s.op=9∨x.s.op=10∨x.s.op=13)∧x.a.length=1∨(x.s.op=11∨x.s.op=12)∧1≤x.a.length∨¬ (9≤x.s.op∧x.s.op≤13)∧x.a.length=0)) &&
 (decide (x.s.op=7∨x.s.op=14) || x.s.name == []) && (decide (x.s.op=6) || q1Y x.s.pat)
def q4m (x:Sch):Bool:=decide (0≤x.s.min∧x.s.min≤65536∧(x.s.max = -1∨x.s.min≤x.s.max∧x.s.max≤65536))
def qdO (v:V):Bool:=decide (v.s.kind<6) && decide (q49 v=0)
def qaw (k:List UInt8):Bool:=utf k && decide (k.length≤1024)
def q21 (x:Sch):Bool:=decide (1≤x.s.op∧x.s.op≤14) && q1Q x &&
 (if x.s.op=3 then decide (0≤x.s.mask∧x.s.mask≤255) else if x.s.op=4 then q7W x.s.parts else if x.s.op=5 then q4m x else if x.s.op=6 then qla x.s.pat
 else if x.s.op=8 then x.s.vals.all qdO && decide (x.s.vals.length≤256) else if x.s.op=9 then q4m x else if x.s.op=10 then x.p.all fun p=>qaw p.1.key else true)
theorem qxn (n:Int):n=1∨n=2∨n=3∨n=4∨n=5∨n=6∨n=7∨n=8∨n=9∨n=10∨n=11∨n=12∨n=13∨n=14∨(n<1∨14<n):=by omega
def q2F (op mask mn mx:Int) (name:List UInt8) (parts:List AV) (po pl ph pm px:Int) (pa vals props args:List AV):Bool:=
 decide (op=0∧mask=0∧mn=0∧mx=0∧parts.length=0∧vals.length=0∧props.length=0∧args.length=0∧po=0∧pl=0∧ph=0∧pm=0∧px=0∧pa.length=0) && name == []
theorem q3O (op mask mn mx:Int) (name:List UInt8) (parts:List AV) (po pl ph pm px:Int) (pa vals props args:List AV) (h1:parts.length<2^30) (h2:pa.length<2^30) (h3:vals.length<2^30) (h4:props.length<2^30) (h5:args.length<2^30) :
  q0k CS 597 [.agg [.int .i64 op,.int .i64 mask,.int .i64 mn,.int .i64 mx,.str name,.tsl 11 parts,.int .i64 po,.int .i64 pl,.int .i64 ph,.int .i64 pm,.int .i64 px,.tsl 6 pa,.tsl 13 vals,.tsl 17 props,.tsl 15 args]] (.bool (q2F op mask mn mx name parts po pl ph pm px pa vals props args)):=by
 refine q04 qik rfl ?_
 unfold q2F
 cases hnb:name == []
 ·rw[Vq]
  (repeat' first|simp (disch:=omega) only[go_sem,qik,enter,hnb]|(apply spl<;>intro h<;>try simp (disch:=omega) only[go_sem,h]))
  all_goals rfl
 ·rw[VG]
  (repeat' first|simp (disch:=omega) only[go_sem,qik,enter,hnb]|(apply spl<;>intro h<;>try simp (disch:=omega) only[go_sem,h]))
  all_goals first
   | exact qu9 (by omega)
   | exact qsS (by omega)
   | exact qlQ (by omega)
   | exact qtg (by omega)
   | exact qp8 (by omega)
   | exact qsy (by omega)
   | skip
def fmtNames:List (List UInt8):=[[98,97,115,101,54,52],[100,97,116,101],[100,97,116,101,116,105,109,101],[104,101,120],[105,110,115,116,97,110,116],[105,110,116,101,103,101,114],[105,112,118,52],[110,97,109,101],[110,117,109,98,101,114],[112,97,116,104],[116,105,109,101],[117,117,105,100]]
def q5k (s:List UInt8):Bool:=fmtNames.any fun x=>x == s
theorem qlI:q0k CS 624 [] (.tsl 1 (fmtNames.map .str)):=by
 refine q04 qmr rfl ?_
 (repeat' first|simp (disch:=omega) only[go_sem,qmr,enter,fmtNames])
theorem qbV {α:Type} {s:List α} {k:Nat} {c:α} {p:α→Bool} (hc:s[k]?=some c) (h:(s.take k).any p=false) (hp:p c=false):(s.take (k+1)).any p=false:=by
 rw[KG,hc]
 simp [h,hp]
theorem qpa {α:Type} {s:List α} {k:Nat} {c:α} {p:α→Bool} (hc:s[k]?=some c) (hp:p c=true):s.any p=true:=List.any_eq_true.2 ⟨c,Kc hc,hp⟩
theorem qhH (s:List UInt8) : ∃ n:Int,q0k CS 598 [.str s] (.int .i64 n)∧(n<12↔q5k s=true):=by
 have hn:=qlI
 have h:=q4H (C:=CS) (f:=598) (ts:=[.str s]) (k:=fun w=>∃ n:Int,w = .int .i64 n∧(n<12↔q5k s=true)) qlW rfl (by
  have hl:(fmtNames.map AV.str).length=12:=rfl
  (repeat' first|simp (disch:=omega) only[go_sem,qlW,enter,hl]|refine q00 _ (hn) ?_|(apply spl<;>intro h<;>try simp (disch:=omega) only[go_sem,h]))
  refine q07 (α:=Nat) (fun k=>{ tmps:=q0q 17 [(0,.str s),(5,.tsl 1 (fmtNames.map .str)),(6,.int .i64 12),(7,.int .i64 k)],heap:=[],base:=0 }) (fun k=>k≤12∧(fmtNames.take k).any (fun x=>x == s)=false) (fun k=>12-k) 0 rfl ⟨Kp _,rfl⟩ ?_
  rintro k ⟨hk,ha⟩
  by_cases hlt:k<12
  ·obtain ⟨y,hy⟩ : ∃ y,fmtNames[k]?=some y:=q06 hlt
   have hy2:=q0c (g:=AV.str) hy
   cases hb:y == s with
   | true=>
    have hkn:q5k s=true:=qpa hy hb
    (repeat' first|simp (disch:=omega) only[go_sem,hy2,hb]|(apply spl<;>intro h<;>try simp (disch:=omega) only[go_sem,h]))
    exact ⟨_,rfl,fun _=>hkn,fun _=>by omega⟩
   | false=>
    (repeat' first|simp (disch:=omega) only[go_sem,hy2,hb]|(apply spl<;>intro h<;>try simp (disch:=omega) only[go_sem,h]))
    all_goals try omega
    exact ⟨k+1,rfl,⟨by omega,qbV hy ha hb⟩,by omega⟩
  ·have hk2:k=12:=by omega
   subst hk2
   have hkn:q5k s=false:=ha
   (repeat' first|simp (disch:=omega) only[go_sem,hl]|(apply spl<;>intro h<;>try simp (disch:=omega) only[go_sem,h]))
   exact ⟨12,rfl,by simp [hkn]⟩)
 obtain ⟨w,h1,n,rfl,h2⟩:=h
 exact ⟨n,h1,h2⟩
theorem qkO (s:List UInt8):q0k CS 563 [.str s] (.bool (q5k s)):=by
 obtain ⟨n,h1,h2⟩:=qhH s
 refine q04 qo4 rfl ?_
 (repeat' first|simp (disch:=omega) only[go_sem,qo4,enter]|refine q00 _ (h1) ?_|(apply spl<;>intro h<;>try simp (disch:=omega) only[go_sem,h]))
 all_goals (cases hb:q5k s<;>simp [hb] at h2 ⊢<;>omega)
end Ago
set_option maxRecDepth 100000
set_option maxHeartbeats 8000000
namespace Ago
open Go (IntKind)
theorem Sch.slim {x:Sch} (hx:x.bulk≤2^24):qpq x.s.parts:=by
 have L:=Sch.lens (N:=2^24) hx
 exact ⟨L.parts,fun p hp=>by have:=L.part p hp; omega⟩
theorem qmO (x:Sch) (hx:x.bulk≤2^24):q0k CS 562 [q03 x] (.bool (q21 x)):=by
 have L:=Sch.lens hx
 have l1:=L.parts
 have l2:=L.vals
 have l3:=L.props
 have l4:=L.args
 have hpb:=L.pat
 have hpa:=(Pat.lens (p:=x.s.pat) (N:=2^24) (by omega)).args
 have hs:=qmh x.s.parts (Sch.slim hx)
 have hpv:=qcX x.s.pat (by omega)
 have lo1:(x.s.parts.map q0m).length<2^30:=by rw[Ka]; omega
 have lo2:(x.s.pat.a.map q0G).length<2^30:=by rw[Ka]; omega
 have lo3:(x.s.vals.map q0u).length<2^30:=by rw[Ka]; omega
 have lo4:(x.p.map q0i).length<2^30:=by rw[Ka]; omega
 have lo5:(x.a.map q03).length<2^30:=by rw[Ka]; omega
 have lo6:([]:List AV).length<2^30:=by simp
 refine q04 qa4 rfl ?_
 unfold q81 at hs
 rw[q0r] at hpv
 have hfact:True:=trivial
 rcases qxn x.s.op with hop | hop | hop | hop | hop | hop | hop | hop | hop | hop | hop | hop | hop | hop | hop
 case inr.inr.inr.inl=>
  rw[q02]
  rw[hop]
  cases hfact:q7W x.s.parts<;>rw[hfact] at hs
  ·(repeat' first|simp (disch:=omega) only[go_sem,qa4,enter,Ka]|refine q00 _ (hs) ?_|refine q00 _ ((q3O _ _ _ _ _ _ _ _ _ _ _ _ _ _ _ (by assumption) (by assumption) (by assumption) (by assumption) (by assumption))) ?_|(apply spl<;>intro h<;>try simp (disch:=omega) only[go_sem,h]))
   all_goals
    first
     | rfl
     | omega
     | (
      cases hnb:x.s.name == []<;>first
       | (
        refine congrArg (fun b=>some (AV.bool b)) (KW.2 ?_)
        simp only[q21,q1Q,q1Y,q2F,q4m,hfact,hnb,Ka,Kg,beq_self_eq_true,Kd,KM,decide_eq_true_eq,hop,Int.reduceEq,Int.reduceLE,if_true,if_false,Ke,K1,true_iff,false_iff,iff_false,iff_true,and_true,true_and,or_true,true_or,false_or,or_false,and_false,false_and,not_true_eq_false,not_false_eq_true]
        omega)
       | (
        refine congrArg (fun b=>some (AV.bool b)) (KW.2 ?_)
        simp only[q21,q1Q,q1Y,q2F,q4m,hfact,hnb,Ka,Kg,beq_self_eq_true,Kd,KM,decide_eq_true_eq,hop,Int.reduceEq,Int.reduceLE,if_true,if_false,Ke,K1,true_iff,false_iff,iff_false,iff_true,and_true,true_and,or_true,true_or,false_or,or_false,and_false,false_and,not_true_eq_false,not_false_eq_true]
        done))
     | skip
  ·(repeat' first|simp (disch:=omega) only[go_sem,qa4,enter,Ka]|refine q00 _ (hs) ?_|refine q00 _ ((q3O _ _ _ _ _ _ _ _ _ _ _ _ _ _ _ (by assumption) (by assumption) (by assumption) (by assumption) (by assumption))) ?_|(apply spl<;>intro h<;>try simp (disch:=omega) only[go_sem,h]))
   all_goals
    first
     | rfl
     | omega
     | (
      cases hnb:x.s.name == []<;>first
       | (
        refine congrArg (fun b=>some (AV.bool b)) (KW.2 ?_)
        simp only[q21,q1Q,q1Y,q2F,q4m,hfact,hnb,Ka,Kg,beq_self_eq_true,Kd,KM,decide_eq_true_eq,hop,Int.reduceEq,Int.reduceLE,if_true,if_false,Ke,K1,true_iff,false_iff,iff_false,iff_true,and_true,true_and,or_true,true_or,false_or,or_false,and_false,false_and,not_true_eq_false,not_false_eq_true]
        omega)
       | (
        refine congrArg (fun b=>some (AV.bool b)) (KW.2 ?_)
        simp only[q21,q1Q,q1Y,q2F,q4m,hfact,hnb,Ka,Kg,beq_self_eq_true,Kd,KM,decide_eq_true_eq,hop,Int.reduceEq,Int.reduceLE,if_true,if_false,Ke,K1,true_iff,false_iff,iff_false,iff_true,and_true,true_and,or_true,true_or,false_or,or_false,and_false,false_and,not_true_eq_false,not_false_eq_true]
        done))
     | skip
 case inr.inr.inr.inr.inr.inl=>
  rw[q02]
  rw[hop]
  cases hfact:qla x.s.pat<;>rw[hfact] at hpv
  ·(repeat' first|simp (disch:=omega) only[go_sem,qa4,enter,Ka]|refine q00 _ (hpv) ?_|refine q00 _ ((q3O _ _ _ _ _ _ _ _ _ _ _ _ _ _ _ (by assumption) (by assumption) (by assumption) (by assumption) (by assumption))) ?_|(apply spl<;>intro h<;>try simp (disch:=omega) only[go_sem,h]))
   all_goals
    first
     | rfl
     | omega
     | (
      cases hnb:x.s.name == []<;>first
       | (
        refine congrArg (fun b=>some (AV.bool b)) (KW.2 ?_)
        simp only[q21,q1Q,q1Y,q2F,q4m,hfact,hnb,Ka,Kg,beq_self_eq_true,Kd,KM,decide_eq_true_eq,hop,Int.reduceEq,Int.reduceLE,if_true,if_false,Ke,K1,true_iff,false_iff,iff_false,iff_true,and_true,true_and,or_true,true_or,false_or,or_false,and_false,false_and,not_true_eq_false,not_false_eq_true]
        omega)
       | (
        refine congrArg (fun b=>some (AV.bool b)) (KW.2 ?_)
        simp only[q21,q1Q,q1Y,q2F,q4m,hfact,hnb,Ka,Kg,beq_self_eq_true,Kd,KM,decide_eq_true_eq,hop,Int.reduceEq,Int.reduceLE,if_true,if_false,Ke,K1,true_iff,false_iff,iff_false,iff_true,and_true,true_and,or_true,true_or,false_or,or_false,and_false,false_and,not_true_eq_false,not_false_eq_true]
        done))
     | skip
  ·(repeat' first|simp (disch:=omega) only[go_sem,qa4,enter,Ka]|refine q00 _ (hpv) ?_|refine q00 _ ((q3O _ _ _ _ _ _ _ _ _ _ _ _ _ _ _ (by assumption) (by assumption) (by assumption) (by assumption) (by assumption))) ?_|(apply spl<;>intro h<;>try simp (disch:=omega) only[go_sem,h]))
   all_goals
    first
     | rfl
     | omega
     | (
      cases hnb:x.s.name == []<;>first
       | (
        refine congrArg (fun b=>some (AV.bool b)) (KW.2 ?_)
        simp only[q21,q1Q,q1Y,q2F,q4m,hfact,hnb,Ka,Kg,beq_self_eq_true,Kd,KM,decide_eq_true_eq,hop,Int.reduceEq,Int.reduceLE,if_true,if_false,Ke,K1,true_iff,false_iff,iff_false,iff_true,and_true,true_and,or_true,true_or,false_or,or_false,and_false,false_and,not_true_eq_false,not_false_eq_true]
        omega)
       | (
        refine congrArg (fun b=>some (AV.bool b)) (KW.2 ?_)
        simp only[q21,q1Q,q1Y,q2F,q4m,hfact,hnb,Ka,Kg,beq_self_eq_true,Kd,KM,decide_eq_true_eq,hop,Int.reduceEq,Int.reduceLE,if_true,if_false,Ke,K1,true_iff,false_iff,iff_false,iff_true,and_true,true_and,or_true,true_or,false_or,or_false,and_false,false_and,not_true_eq_false,not_false_eq_true]
        done))
     | skip
 case inr.inr.inr.inr.inr.inr.inr.inl=>
  rw[q02]
  rw[hop]
  (repeat' first|simp (disch:=omega) only[go_sem,qa4,enter,Ka]|(apply spl<;>intro h<;>try simp (disch:=omega) only[go_sem,h]))
  all_goals
   first
    | rfl
    | omega
    | (
     cases hnb:x.s.name == []<;>first
      | (
       refine congrArg (fun b=>some (AV.bool b)) (KW.2 ?_)
       simp only[q21,q1Q,q1Y,q2F,q4m,hfact,hnb,Ka,Kg,beq_self_eq_true,Kd,KM,decide_eq_true_eq,hop,Int.reduceEq,Int.reduceLE,if_true,if_false,Ke,K1,true_iff,false_iff,iff_false,iff_true,and_true,true_and,or_true,true_or,false_or,or_false,and_false,false_and,not_true_eq_false,not_false_eq_true]
       omega)
      | (
       refine congrArg (fun b=>some (AV.bool b)) (KW.2 ?_)
       simp only[q21,q1Q,q1Y,q2F,q4m,hfact,hnb,Ka,Kg,beq_self_eq_true,Kd,KM,decide_eq_true_eq,hop,Int.reduceEq,Int.reduceLE,if_true,if_false,Ke,K1,true_iff,false_iff,iff_false,iff_true,and_true,true_and,or_true,true_or,false_or,or_false,and_false,false_and,not_true_eq_false,not_false_eq_true]
       done))
    | skip
  refine q07 (α:=Nat) (fun k=>{ tmps:=q0q 165 [(3,.ptr 15 0 0 0),(102,.tsl 13 (x.s.vals.map q0u)),(103,.int .i64 x.s.vals.length),(104,.int .i64 k)],heap:=[.row 15 [.agg [.int .i64 0,.int .i64 x.s.mask,.int .i64 x.s.min,.int .i64 x.s.max,.str x.s.name,.tsl 11 (x.s.parts.map q0m),.int .i64 x.s.pat.s.op,.int .i64 x.s.pat.s.lo,.int .i64 x.s.pat.s.hi,.int .i64 x.s.pat.s.min,.int .i64 x.s.pat.s.max,.tsl 6 (x.s.pat.a.map q0G),.snil 13,.tsl 17 (x.p.map q0i),.tsl 15 (x.a.map q03)]] false true 0],base:=0 }) (fun k=>k≤x.s.vals.length∧(x.s.vals.take k).all qdO=true) (fun k=>x.s.vals.length-k) 0 rfl ⟨Kp _,rfl⟩ ?_
  rintro k ⟨hk,ha⟩
  by_cases hlt:k<x.s.vals.length
  ·obtain ⟨y,hy⟩:=q06 hlt
   have hym:=Kc hy
   have hy2:=q0c (g:=q0u) hy
   have r2:=upS (qam y (by have:=L.val y hym; omega))
   rw[q08] at hy2 r2
   by_cases hsc:qdO y=true
   ·have hsc2:=hsc
    simp only[qdO,Kd,decide_eq_true_eq] at hsc2
    obtain ⟨c1,c2⟩:=hsc2
    rw[c2] at r2
    (repeat' first|simp (disch:=omega) only[go_sem,hy2,Ka]|refine q00 _ (r2) ?_|(apply spl<;>intro h<;>try simp (disch:=omega) only[go_sem,h]))
    all_goals try omega
    exact ⟨k+1,rfl,⟨hlt,q0M hy ha hsc⟩,by omega⟩
   ·have hn:x.s.vals.all qdO=false:=q7j hy (by simpa using hsc)
    have hfm:q21 x=false:=by simp [q21,hop,hn]
    rw[hfm]
    by_cases c1:y.s.kind<6
    ·have c2 : ¬ q49 y=0:=fun c2=>hsc (by simp [qdO,c1,c2])
     (repeat' first|simp (disch:=omega) only[go_sem,hy2,Ka]|refine q00 _ (r2) ?_|(apply spl<;>intro h<;>try simp (disch:=omega) only[go_sem,h]))
     all_goals omega
    ·(repeat' first|simp (disch:=omega) only[go_sem,hy2,Ka]|refine q00 _ (r2) ?_|(apply spl<;>intro h<;>try simp (disch:=omega) only[go_sem,h]))
     all_goals omega
  ·rw[q1j hlt hk] at ha
   have hfact:=ha
   (repeat' first|simp (disch:=omega) only[go_sem,Ka]|refine q00 _ ((q3O _ _ _ _ _ _ _ _ _ _ _ _ _ _ _ (by assumption) (by assumption) (by assumption) (by assumption) (by assumption))) ?_|(apply spl<;>intro h<;>try simp (disch:=omega) only[go_sem,h]))
   all_goals
    first
     | rfl
     | omega
     | (
      cases hnb:x.s.name == []<;>first
       | (
        refine congrArg (fun b=>some (AV.bool b)) (KW.2 ?_)
        simp only[q21,q1Q,q1Y,q2F,q4m,hfact,hnb,Ka,Kg,beq_self_eq_true,Kd,KM,decide_eq_true_eq,hop,Int.reduceEq,Int.reduceLE,if_true,if_false,Ke,K1,true_iff,false_iff,iff_false,iff_true,and_true,true_and,or_true,true_or,false_or,or_false,and_false,false_and,not_true_eq_false,not_false_eq_true]
        omega)
       | (
        refine congrArg (fun b=>some (AV.bool b)) (KW.2 ?_)
        simp only[q21,q1Q,q1Y,q2F,q4m,hfact,hnb,Ka,Kg,beq_self_eq_true,Kd,KM,decide_eq_true_eq,hop,Int.reduceEq,Int.reduceLE,if_true,if_false,Ke,K1,true_iff,false_iff,iff_false,iff_true,and_true,true_and,or_true,true_or,false_or,or_false,and_false,false_and,not_true_eq_false,not_false_eq_true]
        done))
     | skip
 case inr.inr.inr.inr.inr.inr.inr.inr.inr.inl=>
  rw[q02]
  rw[hop]
  (repeat' first|simp (disch:=omega) only[go_sem,qa4,enter,Ka]|(apply spl<;>intro h<;>try simp (disch:=omega) only[go_sem,h]))
  all_goals
   first
    | rfl
    | omega
    | (
     cases hnb:x.s.name == []<;>first
      | (
       refine congrArg (fun b=>some (AV.bool b)) (KW.2 ?_)
       simp only[q21,q1Q,q1Y,q2F,q4m,hfact,hnb,Ka,Kg,beq_self_eq_true,Kd,KM,decide_eq_true_eq,hop,Int.reduceEq,Int.reduceLE,if_true,if_false,Ke,K1,true_iff,false_iff,iff_false,iff_true,and_true,true_and,or_true,true_or,false_or,or_false,and_false,false_and,not_true_eq_false,not_false_eq_true]
       omega)
      | (
       refine congrArg (fun b=>some (AV.bool b)) (KW.2 ?_)
       simp only[q21,q1Q,q1Y,q2F,q4m,hfact,hnb,Ka,Kg,beq_self_eq_true,Kd,KM,decide_eq_true_eq,hop,Int.reduceEq,Int.reduceLE,if_true,if_false,Ke,K1,true_iff,false_iff,iff_false,iff_true,and_true,true_and,or_true,true_or,false_or,or_false,and_false,false_and,not_true_eq_false,not_false_eq_true]
       done))
    | skip
  refine q07 (α:=Nat) (fun k=>{ tmps:=q0q 165 [(1,.ptr 15 0 0 0),(3,.ptr 15 1 0 0),(122,.tsl 17 (x.p.map q0i)),(123,.int .i64 x.p.length),(124,.int .i64 k)],heap:=[.row 15 [.agg [.int .i64 10,.int .i64 x.s.mask,.int .i64 x.s.min,.int .i64 x.s.max,.str x.s.name,.tsl 11 (x.s.parts.map q0m),.int .i64 x.s.pat.s.op,.int .i64 x.s.pat.s.lo,.int .i64 x.s.pat.s.hi,.int .i64 x.s.pat.s.min,.int .i64 x.s.pat.s.max,.tsl 6 (x.s.pat.a.map q0G),.tsl 13 (x.s.vals.map q0u),.tsl 17 (x.p.map q0i),.tsl 15 (x.a.map q03)]] false true 0,.row 15 [.agg [.int .i64 0,.int .i64 x.s.mask,.int .i64 x.s.min,.int .i64 x.s.max,.str x.s.name,.tsl 11 (x.s.parts.map q0m),.int .i64 x.s.pat.s.op,.int .i64 x.s.pat.s.lo,.int .i64 x.s.pat.s.hi,.int .i64 x.s.pat.s.min,.int .i64 x.s.pat.s.max,.tsl 6 (x.s.pat.a.map q0G),.tsl 13 (x.s.vals.map q0u),.snil 17,.snil 15]] false true 1],base:=0 }) (fun k=>k≤x.p.length∧(x.p.take k).all (fun p=>qaw p.1.key)=true) (fun k=>x.p.length-k) 0 rfl ⟨Kp _,rfl⟩ ?_
  rintro k ⟨hk,ha⟩
  by_cases hlt:k<x.p.length
  ·obtain ⟨y,hy⟩:=q06 hlt
   have hym:=Kc hy
   have hy2:=q0c (g:=q0i) hy
   have hkl:=(L.pkids y hym).2
   have r2:=upS (q8h y.1.key (by omega))
   rw[q0o] at hy2
   by_cases hsc:qaw y.1.key=true
   ·have hsc2:=hsc
    simp only[qaw,Kd,decide_eq_true_eq] at hsc2
    obtain ⟨c1,c2⟩:=hsc2
    rw[c1] at r2
    (repeat' first|simp (disch:=omega) only[go_sem,hy2,Ka]|refine q00 _ (r2) ?_|(apply spl<;>intro h<;>try simp (disch:=omega) only[go_sem,h]))
    all_goals try omega
    exact ⟨k+1,rfl,⟨hlt,q0M hy ha hsc⟩,by omega⟩
   ·have hn:(x.p.all fun p=>qaw p.1.key)=false:=q7j hy (by simpa using hsc)
    have hfm:q21 x=false:=by
     unfold q21
     rw[hop,hn]
     simp
    rw[hfm]
    cases hu:utf y.1.key with
    | true=>
     rw[hu] at r2
     have c2 : ¬ y.1.key.length≤1024:=fun c2=>hsc (by simp [qaw,hu,c2])
     (repeat' first|simp (disch:=omega) only[go_sem,hy2,Ka]|refine q00 _ (r2) ?_|(apply spl<;>intro h<;>try simp (disch:=omega) only[go_sem,h]))
     all_goals omega
    | false=>
     rw[hu] at r2
     (repeat' first|simp (disch:=omega) only[go_sem,hy2,Ka]|refine q00 _ (r2) ?_|(apply spl<;>intro h<;>try simp (disch:=omega) only[go_sem,h]))
     all_goals omega
  ·rw[q1j hlt hk] at ha
   have hfact:=ha
   (repeat' first|simp (disch:=omega) only[go_sem,Ka]|refine q00 _ ((q3O _ _ _ _ _ _ _ _ _ _ _ _ _ _ _ (by assumption) (by assumption) (by assumption) (by assumption) (by assumption))) ?_|(apply spl<;>intro h<;>try simp (disch:=omega) only[go_sem,h]))
   all_goals
    first
     | rfl
     | omega
     | (
      cases hnb:x.s.name == []<;>first
       | (
        refine congrArg (fun b=>some (AV.bool b)) (KW.2 ?_)
        simp only[q21,q1Q,q1Y,q2F,q4m,hfact,hnb,Ka,Kg,beq_self_eq_true,Kd,KM,decide_eq_true_eq,hop,Int.reduceEq,Int.reduceLE,if_true,if_false,Ke,K1,true_iff,false_iff,iff_false,iff_true,and_true,true_and,or_true,true_or,false_or,or_false,and_false,false_and,not_true_eq_false,not_false_eq_true]
        omega)
       | (
        refine congrArg (fun b=>some (AV.bool b)) (KW.2 ?_)
        simp only[q21,q1Q,q1Y,q2F,q4m,hfact,hnb,Ka,Kg,beq_self_eq_true,Kd,KM,decide_eq_true_eq,hop,Int.reduceEq,Int.reduceLE,if_true,if_false,Ke,K1,true_iff,false_iff,iff_false,iff_true,and_true,true_and,or_true,true_or,false_or,or_false,and_false,false_and,not_true_eq_false,not_false_eq_true]
        done))
     | skip
 all_goals
  rw[q02]
  try rw[hop]
  (repeat' first|simp (disch:=omega) only[go_sem,qa4,enter,Ka]|refine q00 _ ((q3O _ _ _ _ _ _ _ _ _ _ _ _ _ _ _ (by assumption) (by assumption) (by assumption) (by assumption) (by assumption))) ?_|(apply spl<;>intro h<;>try simp (disch:=omega) only[go_sem,h]))
  all_goals
   first
    | rfl
    | omega
    | (
     cases hnb:x.s.name == []<;>first
      | (
       refine congrArg (fun b=>some (AV.bool b)) (KW.2 ?_)
       simp only[q21,q1Q,q1Y,q2F,q4m,hfact,hnb,Ka,Kg,beq_self_eq_true,Kd,KM,decide_eq_true_eq,hop,Int.reduceEq,Int.reduceLE,if_true,if_false,Ke,K1,true_iff,false_iff,iff_false,iff_true,and_true,true_and,or_true,true_or,false_or,or_false,and_false,false_and,not_true_eq_false,not_false_eq_true]
       omega)
      | (
       refine congrArg (fun b=>some (AV.bool b)) (KW.2 ?_)
       simp only[q21,q1Q,q1Y,q2F,q4m,hfact,hnb,Ka,Kg,beq_self_eq_true,Kd,KM,decide_eq_true_eq,hop,Int.reduceEq,Int.reduceLE,if_true,if_false,Ke,K1,true_iff,false_iff,iff_false,iff_true,and_true,true_and,or_true,true_or,false_or,or_false,and_false,false_and,not_true_eq_false,not_false_eq_true]
       done))
    | skip
end Ago
