/- A definition is looked up; keys that are there twice; the reference's check of nodes. -/
import Derived.Test.YtahoajoopdphhaaGreatDoorRunB
import Derived.Test.YtahoajoopdphhaaGreatDoorRunC
import Derived.Test.YtahoajoopdphhaaGreatDoorRunF
import Derived.Test.YtahoajoopdphhaaGreatDoorRunA
set_option linter.unusedSimpArgs false
set_option linter.unusedVariables false
set_option maxRecDepth 100000
set_option maxHeartbeats 8000000
namespace Ago
open Go (IntKind)
theorem Schs.dlen {s:Schs} {N:Nat} (hs:s.bulk≤N):s.defs.length<N∧∀ d,d∈s.defs→d.2.bulk<s.bulk∧d.1.length<N:=by
 have e:=s.bulk_eq
 have h1:=q2L (s.defs.map q0H)
 rw[Ka] at h1
 have:1≤s.root.bulk:=q46 _
 refine ⟨by omega,fun d hd=>?_⟩
 have:=q3n (VJ (f:=q0H) hd)
 rw[q2Y] at this
 have:1≤d.2.bulk:=q46 _
 omega
def q8K:AV:=.agg [.int .i64 0,.int .i64 0,.int .i64 0,.int .i64 0,.str [],.snil 11,.int .i64 0,.int .i64 0,.int .i64 0,.int .i64 0,.int .i64 0,.snil 6,.snil 13,.snil 17,.snil 15]
def lkM (s:Schs) (name:List UInt8):Sch × Bool:=match s.defs.find? fun d=>d.1 == name with
 | some d=>(d.2,true)
 | none=>(qlF,false)
theorem qcV {α:Type} {p:α→Bool} {l:List α} {k:Nat} {y:α} (hy:l[k]?=some y) (ha:(l.take k).any p=false) (hp:p y=true):l.find? p=some y:=by
 have h1:l=l.take k++y::l.drop (k+1):=by rw[←qiE hy,Vl]
 rw[h1,List.find?_append]
 have h2:(l.take k).find? p=none:=by
  rw[List.find?_eq_none]
  intro x hx hpx
  have:=List.any_eq_true.2 ⟨x,hx,hpx⟩
  rw[ha] at this
  cases this
 rw[h2]
 simp [hp]
theorem q7H {α:Type} {p:α→Bool} {l:List α} (ha:l.any p=false):l.find? p=none:=by
 rw[List.find?_eq_none]
 intro x hx hpx
 have:=List.any_eq_true.2 ⟨x,hx,hpx⟩
 rw[ha] at this
 cases this
theorem q5o (s:Schs) (name:List UInt8) (hs:s.bulk≤2^24):q0m CS 458 [q0y s,.str name] (.tup [q06 (lkM s name).1,.bool (lkM s name).2]):=by
 have hd:=(Schs.dlen hs).1
 refine q05 qmF rfl ?_
 rw[q0h]
 (repeat' first|simp (disch:=omega) only[go_sem,qmF,enter,Ka]|(apply spl<;>intro h<;>try simp (disch:=omega) only[go_sem,h]))
 refine q0a (α:=Nat) (fun k=>{ tmps:=q0i 29 [(1,.str name),(2,.ptr 16 0 0 0),(4,.ptr 15 1 0 0),(6,.int .i64 k)],heap:=[.row 16 [q0y s] false true 0,.row 15 [q8K] false true 1],base:=0 }) (fun k=>k≤s.defs.length∧(s.defs.take k).any (fun d=>d.1 == name)=false) (fun k=>s.defs.length-k) 0 (by rw[q0h]; rfl) ⟨Kn _,rfl⟩ ?_
 rintro k ⟨hk,ha⟩
 rw[q0h]
 by_cases hlt:k<s.defs.length
 ·obtain ⟨d,hdk⟩:=q08 hlt
  have hd2:=q0d (g:=q0H) hdk
  rw[q0K] at hd2
  cases hb:d.1 == name with
  | true=>
   have hf:=qcV hdk ha hb
   have hl:lkM s name=(d.2,true):=by unfold lkM; rw[hf]
   rw[hl,q02]
   (repeat' first|simp (disch:=omega) only[go_sem,hd2,hb,Ka,q8K])
  | false=>
   (repeat' first|simp (disch:=omega) only[go_sem,hd2,hb,Ka,q8K]|(apply spl<;>intro h<;>try simp (disch:=omega) only[go_sem,h]))
   all_goals try omega
   refine ⟨k+1,?_,⟨hlt,q3j hdk ha hb⟩,by omega⟩
   first | rfl | (rw[q0h s]; rfl)
 ·rw[q0M hlt hk] at ha
  have hf:=q7H ha
  have hl:lkM s name=(qlF,false):=by unfold lkM; rw[hf]
  rw[hl,qgk]
  (repeat' first|simp (disch:=omega) only[go_sem,Ka,q8K])
theorem qcc (l:List (List UInt8)) (s:List UInt8) (hl:l.length<2^30):q0m CS 492 [.tsl 1 (l.map .str),.str s] (.bool (l.any fun x=>x == s)):=by
 refine q05 qmB rfl ?_
 (repeat' first|simp (disch:=omega) only[go_sem,qmB,enter,Ka]|(apply spl<;>intro h<;>try simp (disch:=omega) only[go_sem,h]))
 refine q0a (α:=Nat) (fun k=>{ tmps:=q0i 18 [(0,.tsl 1 (l.map .str)),(1,.str s),(5,.int .i64 k)],heap:=[],base:=0 }) (fun k=>k≤l.length∧(l.take k).any (fun x=>x == s)=false) (fun k=>l.length-k) 0 rfl ⟨Kn _,rfl⟩ ?_
 rintro k ⟨hk,ha⟩
 by_cases hlt:k<l.length
 ·obtain ⟨y,hy⟩:=q08 hlt
  have hy2:=q0d (g:=AV.str) hy
  cases hb:y == s with
  | true=>
   rw[qeq hy hb]
   (repeat' first|simp (disch:=omega) only[go_sem,hy2,hb,Ka])
   all_goals omega
  | false=>
   (repeat' first|simp (disch:=omega) only[go_sem,hy2,hb,Ka]|(apply spl<;>intro h<;>try simp (disch:=omega) only[go_sem,h]))
   all_goals try omega
   exact ⟨k+1,rfl,⟨hlt,q3j hy ha hb⟩,by omega⟩
 ·rw[q0M hlt hk] at ha
  rw[ha]
  (repeat' first|simp (disch:=omega) only[go_sem,Ka])
def q9Z:List (List UInt8)→List (List UInt8)→Bool
 | _,[]=>false
 | seen,y::l=>seen.any (fun x=>x == y) || q9Z (seen++[y]) l
def qlE (l:List (List UInt8)):Bool:=q9Z [] l
theorem q69 {l:List (List UInt8)} {k:Nat} {y:List UInt8} (hy:l[k]?=some y):q9Z (l.take k) (l.drop k)=((l.take k).any (fun x=>x == y) || q9Z (l.take (k+1)) (l.drop (k+1))):=by
 rw[qiE hy]
 have:l.take (k+1)=l.take k++[y]:=by rw[KD,hy]; rfl
 rw[this]
 rfl
def q8r (s:Schs) (x:Sch):Int:=
 if q18 x=false then 1 else if x.s.op=7∧q3f x.s.name=false then 7 else if x.s.op=14∧(lkM s x.s.name).2=false then 7 else if qlE (x.p.map fun p=>p.1.key)=true then 8 else 0
def q1d (x:Sch):List (List UInt8):=x.p.map fun p=>p.1.key
theorem qii (s:Schs) (name:List UInt8) (hs:s.bulk≤2^24):q0m CS 457 [q0y s,.str name] (.tup [q06 (if (lkM s name).2=true then q7L (2^24) (lkM s name).1 else qlF),.bool (lkM s name).2]):=by
 have hd:=Schs.dlen hs
 obtain ⟨hd,hd2⟩:=hd
 refine q05 qnF rfl ?_
 rw[q0h]
 (repeat' first|simp (disch:=omega) only[go_sem,qnF,enter,Ka]|(apply spl<;>intro h<;>try simp (disch:=omega) only[go_sem,h]))
 refine q0a (α:=Nat) (fun k=>{ tmps:=q0i 24 [(1,.str name),(4,.ptr 15 0 0 0),(9,.tsl 16 (s.defs.map q0H)),(10,.int .i64 s.defs.length),(11,.int .i64 k)],heap:=[.row 15 [q8K] false true 0],base:=0 }) (fun k=>k≤s.defs.length∧(s.defs.take k).any (fun d=>d.1 == name)=false) (fun k=>s.defs.length-k) 0 rfl ⟨Kn _,rfl⟩ ?_
 rintro k ⟨hk,ha⟩
 by_cases hlt:k<s.defs.length
 ·obtain ⟨d,hdk⟩:=q08 hlt
  have hdm:=Kc hdk
  have hde:=q0d (g:=q0H) hdk
  have hr:=qhX (2^24) d.2 (by have:=(hd2 d hdm).1; omega) (Kr _)
  rw[q0K] at hde
  cases hb:d.1 == name with
  | true=>
   have hf:=qcV hdk ha hb
   have hl:lkM s name=(d.2,true):=by unfold lkM; rw[hf]
   rw[hl,if_pos rfl]
   rw[q02 (q7L _ _)] at hr ⊢
   rw[q02] at hr
   (repeat' first|simp (disch:=omega) only[go_sem,hde,hb,Ka,q8K]|refine q00 _ (hr) ?_)
  | false=>
   (repeat' first|simp (disch:=omega) only[go_sem,hde,hb,Ka,q8K]|(apply spl<;>intro h<;>try simp (disch:=omega) only[go_sem,h]))
   all_goals try omega
   exact ⟨k+1,rfl,⟨hlt,q3j hdk ha hb⟩,by omega⟩
 ·rw[q0M hlt hk] at ha
  have hf:=q7H ha
  have hl:lkM s name=(qlF,false):=by unfold lkM; rw[hf]
  rw[hl,if_neg (by simp),qgk]
  (repeat' first|simp (disch:=omega) only[go_sem,Ka,q8K])
def q2e (l:List (List UInt8)):List (AV × AV):=l.map fun x=>(.str x,.int .i64 1)
theorem qcL (l:List (List UInt8)):qpO (.map (q2e l)):=qh7 fun x hx=>by
 unfold q2e at hx
 obtain ⟨y,_,rfl⟩:=KV.1 hx
 exact ⟨qej y,q0F _ _⟩
theorem q2R (k:List UInt8) : ∀ (l:List (List UInt8)) (i:Nat),((l.any fun x=>x == k)=false→findKey (.one .str) (.str k) (q2e l) i=some none)∧((l.any fun x=>x == k)=true→∃ j,findKey (.one .str) (.str k) (q2e l) i=some (some (i+j,.int .i64 1))∧findKey (.one .str) (.str k) ((q2e l).set j (.str k,.int .i64 2)) i=some (some (i+j,.int .i64 2)))
 | [],i=>⟨fun _=>rfl,fun h=>by simp at h⟩
 | x::l,i=>by
  obtain ⟨h1,h2⟩:=q2R k l (i+1)
  by_cases he:x=k
  ·subst he
   refine ⟨fun h=>by simp at h,fun _=>⟨0,?_,?_⟩⟩<;>simp [q2e,findKey,q44,q31]
  ·have e1:(x == k)=false:=by simpa using he
   have e2:(k == x)=false:=by simpa using fun e=>he e.symm
   have e:findKey (.one .str) (.str k) (q2e (x::l)) i=findKey (.one .str) (.str k) (q2e l) (i+1):=by
    simp [q2e,findKey,q44,q31,e2]
   rw[e,List.any_cons,e1,Vj]
   refine ⟨h1,fun h=>?_⟩
   obtain ⟨j,g1,g2⟩:=h2 h
   refine ⟨j+1,?_,?_⟩
   ·rw[g1,show i+1+j=i+(j+1) by omega]
   ·have e3:findKey (.one .str) (.str k) ((q2e (x::l)).set (j+1) (.str k,.int .i64 2)) i=findKey (.one .str) (.str k) ((q2e l).set j (.str k,.int .i64 2)) (i+1):=by
     simp [q2e,findKey,q44,q31,e2]
    rw[e3,g2,show i+1+j=i+(j+1) by omega]
end Ago
set_option maxRecDepth 100000
set_option maxHeartbeats 16000000
namespace Ago
open Go (IntKind)
theorem q3l (x:Sch):(q1d x).length=x.p.length:=Ka ..
theorem q51 {x:Sch} {k:Nat} {y:PK × Sch} (hy:x.p[k]?=some y):(q1d x)[k]?=some y.1.key:=q0d (g:=fun p:PK × Sch=>p.1.key) hy
theorem q8m {l:List (List UInt8)} {k:Nat} (h:l.length≤k) (hd:qlE l=q9Z (l.take k) (l.drop k)):qlE l=false:=by
 rw[hd,KX h]
 rfl
theorem qfP (s:Schs) (x:Sch) (hs:s.bulk≤2^24) (hx:x.bulk≤2^24):q0m CS 516 [q0y s,q06 x] (.int .i64 (q8r s x)):=by
 have L:=Sch.lens (N:=2^24) hx
 have l3:=L.props
 have hkn:q8r s x=if q18 x=false then 1 else if x.s.op=7∧q3f x.s.name=false then 7 else if x.s.op=14∧(lkM s x.s.name).2=false then 7 else if qlE (q1d x)=true then 8 else 0:=rfl
 have hf:=qfa x hx
 have hk:=qed x.s.name
 have hl:=q5o s x.s.name hs
 refine q05 qcG rfl ?_
 rw[q02 (lkM s x.s.name).1] at hl
 rw[q0h] at hl ⊢
 cases hb:q18 x
 ·rw[hb] at hf
  rw[hkn,if_pos hb]
  rw[q02] at hf ⊢
  (repeat' first|simp (disch:=omega) only[go_sem,qcG,enter]|refine q00 _ (hf) ?_)
 rw[hb] at hf
 rw[if_neg (by rw[hb]; simp)] at hkn
 rw[q02] at hf ⊢
 by_cases c7:x.s.op=7∧q3f x.s.name=false
 ·rw[hkn,if_pos c7]
  obtain ⟨c7,c7'⟩:=c7
  rw[c7'] at hk
  (repeat' first|simp (disch:=omega) only[go_sem,qcG,enter]|refine q00 _ (hf) ?_|refine q00 _ (hk) ?_)
 rw[if_neg c7] at hkn
 by_cases c14:x.s.op=14∧(lkM s x.s.name).2=false
 ·rw[hkn,if_pos c14]
  obtain ⟨c14,c14'⟩:=c14
  rw[c14'] at hl
  (repeat' first|simp (disch:=omega) only[go_sem,qcG,enter]|refine q00 _ (hf) ?_|refine q00 _ (hk) ?_|refine q00 _ (hl) ?_)
 rw[if_neg c14] at hkn
 rw[hkn]
 have hkk:x.s.op=7→q3f x.s.name=true:=fun h=>by
  cases q:q3f x.s.name with
  | true=>rfl
  | false=>exact (c7 ⟨h,q⟩).elim
 have hll:x.s.op=14→(lkM s x.s.name).2=true:=fun h=>by
  cases q:(lkM s x.s.name).2 with
  | true=>rfl
  | false=>exact (c14 ⟨h,q⟩).elim
 by_cases h7:x.s.op=7
 ·rw[hkk h7] at hk
  (repeat' first|simp (disch:=omega) only[go_sem,qcG,enter]|refine q00 _ (hf) ?_|refine q00 _ (hk) ?_|refine q00 _ (hl) ?_|(apply spl<;>intro h<;>try simp (disch:=omega) only[go_sem,h]))
  refine q0a (α:=Nat) (fun k=>{ tmps:=q0i 57 [(3,.ptr 15 0 0 0),(7,q0B 1 1 (((q1d x).take k).map .str)),(8,.int .i64 k)],heap:=[.row 15 [q06 x] false true 0]++q0z 1 1 (((q1d x).take k).map .str),base:=0 }) (fun k=>k≤x.p.length∧qlE (q1d x)=q9Z ((q1d x).take k) ((q1d x).drop k)) (fun k=>x.p.length-k) 0 (by rw[q02]; rfl) ⟨Kn _,rfl⟩ ?_
  rintro k ⟨hk,hd⟩
  rw[q02]
  obtain ⟨out,hout⟩ : ∃ out,((q1d x).take k).map AV.str=out:=⟨_,rfl⟩
  have hol:out.length=k:=by
   rw[←hout,Ka,KI,q3l]
   omega
  by_cases hlt:k<x.p.length
  ·obtain ⟨y,hy⟩:=q08 hlt
   have hy2:=q0d (g:=q1k) hy
   have hy3:=q51 hy
   rw[q2g] at hy2
   have hr:=qcc ((q1d x).take k) y.1.key (by rw[KI]; omega)
   rw[hout] at hr
   rw[q69 hy3] at hd
   have hnew:((q1d x).take (k+1)).map AV.str=out++[.str y.1.key]:=by
    rw[KD,hy3,←hout]
    simp
   rw[hout]
   cases hc:((q1d x).take k).any (fun z=>z == y.1.key) with
   | true=>
    rw[hc] at hr hd
    rw[V8] at hd
    rw[hd,if_pos rfl]
    cases out with
    | nil=>(repeat' first|simp (disch:=omega) only[go_sem,hy2,Ka,q0B,q0z]|refine q00 _ (hr) ?_)
    | cons z zs=>
     simp only[List.length_cons] at hol
     (repeat' first|simp (disch:=omega) only[go_sem,hy2,Ka,q0B,q0z,Ky]|refine q00 _ (hr) ?_)
   | false=>
    rw[hc] at hr hd
    rw[Vj] at hd
    cases out with
    | nil=>
     (repeat' first|simp (disch:=omega) only[go_sem,hy2,Ka,q0B,q0z]|refine q00 _ (hr) ?_|(apply spl<;>intro h<;>try simp (disch:=omega) only[go_sem,h]))
     all_goals first | omega | skip
     refine ⟨k+1,?_,⟨hlt,hd⟩,by omega⟩
     simp only[hnew]
     first | rfl | (rw[q02 x]; rfl)
    | cons z zs=>
     simp only[List.length_cons] at hol
     (repeat' first|simp (disch:=omega) only[go_sem,hy2,Ka,q0B,q0z,Ky]|refine q00 _ (hr) ?_|(apply spl<;>intro h<;>try simp (disch:=omega) only[go_sem,h]))
     all_goals first | omega | skip
     refine ⟨k+1,?_,⟨hlt,hd⟩,by omega⟩
     simp only[hnew,Kf,q0B,q0z,Kb,List.length_cons,List.length_nil]
     first | rfl | (rw[q02 x]; rfl)
  ·rw[q8m (by rw[q3l]; omega) hd,if_neg (by simp),hout]
   cases out with
   | nil=>(repeat' first|simp (disch:=omega) only[go_sem,Ka,q0B,q0z])
   | cons z zs=>(repeat' first|simp (disch:=omega) only[go_sem,Ka,q0B,q0z])
 ·by_cases h14:x.s.op=14
  ·rw[hll h14] at hl
   (repeat' first|simp (disch:=omega) only[go_sem,qcG,enter]|refine q00 _ (hf) ?_|refine q00 _ (hk) ?_|refine q00 _ (hl) ?_|(apply spl<;>intro h<;>try simp (disch:=omega) only[go_sem,h]))
   refine q0a (α:=Nat) (fun k=>{ tmps:=q0i 57 [(3,.ptr 15 0 0 0),(7,q0B 1 1 (((q1d x).take k).map .str)),(8,.int .i64 k)],heap:=[.row 15 [q06 x] false true 0]++q0z 1 1 (((q1d x).take k).map .str),base:=0 }) (fun k=>k≤x.p.length∧qlE (q1d x)=q9Z ((q1d x).take k) ((q1d x).drop k)) (fun k=>x.p.length-k) 0 (by rw[q02]; rfl) ⟨Kn _,rfl⟩ ?_
   rintro k ⟨hk,hd⟩
   rw[q02]
   obtain ⟨out,hout⟩ : ∃ out,((q1d x).take k).map AV.str=out:=⟨_,rfl⟩
   have hol:out.length=k:=by
    rw[←hout,Ka,KI,q3l]
    omega
   by_cases hlt:k<x.p.length
   ·obtain ⟨y,hy⟩:=q08 hlt
    have hy2:=q0d (g:=q1k) hy
    have hy3:=q51 hy
    rw[q2g] at hy2
    have hr:=qcc ((q1d x).take k) y.1.key (by rw[KI]; omega)
    rw[hout] at hr
    rw[q69 hy3] at hd
    have hnew:((q1d x).take (k+1)).map AV.str=out++[.str y.1.key]:=by
     rw[KD,hy3,←hout]
     simp
    rw[hout]
    cases hc:((q1d x).take k).any (fun z=>z == y.1.key) with
    | true=>
     rw[hc] at hr hd
     rw[V8] at hd
     rw[hd,if_pos rfl]
     cases out with
     | nil=>(repeat' first|simp (disch:=omega) only[go_sem,hy2,Ka,q0B,q0z]|refine q00 _ (hr) ?_)
     | cons z zs=>
      simp only[List.length_cons] at hol
      (repeat' first|simp (disch:=omega) only[go_sem,hy2,Ka,q0B,q0z,Ky]|refine q00 _ (hr) ?_)
    | false=>
     rw[hc] at hr hd
     rw[Vj] at hd
     cases out with
     | nil=>
      (repeat' first|simp (disch:=omega) only[go_sem,hy2,Ka,q0B,q0z]|refine q00 _ (hr) ?_|(apply spl<;>intro h<;>try simp (disch:=omega) only[go_sem,h]))
      all_goals first | omega | skip
      refine ⟨k+1,?_,⟨hlt,hd⟩,by omega⟩
      simp only[hnew]
      first | rfl | (rw[q02 x]; rfl)
     | cons z zs=>
      simp only[List.length_cons] at hol
      (repeat' first|simp (disch:=omega) only[go_sem,hy2,Ka,q0B,q0z,Ky]|refine q00 _ (hr) ?_|(apply spl<;>intro h<;>try simp (disch:=omega) only[go_sem,h]))
      all_goals first | omega | skip
      refine ⟨k+1,?_,⟨hlt,hd⟩,by omega⟩
      simp only[hnew,Kf,q0B,q0z,Kb,List.length_cons,List.length_nil]
      first | rfl | (rw[q02 x]; rfl)
   ·rw[q8m (by rw[q3l]; omega) hd,if_neg (by simp),hout]
    cases out with
    | nil=>(repeat' first|simp (disch:=omega) only[go_sem,Ka,q0B,q0z])
    | cons z zs=>(repeat' first|simp (disch:=omega) only[go_sem,Ka,q0B,q0z])
  ·(repeat' first|simp (disch:=omega) only[go_sem,qcG,enter]|refine q00 _ (hf) ?_|refine q00 _ (hk) ?_|refine q00 _ (hl) ?_|(apply spl<;>intro h<;>try simp (disch:=omega) only[go_sem,h]))
   refine q0a (α:=Nat) (fun k=>{ tmps:=q0i 57 [(3,.ptr 15 0 0 0),(7,q0B 1 1 (((q1d x).take k).map .str)),(8,.int .i64 k)],heap:=[.row 15 [q06 x] false true 0]++q0z 1 1 (((q1d x).take k).map .str),base:=0 }) (fun k=>k≤x.p.length∧qlE (q1d x)=q9Z ((q1d x).take k) ((q1d x).drop k)) (fun k=>x.p.length-k) 0 (by rw[q02]; rfl) ⟨Kn _,rfl⟩ ?_
   rintro k ⟨hk,hd⟩
   rw[q02]
   obtain ⟨out,hout⟩ : ∃ out,((q1d x).take k).map AV.str=out:=⟨_,rfl⟩
   have hol:out.length=k:=by
    rw[←hout,Ka,KI,q3l]
    omega
   by_cases hlt:k<x.p.length
   ·obtain ⟨y,hy⟩:=q08 hlt
    have hy2:=q0d (g:=q1k) hy
    have hy3:=q51 hy
    rw[q2g] at hy2
    have hr:=qcc ((q1d x).take k) y.1.key (by rw[KI]; omega)
    rw[hout] at hr
    rw[q69 hy3] at hd
    have hnew:((q1d x).take (k+1)).map AV.str=out++[.str y.1.key]:=by
     rw[KD,hy3,←hout]
     simp
    rw[hout]
    cases hc:((q1d x).take k).any (fun z=>z == y.1.key) with
    | true=>
     rw[hc] at hr hd
     rw[V8] at hd
     rw[hd,if_pos rfl]
     cases out with
     | nil=>(repeat' first|simp (disch:=omega) only[go_sem,hy2,Ka,q0B,q0z]|refine q00 _ (hr) ?_)
     | cons z zs=>
      simp only[List.length_cons] at hol
      (repeat' first|simp (disch:=omega) only[go_sem,hy2,Ka,q0B,q0z,Ky]|refine q00 _ (hr) ?_)
    | false=>
     rw[hc] at hr hd
     rw[Vj] at hd
     cases out with
     | nil=>
      (repeat' first|simp (disch:=omega) only[go_sem,hy2,Ka,q0B,q0z]|refine q00 _ (hr) ?_|(apply spl<;>intro h<;>try simp (disch:=omega) only[go_sem,h]))
      all_goals first | omega | skip
      refine ⟨k+1,?_,⟨hlt,hd⟩,by omega⟩
      simp only[hnew]
      first | rfl | (rw[q02 x]; rfl)
     | cons z zs=>
      simp only[List.length_cons] at hol
      (repeat' first|simp (disch:=omega) only[go_sem,hy2,Ka,q0B,q0z,Ky]|refine q00 _ (hr) ?_|(apply spl<;>intro h<;>try simp (disch:=omega) only[go_sem,h]))
      all_goals first | omega | skip
      refine ⟨k+1,?_,⟨hlt,hd⟩,by omega⟩
      simp only[hnew,Kf,q0B,q0z,Kb,List.length_cons,List.length_nil]
      first | rfl | (rw[q02 x]; rfl)
   ·rw[q8m (by rw[q3l]; omega) hd,if_neg (by simp),hout]
    cases out with
    | nil=>(repeat' first|simp (disch:=omega) only[go_sem,Ka,q0B,q0z])
    | cons z zs=>(repeat' first|simp (disch:=omega) only[go_sem,Ka,q0B,q0z])
theorem qo1 (s:Schs) (x:Sch) (hs:s.bulk≤2^24) (hx:x.bulk≤2^24):q0m CS 513 [q0y s,q06 x] (.int .i64 (q8r s x)):=by
 have L:=Sch.lens (N:=2^24) hx
 have l3:=L.props
 have hkn:q8r s x=if q18 x=false then 1 else if x.s.op=7∧q3f x.s.name=false then 7 else if x.s.op=14∧(lkM s x.s.name).2=false then 7 else if qlE (q1d x)=true then 8 else 0:=rfl
 have hf:=qns x hx
 have hk:=qlv x.s.name
 have hl:=qii s x.s.name hs
 refine q05 qd6 rfl ?_
 rw[q02 (ite _ _ _)] at hl
 rw[q0h] at hl ⊢
 cases hb:q18 x
 ·rw[hb] at hf
  rw[hkn,if_pos hb]
  rw[q02] at hf ⊢
  (repeat' first|simp (disch:=omega) only[go_sem,qd6,enter]|refine q00 _ (hf) ?_)
 rw[hb] at hf
 rw[if_neg (by rw[hb]; simp)] at hkn
 rw[q02 x] at hf ⊢
 by_cases c7:x.s.op=7∧q3f x.s.name=false
 ·rw[hkn,if_pos c7]
  obtain ⟨c7,c7'⟩:=c7
  rw[c7'] at hk
  (repeat' first|simp (disch:=omega) only[go_sem,qd6,enter]|refine q00 _ (hf) ?_|refine q00 _ (hk) ?_)
 rw[if_neg c7] at hkn
 by_cases c14:x.s.op=14∧(lkM s x.s.name).2=false
 ·rw[hkn,if_pos c14]
  obtain ⟨c14,c14'⟩:=c14
  rw[c14'] at hl
  (repeat' first|simp (disch:=omega) only[go_sem,qd6,enter]|refine q00 _ (hf) ?_|refine q00 _ (hk) ?_|refine q00 _ (hl) ?_)
 rw[if_neg c14] at hkn
 rw[hkn]
 have hkk:x.s.op=7→q3f x.s.name=true:=fun h=>by
  cases q:q3f x.s.name with
  | true=>rfl
  | false=>exact (c7 ⟨h,q⟩).elim
 have hll:x.s.op=14→(lkM s x.s.name).2=true:=fun h=>by
  cases q:(lkM s x.s.name).2 with
  | true=>rfl
  | false=>exact (c14 ⟨h,q⟩).elim
 by_cases h7:x.s.op=7
 ·rw[hkk h7] at hk
  (repeat' first|simp (disch:=omega) only[go_sem,qd6,enter,Ka]|refine q00 _ (hf) ?_|refine q00 _ (hk) ?_|refine q00 _ (hl) ?_|(apply spl<;>intro h<;>try simp (disch:=omega) only[go_sem,h]))
  refine q0a (α:=Nat) (fun k=>{ tmps:=q0i 55 [(7,.mref 0),(38,.tsl 17 (x.p.map q1k)),(39,.int .i64 x.p.length),(40,.int .i64 k)],heap:=[.map (q2e ((q1d x).take k))],base:=0 }) (fun k=>k≤x.p.length∧qlE (q1d x)=q9Z ((q1d x).take k) ((q1d x).drop k)) (fun k=>x.p.length-k) 0 (by first | rfl | (simp only[Ka]; rfl)) ⟨Kn _,rfl⟩ ?_
  rintro k ⟨hk,hd⟩
  by_cases hlt:k<x.p.length
  ·obtain ⟨y,hy⟩:=q08 hlt
   have hy2:=q0d (g:=q1k) hy
   have hy3:=q51 hy
   rw[q2g] at hy2
   rw[q69 hy3] at hd
   obtain ⟨f1,f2⟩:=q2R y.1.key ((q1d x).take k) 0
   cases hc:((q1d x).take k).any (fun z=>z == y.1.key) with
   | true=>
    obtain ⟨j,g1,g2⟩:=f2 hc
    rw[KS] at g1 g2
    rw[hc,V8] at hd
    rw[hd,if_pos rfl]
    (repeat' first|simp (disch:=omega) only[go_sem,hy2,Ka,g1,g2])
   | false=>
    have g1:=f1 hc
    rw[hc,Vj] at hd
    have e:q2e ((q1d x).take k)++[(.str y.1.key,.int .i64 1)]=q2e ((q1d x).take (k+1)):=by
     rw[KD,hy3]
     simp [q2e]
    obtain ⟨j,g2,_⟩:=(q2R y.1.key ((q1d x).take (k+1)) 0).2 (by rw[KD,hy3]; simp)
    (repeat' first|simp (disch:=omega) only[go_sem,hy2,Ka,g1,e,g2]|(apply spl<;>intro h<;>try simp (disch:=omega) only[go_sem,h]))
    all_goals first | omega | skip
    exact ⟨k+1,(q7q (.cons (qcL _) (.cons (q9t _ _ _) .nil))).trans rfl,⟨hlt,hd⟩,by omega⟩
  ·rw[q8m (by rw[q3l]; omega) hd,if_neg (by simp)]
   (repeat' first|simp (disch:=omega) only[go_sem,Ka])
 ·by_cases h14:x.s.op=14
  ·rw[hll h14] at hl
   (repeat' first|simp (disch:=omega) only[go_sem,qd6,enter,Ka]|refine q00 _ (hf) ?_|refine q00 _ (hk) ?_|refine q00 _ (hl) ?_|(apply spl<;>intro h<;>try simp (disch:=omega) only[go_sem,h]))
   refine q0a (α:=Nat) (fun k=>{ tmps:=q0i 55 [(7,.mref 0),(38,.tsl 17 (x.p.map q1k)),(39,.int .i64 x.p.length),(40,.int .i64 k)],heap:=[.map (q2e ((q1d x).take k))],base:=0 }) (fun k=>k≤x.p.length∧qlE (q1d x)=q9Z ((q1d x).take k) ((q1d x).drop k)) (fun k=>x.p.length-k) 0 (by first | rfl | (simp only[Ka]; rfl)) ⟨Kn _,rfl⟩ ?_
   rintro k ⟨hk,hd⟩
   by_cases hlt:k<x.p.length
   ·obtain ⟨y,hy⟩:=q08 hlt
    have hy2:=q0d (g:=q1k) hy
    have hy3:=q51 hy
    rw[q2g] at hy2
    rw[q69 hy3] at hd
    obtain ⟨f1,f2⟩:=q2R y.1.key ((q1d x).take k) 0
    cases hc:((q1d x).take k).any (fun z=>z == y.1.key) with
    | true=>
     obtain ⟨j,g1,g2⟩:=f2 hc
     rw[KS] at g1 g2
     rw[hc,V8] at hd
     rw[hd,if_pos rfl]
     (repeat' first|simp (disch:=omega) only[go_sem,hy2,Ka,g1,g2])
    | false=>
     have g1:=f1 hc
     rw[hc,Vj] at hd
     have e:q2e ((q1d x).take k)++[(.str y.1.key,.int .i64 1)]=q2e ((q1d x).take (k+1)):=by
      rw[KD,hy3]
      simp [q2e]
     obtain ⟨j,g2,_⟩:=(q2R y.1.key ((q1d x).take (k+1)) 0).2 (by rw[KD,hy3]; simp)
     (repeat' first|simp (disch:=omega) only[go_sem,hy2,Ka,g1,e,g2]|(apply spl<;>intro h<;>try simp (disch:=omega) only[go_sem,h]))
     all_goals first | omega | skip
     exact ⟨k+1,(q7q (.cons (qcL _) (.cons (q9t _ _ _) .nil))).trans rfl,⟨hlt,hd⟩,by omega⟩
   ·rw[q8m (by rw[q3l]; omega) hd,if_neg (by simp)]
    (repeat' first|simp (disch:=omega) only[go_sem,Ka])
  ·(repeat' first|simp (disch:=omega) only[go_sem,qd6,enter,Ka]|refine q00 _ (hf) ?_|refine q00 _ (hk) ?_|refine q00 _ (hl) ?_|(apply spl<;>intro h<;>try simp (disch:=omega) only[go_sem,h]))
   refine q0a (α:=Nat) (fun k=>{ tmps:=q0i 55 [(7,.mref 0),(38,.tsl 17 (x.p.map q1k)),(39,.int .i64 x.p.length),(40,.int .i64 k)],heap:=[.map (q2e ((q1d x).take k))],base:=0 }) (fun k=>k≤x.p.length∧qlE (q1d x)=q9Z ((q1d x).take k) ((q1d x).drop k)) (fun k=>x.p.length-k) 0 (by first | rfl | (simp only[Ka]; rfl)) ⟨Kn _,rfl⟩ ?_
   rintro k ⟨hk,hd⟩
   by_cases hlt:k<x.p.length
   ·obtain ⟨y,hy⟩:=q08 hlt
    have hy2:=q0d (g:=q1k) hy
    have hy3:=q51 hy
    rw[q2g] at hy2
    rw[q69 hy3] at hd
    obtain ⟨f1,f2⟩:=q2R y.1.key ((q1d x).take k) 0
    cases hc:((q1d x).take k).any (fun z=>z == y.1.key) with
    | true=>
     obtain ⟨j,g1,g2⟩:=f2 hc
     rw[KS] at g1 g2
     rw[hc,V8] at hd
     rw[hd,if_pos rfl]
     (repeat' first|simp (disch:=omega) only[go_sem,hy2,Ka,g1,g2])
    | false=>
     have g1:=f1 hc
     rw[hc,Vj] at hd
     have e:q2e ((q1d x).take k)++[(.str y.1.key,.int .i64 1)]=q2e ((q1d x).take (k+1)):=by
      rw[KD,hy3]
      simp [q2e]
     obtain ⟨j,g2,_⟩:=(q2R y.1.key ((q1d x).take (k+1)) 0).2 (by rw[KD,hy3]; simp)
     (repeat' first|simp (disch:=omega) only[go_sem,hy2,Ka,g1,e,g2]|(apply spl<;>intro h<;>try simp (disch:=omega) only[go_sem,h]))
     all_goals first | omega | skip
     exact ⟨k+1,(q7q (.cons (qcL _) (.cons (q9t _ _ _) .nil))).trans rfl,⟨hlt,hd⟩,by omega⟩
   ·rw[q8m (by rw[q3l]; omega) hd,if_neg (by simp)]
    (repeat' first|simp (disch:=omega) only[go_sem,Ka])
end Ago
set_option maxRecDepth 100000
set_option maxHeartbeats 16000000
namespace Ago
open Go (IntKind)
def q6B:List Int→Int
 | []=>0
 | e::l=>if e=0 then q6B l else e
theorem q9K {α:Type} {f:α→Int} : ∀ {l:List α} {k:Nat} {y:α},l[k]?=some y→(l.take k).all (fun z=>f z == 0)=true→f y≠0→q6B (l.map f)=f y
 | [],_,_,h,_,_=>by simp at h
 | z::l,0,y,h,_,he=>by
  simp at h
  subst h
  simp [q6B,he]
 | z::l,k+1,y,h,ha,he=>by
  simp only[K4,Vy,Kk,beq_iff_eq] at ha
  simp only[Kd,q6B]
  rw[if_pos ha.1]
  exact q9K (by simpa using h) ha.2 he
theorem q6E {α:Type} {f:α→Int} : ∀ {l:List α},l.all (fun z=>f z == 0)=true→q6B (l.map f)=0
 | [],_=>rfl
 | z::l,ha=>by
  simp only[Vy,Kk,beq_iff_eq] at ha
  simp only[Kd,q6B]
  rw[if_pos ha.1]
  exact q6E ha.2
def q0W (s:Schs):Nat→Sch→Int
 | 0,_=>0
 | d+1,x=>if q8r s x=0 then q6B (x.kids.map (q0W s d)) else q8r s x
theorem qaO (s:Schs) (x:Sch):q0W s 0 x=0:=(rfl)
theorem q70 (s:Schs) (d:Nat) (x:Sch):q0W s (d+1) x=if q8r s x=0 then q6B (x.kids.map (q0W s d)) else q8r s x:=(rfl)
def q2I:Nat→Sch→Bool
 | 0,_=>true
 | d+1,x=>x.kids.any (q2I d)
theorem q8f (x:Sch):q2I 0 x=true:=(rfl)
theorem q8a (d:Nat) (x:Sch):q2I (d+1) x=x.kids.any (q2I d):=(rfl)
theorem q7j : ∀ (d:Nat) (D:Int),D=d→d<2^30→∀ x:Sch,x.bulk≤2^24→q0m CS 487 [q06 x,.int .i64 D] (.bool (q2I d x)):=by
 intro d
 induction d with
 | zero=>
  intro D hD hd x hx
  refine q05 qiD rfl ?_
  rw[q02,q8f]
  (repeat' first|simp (disch:=omega) only[go_sem,qiD,enter,Ka]|(apply spl<;>intro h<;>try simp (disch:=omega) only[go_sem,h]))
  all_goals omega
 | succ d ih=>
  intro D hD hd x hx
  have hp:=q36 x hx
  have hkl:=q47 x
  rw[q8a]
  refine q05 qiD rfl ?_
  rw[q02] at hp ⊢
  (repeat' first|simp (disch:=omega) only[go_sem,qiD,enter,Ka]|refine q00 _ (hp) ?_|(apply spl<;>intro h<;>try simp (disch:=omega) only[go_sem,h]))
  all_goals try omega
  refine q0a (α:=Nat) (fun k=>{ tmps:=q0i 24 [(1,.int .i64 D),(5,.tsl 15 (x.kids.map q06)),(6,.int .i64 k)],heap:=[],base:=0 }) (fun k=>k≤x.kids.length∧(x.kids.take k).any (q2I d)=false) (fun k=>x.kids.length-k) 0 rfl ⟨Kn _,rfl⟩ ?_
  rintro k ⟨hk,ha⟩
  by_cases hlt:k<x.kids.length
  ·obtain ⟨y,hy⟩:=q08 hlt
   have hym:=Kc hy
   have hy2:=q0d (g:=q06) hy
   have hr:=ih (D-1) (by omega) (by omega) y (by have:=Sch.kids_bulk hym; omega)
   rw[q02] at hy2 hr
   cases hc:q2I d y with
   | true=>
    rw[hc] at hr
    rw[qeq hy hc]
    (repeat' first|simp (disch:=omega) only[go_sem,hy2,Ka]|refine q00 _ (hr) ?_|(apply spl<;>intro h<;>try simp (disch:=omega) only[go_sem,h]))
    all_goals omega
   | false=>
    rw[hc] at hr
    (repeat' first|simp (disch:=omega) only[go_sem,hy2,Ka]|refine q00 _ (hr) ?_|(apply spl<;>intro h<;>try simp (disch:=omega) only[go_sem,h]))
    all_goals try omega
    exact ⟨k+1,rfl,⟨hlt,q3j hy ha hc⟩,by omega⟩
  ·rw[q0M hlt hk] at ha
   rw[ha]
   (repeat' first|simp (disch:=omega) only[go_sem,Ka]|(apply spl<;>intro h<;>try simp (disch:=omega) only[go_sem,h]))
theorem q8T (s:Schs) (hs:s.bulk≤2^24) : ∀ (d:Nat) (D:Int),D=d→d<2^30→∀ x:Sch,x.bulk≤2^24→q0m CS 488 [q0y s,q06 x,.int .i64 D] (.int .i64 (q0W s d x)):=by
 intro d
 induction d with
 | zero=>
  intro D hD hd x hx
  refine q05 qfJ rfl ?_
  rw[q02,qaO,q0h]
  (repeat' first|simp (disch:=omega) only[go_sem,qfJ,enter,Ka]|(apply spl<;>intro h<;>try simp (disch:=omega) only[go_sem,h]))
  all_goals omega
 | succ d ih=>
  intro D hD hd x hx
  have hn:=qfP s x hs hx
  have hp:=q36 x hx
  have hkl:=q47 x
  rw[q70]
  refine q05 qfJ rfl ?_
  have hse:=q0h s
  rw[q02] at hp hn ⊢
  rw[q0h] at hn ⊢
  by_cases he:q8r s x=0
  ·rw[if_pos he]
   rw[he] at hn
   (repeat' first|simp (disch:=omega) only[go_sem,qfJ,enter,Ka]|refine q00 _ (hn) ?_|refine q00 _ (hp) ?_|(apply spl<;>intro h<;>try simp (disch:=omega) only[go_sem,h]))
   all_goals try omega
   refine q0a (α:=Nat) (fun k=>{ tmps:=q0i 38 [(2,.int .i64 D),(3,.ptr 16 0 0 0),(8,.tsl 15 (x.kids.map q06)),(9,.int .i64 k)],heap:=[.row 16 [q0y s] false true 0],base:=0 }) (fun k=>k≤x.kids.length∧(x.kids.take k).all (fun z=>q0W s d z == 0)=true) (fun k=>x.kids.length-k) 0 (by rw[q0h]; rfl) ⟨Kn _,rfl⟩ ?_
   rintro k ⟨hk,ha⟩
   rw[q0h]
   by_cases hlt:k<x.kids.length
   ·obtain ⟨y,hy⟩:=q08 hlt
    have hym:=Kc hy
    have hy2:=q0d (g:=q06) hy
    have hr:=ih (D-1) (by omega) (by omega) y (by have:=Sch.kids_bulk hym; omega)
    rw[q02] at hy2 hr
    rw[q0h] at hr
    by_cases hc:q0W s d y=0
    ·rw[hc] at hr
     (repeat' first|simp (disch:=omega) only[go_sem,hy2,Ka]|refine q00 _ (hr) ?_|(apply spl<;>intro h<;>try simp (disch:=omega) only[go_sem,h]))
     all_goals try omega
     refine ⟨k+1,?_,⟨hlt,q0C hy ha (by simp [hc])⟩,by omega⟩
     first | rfl | (rw[hse]; rfl)
    ·rw[q9K hy ha hc]
     (repeat' first|simp (disch:=omega) only[go_sem,hy2,Ka]|refine q00 _ (hr) ?_|(apply spl<;>intro h<;>try simp (disch:=omega) only[go_sem,h]))
     all_goals omega
   ·rw[q0M hlt hk] at ha
    rw[q6E ha]
    (repeat' first|simp (disch:=omega) only[go_sem,Ka]|(apply spl<;>intro h<;>try simp (disch:=omega) only[go_sem,h]))
  ·rw[if_neg he]
   (repeat' first|simp (disch:=omega) only[go_sem,qfJ,enter,Ka]|refine q00 _ (hn) ?_|refine q00 _ (hp) ?_|(apply spl<;>intro h<;>try simp (disch:=omega) only[go_sem,h]))
   all_goals omega
theorem qgw (s:Schs) (hs:s.bulk≤2^24) : ∀ (d:Nat) (D:Int),D=49-d→d≤48→∀ x:Sch,x.bulk≤2^24→q0m CS 486 [q0y s,q06 x,.int .i64 D] (.tup [.bool (decide (q0W s d x=0) && q2I d x),.int .i64 (q0W s d x)]):=by
 intro d
 induction d with
 | zero=>
  intro D hD hd x hx
  refine q05 qfm rfl ?_
  rw[q02,qaO,q8f,q0h]
  (repeat' first|simp (disch:=omega) only[go_sem,qfm,enter,Ka]|(apply spl<;>intro h<;>try simp (disch:=omega) only[go_sem,h]))
  all_goals omega
 | succ d ih=>
  intro D hD hd x hx
  have hn:=qo1 s x hs hx
  have hp:=qai x hx
  have hkl:=q47 x
  rw[q70,q8a]
  refine q05 qfm rfl ?_
  have hse:=q0h s
  rw[q02] at hp hn ⊢
  rw[q0h] at hn ⊢
  by_cases he:q8r s x=0
  ·rw[if_pos he]
   rw[he] at hn
   (repeat' first|simp (disch:=omega) only[go_sem,qfm,enter,Ka]|refine q00 _ (hn) ?_|refine q00 _ (hp) ?_|(apply spl<;>intro h<;>try simp (disch:=omega) only[go_sem,h]))
   all_goals try omega
   refine q0a (α:=Nat) (fun k=>{ tmps:=q0i 46 [(2,.int .i64 D),(3,.ptr 16 0 0 0),(9,.bool ((x.kids.take k).any (q2I d))),(23,.tsl 15 (x.kids.map q06)),(24,.int .i64 x.kids.length),(25,.int .i64 k)],heap:=[.row 16 [q0y s] false true 0],base:=0 }) (fun k=>k≤x.kids.length∧(x.kids.take k).all (fun z=>q0W s d z == 0)=true) (fun k=>x.kids.length-k) 0 (by rw[q0h]; rfl) ⟨Kn _,rfl⟩ ?_
   rintro k ⟨hk,ha⟩
   rw[q0h]
   by_cases hlt:k<x.kids.length
   ·obtain ⟨y,hy⟩:=q08 hlt
    have hym:=Kc hy
    have hy2:=q0d (g:=q06) hy
    have hr:=ih (D+1) (by omega) (by omega) y (by have:=Sch.kids_bulk hym; omega)
    rw[q02] at hy2 hr
    rw[q0h] at hr
    by_cases hc:q0W s d y=0
    ·rw[hc,decide_eq_true rfl,Vt] at hr
     have hany:(x.kids.take (k+1)).any (q2I d)=((x.kids.take k).any (q2I d) || q2I d y):=by
      rw[KD,hy]
      simp
     cases hb:(x.kids.take k).any (q2I d)
     ·rw[hb,Vj] at hany
      (repeat' first|simp (disch:=omega) only[go_sem,hy2,Ka]|refine q00 _ (hr) ?_|(apply spl<;>intro h<;>try simp (disch:=omega) only[go_sem,h]))
      all_goals try omega
      refine ⟨k+1,?_,⟨hlt,q0C hy ha (by simp [hc])⟩,by omega⟩
      simp only[hany]
      first | rfl | (rw[hse]; rfl)
     ·rw[hb,V8] at hany
      (repeat' first|simp (disch:=omega) only[go_sem,hy2,Ka]|refine q00 _ (hr) ?_|(apply spl<;>intro h<;>try simp (disch:=omega) only[go_sem,h]))
      all_goals try omega
      refine ⟨k+1,?_,⟨hlt,q0C hy ha (by simp [hc])⟩,by omega⟩
      simp only[hany]
      first | rfl | (rw[hse]; rfl)
    ·rw[q9K hy ha hc,decide_eq_false hc,VL]
     (repeat' first|simp (disch:=omega) only[go_sem,hy2,Ka]|refine q00 _ (hr) ?_|(apply spl<;>intro h<;>try simp (disch:=omega) only[go_sem,h]))
     all_goals omega
   ·rw[q0M hlt hk] at ha ⊢
    rw[q6E ha,decide_eq_true rfl,Vt]
    (repeat' first|simp (disch:=omega) only[go_sem,Ka]|(apply spl<;>intro h<;>try simp (disch:=omega) only[go_sem,h]))
  ·rw[if_neg he,decide_eq_false he,VL]
   (repeat' first|simp (disch:=omega) only[go_sem,qfm,enter,Ka]|refine q00 _ (hn) ?_|refine q00 _ (hp) ?_|(apply spl<;>intro h<;>try simp (disch:=omega) only[go_sem,h]))
   all_goals omega
end Ago
set_option maxRecDepth 100000
set_option maxHeartbeats 16000000
namespace Ago
open Go (IntKind)
def q4N (n:List UInt8):Bool:=decide (1≤n.length∧n.length≤64) && utf n
def q7X (s:Schs):List (List UInt8 × Sch)→List (List UInt8 × Sch)→Int
 | _,[]=>0
 | pre,d::l=>if q4N d.1=false then 1 else if (pre.any fun e=>e.1 == d.1)=true then 8 else if q0W s 48 d.2=0 then q7X s (pre++[d]) l else q0W s 48 d.2
theorem qbK {s:Schs} {k:Nat} {d:List UInt8 × Sch} (hd:s.defs[k]?=some d):q7X s (s.defs.take k) (s.defs.drop k)=if q4N d.1=false then 1 else if ((s.defs.take k).any fun e=>e.1 == d.1)=true then 8 else if q0W s 48 d.2=0 then q7X s (s.defs.take (k+1)) (s.defs.drop (k+1)) else q0W s 48 d.2:=by
 rw[qiE hd]
 have:s.defs.take (k+1)=s.defs.take k++[d]:=by rw[KD,hd]; rfl
 rw[this]
 rfl
theorem qel {s:Schs} {k:Nat} (h:s.defs.length≤k):q7X s (s.defs.take k) (s.defs.drop k)=0:=by
 rw[KX h]
 rfl
def qbf (l:List (List UInt8 × Sch)):Nat:=(l.map fun d=>q3u 48 d.2).sum
def q4S (l:List (List UInt8 × Sch)):Bool:=l.any fun d=>q2I 48 d.2
def q2G (s:Schs) (g:Bool):Int:=
 if q7X s [] s.defs=0 then
  (if q0W s 48 s.root=0 then
   (if (q4S s.defs || q2I 48 s.root)=true then 9 else if 1024<qbf s.defs+q3u 48 s.root∨64<s.defs.length then 10 else if g=false then 23 else 0)
  else q0W s 48 s.root)
 else q7X s [] s.defs
theorem qei {s:Schs} {k:Nat} {d:List UInt8 × Sch} (hd:s.defs[k]?=some d):qbf (s.defs.take (k+1))=qbf (s.defs.take k)+q3u 48 d.2:=q5l _ _ _ _ hd
theorem qc8 {s:Schs} {k:Nat} {d:List UInt8 × Sch} (hd:s.defs[k]?=some d):q4S (s.defs.take (k+1))=(q4S (s.defs.take k) || q2I 48 d.2):=by
 unfold q4S
 rw[KD,hd]
 simp
theorem qke (s:Schs) (k:Nat):qbf (s.defs.take k)+q3u 48 s.root≤s.bulk:=by
 have h1:qbf (s.defs.take k)≤qbf s.defs:=q2i _ _ _
 have h2:qbf s.defs≤AV.bulks (s.defs.map q0H):=by
  unfold qbf
  have : ∀ l:List (List UInt8 × Sch),(l.map fun d=>q3u 48 d.2).sum≤AV.bulks (l.map q0H):=by
   intro l
   induction l with
   | nil=>simp
   | cons d l ih=>
    have:=q2o 48 d.2
    have:=q2Y d
    simp only[Kd,List.sum_cons,AV.bulks]
    omega
  exact this _
 have:=q2o 48 s.root
 have:=s.bulk_eq
 omega
def qeX (s:Schs) (b:Bool) (n:Int):Heap:=[.row 16 [q0y s] false true 0,.row 1 [.bool b] false true 1,.row 1 [.int .i64 n] false true 2]
theorem qmW (s:Schs) (hs:s.bulk≤2^24) (x:Sch) (hx:x.bulk≤2^24) (b:Bool) (n:Int) (hn:0≤n) (hn2:n≤2^40):q1z CS 485 [q06 x,.ptr 16 0 0 0,.ptr 1 1 0 0,.ptr 1 2 0 0] (qeX s b n) (.int .i64 (q0W s 48 x)) (qeX s (b || (decide (q0W s 48 x=0) && q2I 48 x)) (n+q3u 48 x)):=by
 have h1:=qgw s hs 48 1 rfl (by decide) x hx
 have h2:=qhw x hx
 have hc:=q2o 48 x
 refine q1s qez rfl ?_
 unfold qeX
 rw[q02] at h1 h2 ⊢
 rw[q0h] at h1 ⊢
 obtain ⟨m,hm⟩ : ∃ m,(decide (q0W s 48 x=0) && q2I 48 x)=m:=⟨_,rfl⟩
 rw[hm] at h1 ⊢
 cases b
 ·rw[Vj]
  (repeat' first|simp (disch:=omega) only[go_sem,qez,enter]|refine q00 _ (h1) ?_|refine q00 _ (h2) ?_|(apply spl<;>intro h<;>try simp (disch:=omega) only[go_sem,h]))
  exact q1D (.inr rfl) (.int .i64 (q0W s 48 x)) rfl rfl rfl
 ·rw[V8]
  (repeat' first|simp (disch:=omega) only[go_sem,qez,enter]|refine q00 _ (h1) ?_|refine q00 _ (h2) ?_|(apply spl<;>intro h<;>try simp (disch:=omega) only[go_sem,h]))
  exact q1D (.inr rfl) (.int .i64 (q0W s 48 x)) rfl rfl rfl
theorem qlS (s:Schs) (hs:s.bulk≤2^24) (x:Sch) (hx:x.bulk≤2^24) (b:Bool) (n:Int) (hn:0≤n) (hn2:n≤2^40) (d:AV):q1z CS 485 [q06 x,.ptr 16 0 0 0,.ptr 1 1 0 0,.ptr 1 2 0 0] (qeX s b n++[.row 16 [d] false true 3]) (.int .i64 (q0W s 48 x)) (qeX s (b || (decide (q0W s 48 x=0) && q2I 48 x)) (n+q3u 48 x)++[.row 16 [d] false true 3]):=by
 have h1:=qgw s hs 48 1 rfl (by decide) x hx
 have h2:=qhw x hx
 have hc:=q2o 48 x
 refine q1s qez rfl ?_
 unfold qeX
 rw[q02] at h1 h2 ⊢
 rw[q0h] at h1 ⊢
 obtain ⟨m,hm⟩ : ∃ m,(decide (q0W s 48 x=0) && q2I 48 x)=m:=⟨_,rfl⟩
 rw[hm] at h1 ⊢
 cases b
 ·rw[Vj]
  (repeat' first|simp (disch:=omega) only[go_sem,qez,enter]|refine q00 _ (h1) ?_|refine q00 _ (h2) ?_|(apply spl<;>intro h<;>try simp (disch:=omega) only[go_sem,h]))
  exact q1D (.inr rfl) (.int .i64 (q0W s 48 x)) rfl rfl rfl
 ·rw[V8]
  (repeat' first|simp (disch:=omega) only[go_sem,qez,enter]|refine q00 _ (h1) ?_|refine q00 _ (h2) ?_|(apply spl<;>intro h<;>try simp (disch:=omega) only[go_sem,h]))
  exact q1D (.inr rfl) (.int .i64 (q0W s 48 x)) rfl rfl rfl
end Ago
set_option maxRecDepth 100000
set_option maxHeartbeats 16000000
namespace Ago
open Go (IntKind)
theorem q96 {n:List UInt8} (h : ¬ (1≤n.length∧n.length≤64)∨utf n=false):q4N n=false:=by
 unfold q4N
 rcases h with h | h
 ·rw[decide_eq_false h]; rfl
 ·rw[h,Wa]
theorem qjN (s:Schs) (hs:s.bulk≤2^24) (w:List UInt8) (g:Bool) (hg:q0m CS 459 [q0y s] (.tup [.str w,.bool g])):q0m CS 454 [q0y s] (.int .i64 (q2G s g)):=by
 obtain ⟨hd1,hd2⟩:=Schs.dlen hs
 have hrb:s.root.bulk≤2^24:=by
  have:=s.bulk_eq
  omega
 have hse:=q0h s
 refine q05 qnv rfl ?_
 rw[q0h] at hg ⊢
 (repeat' first|simp (disch:=omega) only[go_sem,qnv,enter,Ka]|(apply spl<;>intro h<;>try simp (disch:=omega) only[go_sem,h]))
 refine q0a (α:=Nat) (fun k=>{ tmps:=q0i 85 [(1,.ptr 16 0 0 0),(3,.ptr 1 1 0 0),(4,.ptr 1 2 0 0),(5,.fn 485 [.ptr 16 0 0 0,.ptr 1 1 0 0,.ptr 1 2 0 0]),(16,.tsl 16 (s.defs.map q0H)),(17,.int .i64 s.defs.length),(18,.int .i64 k)],heap:=qeX s (q4S (s.defs.take k)) (qbf (s.defs.take k):Nat),base:=0 }) (fun k=>k≤s.defs.length∧q7X s [] s.defs=q7X s (s.defs.take k) (s.defs.drop k)) (fun k=>s.defs.length-k) 0 (by unfold qeX; rw[hse]; rfl) ⟨Kn _,rfl⟩ ?_
 rintro k ⟨hk,he⟩
 have hsm:=qke s k
 by_cases hlt:k<s.defs.length
 ·obtain ⟨d,hdk⟩:=q08 hlt
  have hdm:=Kc hdk
  have hde:=q0d (g:=q0H) hdk
  obtain ⟨hdb,hdn⟩:=hd2 d hdm
  rw[qbK hdk] at he
  have hu:=upS (q9k d.1 (by omega))
  rw[q0K] at hde
  by_cases c1:1≤d.1.length∧d.1.length≤64
  case neg=>
   rw[if_pos (q96 (.inl c1))] at he
   have hR:q2G s g=1:=by unfold q2G; rw[he]; rfl
   rw[hR]
   unfold qeX
   rw[hse]
   (repeat' first|simp (disch:=omega) only[go_sem,hde,Ka]|refine q00 _ (hu) ?_|(apply spl<;>intro h<;>try simp (disch:=omega) only[go_sem,h]))
   all_goals omega
  cases c2:utf d.1
  case false=>
   rw[if_pos (q96 (.inr c2))] at he
   have hR:q2G s g=1:=by unfold q2G; rw[he]; rfl
   rw[hR]
   rw[c2] at hu
   unfold qeX
   rw[hse]
   (repeat' first|simp (disch:=omega) only[go_sem,hde,Ka]|refine q00 _ (hu) ?_)
   all_goals omega
  rw[c2] at hu
  have hnm:q4N d.1=true:=by unfold q4N; rw[decide_eq_true c1,c2]; rfl
  rw[if_neg (by rw[hnm]; simp)] at he
  have hlk:((s.defs.map q0H).take k).length=k:=by rw[KI,Ka]; omega
  have hR : ∃ r,q2G s g=r:=⟨_,rfl⟩
  unfold qeX
  rw[hse]
  (repeat' first|simp (disch:=omega) only[go_sem,hde,Ka,hlk]|refine q00 _ (hu) ?_|(apply spl<;>intro h<;>try simp (disch:=omega) only[go_sem,h]))
  all_goals try omega
  refine q0a (α:=Nat) (fun j=>{ tmps:=q0i 85 [(1,.ptr 16 0 0 0),(3,.ptr 1 1 0 0),(4,.ptr 1 2 0 0),(5,.fn 485 [.ptr 16 0 0 0,.ptr 1 1 0 0,.ptr 1 2 0 0]),(7,.ptr 16 3 0 0),(16,.tsl 16 (s.defs.map q0H)),(17,.int .i64 s.defs.length),(18,.int .i64 k),(42,.tsl 16 ((s.defs.map q0H).take k)),(43,.int .i64 k),(44,.int .i64 j)],heap:=qeX s (q4S (s.defs.take k)) (qbf (s.defs.take k):Nat)++[.row 16 [q0H d] false true 3],base:=0 }) (fun j=>j≤k∧((s.defs.take k).take j).any (fun e=>e.1 == d.1)=false) (fun j=>k-j) 0 (by unfold qeX; rw[hse,q0K]; rfl) ⟨Kn _,rfl⟩ ?_
  rintro j ⟨hj,haj⟩
  have hkl:(s.defs.take k).length=k:=by rw[KI]; omega
  by_cases hjl:j<k
  ·obtain ⟨e,hej⟩ : ∃ e,(s.defs.take k)[j]?=some e:=q08 (by omega)
   have hee:((s.defs.map q0H).take k)[j]?=some (q0H e):=by
    rw[←V9]
    exact q0d hej
   rw[q0K] at hee
   unfold qeX
   rw[hse,q0K d]
   cases hb:e.1 == d.1 with
   | true=>
    rw[if_pos (qeq hej hb)] at he
    have hR:q2G s g=8:=by unfold q2G; rw[he]; rfl
    rw[hR]
    (repeat' first|simp (disch:=omega) only[go_sem,hee,hlk,hb,Ka])
   | false=>
    (repeat' first|simp (disch:=omega) only[go_sem,hee,hlk,hb,Ka]|(apply spl<;>intro h<;>try simp (disch:=omega) only[go_sem,h]))
    all_goals try omega
    refine ⟨j+1,?_,⟨hjl,q3j hej haj hb⟩,by omega⟩
    first | rfl | (rw[hse]; rfl)
  ·rw[q0M (by omega) (by omega)] at haj
   rw[if_neg (by rw[haj]; simp)] at he
   have hone:=qlS s hs d.2 (by omega) (q4S (s.defs.take k)) (qbf (s.defs.take k):Nat) (by omega) (by omega) (q0H d)
   unfold qeX at hone ⊢
   rw[hse,q0K d] at hone ⊢
   rw[q02] at hone
   simp only[Kf,Kh] at hone
   by_cases hz:q0W s 48 d.2=0
   ·rw[if_pos hz] at he
    rw[hz,decide_eq_true rfl,Vt,←qc8 hdk,←Int.natCast_add,←qei hdk] at hone
    (repeat' first|simp (disch:=omega) only[go_sem,hlk,Ka]|(refine q0b _ _ hone ?_)|(apply spl<;>intro h<;>try simp (disch:=omega) only[go_sem,h]))
    all_goals try omega
    refine ⟨k+1,?_,⟨hlt,he⟩,by omega⟩
    first | rfl | (rw[hse]; rfl)
   ·rw[if_neg hz] at he
    have hR:q2G s g=q0W s 48 d.2:=by unfold q2G; rw[he,if_neg hz]
    rw[hR]
    (repeat' first|simp (disch:=omega) only[go_sem,hlk,Ka]|(refine q0b _ _ hone ?_))
    all_goals omega
 ·have hk2:k=s.defs.length:=by omega
  subst hk2
  rw[qel (Kr _)] at he
  rw[Ky] at hsm ⊢
  have hone:=qmW s hs s.root hrb (q4S s.defs) (qbf s.defs:Nat) (by omega) (by omega)
  unfold qeX at hone ⊢
  rw[hse] at hone ⊢
  rw[q02] at hone
  have hR:q2G s g=if q0W s 48 s.root=0 then (if (q4S s.defs || q2I 48 s.root)=true then 9 else if 1024<qbf s.defs+q3u 48 s.root∨64<s.defs.length then 10 else if g=false then 23 else 0) else q0W s 48 s.root:=by
   unfold q2G
   rw[he]
   rfl
  rw[hR]
  by_cases hz:q0W s 48 s.root=0
  ·rw[if_pos hz]
   rw[hz,decide_eq_true rfl,Vt] at hone
   cases hdp:(q4S s.defs || q2I 48 s.root)
   ·rw[hdp] at hone
    rw[if_neg (by simp)]
    by_cases hsz:1024<qbf s.defs+q3u 48 s.root∨64<s.defs.length
    ·rw[if_pos hsz]
     (repeat' first|simp (disch:=omega) only[go_sem,Ka]|refine q00 _ (hg) ?_|(refine q0b _ _ hone ?_)|(apply spl<;>intro h<;>try simp (disch:=omega) only[go_sem,h]))
     all_goals omega
    ·rw[if_neg hsz]
     cases g
     ·rw[if_pos rfl]
      (repeat' first|simp (disch:=omega) only[go_sem,Ka]|refine q00 _ (hg) ?_|(refine q0b _ _ hone ?_))
      all_goals omega
     ·rw[if_neg (by simp)]
      (repeat' first|simp (disch:=omega) only[go_sem,Ka]|refine q00 _ (hg) ?_|(refine q0b _ _ hone ?_))
      all_goals omega
   ·rw[hdp] at hone
    rw[if_pos rfl]
    (repeat' first|simp (disch:=omega) only[go_sem,Ka]|refine q00 _ (hg) ?_|(refine q0b _ _ hone ?_))
    all_goals omega
  ·rw[if_neg hz]
   (repeat' first|simp (disch:=omega) only[go_sem,Ka]|refine q00 _ (hg) ?_|(refine q0b _ _ hone ?_))
   all_goals omega
theorem qdG (s:Schs) (hs:s.bulk≤2^24) (w:List UInt8) (g:Bool) (hg:q0m CS 460 [q0y s] (.tup [.str w,.bool g])):q0m CS 455 [q0y s] (.int .i64 (q2G s g)):=by
 obtain ⟨hd1,hd2⟩:=Schs.dlen hs
 have hrb:s.root.bulk≤2^24:=by
  have:=s.bulk_eq
  omega
 have hse:=q0h s
 have hr1:=q4z s.root hrb
 have hr2:=q7j 48 48 rfl (by decide) s.root hrb
 have hr3:=q8T s hs 48 48 rfl (by decide) s.root hrb
 rw[q02] at hr1 hr2 hr3
 rw[q0h] at hr3
 refine q05 qnt rfl ?_
 rw[q0h] at hg ⊢
 (repeat' first|simp (disch:=omega) only[go_sem,qnt,enter,Ka]|refine q00 _ (hr1) ?_|refine q00 _ (hr2) ?_|(apply spl<;>intro h<;>try simp (disch:=omega) only[go_sem,h]))
 refine q0a (α:=Nat) (fun k=>{ tmps:=q0i 101 [(1,.ptr 16 0 0 0),(3,.int .i64 (qbf (s.defs.take k)+q3u 48 s.root:Nat)),(4,.bool (q2I 48 s.root || q4S (s.defs.take k))),(5,.int .i64 k)],heap:=[.row 16 [q0y s] false true 0],base:=0 }) (fun k=>k≤s.defs.length∧q7X s [] s.defs=q7X s (s.defs.take k) (s.defs.drop k)) (fun k=>s.defs.length-k) 0 (by
  rw[hse,show q4S (s.defs.take 0)=false from rfl,show qbf (s.defs.take 0)=0 from rfl,Vu,KS]
  rfl) ⟨Kn _,rfl⟩ ?_
 rintro k ⟨hk,he⟩
 have hsm:=qke s k
 rw[hse]
 by_cases hlt:k<s.defs.length
 ·obtain ⟨d,hdk⟩:=q08 hlt
  have hdm:=Kc hdk
  have hde:=q0d (g:=q0H) hdk
  obtain ⟨hdb,hdn⟩:=hd2 d hdm
  rw[qbK hdk] at he
  have hu:=upS (qcS d.1 (by omega))
  rw[q0K] at hde
  by_cases c1:1≤d.1.length∧d.1.length≤64
  case neg=>
   rw[if_pos (q96 (.inl c1))] at he
   have hR:q2G s g=1:=by unfold q2G; rw[he]; rfl
   rw[hR]
   (repeat' first|simp (disch:=omega) only[go_sem,hde,Ka]|refine q00 _ (hu) ?_|(apply spl<;>intro h<;>try simp (disch:=omega) only[go_sem,h]))
   all_goals omega
  cases c2:utf d.1
  case false=>
   rw[if_pos (q96 (.inr c2))] at he
   have hR:q2G s g=1:=by unfold q2G; rw[he]; rfl
   rw[hR]
   rw[c2] at hu
   (repeat' first|simp (disch:=omega) only[go_sem,hde,Ka]|refine q00 _ (hu) ?_)
   all_goals omega
  rw[c2] at hu
  have hnm:q4N d.1=true:=by unfold q4N; rw[decide_eq_true c1,c2]; rfl
  rw[if_neg (by rw[hnm]; simp)] at he
  obtain ⟨dp,hdp⟩ : ∃ b,(q2I 48 s.root || q4S (s.defs.take k))=b:=⟨_,rfl⟩
  have hds:=qc8 hdk
  rw[hdp]
  (repeat' first|simp (disch:=omega) only[go_sem,hde,Ka]|refine q00 _ (hu) ?_|(apply spl<;>intro h<;>try simp (disch:=omega) only[go_sem,h]))
  all_goals try omega
  refine q0a (α:=Nat) (fun j=>{ tmps:=q0i 101 [(1,.ptr 16 0 0 0),(3,.int .i64 (qbf (s.defs.take k)+q3u 48 s.root:Nat)),(4,.bool dp),(5,.int .i64 k),(6,.ptr 16 1 0 0),(7,.int .i64 j)],heap:=[.row 16 [q0y s] false true 0,.row 16 [q0H d] false true 1],base:=0 }) (fun j=>j≤k∧((s.defs.take k).take j).any (fun e=>e.1 == d.1)=false) (fun j=>k-j) 0 (by rw[hse,q0K]; rfl) ⟨Kn _,rfl⟩ ?_
  rintro j ⟨hj,haj⟩
  have hkl:(s.defs.take k).length=k:=by rw[KI]; omega
  rw[hse,q0K d]
  by_cases hjl:j<k
  ·obtain ⟨e,hej⟩ : ∃ e,(s.defs.take k)[j]?=some e:=q08 (by omega)
   have hej2:s.defs[j]?=some e:=by
    rw[Vg hjl] at hej
    exact hej
   have hee:=q0d (g:=q0H) hej2
   rw[q0K] at hee
   cases hb:e.1 == d.1 with
   | true=>
    rw[if_pos (qeq hej hb)] at he
    have hR:q2G s g=8:=by unfold q2G; rw[he]; rfl
    rw[hR]
    (repeat' first|simp (disch:=omega) only[go_sem,hee,hb,Ka])
    all_goals omega
   | false=>
    (repeat' first|simp (disch:=omega) only[go_sem,hee,hb,Ka]|(apply spl<;>intro h<;>try simp (disch:=omega) only[go_sem,h]))
    all_goals try omega
    refine ⟨j+1,?_,⟨hjl,q3j hej haj hb⟩,by omega⟩
    first | rfl | (rw[hse]; rfl)
  ·rw[q0M (by omega) (by omega)] at haj
   rw[if_neg (by rw[haj]; simp)] at he
   have q1:=q4z d.2 (by omega)
   have q2:=q7j 48 48 rfl (by decide) d.2 (by omega)
   have q3:=q8T s hs 48 48 rfl (by decide) d.2 (by omega)
   have hcl:=q2o 48 d.2
   rw[q02] at q1 q2 q3
   rw[q0h] at q3
   have hss:=qei hdk
   by_cases hz:q0W s 48 d.2=0
   ·rw[if_pos hz] at he
    rw[hz] at q3
    have e1:((qbf (s.defs.take k)+q3u 48 s.root:Nat):Int)+(q3u 48 d.2:Nat)=((qbf (s.defs.take (k+1))+q3u 48 s.root:Nat):Int):=by rw[hss]; omega
    cases dp
    ·have e2:(q2I 48 s.root || q4S (s.defs.take (k+1)))=q2I 48 d.2:=by rw[hds,←Bool.or_assoc,hdp,Vj]
     (repeat' first|simp (disch:=omega) only[go_sem,e1,Ka]|refine q00 _ (q1) ?_|refine q00 _ (q2) ?_|refine q00 _ (q3) ?_|(apply spl<;>intro h<;>try simp (disch:=omega) only[go_sem,h]))
     all_goals try omega
     refine ⟨k+1,?_,⟨hlt,he⟩,by omega⟩
     rw[e2]
     first | rfl | (rw[hse]; rfl)
    ·have e2:(q2I 48 s.root || q4S (s.defs.take (k+1)))=true:=by rw[hds,←Bool.or_assoc,hdp,V8]
     (repeat' first|simp (disch:=omega) only[go_sem,e1,Ka]|refine q00 _ (q1) ?_|refine q00 _ (q2) ?_|refine q00 _ (q3) ?_|(apply spl<;>intro h<;>try simp (disch:=omega) only[go_sem,h]))
     all_goals try omega
     refine ⟨k+1,?_,⟨hlt,he⟩,by omega⟩
     rw[e2]
     first | rfl | (rw[hse]; rfl)
   ·rw[if_neg hz] at he
    have hR:q2G s g=q0W s 48 d.2:=by unfold q2G; rw[he,if_neg hz]
    rw[hR]
    (repeat' first|simp (disch:=omega) only[go_sem,Ka]|refine q00 _ (q1) ?_|refine q00 _ (q2) ?_|refine q00 _ (q3) ?_)
    all_goals omega
 ·have hk2:k=s.defs.length:=by omega
  subst hk2
  rw[qel (Kr _)] at he
  rw[Ky] at hsm ⊢
  have hR:q2G s g=if q0W s 48 s.root=0 then (if (q4S s.defs || q2I 48 s.root)=true then 9 else if 1024<qbf s.defs+q3u 48 s.root∨64<s.defs.length then 10 else if g=false then 23 else 0) else q0W s 48 s.root:=by
   unfold q2G
   rw[he]
   rfl
  rw[hR,Bool.or_comm (q2I 48 s.root)]
  by_cases hz:q0W s 48 s.root=0
  ·rw[if_pos hz]
   rw[hz] at hr3
   cases hdp:(q4S s.defs || q2I 48 s.root)
   ·rw[if_neg (by simp)]
    by_cases hsz:1024<qbf s.defs+q3u 48 s.root∨64<s.defs.length
    ·rw[if_pos hsz]
     (repeat' first|simp (disch:=omega) only[go_sem,Ka]|refine q00 _ (hg) ?_|refine q00 _ (hr3) ?_|(apply spl<;>intro h<;>try simp (disch:=omega) only[go_sem,h]))
     all_goals omega
    ·rw[if_neg hsz]
     cases g
     ·rw[if_pos rfl]
      (repeat' first|simp (disch:=omega) only[go_sem,Ka]|refine q00 _ (hg) ?_|refine q00 _ (hr3) ?_)
      all_goals omega
     ·rw[if_neg (by simp)]
      (repeat' first|simp (disch:=omega) only[go_sem,Ka]|refine q00 _ (hg) ?_|refine q00 _ (hr3) ?_)
      all_goals omega
   ·rw[if_pos rfl]
    (repeat' first|simp (disch:=omega) only[go_sem,Ka]|refine q00 _ (hg) ?_|refine q00 _ (hr3) ?_)
    all_goals omega
  ·rw[if_neg hz]
   (repeat' first|simp (disch:=omega) only[go_sem,Ka]|refine q00 _ (hg) ?_|refine q00 _ (hr3) ?_)
   all_goals omega
end Ago
