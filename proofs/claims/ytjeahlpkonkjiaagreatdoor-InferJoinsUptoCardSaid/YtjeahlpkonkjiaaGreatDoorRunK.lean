/- A definition is looked up; keys that are there twice; the reference's check of nodes. -/
import Derived.Test.YtjeahlpkonkjiaaGreatDoorRunB
import Derived.Test.YtjeahlpkonkjiaaGreatDoorRunC
import Derived.Test.YtjeahlpkonkjiaaGreatDoorRunF
import Derived.Test.YtjeahlpkonkjiaaGreatDoorRunA
set_option linter.unusedSimpArgs false
set_option linter.unusedVariables false
set_option maxRecDepth 100000
set_option maxHeartbeats 8000000
namespace Ago
open Go (IntKind)
theorem Schs.dlen {s:Schs} {N:Nat} (hs:s.bulk≤N):s.defs.length<N∧∀ d,d∈s.defs→d.2.bulk<s.bulk∧d.1.length<N:=by
 have e:=s.bulk_eq
 have h1:=q1I (s.defs.map q1V)
 rw[Ka] at h1
 have:1≤s.root.bulk:=q1r _
 refine ⟨by omega,fun d hd=>?_⟩
 have:=q1U (Vf (f:=q1V) hd)
 rw[q9H] at this
 have:1≤d.2.bulk:=q1r _
 omega
def q8K:AV:=.agg [.int .i64 0,.int .i64 0,.int .i64 0,.int .i64 0,.str [],.snil 11,.int .i64 0,.int .i64 0,.int .i64 0,.int .i64 0,.int .i64 0,.snil 6,.snil 13,.snil 17,.snil 15]
def lkM (s:Schs) (name:List UInt8):Sch × Bool:=match s.defs.find? fun d=>d.1 == name with
 | some d=>(d.2,true)
 | none=>(zeroX,false)
theorem qlE {α:Type} {p:α→Bool} {l:List α} {k:Nat} {y:α} (hy:l[k]?=some y) (ha:(l.take k).any p=false) (hp:p y=true):l.find? p=some y:=by
 have h1:l=l.take k++y::l.drop (k+1):=by rw[←q6n hy,Ve]
 rw[h1,List.find?_append]
 have h2:(l.take k).find? p=none:=by
  rw[List.find?_eq_none]
  intro x hx hpx
  have:=List.any_eq_true.2 ⟨x,hx,hpx⟩
  rw[ha] at this
  cases this
 rw[h2]
 simp [hp]
theorem qeB {α:Type} {p:α→Bool} {l:List α} (ha:l.any p=false):l.find? p=none:=by
 rw[List.find?_eq_none]
 intro x hx hpx
 have:=List.any_eq_true.2 ⟨x,hx,hpx⟩
 rw[ha] at this
 cases this
theorem qdd (s:Schs) (name:List UInt8) (hs:s.bulk≤2^24):q0e CS 458 [q1f s,.str name] (.tup [q03 (lkM s name).1,.bool (lkM s name).2]):=by
 have hd:=(Schs.dlen hs).1
 refine q04 qpl rfl ?_
 rw[q0s]
 (repeat' first|simp (disch:=omega) only[go_sem,qpl,enter,Ka]|(apply spl<;>intro h<;>try simp (disch:=omega) only[go_sem,h]))
 refine q06 (α:=Nat) (fun k=>{ tmps:=q0h 29 [(1,.str name),(2,.ptr 16 0 0 0),(4,.ptr 15 1 0 0),(6,.int .i64 k)],heap:=[.row 16 [q1f s] false true 0,.row 15 [q8K] false true 1],base:=0 }) (fun k=>k≤s.defs.length∧(s.defs.take k).any (fun d=>d.1 == name)=false) (fun k=>s.defs.length-k) 0 (by rw[q0s]; rfl) ⟨Km _,rfl⟩ ?_
 rintro k ⟨hk,ha⟩
 rw[q0s]
 by_cases hlt:k<s.defs.length
 ·obtain ⟨d,hdk⟩:=q05 hlt
  have hd2:=q09 (g:=q1V) hdk
  rw[q2c] at hd2
  cases hb:d.1 == name with
  | true=>
   have hf:=qlE hdk ha hb
   have hl:lkM s name=(d.2,true):=by unfold lkM; rw[hf]
   rw[hl,q01]
   (repeat' first|simp (disch:=omega) only[go_sem,hd2,hb,Ka,q8K])
  | false=>
   (repeat' first|simp (disch:=omega) only[go_sem,hd2,hb,Ka,q8K]|(apply spl<;>intro h<;>try simp (disch:=omega) only[go_sem,h]))
   all_goals try omega
   refine ⟨k+1,?_,⟨hlt,q5j hdk ha hb⟩,by omega⟩
   first | rfl | (rw[q0s s]; rfl)
 ·rw[q0M hlt hk] at ha
  have hf:=qeB ha
  have hl:lkM s name=(zeroX,false):=by unfold lkM; rw[hf]
  rw[hl,q1e]
  (repeat' first|simp (disch:=omega) only[go_sem,Ka,q8K])
theorem qg2 (l:List (List UInt8)) (s:List UInt8) (hl:l.length<2^30):q0e CS 492 [.tsl 1 (l.map .str),.str s] (.bool (l.any fun x=>x == s)):=by
 refine q04 qon rfl ?_
 (repeat' first|simp (disch:=omega) only[go_sem,qon,enter,Ka]|(apply spl<;>intro h<;>try simp (disch:=omega) only[go_sem,h]))
 refine q06 (α:=Nat) (fun k=>{ tmps:=q0h 18 [(0,.tsl 1 (l.map .str)),(1,.str s),(5,.int .i64 k)],heap:=[],base:=0 }) (fun k=>k≤l.length∧(l.take k).any (fun x=>x == s)=false) (fun k=>l.length-k) 0 rfl ⟨Km _,rfl⟩ ?_
 rintro k ⟨hk,ha⟩
 by_cases hlt:k<l.length
 ·obtain ⟨y,hy⟩:=q05 hlt
  have hy2:=q09 (g:=AV.str) hy
  cases hb:y == s with
  | true=>
   rw[qf6 hy hb]
   (repeat' first|simp (disch:=omega) only[go_sem,hy2,hb,Ka])
   all_goals omega
  | false=>
   (repeat' first|simp (disch:=omega) only[go_sem,hy2,hb,Ka]|(apply spl<;>intro h<;>try simp (disch:=omega) only[go_sem,h]))
   all_goals try omega
   exact ⟨k+1,rfl,⟨hlt,q5j hy ha hb⟩,by omega⟩
 ·rw[q0M hlt hk] at ha
  rw[ha]
  (repeat' first|simp (disch:=omega) only[go_sem,Ka])
def qa2:List (List UInt8)→List (List UInt8)→Bool
 | _,[]=>false
 | seen,y::l=>seen.any (fun x=>x == y) || qa2 (seen++[y]) l
def qlp (l:List (List UInt8)):Bool:=qa2 [] l
theorem q68 {l:List (List UInt8)} {k:Nat} {y:List UInt8} (hy:l[k]?=some y):qa2 (l.take k) (l.drop k)=((l.take k).any (fun x=>x == y) || qa2 (l.take (k+1)) (l.drop (k+1))):=by
 rw[q6n hy]
 have:l.take (k+1)=l.take k++[y]:=by rw[KB,hy]; rfl
 rw[this]
 rfl
def q5x (s:Schs) (x:Sch):Int:=
 if q1n x=false then 1 else if x.s.op=7∧q3d x.s.name=false then 7 else if x.s.op=14∧(lkM s x.s.name).2=false then 7 else if qlp (x.p.map fun p=>p.1.key)=true then 8 else 0
def q0Y (x:Sch):List (List UInt8):=x.p.map fun p=>p.1.key
theorem qk4 (s:Schs) (name:List UInt8) (hs:s.bulk≤2^24):q0e CS 457 [q1f s,.str name] (.tup [q03 (if (lkM s name).2=true then q7y (2^24) (lkM s name).1 else zeroX),.bool (lkM s name).2]):=by
 have hd:=Schs.dlen hs
 obtain ⟨hd,hd2⟩:=hd
 refine q04 qnL rfl ?_
 rw[q0s]
 (repeat' first|simp (disch:=omega) only[go_sem,qnL,enter,Ka]|(apply spl<;>intro h<;>try simp (disch:=omega) only[go_sem,h]))
 refine q06 (α:=Nat) (fun k=>{ tmps:=q0h 24 [(1,.str name),(4,.ptr 15 0 0 0),(9,.tsl 16 (s.defs.map q1V)),(10,.int .i64 s.defs.length),(11,.int .i64 k)],heap:=[.row 15 [q8K] false true 0],base:=0 }) (fun k=>k≤s.defs.length∧(s.defs.take k).any (fun d=>d.1 == name)=false) (fun k=>s.defs.length-k) 0 rfl ⟨Km _,rfl⟩ ?_
 rintro k ⟨hk,ha⟩
 by_cases hlt:k<s.defs.length
 ·obtain ⟨d,hdk⟩:=q05 hlt
  have hdm:=Kc hdk
  have hde:=q09 (g:=q1V) hdk
  have hr:=qjW (2^24) d.2 (by have:=(hd2 d hdm).1; omega) (Kr _)
  rw[q2c] at hde
  cases hb:d.1 == name with
  | true=>
   have hf:=qlE hdk ha hb
   have hl:lkM s name=(d.2,true):=by unfold lkM; rw[hf]
   rw[hl,if_pos rfl]
   rw[q01 (q7y _ _)] at hr ⊢
   rw[q01] at hr
   (repeat' first|simp (disch:=omega) only[go_sem,hde,hb,Ka,q8K]|refine q00 _ (hr) ?_)
  | false=>
   (repeat' first|simp (disch:=omega) only[go_sem,hde,hb,Ka,q8K]|(apply spl<;>intro h<;>try simp (disch:=omega) only[go_sem,h]))
   all_goals try omega
   exact ⟨k+1,rfl,⟨hlt,q5j hdk ha hb⟩,by omega⟩
 ·rw[q0M hlt hk] at ha
  have hf:=qeB ha
  have hl:lkM s name=(zeroX,false):=by unfold lkM; rw[hf]
  rw[hl,if_neg (by simp),q1e]
  (repeat' first|simp (disch:=omega) only[go_sem,Ka,q8K])
def q27 (l:List (List UInt8)):List (AV × AV):=l.map fun x=>(.str x,.int .i64 1)
theorem qcI (l:List (List UInt8)):qsy (.map (q27 l)):=qhk fun x hx=>by
 unfold q27 at hx
 obtain ⟨y,_,rfl⟩:=K0.1 hx
 exact ⟨qek y,q0E _ _⟩
theorem q2M (k:List UInt8) : ∀ (l:List (List UInt8)) (i:Nat),((l.any fun x=>x == k)=false→findKey (.one .str) (.str k) (q27 l) i=some none)∧((l.any fun x=>x == k)=true→∃ j,findKey (.one .str) (.str k) (q27 l) i=some (some (i+j,.int .i64 1))∧findKey (.one .str) (.str k) ((q27 l).set j (.str k,.int .i64 2)) i=some (some (i+j,.int .i64 2)))
 | [],i=>⟨fun _=>rfl,fun h=>by simp at h⟩
 | x::l,i=>by
  obtain ⟨h1,h2⟩:=q2M k l (i+1)
  by_cases he:x=k
  ·subst he
   refine ⟨fun h=>by simp at h,fun _=>⟨0,?_,?_⟩⟩<;>simp [q27,findKey,q55,q4e]
  ·have e1:(x == k)=false:=by simpa using he
   have e2:(k == x)=false:=by simpa using fun e=>he e.symm
   have e:findKey (.one .str) (.str k) (q27 (x::l)) i=findKey (.one .str) (.str k) (q27 l) (i+1):=by
    simp [q27,findKey,q55,q4e,e2]
   rw[e,List.any_cons,e1,VF]
   refine ⟨h1,fun h=>?_⟩
   obtain ⟨j,g1,g2⟩:=h2 h
   refine ⟨j+1,?_,?_⟩
   ·rw[g1,show i+1+j=i+(j+1) by omega]
   ·have e3:findKey (.one .str) (.str k) ((q27 (x::l)).set (j+1) (.str k,.int .i64 2)) i=findKey (.one .str) (.str k) ((q27 l).set j (.str k,.int .i64 2)) (i+1):=by
     simp [q27,findKey,q55,q4e,e2]
    rw[e3,g2,show i+1+j=i+(j+1) by omega]
end Ago
set_option maxRecDepth 100000
set_option maxHeartbeats 16000000
namespace Ago
open Go (IntKind)
theorem q3e (x:Sch):(q0Y x).length=x.p.length:=Ka ..
theorem q4J {x:Sch} {k:Nat} {y:PK × Sch} (hy:x.p[k]?=some y):(q0Y x)[k]?=some y.1.key:=q09 (g:=fun p:PK × Sch=>p.1.key) hy
theorem q8h {l:List (List UInt8)} {k:Nat} (h:l.length≤k) (hd:qlp l=qa2 (l.take k) (l.drop k)):qlp l=false:=by
 rw[hd,KR h]
 rfl
theorem qfV (s:Schs) (x:Sch) (hs:s.bulk≤2^24) (hx:x.bulk≤2^24):q0e CS 516 [q1f s,q03 x] (.int .i64 (q5x s x)):=by
 have L:=Sch.lens (N:=2^24) hx
 have l3:=L.props
 have hkn:q5x s x=if q1n x=false then 1 else if x.s.op=7∧q3d x.s.name=false then 7 else if x.s.op=14∧(lkM s x.s.name).2=false then 7 else if qlp (q0Y x)=true then 8 else 0:=rfl
 have hf:=qgw x hx
 have hk:=qe6 x.s.name
 have hl:=qdd s x.s.name hs
 refine q04 qcT rfl ?_
 rw[q01 (lkM s x.s.name).1] at hl
 rw[q0s] at hl ⊢
 cases hb:q1n x
 ·rw[hb] at hf
  rw[hkn,if_pos hb]
  rw[q01] at hf ⊢
  (repeat' first|simp (disch:=omega) only[go_sem,qcT,enter]|refine q00 _ (hf) ?_)
 rw[hb] at hf
 rw[if_neg (by rw[hb]; simp)] at hkn
 rw[q01] at hf ⊢
 by_cases c7:x.s.op=7∧q3d x.s.name=false
 ·rw[hkn,if_pos c7]
  obtain ⟨c7,c7'⟩:=c7
  rw[c7'] at hk
  (repeat' first|simp (disch:=omega) only[go_sem,qcT,enter]|refine q00 _ (hf) ?_|refine q00 _ (hk) ?_)
 rw[if_neg c7] at hkn
 by_cases c14:x.s.op=14∧(lkM s x.s.name).2=false
 ·rw[hkn,if_pos c14]
  obtain ⟨c14,c14'⟩:=c14
  rw[c14'] at hl
  (repeat' first|simp (disch:=omega) only[go_sem,qcT,enter]|refine q00 _ (hf) ?_|refine q00 _ (hk) ?_|refine q00 _ (hl) ?_)
 rw[if_neg c14] at hkn
 rw[hkn]
 have hkk:x.s.op=7→q3d x.s.name=true:=fun h=>by
  cases q:q3d x.s.name with
  | true=>rfl
  | false=>exact (c7 ⟨h,q⟩).elim
 have hll:x.s.op=14→(lkM s x.s.name).2=true:=fun h=>by
  cases q:(lkM s x.s.name).2 with
  | true=>rfl
  | false=>exact (c14 ⟨h,q⟩).elim
 by_cases h7:x.s.op=7
 ·rw[hkk h7] at hk
  (repeat' first|simp (disch:=omega) only[go_sem,qcT,enter]|refine q00 _ (hf) ?_|refine q00 _ (hk) ?_|refine q00 _ (hl) ?_|(apply spl<;>intro h<;>try simp (disch:=omega) only[go_sem,h]))
  refine q06 (α:=Nat) (fun k=>{ tmps:=q0h 57 [(3,.ptr 15 0 0 0),(7,q0K 1 1 (((q0Y x).take k).map .str)),(8,.int .i64 k)],heap:=[.row 15 [q03 x] false true 0]++q0J 1 1 (((q0Y x).take k).map .str),base:=0 }) (fun k=>k≤x.p.length∧qlp (q0Y x)=qa2 ((q0Y x).take k) ((q0Y x).drop k)) (fun k=>x.p.length-k) 0 (by rw[q01]; rfl) ⟨Km _,rfl⟩ ?_
  rintro k ⟨hk,hd⟩
  rw[q01]
  obtain ⟨out,hout⟩ : ∃ out,((q0Y x).take k).map AV.str=out:=⟨_,rfl⟩
  have hol:out.length=k:=by
   rw[←hout,Ka,K3,q3e]
   omega
  by_cases hlt:k<x.p.length
  ·obtain ⟨y,hy⟩:=q05 hlt
   have hy2:=q09 (g:=q0g) hy
   have hy3:=q4J hy
   rw[q0f] at hy2
   have hr:=qg2 ((q0Y x).take k) y.1.key (by rw[K3]; omega)
   rw[hout] at hr
   rw[q68 hy3] at hd
   have hnew:((q0Y x).take (k+1)).map AV.str=out++[.str y.1.key]:=by
    rw[KB,hy3,←hout]
    simp
   rw[hout]
   cases hc:((q0Y x).take k).any (fun z=>z == y.1.key) with
   | true=>
    rw[hc] at hr hd
    rw[Wa] at hd
    rw[hd,if_pos rfl]
    cases out with
    | nil=>(repeat' first|simp (disch:=omega) only[go_sem,hy2,Ka,q0K,q0J]|refine q00 _ (hr) ?_)
    | cons z zs=>
     simp only[Kb] at hol
     (repeat' first|simp (disch:=omega) only[go_sem,hy2,Ka,q0K,q0J,Kx]|refine q00 _ (hr) ?_)
   | false=>
    rw[hc] at hr hd
    rw[VF] at hd
    cases out with
    | nil=>
     (repeat' first|simp (disch:=omega) only[go_sem,hy2,Ka,q0K,q0J]|refine q00 _ (hr) ?_|(apply spl<;>intro h<;>try simp (disch:=omega) only[go_sem,h]))
     all_goals first | omega | skip
     refine ⟨k+1,?_,⟨hlt,hd⟩,by omega⟩
     simp only[hnew]
     first | rfl | (rw[q01 x]; rfl)
    | cons z zs=>
     simp only[Kb] at hol
     (repeat' first|simp (disch:=omega) only[go_sem,hy2,Ka,q0K,q0J,Kx]|refine q00 _ (hr) ?_|(apply spl<;>intro h<;>try simp (disch:=omega) only[go_sem,h]))
     all_goals first | omega | skip
     refine ⟨k+1,?_,⟨hlt,hd⟩,by omega⟩
     simp only[hnew,Ko,q0K,q0J,Kh,Kb,Kd]
     first | rfl | (rw[q01 x]; rfl)
  ·rw[q8h (by rw[q3e]; omega) hd,if_neg (by simp),hout]
   cases out with
   | nil=>(repeat' first|simp (disch:=omega) only[go_sem,Ka,q0K,q0J])
   | cons z zs=>(repeat' first|simp (disch:=omega) only[go_sem,Ka,q0K,q0J])
 ·by_cases h14:x.s.op=14
  ·rw[hll h14] at hl
   (repeat' first|simp (disch:=omega) only[go_sem,qcT,enter]|refine q00 _ (hf) ?_|refine q00 _ (hk) ?_|refine q00 _ (hl) ?_|(apply spl<;>intro h<;>try simp (disch:=omega) only[go_sem,h]))
   refine q06 (α:=Nat) (fun k=>{ tmps:=q0h 57 [(3,.ptr 15 0 0 0),(7,q0K 1 1 (((q0Y x).take k).map .str)),(8,.int .i64 k)],heap:=[.row 15 [q03 x] false true 0]++q0J 1 1 (((q0Y x).take k).map .str),base:=0 }) (fun k=>k≤x.p.length∧qlp (q0Y x)=qa2 ((q0Y x).take k) ((q0Y x).drop k)) (fun k=>x.p.length-k) 0 (by rw[q01]; rfl) ⟨Km _,rfl⟩ ?_
   rintro k ⟨hk,hd⟩
   rw[q01]
   obtain ⟨out,hout⟩ : ∃ out,((q0Y x).take k).map AV.str=out:=⟨_,rfl⟩
   have hol:out.length=k:=by
    rw[←hout,Ka,K3,q3e]
    omega
   by_cases hlt:k<x.p.length
   ·obtain ⟨y,hy⟩:=q05 hlt
    have hy2:=q09 (g:=q0g) hy
    have hy3:=q4J hy
    rw[q0f] at hy2
    have hr:=qg2 ((q0Y x).take k) y.1.key (by rw[K3]; omega)
    rw[hout] at hr
    rw[q68 hy3] at hd
    have hnew:((q0Y x).take (k+1)).map AV.str=out++[.str y.1.key]:=by
     rw[KB,hy3,←hout]
     simp
    rw[hout]
    cases hc:((q0Y x).take k).any (fun z=>z == y.1.key) with
    | true=>
     rw[hc] at hr hd
     rw[Wa] at hd
     rw[hd,if_pos rfl]
     cases out with
     | nil=>(repeat' first|simp (disch:=omega) only[go_sem,hy2,Ka,q0K,q0J]|refine q00 _ (hr) ?_)
     | cons z zs=>
      simp only[Kb] at hol
      (repeat' first|simp (disch:=omega) only[go_sem,hy2,Ka,q0K,q0J,Kx]|refine q00 _ (hr) ?_)
    | false=>
     rw[hc] at hr hd
     rw[VF] at hd
     cases out with
     | nil=>
      (repeat' first|simp (disch:=omega) only[go_sem,hy2,Ka,q0K,q0J]|refine q00 _ (hr) ?_|(apply spl<;>intro h<;>try simp (disch:=omega) only[go_sem,h]))
      all_goals first | omega | skip
      refine ⟨k+1,?_,⟨hlt,hd⟩,by omega⟩
      simp only[hnew]
      first | rfl | (rw[q01 x]; rfl)
     | cons z zs=>
      simp only[Kb] at hol
      (repeat' first|simp (disch:=omega) only[go_sem,hy2,Ka,q0K,q0J,Kx]|refine q00 _ (hr) ?_|(apply spl<;>intro h<;>try simp (disch:=omega) only[go_sem,h]))
      all_goals first | omega | skip
      refine ⟨k+1,?_,⟨hlt,hd⟩,by omega⟩
      simp only[hnew,Ko,q0K,q0J,Kh,Kb,Kd]
      first | rfl | (rw[q01 x]; rfl)
   ·rw[q8h (by rw[q3e]; omega) hd,if_neg (by simp),hout]
    cases out with
    | nil=>(repeat' first|simp (disch:=omega) only[go_sem,Ka,q0K,q0J])
    | cons z zs=>(repeat' first|simp (disch:=omega) only[go_sem,Ka,q0K,q0J])
  ·(repeat' first|simp (disch:=omega) only[go_sem,qcT,enter]|refine q00 _ (hf) ?_|refine q00 _ (hk) ?_|refine q00 _ (hl) ?_|(apply spl<;>intro h<;>try simp (disch:=omega) only[go_sem,h]))
   refine q06 (α:=Nat) (fun k=>{ tmps:=q0h 57 [(3,.ptr 15 0 0 0),(7,q0K 1 1 (((q0Y x).take k).map .str)),(8,.int .i64 k)],heap:=[.row 15 [q03 x] false true 0]++q0J 1 1 (((q0Y x).take k).map .str),base:=0 }) (fun k=>k≤x.p.length∧qlp (q0Y x)=qa2 ((q0Y x).take k) ((q0Y x).drop k)) (fun k=>x.p.length-k) 0 (by rw[q01]; rfl) ⟨Km _,rfl⟩ ?_
   rintro k ⟨hk,hd⟩
   rw[q01]
   obtain ⟨out,hout⟩ : ∃ out,((q0Y x).take k).map AV.str=out:=⟨_,rfl⟩
   have hol:out.length=k:=by
    rw[←hout,Ka,K3,q3e]
    omega
   by_cases hlt:k<x.p.length
   ·obtain ⟨y,hy⟩:=q05 hlt
    have hy2:=q09 (g:=q0g) hy
    have hy3:=q4J hy
    rw[q0f] at hy2
    have hr:=qg2 ((q0Y x).take k) y.1.key (by rw[K3]; omega)
    rw[hout] at hr
    rw[q68 hy3] at hd
    have hnew:((q0Y x).take (k+1)).map AV.str=out++[.str y.1.key]:=by
     rw[KB,hy3,←hout]
     simp
    rw[hout]
    cases hc:((q0Y x).take k).any (fun z=>z == y.1.key) with
    | true=>
     rw[hc] at hr hd
     rw[Wa] at hd
     rw[hd,if_pos rfl]
     cases out with
     | nil=>(repeat' first|simp (disch:=omega) only[go_sem,hy2,Ka,q0K,q0J]|refine q00 _ (hr) ?_)
     | cons z zs=>
      simp only[Kb] at hol
      (repeat' first|simp (disch:=omega) only[go_sem,hy2,Ka,q0K,q0J,Kx]|refine q00 _ (hr) ?_)
    | false=>
     rw[hc] at hr hd
     rw[VF] at hd
     cases out with
     | nil=>
      (repeat' first|simp (disch:=omega) only[go_sem,hy2,Ka,q0K,q0J]|refine q00 _ (hr) ?_|(apply spl<;>intro h<;>try simp (disch:=omega) only[go_sem,h]))
      all_goals first | omega | skip
      refine ⟨k+1,?_,⟨hlt,hd⟩,by omega⟩
      simp only[hnew]
      first | rfl | (rw[q01 x]; rfl)
     | cons z zs=>
      simp only[Kb] at hol
      (repeat' first|simp (disch:=omega) only[go_sem,hy2,Ka,q0K,q0J,Kx]|refine q00 _ (hr) ?_|(apply spl<;>intro h<;>try simp (disch:=omega) only[go_sem,h]))
      all_goals first | omega | skip
      refine ⟨k+1,?_,⟨hlt,hd⟩,by omega⟩
      simp only[hnew,Ko,q0K,q0J,Kh,Kb,Kd]
      first | rfl | (rw[q01 x]; rfl)
   ·rw[q8h (by rw[q3e]; omega) hd,if_neg (by simp),hout]
    cases out with
    | nil=>(repeat' first|simp (disch:=omega) only[go_sem,Ka,q0K,q0J])
    | cons z zs=>(repeat' first|simp (disch:=omega) only[go_sem,Ka,q0K,q0J])
theorem qpT (s:Schs) (x:Sch) (hs:s.bulk≤2^24) (hx:x.bulk≤2^24):q0e CS 513 [q1f s,q03 x] (.int .i64 (q5x s x)):=by
 have L:=Sch.lens (N:=2^24) hx
 have l3:=L.props
 have hkn:q5x s x=if q1n x=false then 1 else if x.s.op=7∧q3d x.s.name=false then 7 else if x.s.op=14∧(lkM s x.s.name).2=false then 7 else if qlp (q0Y x)=true then 8 else 0:=rfl
 have hf:=qpz x hx
 have hk:=qkG x.s.name
 have hl:=qk4 s x.s.name hs
 refine q04 qcE rfl ?_
 rw[q01 (ite _ _ _)] at hl
 rw[q0s] at hl ⊢
 cases hb:q1n x
 ·rw[hb] at hf
  rw[hkn,if_pos hb]
  rw[q01] at hf ⊢
  (repeat' first|simp (disch:=omega) only[go_sem,qcE,enter]|refine q00 _ (hf) ?_)
 rw[hb] at hf
 rw[if_neg (by rw[hb]; simp)] at hkn
 rw[q01 x] at hf ⊢
 by_cases c7:x.s.op=7∧q3d x.s.name=false
 ·rw[hkn,if_pos c7]
  obtain ⟨c7,c7'⟩:=c7
  rw[c7'] at hk
  (repeat' first|simp (disch:=omega) only[go_sem,qcE,enter]|refine q00 _ (hf) ?_|refine q00 _ (hk) ?_)
 rw[if_neg c7] at hkn
 by_cases c14:x.s.op=14∧(lkM s x.s.name).2=false
 ·rw[hkn,if_pos c14]
  obtain ⟨c14,c14'⟩:=c14
  rw[c14'] at hl
  (repeat' first|simp (disch:=omega) only[go_sem,qcE,enter]|refine q00 _ (hf) ?_|refine q00 _ (hk) ?_|refine q00 _ (hl) ?_)
 rw[if_neg c14] at hkn
 rw[hkn]
 have hkk:x.s.op=7→q3d x.s.name=true:=fun h=>by
  cases q:q3d x.s.name with
  | true=>rfl
  | false=>exact (c7 ⟨h,q⟩).elim
 have hll:x.s.op=14→(lkM s x.s.name).2=true:=fun h=>by
  cases q:(lkM s x.s.name).2 with
  | true=>rfl
  | false=>exact (c14 ⟨h,q⟩).elim
 by_cases h7:x.s.op=7
 ·rw[hkk h7] at hk
  (repeat' first|simp (disch:=omega) only[go_sem,qcE,enter,Ka]|refine q00 _ (hf) ?_|refine q00 _ (hk) ?_|refine q00 _ (hl) ?_|(apply spl<;>intro h<;>try simp (disch:=omega) only[go_sem,h]))
  refine q06 (α:=Nat) (fun k=>{ tmps:=q0h 55 [(7,.mref 0),(38,.tsl 17 (x.p.map q0g)),(39,.int .i64 x.p.length),(40,.int .i64 k)],heap:=[.map (q27 ((q0Y x).take k))],base:=0 }) (fun k=>k≤x.p.length∧qlp (q0Y x)=qa2 ((q0Y x).take k) ((q0Y x).drop k)) (fun k=>x.p.length-k) 0 (by first | rfl | (simp only[Ka]; rfl)) ⟨Km _,rfl⟩ ?_
  rintro k ⟨hk,hd⟩
  by_cases hlt:k<x.p.length
  ·obtain ⟨y,hy⟩:=q05 hlt
   have hy2:=q09 (g:=q0g) hy
   have hy3:=q4J hy
   rw[q0f] at hy2
   rw[q68 hy3] at hd
   obtain ⟨f1,f2⟩:=q2M y.1.key ((q0Y x).take k) 0
   cases hc:((q0Y x).take k).any (fun z=>z == y.1.key) with
   | true=>
    obtain ⟨j,g1,g2⟩:=f2 hc
    rw[Vv] at g1 g2
    rw[hc,Wa] at hd
    rw[hd,if_pos rfl]
    (repeat' first|simp (disch:=omega) only[go_sem,hy2,Ka,g1,g2])
   | false=>
    have g1:=f1 hc
    rw[hc,VF] at hd
    have e:q27 ((q0Y x).take k)++[(.str y.1.key,.int .i64 1)]=q27 ((q0Y x).take (k+1)):=by
     rw[KB,hy3]
     simp [q27]
    obtain ⟨j,g2,_⟩:=(q2M y.1.key ((q0Y x).take (k+1)) 0).2 (by rw[KB,hy3]; simp)
    (repeat' first|simp (disch:=omega) only[go_sem,hy2,Ka,g1,e,g2]|(apply spl<;>intro h<;>try simp (disch:=omega) only[go_sem,h]))
    all_goals first | omega | skip
    exact ⟨k+1,(q72 (.cons (qcI _) (.cons (q9i _ _ _) .nil))).trans rfl,⟨hlt,hd⟩,by omega⟩
  ·rw[q8h (by rw[q3e]; omega) hd,if_neg (by simp)]
   (repeat' first|simp (disch:=omega) only[go_sem,Ka])
 ·by_cases h14:x.s.op=14
  ·rw[hll h14] at hl
   (repeat' first|simp (disch:=omega) only[go_sem,qcE,enter,Ka]|refine q00 _ (hf) ?_|refine q00 _ (hk) ?_|refine q00 _ (hl) ?_|(apply spl<;>intro h<;>try simp (disch:=omega) only[go_sem,h]))
   refine q06 (α:=Nat) (fun k=>{ tmps:=q0h 55 [(7,.mref 0),(38,.tsl 17 (x.p.map q0g)),(39,.int .i64 x.p.length),(40,.int .i64 k)],heap:=[.map (q27 ((q0Y x).take k))],base:=0 }) (fun k=>k≤x.p.length∧qlp (q0Y x)=qa2 ((q0Y x).take k) ((q0Y x).drop k)) (fun k=>x.p.length-k) 0 (by first | rfl | (simp only[Ka]; rfl)) ⟨Km _,rfl⟩ ?_
   rintro k ⟨hk,hd⟩
   by_cases hlt:k<x.p.length
   ·obtain ⟨y,hy⟩:=q05 hlt
    have hy2:=q09 (g:=q0g) hy
    have hy3:=q4J hy
    rw[q0f] at hy2
    rw[q68 hy3] at hd
    obtain ⟨f1,f2⟩:=q2M y.1.key ((q0Y x).take k) 0
    cases hc:((q0Y x).take k).any (fun z=>z == y.1.key) with
    | true=>
     obtain ⟨j,g1,g2⟩:=f2 hc
     rw[Vv] at g1 g2
     rw[hc,Wa] at hd
     rw[hd,if_pos rfl]
     (repeat' first|simp (disch:=omega) only[go_sem,hy2,Ka,g1,g2])
    | false=>
     have g1:=f1 hc
     rw[hc,VF] at hd
     have e:q27 ((q0Y x).take k)++[(.str y.1.key,.int .i64 1)]=q27 ((q0Y x).take (k+1)):=by
      rw[KB,hy3]
      simp [q27]
     obtain ⟨j,g2,_⟩:=(q2M y.1.key ((q0Y x).take (k+1)) 0).2 (by rw[KB,hy3]; simp)
     (repeat' first|simp (disch:=omega) only[go_sem,hy2,Ka,g1,e,g2]|(apply spl<;>intro h<;>try simp (disch:=omega) only[go_sem,h]))
     all_goals first | omega | skip
     exact ⟨k+1,(q72 (.cons (qcI _) (.cons (q9i _ _ _) .nil))).trans rfl,⟨hlt,hd⟩,by omega⟩
   ·rw[q8h (by rw[q3e]; omega) hd,if_neg (by simp)]
    (repeat' first|simp (disch:=omega) only[go_sem,Ka])
  ·(repeat' first|simp (disch:=omega) only[go_sem,qcE,enter,Ka]|refine q00 _ (hf) ?_|refine q00 _ (hk) ?_|refine q00 _ (hl) ?_|(apply spl<;>intro h<;>try simp (disch:=omega) only[go_sem,h]))
   refine q06 (α:=Nat) (fun k=>{ tmps:=q0h 55 [(7,.mref 0),(38,.tsl 17 (x.p.map q0g)),(39,.int .i64 x.p.length),(40,.int .i64 k)],heap:=[.map (q27 ((q0Y x).take k))],base:=0 }) (fun k=>k≤x.p.length∧qlp (q0Y x)=qa2 ((q0Y x).take k) ((q0Y x).drop k)) (fun k=>x.p.length-k) 0 (by first | rfl | (simp only[Ka]; rfl)) ⟨Km _,rfl⟩ ?_
   rintro k ⟨hk,hd⟩
   by_cases hlt:k<x.p.length
   ·obtain ⟨y,hy⟩:=q05 hlt
    have hy2:=q09 (g:=q0g) hy
    have hy3:=q4J hy
    rw[q0f] at hy2
    rw[q68 hy3] at hd
    obtain ⟨f1,f2⟩:=q2M y.1.key ((q0Y x).take k) 0
    cases hc:((q0Y x).take k).any (fun z=>z == y.1.key) with
    | true=>
     obtain ⟨j,g1,g2⟩:=f2 hc
     rw[Vv] at g1 g2
     rw[hc,Wa] at hd
     rw[hd,if_pos rfl]
     (repeat' first|simp (disch:=omega) only[go_sem,hy2,Ka,g1,g2])
    | false=>
     have g1:=f1 hc
     rw[hc,VF] at hd
     have e:q27 ((q0Y x).take k)++[(.str y.1.key,.int .i64 1)]=q27 ((q0Y x).take (k+1)):=by
      rw[KB,hy3]
      simp [q27]
     obtain ⟨j,g2,_⟩:=(q2M y.1.key ((q0Y x).take (k+1)) 0).2 (by rw[KB,hy3]; simp)
     (repeat' first|simp (disch:=omega) only[go_sem,hy2,Ka,g1,e,g2]|(apply spl<;>intro h<;>try simp (disch:=omega) only[go_sem,h]))
     all_goals first | omega | skip
     exact ⟨k+1,(q72 (.cons (qcI _) (.cons (q9i _ _ _) .nil))).trans rfl,⟨hlt,hd⟩,by omega⟩
   ·rw[q8h (by rw[q3e]; omega) hd,if_neg (by simp)]
    (repeat' first|simp (disch:=omega) only[go_sem,Ka])
end Ago
set_option maxRecDepth 100000
set_option maxHeartbeats 16000000
namespace Ago
open Go (IntKind)
def q6w:List Int→Int
 | []=>0
 | e::l=>if e=0 then q6w l else e
theorem qa3 {α:Type} {f:α→Int} : ∀ {l:List α} {k:Nat} {y:α},l[k]?=some y→(l.take k).all (fun z=>f z == 0)=true→f y≠0→q6w (l.map f)=f y
 | [],_,_,h,_,_=>by simp at h
 | z::l,0,y,h,_,he=>by
  simp at h
  subst h
  simp [q6w,he]
 | z::l,k+1,y,h,ha,he=>by
  simp only[List.take_succ_cons,Vc,Kf,beq_iff_eq] at ha
  simp only[Kj,q6w]
  rw[if_pos ha.1]
  exact qa3 (by simpa using h) ha.2 he
theorem q6X {α:Type} {f:α→Int} : ∀ {l:List α},l.all (fun z=>f z == 0)=true→q6w (l.map f)=0
 | [],_=>rfl
 | z::l,ha=>by
  simp only[Vc,Kf,beq_iff_eq] at ha
  simp only[Kj,q6w]
  rw[if_pos ha.1]
  exact q6X ha.2
def q0R (s:Schs):Nat→Sch→Int
 | 0,_=>0
 | d+1,x=>if q5x s x=0 then q6w (x.kids.map (q0R s d)) else q5x s x
theorem qav (s:Schs) (x:Sch):q0R s 0 x=0:=(rfl)
theorem q4Z (s:Schs) (d:Nat) (x:Sch):q0R s (d+1) x=if q5x s x=0 then q6w (x.kids.map (q0R s d)) else q5x s x:=(rfl)
def q1Z:Nat→Sch→Bool
 | 0,_=>true
 | d+1,x=>x.kids.any (q1Z d)
theorem q6e (x:Sch):q1Z 0 x=true:=(rfl)
theorem q61 (d:Nat) (x:Sch):q1Z (d+1) x=x.kids.any (q1Z d):=(rfl)
theorem q7m : ∀ (d:Nat) (D:Int),D=d→d<2^30→∀ x:Sch,x.bulk≤2^24→q0e CS 487 [q03 x,.int .i64 D] (.bool (q1Z d x)):=by
 intro d
 induction d with
 | zero=>
  intro D hD hd x hx
  refine q04 qjz rfl ?_
  rw[q01,q6e]
  (repeat' first|simp (disch:=omega) only[go_sem,qjz,enter,Ka]|(apply spl<;>intro h<;>try simp (disch:=omega) only[go_sem,h]))
  all_goals omega
 | succ d ih=>
  intro D hD hd x hx
  have hp:=q2P x hx
  have hkl:=q4x x
  rw[q61]
  refine q04 qjz rfl ?_
  rw[q01] at hp ⊢
  (repeat' first|simp (disch:=omega) only[go_sem,qjz,enter,Ka]|refine q00 _ (hp) ?_|(apply spl<;>intro h<;>try simp (disch:=omega) only[go_sem,h]))
  all_goals try omega
  refine q06 (α:=Nat) (fun k=>{ tmps:=q0h 24 [(1,.int .i64 D),(5,.tsl 15 (x.kids.map q03)),(6,.int .i64 k)],heap:=[],base:=0 }) (fun k=>k≤x.kids.length∧(x.kids.take k).any (q1Z d)=false) (fun k=>x.kids.length-k) 0 rfl ⟨Km _,rfl⟩ ?_
  rintro k ⟨hk,ha⟩
  by_cases hlt:k<x.kids.length
  ·obtain ⟨y,hy⟩:=q05 hlt
   have hym:=Kc hy
   have hy2:=q09 (g:=q03) hy
   have hr:=ih (D-1) (by omega) (by omega) y (by have:=Sch.kids_bulk hym; omega)
   rw[q01] at hy2 hr
   cases hc:q1Z d y with
   | true=>
    rw[hc] at hr
    rw[qf6 hy hc]
    (repeat' first|simp (disch:=omega) only[go_sem,hy2,Ka]|refine q00 _ (hr) ?_|(apply spl<;>intro h<;>try simp (disch:=omega) only[go_sem,h]))
    all_goals omega
   | false=>
    rw[hc] at hr
    (repeat' first|simp (disch:=omega) only[go_sem,hy2,Ka]|refine q00 _ (hr) ?_|(apply spl<;>intro h<;>try simp (disch:=omega) only[go_sem,h]))
    all_goals try omega
    exact ⟨k+1,rfl,⟨hlt,q5j hy ha hc⟩,by omega⟩
  ·rw[q0M hlt hk] at ha
   rw[ha]
   (repeat' first|simp (disch:=omega) only[go_sem,Ka]|(apply spl<;>intro h<;>try simp (disch:=omega) only[go_sem,h]))
theorem q8O (s:Schs) (hs:s.bulk≤2^24) : ∀ (d:Nat) (D:Int),D=d→d<2^30→∀ x:Sch,x.bulk≤2^24→q0e CS 488 [q1f s,q03 x,.int .i64 D] (.int .i64 (q0R s d x)):=by
 intro d
 induction d with
 | zero=>
  intro D hD hd x hx
  refine q04 qfU rfl ?_
  rw[q01,qav,q0s]
  (repeat' first|simp (disch:=omega) only[go_sem,qfU,enter,Ka]|(apply spl<;>intro h<;>try simp (disch:=omega) only[go_sem,h]))
  all_goals omega
 | succ d ih=>
  intro D hD hd x hx
  have hn:=qfV s x hs hx
  have hp:=q2P x hx
  have hkl:=q4x x
  rw[q4Z]
  refine q04 qfU rfl ?_
  have hse:=q0s s
  rw[q01] at hp hn ⊢
  rw[q0s] at hn ⊢
  by_cases he:q5x s x=0
  ·rw[if_pos he]
   rw[he] at hn
   (repeat' first|simp (disch:=omega) only[go_sem,qfU,enter,Ka]|refine q00 _ (hn) ?_|refine q00 _ (hp) ?_|(apply spl<;>intro h<;>try simp (disch:=omega) only[go_sem,h]))
   all_goals try omega
   refine q06 (α:=Nat) (fun k=>{ tmps:=q0h 38 [(2,.int .i64 D),(3,.ptr 16 0 0 0),(8,.tsl 15 (x.kids.map q03)),(9,.int .i64 k)],heap:=[.row 16 [q1f s] false true 0],base:=0 }) (fun k=>k≤x.kids.length∧(x.kids.take k).all (fun z=>q0R s d z == 0)=true) (fun k=>x.kids.length-k) 0 (by rw[q0s]; rfl) ⟨Km _,rfl⟩ ?_
   rintro k ⟨hk,ha⟩
   rw[q0s]
   by_cases hlt:k<x.kids.length
   ·obtain ⟨y,hy⟩:=q05 hlt
    have hym:=Kc hy
    have hy2:=q09 (g:=q03) hy
    have hr:=ih (D-1) (by omega) (by omega) y (by have:=Sch.kids_bulk hym; omega)
    rw[q01] at hy2 hr
    rw[q0s] at hr
    by_cases hc:q0R s d y=0
    ·rw[hc] at hr
     (repeat' first|simp (disch:=omega) only[go_sem,hy2,Ka]|refine q00 _ (hr) ?_|(apply spl<;>intro h<;>try simp (disch:=omega) only[go_sem,h]))
     all_goals try omega
     refine ⟨k+1,?_,⟨hlt,q0v hy ha (by simp [hc])⟩,by omega⟩
     first | rfl | (rw[hse]; rfl)
    ·rw[qa3 hy ha hc]
     (repeat' first|simp (disch:=omega) only[go_sem,hy2,Ka]|refine q00 _ (hr) ?_|(apply spl<;>intro h<;>try simp (disch:=omega) only[go_sem,h]))
     all_goals omega
   ·rw[q0M hlt hk] at ha
    rw[q6X ha]
    (repeat' first|simp (disch:=omega) only[go_sem,Ka]|(apply spl<;>intro h<;>try simp (disch:=omega) only[go_sem,h]))
  ·rw[if_neg he]
   (repeat' first|simp (disch:=omega) only[go_sem,qfU,enter,Ka]|refine q00 _ (hn) ?_|refine q00 _ (hp) ?_|(apply spl<;>intro h<;>try simp (disch:=omega) only[go_sem,h]))
   all_goals omega
theorem qhy (s:Schs) (hs:s.bulk≤2^24) : ∀ (d:Nat) (D:Int),D=49-d→d≤48→∀ x:Sch,x.bulk≤2^24→q0e CS 486 [q1f s,q03 x,.int .i64 D] (.tup [.bool (decide (q0R s d x=0) && q1Z d x),.int .i64 (q0R s d x)]):=by
 intro d
 induction d with
 | zero=>
  intro D hD hd x hx
  refine q04 qfL rfl ?_
  rw[q01,qav,q6e,q0s]
  (repeat' first|simp (disch:=omega) only[go_sem,qfL,enter,Ka]|(apply spl<;>intro h<;>try simp (disch:=omega) only[go_sem,h]))
  all_goals omega
 | succ d ih=>
  intro D hD hd x hx
  have hn:=qpT s x hs hx
  have hp:=qem x hx
  have hkl:=q4x x
  rw[q4Z,q61]
  refine q04 qfL rfl ?_
  have hse:=q0s s
  rw[q01] at hp hn ⊢
  rw[q0s] at hn ⊢
  by_cases he:q5x s x=0
  ·rw[if_pos he]
   rw[he] at hn
   (repeat' first|simp (disch:=omega) only[go_sem,qfL,enter,Ka]|refine q00 _ (hn) ?_|refine q00 _ (hp) ?_|(apply spl<;>intro h<;>try simp (disch:=omega) only[go_sem,h]))
   all_goals try omega
   refine q06 (α:=Nat) (fun k=>{ tmps:=q0h 46 [(2,.int .i64 D),(3,.ptr 16 0 0 0),(9,.bool ((x.kids.take k).any (q1Z d))),(23,.tsl 15 (x.kids.map q03)),(24,.int .i64 x.kids.length),(25,.int .i64 k)],heap:=[.row 16 [q1f s] false true 0],base:=0 }) (fun k=>k≤x.kids.length∧(x.kids.take k).all (fun z=>q0R s d z == 0)=true) (fun k=>x.kids.length-k) 0 (by rw[q0s]; rfl) ⟨Km _,rfl⟩ ?_
   rintro k ⟨hk,ha⟩
   rw[q0s]
   by_cases hlt:k<x.kids.length
   ·obtain ⟨y,hy⟩:=q05 hlt
    have hym:=Kc hy
    have hy2:=q09 (g:=q03) hy
    have hr:=ih (D+1) (by omega) (by omega) y (by have:=Sch.kids_bulk hym; omega)
    rw[q01] at hy2 hr
    rw[q0s] at hr
    by_cases hc:q0R s d y=0
    ·rw[hc,decide_eq_true rfl,Kw] at hr
     have hany:(x.kids.take (k+1)).any (q1Z d)=((x.kids.take k).any (q1Z d) || q1Z d y):=by
      rw[KB,hy]
      simp
     cases hb:(x.kids.take k).any (q1Z d)
     ·rw[hb,VF] at hany
      (repeat' first|simp (disch:=omega) only[go_sem,hy2,Ka]|refine q00 _ (hr) ?_|(apply spl<;>intro h<;>try simp (disch:=omega) only[go_sem,h]))
      all_goals try omega
      refine ⟨k+1,?_,⟨hlt,q0v hy ha (by simp [hc])⟩,by omega⟩
      simp only[hany]
      first | rfl | (rw[hse]; rfl)
     ·rw[hb,Wa] at hany
      (repeat' first|simp (disch:=omega) only[go_sem,hy2,Ka]|refine q00 _ (hr) ?_|(apply spl<;>intro h<;>try simp (disch:=omega) only[go_sem,h]))
      all_goals try omega
      refine ⟨k+1,?_,⟨hlt,q0v hy ha (by simp [hc])⟩,by omega⟩
      simp only[hany]
      first | rfl | (rw[hse]; rfl)
    ·rw[qa3 hy ha hc,decide_eq_false hc,KD]
     (repeat' first|simp (disch:=omega) only[go_sem,hy2,Ka]|refine q00 _ (hr) ?_|(apply spl<;>intro h<;>try simp (disch:=omega) only[go_sem,h]))
     all_goals omega
   ·rw[q0M hlt hk] at ha ⊢
    rw[q6X ha,decide_eq_true rfl,Kw]
    (repeat' first|simp (disch:=omega) only[go_sem,Ka]|(apply spl<;>intro h<;>try simp (disch:=omega) only[go_sem,h]))
  ·rw[if_neg he,decide_eq_false he,KD]
   (repeat' first|simp (disch:=omega) only[go_sem,qfL,enter,Ka]|refine q00 _ (hn) ?_|refine q00 _ (hp) ?_|(apply spl<;>intro h<;>try simp (disch:=omega) only[go_sem,h]))
   all_goals omega
end Ago
set_option maxRecDepth 100000
set_option maxHeartbeats 16000000
namespace Ago
open Go (IntKind)
def q5J (n:List UInt8):Bool:=decide (1≤n.length∧n.length≤64) && utf n
def q8P (s:Schs):List (List UInt8 × Sch)→List (List UInt8 × Sch)→Int
 | _,[]=>0
 | pre,d::l=>if q5J d.1=false then 1 else if (pre.any fun e=>e.1 == d.1)=true then 8 else if q0R s 48 d.2=0 then q8P s (pre++[d]) l else q0R s 48 d.2
theorem qbU {s:Schs} {k:Nat} {d:List UInt8 × Sch} (hd:s.defs[k]?=some d):q8P s (s.defs.take k) (s.defs.drop k)=if q5J d.1=false then 1 else if ((s.defs.take k).any fun e=>e.1 == d.1)=true then 8 else if q0R s 48 d.2=0 then q8P s (s.defs.take (k+1)) (s.defs.drop (k+1)) else q0R s 48 d.2:=by
 rw[q6n hd]
 have:s.defs.take (k+1)=s.defs.take k++[d]:=by rw[KB,hd]; rfl
 rw[this]
 rfl
theorem qeC {s:Schs} {k:Nat} (h:s.defs.length≤k):q8P s (s.defs.take k) (s.defs.drop k)=0:=by
 rw[KR h]
 rfl
def qaN (l:List (List UInt8 × Sch)):Nat:=(l.map fun d=>q63 48 d.2).sum
def q4F (l:List (List UInt8 × Sch)):Bool:=l.any fun d=>q1Z 48 d.2
def q3j (s:Schs) (g:Bool):Int:=
 if q8P s [] s.defs=0 then
  (if q0R s 48 s.root=0 then
   (if (q4F s.defs || q1Z 48 s.root)=true then 9 else if 1024<qaN s.defs+q63 48 s.root∨64<s.defs.length then 10 else if g=false then 23 else 0)
  else q0R s 48 s.root)
 else q8P s [] s.defs
theorem qew {s:Schs} {k:Nat} {d:List UInt8 × Sch} (hd:s.defs[k]?=some d):qaN (s.defs.take (k+1))=qaN (s.defs.take k)+q63 48 d.2:=q7l _ _ _ _ hd
theorem qbB {s:Schs} {k:Nat} {d:List UInt8 × Sch} (hd:s.defs[k]?=some d):q4F (s.defs.take (k+1))=(q4F (s.defs.take k) || q1Z 48 d.2):=by
 unfold q4F
 rw[KB,hd]
 simp
theorem qn0 (s:Schs) (k:Nat):qaN (s.defs.take k)+q63 48 s.root≤s.bulk:=by
 have h1:qaN (s.defs.take k)≤qaN s.defs:=q4j _ _ _
 have h2:qaN s.defs≤AV.bulks (s.defs.map q1V):=by
  unfold qaN
  have : ∀ l:List (List UInt8 × Sch),(l.map fun d=>q63 48 d.2).sum≤AV.bulks (l.map q1V):=by
   intro l
   induction l with
   | nil=>simp
   | cons d l ih=>
    have:=q7p 48 d.2
    have:=q9H d
    simp only[Kj,List.sum_cons,AV.bulks]
    omega
  exact this _
 have:=q7p 48 s.root
 have:=s.bulk_eq
 omega
def qfu (s:Schs) (b:Bool) (n:Int):Heap:=[.row 16 [q1f s] false true 0,.row 1 [.bool b] false true 1,.row 1 [.int .i64 n] false true 2]
theorem qpt (s:Schs) (hs:s.bulk≤2^24) (x:Sch) (hx:x.bulk≤2^24) (b:Bool) (n:Int) (hn:0≤n) (hn2:n≤2^40):q1K CS 485 [q03 x,.ptr 16 0 0 0,.ptr 1 1 0 0,.ptr 1 2 0 0] (qfu s b n) (.int .i64 (q0R s 48 x)) (qfu s (b || (decide (q0R s 48 x=0) && q1Z 48 x)) (n+q63 48 x)):=by
 have h1:=qhy s hs 48 1 rfl (by decide) x hx
 have h2:=qi2 x hx
 have hc:=q7p 48 x
 refine q1A qf1 rfl ?_
 unfold qfu
 rw[q01] at h1 h2 ⊢
 rw[q0s] at h1 ⊢
 obtain ⟨m,hm⟩ : ∃ m,(decide (q0R s 48 x=0) && q1Z 48 x)=m:=⟨_,rfl⟩
 rw[hm] at h1 ⊢
 cases b
 ·rw[VF]
  (repeat' first|simp (disch:=omega) only[go_sem,qf1,enter]|refine q00 _ (h1) ?_|refine q00 _ (h2) ?_|(apply spl<;>intro h<;>try simp (disch:=omega) only[go_sem,h]))
  exact q2l (.inr rfl) (.int .i64 (q0R s 48 x)) rfl rfl rfl
 ·rw[Wa]
  (repeat' first|simp (disch:=omega) only[go_sem,qf1,enter]|refine q00 _ (h1) ?_|refine q00 _ (h2) ?_|(apply spl<;>intro h<;>try simp (disch:=omega) only[go_sem,h]))
  exact q2l (.inr rfl) (.int .i64 (q0R s 48 x)) rfl rfl rfl
theorem qpj (s:Schs) (hs:s.bulk≤2^24) (x:Sch) (hx:x.bulk≤2^24) (b:Bool) (n:Int) (hn:0≤n) (hn2:n≤2^40) (d:AV):q1K CS 485 [q03 x,.ptr 16 0 0 0,.ptr 1 1 0 0,.ptr 1 2 0 0] (qfu s b n++[.row 16 [d] false true 3]) (.int .i64 (q0R s 48 x)) (qfu s (b || (decide (q0R s 48 x=0) && q1Z 48 x)) (n+q63 48 x)++[.row 16 [d] false true 3]):=by
 have h1:=qhy s hs 48 1 rfl (by decide) x hx
 have h2:=qi2 x hx
 have hc:=q7p 48 x
 refine q1A qf1 rfl ?_
 unfold qfu
 rw[q01] at h1 h2 ⊢
 rw[q0s] at h1 ⊢
 obtain ⟨m,hm⟩ : ∃ m,(decide (q0R s 48 x=0) && q1Z 48 x)=m:=⟨_,rfl⟩
 rw[hm] at h1 ⊢
 cases b
 ·rw[VF]
  (repeat' first|simp (disch:=omega) only[go_sem,qf1,enter]|refine q00 _ (h1) ?_|refine q00 _ (h2) ?_|(apply spl<;>intro h<;>try simp (disch:=omega) only[go_sem,h]))
  exact q2l (.inr rfl) (.int .i64 (q0R s 48 x)) rfl rfl rfl
 ·rw[Wa]
  (repeat' first|simp (disch:=omega) only[go_sem,qf1,enter]|refine q00 _ (h1) ?_|refine q00 _ (h2) ?_|(apply spl<;>intro h<;>try simp (disch:=omega) only[go_sem,h]))
  exact q2l (.inr rfl) (.int .i64 (q0R s 48 x)) rfl rfl rfl
end Ago
set_option maxRecDepth 100000
set_option maxHeartbeats 16000000
namespace Ago
open Go (IntKind)
theorem q9m {n:List UInt8} (h : ¬ (1≤n.length∧n.length≤64)∨utf n=false):q5J n=false:=by
 unfold q5J
 rcases h with h | h
 ·rw[decide_eq_false h]; rfl
 ·rw[h,Vi]
theorem qdC (s:Schs) (hs:s.bulk≤2^24) (w:List UInt8) (g:Bool) (hg:q0e CS 459 [q1f s] (.tup [.str w,.bool g])):q0e CS 454 [q1f s] (.int .i64 (q3j s g)):=by
 obtain ⟨hd1,hd2⟩:=Schs.dlen hs
 have hrb:s.root.bulk≤2^24:=by
  have:=s.bulk_eq
  omega
 have hse:=q0s s
 refine q04 qqa rfl ?_
 rw[q0s] at hg ⊢
 (repeat' first|simp (disch:=omega) only[go_sem,qqa,enter,Ka]|(apply spl<;>intro h<;>try simp (disch:=omega) only[go_sem,h]))
 refine q06 (α:=Nat) (fun k=>{ tmps:=q0h 85 [(1,.ptr 16 0 0 0),(3,.ptr 1 1 0 0),(4,.ptr 1 2 0 0),(5,.fn 485 [.ptr 16 0 0 0,.ptr 1 1 0 0,.ptr 1 2 0 0]),(16,.tsl 16 (s.defs.map q1V)),(17,.int .i64 s.defs.length),(18,.int .i64 k)],heap:=qfu s (q4F (s.defs.take k)) (qaN (s.defs.take k):Nat),base:=0 }) (fun k=>k≤s.defs.length∧q8P s [] s.defs=q8P s (s.defs.take k) (s.defs.drop k)) (fun k=>s.defs.length-k) 0 (by unfold qfu; rw[hse]; rfl) ⟨Km _,rfl⟩ ?_
 rintro k ⟨hk,he⟩
 have hsm:=qn0 s k
 by_cases hlt:k<s.defs.length
 ·obtain ⟨d,hdk⟩:=q05 hlt
  have hdm:=Kc hdk
  have hde:=q09 (g:=q1V) hdk
  obtain ⟨hdb,hdn⟩:=hd2 d hdm
  rw[qbU hdk] at he
  have hu:=upS (q92 d.1 (by omega))
  rw[q2c] at hde
  by_cases c1:1≤d.1.length∧d.1.length≤64
  case neg=>
   rw[if_pos (q9m (.inl c1))] at he
   have hR:q3j s g=1:=by unfold q3j; rw[he]; rfl
   rw[hR]
   unfold qfu
   rw[hse]
   (repeat' first|simp (disch:=omega) only[go_sem,hde,Ka]|refine q00 _ (hu) ?_|(apply spl<;>intro h<;>try simp (disch:=omega) only[go_sem,h]))
   all_goals omega
  cases c2:utf d.1
  case false=>
   rw[if_pos (q9m (.inr c2))] at he
   have hR:q3j s g=1:=by unfold q3j; rw[he]; rfl
   rw[hR]
   rw[c2] at hu
   unfold qfu
   rw[hse]
   (repeat' first|simp (disch:=omega) only[go_sem,hde,Ka]|refine q00 _ (hu) ?_)
   all_goals omega
  rw[c2] at hu
  have hnm:q5J d.1=true:=by unfold q5J; rw[decide_eq_true c1,c2]; rfl
  rw[if_neg (by rw[hnm]; simp)] at he
  have hlk:((s.defs.map q1V).take k).length=k:=by rw[K3,Ka]; omega
  have hR : ∃ r,q3j s g=r:=⟨_,rfl⟩
  unfold qfu
  rw[hse]
  (repeat' first|simp (disch:=omega) only[go_sem,hde,Ka,hlk]|refine q00 _ (hu) ?_|(apply spl<;>intro h<;>try simp (disch:=omega) only[go_sem,h]))
  all_goals try omega
  refine q06 (α:=Nat) (fun j=>{ tmps:=q0h 85 [(1,.ptr 16 0 0 0),(3,.ptr 1 1 0 0),(4,.ptr 1 2 0 0),(5,.fn 485 [.ptr 16 0 0 0,.ptr 1 1 0 0,.ptr 1 2 0 0]),(7,.ptr 16 3 0 0),(16,.tsl 16 (s.defs.map q1V)),(17,.int .i64 s.defs.length),(18,.int .i64 k),(42,.tsl 16 ((s.defs.map q1V).take k)),(43,.int .i64 k),(44,.int .i64 j)],heap:=qfu s (q4F (s.defs.take k)) (qaN (s.defs.take k):Nat)++[.row 16 [q1V d] false true 3],base:=0 }) (fun j=>j≤k∧((s.defs.take k).take j).any (fun e=>e.1 == d.1)=false) (fun j=>k-j) 0 (by unfold qfu; rw[hse,q2c]; rfl) ⟨Km _,rfl⟩ ?_
  rintro j ⟨hj,haj⟩
  have hkl:(s.defs.take k).length=k:=by rw[K3]; omega
  by_cases hjl:j<k
  ·obtain ⟨e,hej⟩ : ∃ e,(s.defs.take k)[j]?=some e:=q05 (by omega)
   have hee:((s.defs.map q1V).take k)[j]?=some (q1V e):=by
    rw[←List.map_take]
    exact q09 hej
   rw[q2c] at hee
   unfold qfu
   rw[hse,q2c d]
   cases hb:e.1 == d.1 with
   | true=>
    rw[if_pos (qf6 hej hb)] at he
    have hR:q3j s g=8:=by unfold q3j; rw[he]; rfl
    rw[hR]
    (repeat' first|simp (disch:=omega) only[go_sem,hee,hlk,hb,Ka])
   | false=>
    (repeat' first|simp (disch:=omega) only[go_sem,hee,hlk,hb,Ka]|(apply spl<;>intro h<;>try simp (disch:=omega) only[go_sem,h]))
    all_goals try omega
    refine ⟨j+1,?_,⟨hjl,q5j hej haj hb⟩,by omega⟩
    first | rfl | (rw[hse]; rfl)
  ·rw[q0M (by omega) (by omega)] at haj
   rw[if_neg (by rw[haj]; simp)] at he
   have hone:=qpj s hs d.2 (by omega) (q4F (s.defs.take k)) (qaN (s.defs.take k):Nat) (by omega) (by omega) (q1V d)
   unfold qfu at hone ⊢
   rw[hse,q2c d] at hone ⊢
   rw[q01] at hone
   simp only[Ko,Ks] at hone
   by_cases hz:q0R s 48 d.2=0
   ·rw[if_pos hz] at he
    rw[hz,decide_eq_true rfl,Kw,←qbB hdk,←Int.natCast_add,←qew hdk] at hone
    (repeat' first|simp (disch:=omega) only[go_sem,hlk,Ka]|(refine q0l _ _ hone ?_)|(apply spl<;>intro h<;>try simp (disch:=omega) only[go_sem,h]))
    all_goals try omega
    refine ⟨k+1,?_,⟨hlt,he⟩,by omega⟩
    first | rfl | (rw[hse]; rfl)
   ·rw[if_neg hz] at he
    have hR:q3j s g=q0R s 48 d.2:=by unfold q3j; rw[he,if_neg hz]
    rw[hR]
    (repeat' first|simp (disch:=omega) only[go_sem,hlk,Ka]|(refine q0l _ _ hone ?_))
    all_goals omega
 ·have hk2:k=s.defs.length:=by omega
  subst hk2
  rw[qeC (Kr _)] at he
  rw[Kx] at hsm ⊢
  have hone:=qpt s hs s.root hrb (q4F s.defs) (qaN s.defs:Nat) (by omega) (by omega)
  unfold qfu at hone ⊢
  rw[hse] at hone ⊢
  rw[q01] at hone
  have hR:q3j s g=if q0R s 48 s.root=0 then (if (q4F s.defs || q1Z 48 s.root)=true then 9 else if 1024<qaN s.defs+q63 48 s.root∨64<s.defs.length then 10 else if g=false then 23 else 0) else q0R s 48 s.root:=by
   unfold q3j
   rw[he]
   rfl
  rw[hR]
  by_cases hz:q0R s 48 s.root=0
  ·rw[if_pos hz]
   rw[hz,decide_eq_true rfl,Kw] at hone
   cases hdp:(q4F s.defs || q1Z 48 s.root)
   ·rw[hdp] at hone
    rw[if_neg (by simp)]
    by_cases hsz:1024<qaN s.defs+q63 48 s.root∨64<s.defs.length
    ·rw[if_pos hsz]
     (repeat' first|simp (disch:=omega) only[go_sem,Ka]|refine q00 _ (hg) ?_|(refine q0l _ _ hone ?_)|(apply spl<;>intro h<;>try simp (disch:=omega) only[go_sem,h]))
     all_goals omega
    ·rw[if_neg hsz]
     cases g
     ·rw[if_pos rfl]
      (repeat' first|simp (disch:=omega) only[go_sem,Ka]|refine q00 _ (hg) ?_|(refine q0l _ _ hone ?_))
      all_goals omega
     ·rw[if_neg (by simp)]
      (repeat' first|simp (disch:=omega) only[go_sem,Ka]|refine q00 _ (hg) ?_|(refine q0l _ _ hone ?_))
      all_goals omega
   ·rw[hdp] at hone
    rw[if_pos rfl]
    (repeat' first|simp (disch:=omega) only[go_sem,Ka]|refine q00 _ (hg) ?_|(refine q0l _ _ hone ?_))
    all_goals omega
  ·rw[if_neg hz]
   (repeat' first|simp (disch:=omega) only[go_sem,Ka]|refine q00 _ (hg) ?_|(refine q0l _ _ hone ?_))
   all_goals omega
theorem q8G (s:Schs) (hs:s.bulk≤2^24) (w:List UInt8) (g:Bool) (hg:q0e CS 460 [q1f s] (.tup [.str w,.bool g])):q0e CS 455 [q1f s] (.int .i64 (q3j s g)):=by
 obtain ⟨hd1,hd2⟩:=Schs.dlen hs
 have hrb:s.root.bulk≤2^24:=by
  have:=s.bulk_eq
  omega
 have hse:=q0s s
 have hr1:=q6I s.root hrb
 have hr2:=q7m 48 48 rfl (by decide) s.root hrb
 have hr3:=q8O s hs 48 48 rfl (by decide) s.root hrb
 rw[q01] at hr1 hr2 hr3
 rw[q0s] at hr3
 refine q04 qoG rfl ?_
 rw[q0s] at hg ⊢
 (repeat' first|simp (disch:=omega) only[go_sem,qoG,enter,Ka]|refine q00 _ (hr1) ?_|refine q00 _ (hr2) ?_|(apply spl<;>intro h<;>try simp (disch:=omega) only[go_sem,h]))
 refine q06 (α:=Nat) (fun k=>{ tmps:=q0h 101 [(1,.ptr 16 0 0 0),(3,.int .i64 (qaN (s.defs.take k)+q63 48 s.root:Nat)),(4,.bool (q1Z 48 s.root || q4F (s.defs.take k))),(5,.int .i64 k)],heap:=[.row 16 [q1f s] false true 0],base:=0 }) (fun k=>k≤s.defs.length∧q8P s [] s.defs=q8P s (s.defs.take k) (s.defs.drop k)) (fun k=>s.defs.length-k) 0 (by
  rw[hse,show q4F (s.defs.take 0)=false from rfl,show qaN (s.defs.take 0)=0 from rfl,Bool.or_false,Vv]
  rfl) ⟨Km _,rfl⟩ ?_
 rintro k ⟨hk,he⟩
 have hsm:=qn0 s k
 rw[hse]
 by_cases hlt:k<s.defs.length
 ·obtain ⟨d,hdk⟩:=q05 hlt
  have hdm:=Kc hdk
  have hde:=q09 (g:=q1V) hdk
  obtain ⟨hdb,hdn⟩:=hd2 d hdm
  rw[qbU hdk] at he
  have hu:=upS (qco d.1 (by omega))
  rw[q2c] at hde
  by_cases c1:1≤d.1.length∧d.1.length≤64
  case neg=>
   rw[if_pos (q9m (.inl c1))] at he
   have hR:q3j s g=1:=by unfold q3j; rw[he]; rfl
   rw[hR]
   (repeat' first|simp (disch:=omega) only[go_sem,hde,Ka]|refine q00 _ (hu) ?_|(apply spl<;>intro h<;>try simp (disch:=omega) only[go_sem,h]))
   all_goals omega
  cases c2:utf d.1
  case false=>
   rw[if_pos (q9m (.inr c2))] at he
   have hR:q3j s g=1:=by unfold q3j; rw[he]; rfl
   rw[hR]
   rw[c2] at hu
   (repeat' first|simp (disch:=omega) only[go_sem,hde,Ka]|refine q00 _ (hu) ?_)
   all_goals omega
  rw[c2] at hu
  have hnm:q5J d.1=true:=by unfold q5J; rw[decide_eq_true c1,c2]; rfl
  rw[if_neg (by rw[hnm]; simp)] at he
  obtain ⟨dp,hdp⟩ : ∃ b,(q1Z 48 s.root || q4F (s.defs.take k))=b:=⟨_,rfl⟩
  have hds:=qbB hdk
  rw[hdp]
  (repeat' first|simp (disch:=omega) only[go_sem,hde,Ka]|refine q00 _ (hu) ?_|(apply spl<;>intro h<;>try simp (disch:=omega) only[go_sem,h]))
  all_goals try omega
  refine q06 (α:=Nat) (fun j=>{ tmps:=q0h 101 [(1,.ptr 16 0 0 0),(3,.int .i64 (qaN (s.defs.take k)+q63 48 s.root:Nat)),(4,.bool dp),(5,.int .i64 k),(6,.ptr 16 1 0 0),(7,.int .i64 j)],heap:=[.row 16 [q1f s] false true 0,.row 16 [q1V d] false true 1],base:=0 }) (fun j=>j≤k∧((s.defs.take k).take j).any (fun e=>e.1 == d.1)=false) (fun j=>k-j) 0 (by rw[hse,q2c]; rfl) ⟨Km _,rfl⟩ ?_
  rintro j ⟨hj,haj⟩
  have hkl:(s.defs.take k).length=k:=by rw[K3]; omega
  rw[hse,q2c d]
  by_cases hjl:j<k
  ·obtain ⟨e,hej⟩ : ∃ e,(s.defs.take k)[j]?=some e:=q05 (by omega)
   have hej2:s.defs[j]?=some e:=by
    rw[Vb hjl] at hej
    exact hej
   have hee:=q09 (g:=q1V) hej2
   rw[q2c] at hee
   cases hb:e.1 == d.1 with
   | true=>
    rw[if_pos (qf6 hej hb)] at he
    have hR:q3j s g=8:=by unfold q3j; rw[he]; rfl
    rw[hR]
    (repeat' first|simp (disch:=omega) only[go_sem,hee,hb,Ka])
    all_goals omega
   | false=>
    (repeat' first|simp (disch:=omega) only[go_sem,hee,hb,Ka]|(apply spl<;>intro h<;>try simp (disch:=omega) only[go_sem,h]))
    all_goals try omega
    refine ⟨j+1,?_,⟨hjl,q5j hej haj hb⟩,by omega⟩
    first | rfl | (rw[hse]; rfl)
  ·rw[q0M (by omega) (by omega)] at haj
   rw[if_neg (by rw[haj]; simp)] at he
   have q1:=q6I d.2 (by omega)
   have q2:=q7m 48 48 rfl (by decide) d.2 (by omega)
   have q3:=q8O s hs 48 48 rfl (by decide) d.2 (by omega)
   have hcl:=q7p 48 d.2
   rw[q01] at q1 q2 q3
   rw[q0s] at q3
   have hss:=qew hdk
   by_cases hz:q0R s 48 d.2=0
   ·rw[if_pos hz] at he
    rw[hz] at q3
    have e1:((qaN (s.defs.take k)+q63 48 s.root:Nat):Int)+(q63 48 d.2:Nat)=((qaN (s.defs.take (k+1))+q63 48 s.root:Nat):Int):=by rw[hss]; omega
    cases dp
    ·have e2:(q1Z 48 s.root || q4F (s.defs.take (k+1)))=q1Z 48 d.2:=by rw[hds,←Bool.or_assoc,hdp,VF]
     (repeat' first|simp (disch:=omega) only[go_sem,e1,Ka]|refine q00 _ (q1) ?_|refine q00 _ (q2) ?_|refine q00 _ (q3) ?_|(apply spl<;>intro h<;>try simp (disch:=omega) only[go_sem,h]))
     all_goals try omega
     refine ⟨k+1,?_,⟨hlt,he⟩,by omega⟩
     rw[e2]
     first | rfl | (rw[hse]; rfl)
    ·have e2:(q1Z 48 s.root || q4F (s.defs.take (k+1)))=true:=by rw[hds,←Bool.or_assoc,hdp,Wa]
     (repeat' first|simp (disch:=omega) only[go_sem,e1,Ka]|refine q00 _ (q1) ?_|refine q00 _ (q2) ?_|refine q00 _ (q3) ?_|(apply spl<;>intro h<;>try simp (disch:=omega) only[go_sem,h]))
     all_goals try omega
     refine ⟨k+1,?_,⟨hlt,he⟩,by omega⟩
     rw[e2]
     first | rfl | (rw[hse]; rfl)
   ·rw[if_neg hz] at he
    have hR:q3j s g=q0R s 48 d.2:=by unfold q3j; rw[he,if_neg hz]
    rw[hR]
    (repeat' first|simp (disch:=omega) only[go_sem,Ka]|refine q00 _ (q1) ?_|refine q00 _ (q2) ?_|refine q00 _ (q3) ?_)
    all_goals omega
 ·have hk2:k=s.defs.length:=by omega
  subst hk2
  rw[qeC (Kr _)] at he
  rw[Kx] at hsm ⊢
  have hR:q3j s g=if q0R s 48 s.root=0 then (if (q4F s.defs || q1Z 48 s.root)=true then 9 else if 1024<qaN s.defs+q63 48 s.root∨64<s.defs.length then 10 else if g=false then 23 else 0) else q0R s 48 s.root:=by
   unfold q3j
   rw[he]
   rfl
  rw[hR,Bool.or_comm (q1Z 48 s.root)]
  by_cases hz:q0R s 48 s.root=0
  ·rw[if_pos hz]
   rw[hz] at hr3
   cases hdp:(q4F s.defs || q1Z 48 s.root)
   ·rw[if_neg (by simp)]
    by_cases hsz:1024<qaN s.defs+q63 48 s.root∨64<s.defs.length
    ·rw[if_pos hsz]
     (repeat' first|simp (disch:=omega) only[go_sem,Ka]|refine q00 _ (hg) ?_|refine q00 _ (hr3) ?_|(apply spl<;>intro h<;>try simp (disch:=omega) only[go_sem,h]))
     all_goals omega
    ·rw[if_neg hsz]
     cases g
     ·rw[if_pos rfl]
      (repeat' first|simp (disch:=omega) only[go_sem,Ka]|refine q00 _ (hg) ?_|refine q00 _ (hr3) ?_)
      all_goals omega
     ·rw[if_neg (by simp)]
      (repeat' first|simp (disch:=omega) only[go_sem,Ka]|refine q00 _ (hg) ?_|refine q00 _ (hr3) ?_)
      all_goals omega
   ·rw[if_pos rfl]
    (repeat' first|simp (disch:=omega) only[go_sem,Ka]|refine q00 _ (hg) ?_|refine q00 _ (hr3) ?_)
    all_goals omega
  ·rw[if_neg hz]
   (repeat' first|simp (disch:=omega) only[go_sem,Ka]|refine q00 _ (hg) ?_|refine q00 _ (hr3) ?_)
   all_goals omega
end Ago
