/- A definition is looked up; keys that are there twice; the reference's check of nodes. -/
import Derived.Test.YtkibapblgbdhmaaGreatDoorRunB
import Derived.Test.YtkibapblgbdhmaaGreatDoorRunC
import Derived.Test.YtkibapblgbdhmaaGreatDoorRunF
import Derived.Test.YtkibapblgbdhmaaGreatDoorRunA
set_option linter.unusedSimpArgs false
set_option linter.unusedVariables false
set_option maxRecDepth 100000
set_option maxHeartbeats 8000000
namespace Ago
open Go (IntKind)
theorem Schs.dlen {s:Schs} {N:Nat} (hs:s.bulk≤N):s.defs.length<N∧∀ d,d∈s.defs→d.2.bulk<s.bulk∧d.1.length<N:=by
 have e:=s.bulk_eq
 have h1:=q1g (s.defs.map q1C)
 rw[List.length_map] at h1
 have:1≤s.root.bulk:=q1b _
 refine ⟨by omega,fun d hd=>?_⟩
 have:=q1r (List.mem_map_of_mem (f:=q1C) hd)
 rw[q8w] at this
 have:1≤d.2.bulk:=q1b _
 omega
def q6I:AV:=.agg [.int .i64 0,.int .i64 0,.int .i64 0,.int .i64 0,.str [],.snil 11,.int .i64 0,.int .i64 0,.int .i64 0,.int .i64 0,.int .i64 0,.snil 6,.snil 13,.snil 17,.snil 15]
def lkM (s:Schs) (name:List UInt8):Sch × Bool:=match s.defs.find? fun d=>d.1 == name with
 | some d=>(d.2,true)
 | none=>(zeroX,false)
theorem qhn {α:Type} {p:α→Bool} {l:List α} {k:Nat} {y:α} (hy:l[k]?=some y) (ha:(l.take k).any p=false) (hp:p y=true):l.find? p=some y:=by
 have h1:l=l.take k++y::l.drop (k+1):=by rw[←q70 hy,List.take_append_drop]
 rw[h1,List.find?_append]
 have h2:(l.take k).find? p=none:=by
  rw[List.find?_eq_none]
  intro x hx hpx
  have:=List.any_eq_true.2 ⟨x,hx,hpx⟩
  rw[ha] at this
  cases this
 rw[h2]
 simp [hp]
theorem qbO {α:Type} {p:α→Bool} {l:List α} (ha:l.any p=false):l.find? p=none:=by
 rw[List.find?_eq_none]
 intro x hx hpx
 have:=List.any_eq_true.2 ⟨x,hx,hpx⟩
 rw[ha] at this
 cases this
theorem qau (s:Schs) (name:List UInt8) (hs:s.bulk≤2^24):q0f CS 458 [q0Z s,.str name] (.tup [q03 (lkM s name).1,.bool (lkM s name).2]):=by
 have hd:=(Schs.dlen hs).1
 refine q04 qld rfl ?_
 rw[q0n]
 (repeat' first|simp (disch:=omega) only[go_sem,qld,enter,List.length_map]|(apply spl<;>intro h<;>try simp (disch:=omega) only[go_sem,h]))
 refine q08 (α:=Nat) (fun k=>{ tmps:=q0i 29 [(1,.str name),(2,.ptr 16 0 0 0),(4,.ptr 15 1 0 0),(6,.int .i64 k)],heap:=[.row 16 [q0Z s] false true 0,.row 15 [q6I] false true 1],base:=0 }) (fun k=>k≤s.defs.length∧(s.defs.take k).any (fun d=>d.1 == name)=false) (fun k=>s.defs.length-k) 0 (by rw[q0n]; rfl) ⟨Nat.zero_le _,rfl⟩ ?_
 rintro k ⟨hk,ha⟩
 rw[q0n]
 by_cases hlt:k<s.defs.length
 ·obtain ⟨d,hdk⟩:=q06 hlt
  have hd2:=q09 (g:=q1C) hdk
  rw[q1P] at hd2
  cases hb:d.1 == name with
  | true=>
   have hf:=qhn hdk ha hb
   have hl:lkM s name=(d.2,true):=by unfold lkM; rw[hf]
   rw[hl,q01]
   (repeat' first|simp (disch:=omega) only[go_sem,hd2,hb,List.length_map,q6I]|(apply spl<;>intro h<;>try simp (disch:=omega) only[go_sem,h]))
  | false=>
   (repeat' first|simp (disch:=omega) only[go_sem,hd2,hb,List.length_map,q6I]|(apply spl<;>intro h<;>try simp (disch:=omega) only[go_sem,h]))
   all_goals try omega
   refine ⟨k+1,?_,⟨hlt,q47 hdk ha hb⟩,by omega⟩
   first | rfl | (rw[q0n s]; rfl)
 ·rw[q0C hlt hk] at ha
  have hf:=qbO ha
  have hl:lkM s name=(zeroX,false):=by unfold lkM; rw[hf]
  rw[hl,q1k]
  (repeat' first|simp (disch:=omega) only[go_sem,List.length_map,q6I]|(apply spl<;>intro h<;>try simp (disch:=omega) only[go_sem,h]))
theorem qdr (l:List (List UInt8)) (s:List UInt8) (hl:l.length<2^30):q0f CS 492 [.tsl 1 (l.map .str),.str s] (.bool (l.any fun x=>x == s)):=by
 refine q04 qkH rfl ?_
 (repeat' first|simp (disch:=omega) only[go_sem,qkH,enter,List.length_map]|(apply spl<;>intro h<;>try simp (disch:=omega) only[go_sem,h]))
 refine q08 (α:=Nat) (fun k=>{ tmps:=q0i 18 [(0,.tsl 1 (l.map .str)),(1,.str s),(5,.int .i64 k)],heap:=[],base:=0 }) (fun k=>k≤l.length∧(l.take k).any (fun x=>x == s)=false) (fun k=>l.length-k) 0 rfl ⟨Nat.zero_le _,rfl⟩ ?_
 rintro k ⟨hk,ha⟩
 by_cases hlt:k<l.length
 ·obtain ⟨y,hy⟩:=q06 hlt
  have hy2:=q09 (g:=AV.str) hy
  cases hb:y == s with
  | true=>
   rw[qbj hy hb]
   (repeat' first|simp (disch:=omega) only[go_sem,hy2,hb,List.length_map]|(apply spl<;>intro h<;>try simp (disch:=omega) only[go_sem,h]))
   all_goals omega
  | false=>
   (repeat' first|simp (disch:=omega) only[go_sem,hy2,hb,List.length_map]|(apply spl<;>intro h<;>try simp (disch:=omega) only[go_sem,h]))
   all_goals try omega
   exact ⟨k+1,rfl,⟨hlt,q47 hy ha hb⟩,by omega⟩
 ·rw[q0C hlt hk] at ha
  rw[ha]
  (repeat' first|simp (disch:=omega) only[go_sem,List.length_map]|(apply spl<;>intro h<;>try simp (disch:=omega) only[go_sem,h]))
def q8b:List (List UInt8)→List (List UInt8)→Bool
 | _,[]=>false
 | seen,y::l=>seen.any (fun x=>x == y) || q8b (seen++[y]) l
def qh8 (l:List (List UInt8)):Bool:=q8b [] l
theorem q50 {l:List (List UInt8)} {k:Nat} {y:List UInt8} (hy:l[k]?=some y):q8b (l.take k) (l.drop k)=((l.take k).any (fun x=>x == y) || q8b (l.take (k+1)) (l.drop (k+1))):=by
 rw[q70 hy]
 have:l.take (k+1)=l.take k++[y]:=by rw[List.take_add_one,hy]; rfl
 rw[this]
 rfl
def q63 (s:Schs) (x:Sch):Int:=
 if q1p x=false then 1 else if x.s.op=7∧q2m x.s.name=false then 7 else if x.s.op=14∧(lkM s x.s.name).2=false then 7 else if qh8 (x.p.map fun p=>p.1.key)=true then 8 else 0
def q0J (x:Sch):List (List UInt8):=x.p.map fun p=>p.1.key
theorem qg6 (s:Schs) (name:List UInt8) (hs:s.bulk≤2^24):q0f CS 457 [q0Z s,.str name] (.tup [q03 (if (lkM s name).2=true then q5L (2^24) (lkM s name).1 else zeroX),.bool (lkM s name).2]):=by
 have hd:=Schs.dlen hs
 obtain ⟨hd,hd2⟩:=hd
 refine q04 qkm rfl ?_
 rw[q0n]
 (repeat' first|simp (disch:=omega) only[go_sem,qkm,enter,List.length_map]|(apply spl<;>intro h<;>try simp (disch:=omega) only[go_sem,h]))
 refine q08 (α:=Nat) (fun k=>{ tmps:=q0i 24 [(1,.str name),(4,.ptr 15 0 0 0),(9,.tsl 16 (s.defs.map q1C)),(10,.int .i64 s.defs.length),(11,.int .i64 k)],heap:=[.row 15 [q6I] false true 0],base:=0 }) (fun k=>k≤s.defs.length∧(s.defs.take k).any (fun d=>d.1 == name)=false) (fun k=>s.defs.length-k) 0 rfl ⟨Nat.zero_le _,rfl⟩ ?_
 rintro k ⟨hk,ha⟩
 by_cases hlt:k<s.defs.length
 ·obtain ⟨d,hdk⟩:=q06 hlt
  have hdm:=List.mem_of_getElem? hdk
  have hde:=q09 (g:=q1C) hdk
  have hr:=qg5 (2^24) d.2 (by have:=(hd2 d hdm).1; omega) (Nat.le_refl _)
  rw[q1P] at hde
  cases hb:d.1 == name with
  | true=>
   have hf:=qhn hdk ha hb
   have hl:lkM s name=(d.2,true):=by unfold lkM; rw[hf]
   rw[hl,if_pos rfl]
   rw[q01 (q5L _ _)] at hr ⊢
   rw[q01] at hr
   (repeat' first|simp (disch:=omega) only[go_sem,hde,hb,List.length_map,q6I]|refine q00 _ (hr) ?_|(apply spl<;>intro h<;>try simp (disch:=omega) only[go_sem,h]))
  | false=>
   (repeat' first|simp (disch:=omega) only[go_sem,hde,hb,List.length_map,q6I]|(apply spl<;>intro h<;>try simp (disch:=omega) only[go_sem,h]))
   all_goals try omega
   exact ⟨k+1,rfl,⟨hlt,q47 hdk ha hb⟩,by omega⟩
 ·rw[q0C hlt hk] at ha
  have hf:=qbO ha
  have hl:lkM s name=(zeroX,false):=by unfold lkM; rw[hf]
  rw[hl,if_neg (by simp),q1k]
  (repeat' first|simp (disch:=omega) only[go_sem,List.length_map,q6I]|(apply spl<;>intro h<;>try simp (disch:=omega) only[go_sem,h]))
def q1K (l:List (List UInt8)):List (AV × AV):=l.map fun x=>(.str x,.int .i64 1)
theorem qaj (l:List (List UInt8)):qmh (.map (q1K l)):=qeA fun x hx=>by
 unfold q1K at hx
 obtain ⟨y,_,rfl⟩:=List.mem_map.1 hx
 exact ⟨qbs y,q0u _ _⟩
theorem q24 (k:List UInt8) : ∀ (l:List (List UInt8)) (i:Nat),((l.any fun x=>x == k)=false→findKey (.one .str) (.str k) (q1K l) i=some none)∧((l.any fun x=>x == k)=true→∃ j,findKey (.one .str) (.str k) (q1K l) i=some (some (i+j,.int .i64 1))∧findKey (.one .str) (.str k) ((q1K l).set j (.str k,.int .i64 2)) i=some (some (i+j,.int .i64 2)))
 | [],i=>⟨fun _=>rfl,fun h=>by simp at h⟩
 | x::l,i=>by
  obtain ⟨h1,h2⟩:=q24 k l (i+1)
  by_cases he:x=k
  ·subst he
   refine ⟨fun h=>by simp at h,fun _=>⟨0,?_,?_⟩⟩<;>simp [q1K,findKey,q4k,q3p]
  ·have e1:(x == k)=false:=by simpa using he
   have e2:(k == x)=false:=by simpa using fun e=>he e.symm
   have e:findKey (.one .str) (.str k) (q1K (x::l)) i=findKey (.one .str) (.str k) (q1K l) (i+1):=by
    simp [q1K,findKey,q4k,q3p,e2]
   rw[e,List.any_cons,e1,Bool.false_or]
   refine ⟨h1,fun h=>?_⟩
   obtain ⟨j,g1,g2⟩:=h2 h
   refine ⟨j+1,?_,?_⟩
   ·rw[g1,show i+1+j=i+(j+1) by omega]
   ·have e3:findKey (.one .str) (.str k) ((q1K (x::l)).set (j+1) (.str k,.int .i64 2)) i=findKey (.one .str) (.str k) ((q1K l).set j (.str k,.int .i64 2)) (i+1):=by
     simp [q1K,findKey,q4k,q3p,e2]
    rw[e3,g2,show i+1+j=i+(j+1) by omega]
end Ago
set_option maxRecDepth 100000
set_option maxHeartbeats 16000000
namespace Ago
open Go (IntKind)
theorem q2t (x:Sch):(q0J x).length=x.p.length:=List.length_map ..
theorem q3R {x:Sch} {k:Nat} {y:PK × Sch} (hy:x.p[k]?=some y):(q0J x)[k]?=some y.1.key:=q09 (g:=fun p:PK × Sch=>p.1.key) hy
theorem q6y {l:List (List UInt8)} {k:Nat} (h:l.length≤k) (hd:qh8 l=q8b (l.take k) (l.drop k)):qh8 l=false:=by
 rw[hd,List.drop_of_length_le h]
 rfl
theorem qdB (s:Schs) (x:Sch) (hs:s.bulk≤2^24) (hx:x.bulk≤2^24):q0f CS 516 [q0Z s,q03 x] (.int .i64 (q63 s x)):=by
 have L:=Sch.lens (N:=2^24) hx
 have l3:=L.props
 have hkn:q63 s x=if q1p x=false then 1 else if x.s.op=7∧q2m x.s.name=false then 7 else if x.s.op=14∧(lkM s x.s.name).2=false then 7 else if qh8 (q0J x)=true then 8 else 0:=rfl
 have hf:=qcN x hx
 have hk:=qce x.s.name
 have hl:=qau s x.s.name hs
 refine q04 qax rfl ?_
 rw[q01 (lkM s x.s.name).1] at hl
 rw[q0n] at hl ⊢
 cases hb:q1p x
 ·rw[hb] at hf
  rw[hkn,if_pos hb]
  rw[q01] at hf ⊢
  (repeat' first|simp (disch:=omega) only[go_sem,qax,enter]|refine q00 _ (hf) ?_|(apply spl<;>intro h<;>try simp (disch:=omega) only[go_sem,h]))
 rw[hb] at hf
 rw[if_neg (by rw[hb]; simp)] at hkn
 rw[q01] at hf ⊢
 by_cases c7:x.s.op=7∧q2m x.s.name=false
 ·rw[hkn,if_pos c7]
  obtain ⟨c7,c7'⟩:=c7
  rw[c7'] at hk
  (repeat' first|simp (disch:=omega) only[go_sem,qax,enter]|refine q00 _ (hf) ?_|refine q00 _ (hk) ?_|(apply spl<;>intro h<;>try simp (disch:=omega) only[go_sem,h]))
 rw[if_neg c7] at hkn
 by_cases c14:x.s.op=14∧(lkM s x.s.name).2=false
 ·rw[hkn,if_pos c14]
  obtain ⟨c14,c14'⟩:=c14
  rw[c14'] at hl
  (repeat' first|simp (disch:=omega) only[go_sem,qax,enter]|refine q00 _ (hf) ?_|refine q00 _ (hk) ?_|refine q00 _ (hl) ?_|(apply spl<;>intro h<;>try simp (disch:=omega) only[go_sem,h]))
 rw[if_neg c14] at hkn
 rw[hkn]
 have hkk:x.s.op=7→q2m x.s.name=true:=fun h=>by
  cases q:q2m x.s.name with
  | true=>rfl
  | false=>exact (c7 ⟨h,q⟩).elim
 have hll:x.s.op=14→(lkM s x.s.name).2=true:=fun h=>by
  cases q:(lkM s x.s.name).2 with
  | true=>rfl
  | false=>exact (c14 ⟨h,q⟩).elim
 by_cases h7:x.s.op=7
 ·rw[hkk h7] at hk
  (repeat' first|simp (disch:=omega) only[go_sem,qax,enter]|refine q00 _ (hf) ?_|refine q00 _ (hk) ?_|refine q00 _ (hl) ?_|(apply spl<;>intro h<;>try simp (disch:=omega) only[go_sem,h]))
  refine q08 (α:=Nat) (fun k=>{ tmps:=q0i 57 [(3,.ptr 15 0 0 0),(7,q0x 1 1 (((q0J x).take k).map .str)),(8,.int .i64 k)],heap:=[.row 15 [q03 x] false true 0]++q0y 1 1 (((q0J x).take k).map .str),base:=0 }) (fun k=>k≤x.p.length∧qh8 (q0J x)=q8b ((q0J x).take k) ((q0J x).drop k)) (fun k=>x.p.length-k) 0 (by rw[q01]; rfl) ⟨Nat.zero_le _,rfl⟩ ?_
  rintro k ⟨hk,hd⟩
  rw[q01]
  obtain ⟨out,hout⟩ : ∃ out,((q0J x).take k).map AV.str=out:=⟨_,rfl⟩
  have hol:out.length=k:=by
   rw[←hout,List.length_map,List.length_take,q2t]
   omega
  by_cases hlt:k<x.p.length
  ·obtain ⟨y,hy⟩:=q06 hlt
   have hy2:=q09 (g:=q0h) hy
   have hy3:=q3R hy
   rw[q0m] at hy2
   have hr:=qdr ((q0J x).take k) y.1.key (by rw[List.length_take]; omega)
   rw[hout] at hr
   rw[q50 hy3] at hd
   have hnew:((q0J x).take (k+1)).map AV.str=out++[.str y.1.key]:=by
    rw[List.take_add_one,hy3,←hout]
    simp
   rw[hout]
   cases hc:((q0J x).take k).any (fun z=>z == y.1.key) with
   | true=>
    rw[hc] at hr hd
    rw[Bool.true_or] at hd
    rw[hd,if_pos rfl]
    cases out with
    | nil=>(repeat' first|simp (disch:=omega) only[go_sem,hy2,List.length_map,q0x,q0y]|refine q00 _ (hr) ?_|(apply spl<;>intro h<;>try simp (disch:=omega) only[go_sem,h]))
    | cons z zs=>
     simp only[List.length_cons] at hol
     (repeat' first|simp (disch:=omega) only[go_sem,hy2,List.length_map,q0x,q0y,List.take_length]|refine q00 _ (hr) ?_|(apply spl<;>intro h<;>try simp (disch:=omega) only[go_sem,h]))
   | false=>
    rw[hc] at hr hd
    rw[Bool.false_or] at hd
    cases out with
    | nil=>
     (repeat' first|simp (disch:=omega) only[go_sem,hy2,List.length_map,q0x,q0y]|refine q00 _ (hr) ?_|(apply spl<;>intro h<;>try simp (disch:=omega) only[go_sem,h]))
     all_goals first | omega | skip
     refine ⟨k+1,?_,⟨hlt,hd⟩,by omega⟩
     simp only[hnew]
     first | rfl | (rw[q01 x]; rfl)
    | cons z zs=>
     simp only[List.length_cons] at hol
     (repeat' first|simp (disch:=omega) only[go_sem,hy2,List.length_map,q0x,q0y,List.take_length]|refine q00 _ (hr) ?_|(apply spl<;>intro h<;>try simp (disch:=omega) only[go_sem,h]))
     all_goals first | omega | skip
     refine ⟨k+1,?_,⟨hlt,hd⟩,by omega⟩
     simp only[hnew,List.cons_append,q0x,q0y,List.length_append,List.length_cons,List.length_nil]
     first | rfl | (rw[q01 x]; rfl)
  ·rw[q6y (by rw[q2t]; omega) hd,if_neg (by simp),hout]
   cases out with
   | nil=>(repeat' first|simp (disch:=omega) only[go_sem,List.length_map,q0x,q0y]|(apply spl<;>intro h<;>try simp (disch:=omega) only[go_sem,h]))
   | cons z zs=>(repeat' first|simp (disch:=omega) only[go_sem,List.length_map,q0x,q0y]|(apply spl<;>intro h<;>try simp (disch:=omega) only[go_sem,h]))
 ·by_cases h14:x.s.op=14
  ·rw[hll h14] at hl
   (repeat' first|simp (disch:=omega) only[go_sem,qax,enter]|refine q00 _ (hf) ?_|refine q00 _ (hk) ?_|refine q00 _ (hl) ?_|(apply spl<;>intro h<;>try simp (disch:=omega) only[go_sem,h]))
   refine q08 (α:=Nat) (fun k=>{ tmps:=q0i 57 [(3,.ptr 15 0 0 0),(7,q0x 1 1 (((q0J x).take k).map .str)),(8,.int .i64 k)],heap:=[.row 15 [q03 x] false true 0]++q0y 1 1 (((q0J x).take k).map .str),base:=0 }) (fun k=>k≤x.p.length∧qh8 (q0J x)=q8b ((q0J x).take k) ((q0J x).drop k)) (fun k=>x.p.length-k) 0 (by rw[q01]; rfl) ⟨Nat.zero_le _,rfl⟩ ?_
   rintro k ⟨hk,hd⟩
   rw[q01]
   obtain ⟨out,hout⟩ : ∃ out,((q0J x).take k).map AV.str=out:=⟨_,rfl⟩
   have hol:out.length=k:=by
    rw[←hout,List.length_map,List.length_take,q2t]
    omega
   by_cases hlt:k<x.p.length
   ·obtain ⟨y,hy⟩:=q06 hlt
    have hy2:=q09 (g:=q0h) hy
    have hy3:=q3R hy
    rw[q0m] at hy2
    have hr:=qdr ((q0J x).take k) y.1.key (by rw[List.length_take]; omega)
    rw[hout] at hr
    rw[q50 hy3] at hd
    have hnew:((q0J x).take (k+1)).map AV.str=out++[.str y.1.key]:=by
     rw[List.take_add_one,hy3,←hout]
     simp
    rw[hout]
    cases hc:((q0J x).take k).any (fun z=>z == y.1.key) with
    | true=>
     rw[hc] at hr hd
     rw[Bool.true_or] at hd
     rw[hd,if_pos rfl]
     cases out with
     | nil=>(repeat' first|simp (disch:=omega) only[go_sem,hy2,List.length_map,q0x,q0y]|refine q00 _ (hr) ?_|(apply spl<;>intro h<;>try simp (disch:=omega) only[go_sem,h]))
     | cons z zs=>
      simp only[List.length_cons] at hol
      (repeat' first|simp (disch:=omega) only[go_sem,hy2,List.length_map,q0x,q0y,List.take_length]|refine q00 _ (hr) ?_|(apply spl<;>intro h<;>try simp (disch:=omega) only[go_sem,h]))
    | false=>
     rw[hc] at hr hd
     rw[Bool.false_or] at hd
     cases out with
     | nil=>
      (repeat' first|simp (disch:=omega) only[go_sem,hy2,List.length_map,q0x,q0y]|refine q00 _ (hr) ?_|(apply spl<;>intro h<;>try simp (disch:=omega) only[go_sem,h]))
      all_goals first | omega | skip
      refine ⟨k+1,?_,⟨hlt,hd⟩,by omega⟩
      simp only[hnew]
      first | rfl | (rw[q01 x]; rfl)
     | cons z zs=>
      simp only[List.length_cons] at hol
      (repeat' first|simp (disch:=omega) only[go_sem,hy2,List.length_map,q0x,q0y,List.take_length]|refine q00 _ (hr) ?_|(apply spl<;>intro h<;>try simp (disch:=omega) only[go_sem,h]))
      all_goals first | omega | skip
      refine ⟨k+1,?_,⟨hlt,hd⟩,by omega⟩
      simp only[hnew,List.cons_append,q0x,q0y,List.length_append,List.length_cons,List.length_nil]
      first | rfl | (rw[q01 x]; rfl)
   ·rw[q6y (by rw[q2t]; omega) hd,if_neg (by simp),hout]
    cases out with
    | nil=>(repeat' first|simp (disch:=omega) only[go_sem,List.length_map,q0x,q0y]|(apply spl<;>intro h<;>try simp (disch:=omega) only[go_sem,h]))
    | cons z zs=>(repeat' first|simp (disch:=omega) only[go_sem,List.length_map,q0x,q0y]|(apply spl<;>intro h<;>try simp (disch:=omega) only[go_sem,h]))
  ·(repeat' first|simp (disch:=omega) only[go_sem,qax,enter]|refine q00 _ (hf) ?_|refine q00 _ (hk) ?_|refine q00 _ (hl) ?_|(apply spl<;>intro h<;>try simp (disch:=omega) only[go_sem,h]))
   refine q08 (α:=Nat) (fun k=>{ tmps:=q0i 57 [(3,.ptr 15 0 0 0),(7,q0x 1 1 (((q0J x).take k).map .str)),(8,.int .i64 k)],heap:=[.row 15 [q03 x] false true 0]++q0y 1 1 (((q0J x).take k).map .str),base:=0 }) (fun k=>k≤x.p.length∧qh8 (q0J x)=q8b ((q0J x).take k) ((q0J x).drop k)) (fun k=>x.p.length-k) 0 (by rw[q01]; rfl) ⟨Nat.zero_le _,rfl⟩ ?_
   rintro k ⟨hk,hd⟩
   rw[q01]
   obtain ⟨out,hout⟩ : ∃ out,((q0J x).take k).map AV.str=out:=⟨_,rfl⟩
   have hol:out.length=k:=by
    rw[←hout,List.length_map,List.length_take,q2t]
    omega
   by_cases hlt:k<x.p.length
   ·obtain ⟨y,hy⟩:=q06 hlt
    have hy2:=q09 (g:=q0h) hy
    have hy3:=q3R hy
    rw[q0m] at hy2
    have hr:=qdr ((q0J x).take k) y.1.key (by rw[List.length_take]; omega)
    rw[hout] at hr
    rw[q50 hy3] at hd
    have hnew:((q0J x).take (k+1)).map AV.str=out++[.str y.1.key]:=by
     rw[List.take_add_one,hy3,←hout]
     simp
    rw[hout]
    cases hc:((q0J x).take k).any (fun z=>z == y.1.key) with
    | true=>
     rw[hc] at hr hd
     rw[Bool.true_or] at hd
     rw[hd,if_pos rfl]
     cases out with
     | nil=>(repeat' first|simp (disch:=omega) only[go_sem,hy2,List.length_map,q0x,q0y]|refine q00 _ (hr) ?_|(apply spl<;>intro h<;>try simp (disch:=omega) only[go_sem,h]))
     | cons z zs=>
      simp only[List.length_cons] at hol
      (repeat' first|simp (disch:=omega) only[go_sem,hy2,List.length_map,q0x,q0y,List.take_length]|refine q00 _ (hr) ?_|(apply spl<;>intro h<;>try simp (disch:=omega) only[go_sem,h]))
    | false=>
     rw[hc] at hr hd
     rw[Bool.false_or] at hd
     cases out with
     | nil=>
      (repeat' first|simp (disch:=omega) only[go_sem,hy2,List.length_map,q0x,q0y]|refine q00 _ (hr) ?_|(apply spl<;>intro h<;>try simp (disch:=omega) only[go_sem,h]))
      all_goals first | omega | skip
      refine ⟨k+1,?_,⟨hlt,hd⟩,by omega⟩
      simp only[hnew]
      first | rfl | (rw[q01 x]; rfl)
     | cons z zs=>
      simp only[List.length_cons] at hol
      (repeat' first|simp (disch:=omega) only[go_sem,hy2,List.length_map,q0x,q0y,List.take_length]|refine q00 _ (hr) ?_|(apply spl<;>intro h<;>try simp (disch:=omega) only[go_sem,h]))
      all_goals first | omega | skip
      refine ⟨k+1,?_,⟨hlt,hd⟩,by omega⟩
      simp only[hnew,List.cons_append,q0x,q0y,List.length_append,List.length_cons,List.length_nil]
      first | rfl | (rw[q01 x]; rfl)
   ·rw[q6y (by rw[q2t]; omega) hd,if_neg (by simp),hout]
    cases out with
    | nil=>(repeat' first|simp (disch:=omega) only[go_sem,List.length_map,q0x,q0y]|(apply spl<;>intro h<;>try simp (disch:=omega) only[go_sem,h]))
    | cons z zs=>(repeat' first|simp (disch:=omega) only[go_sem,List.length_map,q0x,q0y]|(apply spl<;>intro h<;>try simp (disch:=omega) only[go_sem,h]))
theorem qky (s:Schs) (x:Sch) (hs:s.bulk≤2^24) (hx:x.bulk≤2^24):q0f CS 513 [q0Z s,q03 x] (.int .i64 (q63 s x)):=by
 have L:=Sch.lens (N:=2^24) hx
 have l3:=L.props
 have hkn:q63 s x=if q1p x=false then 1 else if x.s.op=7∧q2m x.s.name=false then 7 else if x.s.op=14∧(lkM s x.s.name).2=false then 7 else if qh8 (q0J x)=true then 8 else 0:=rfl
 have hf:=qkq x hx
 have hk:=qiv x.s.name
 have hl:=qg6 s x.s.name hs
 refine q04 qa5 rfl ?_
 rw[q01 (ite _ _ _)] at hl
 rw[q0n] at hl ⊢
 cases hb:q1p x
 ·rw[hb] at hf
  rw[hkn,if_pos hb]
  rw[q01] at hf ⊢
  (repeat' first|simp (disch:=omega) only[go_sem,qa5,enter]|refine q00 _ (hf) ?_|(apply spl<;>intro h<;>try simp (disch:=omega) only[go_sem,h]))
 rw[hb] at hf
 rw[if_neg (by rw[hb]; simp)] at hkn
 rw[q01 x] at hf ⊢
 by_cases c7:x.s.op=7∧q2m x.s.name=false
 ·rw[hkn,if_pos c7]
  obtain ⟨c7,c7'⟩:=c7
  rw[c7'] at hk
  (repeat' first|simp (disch:=omega) only[go_sem,qa5,enter]|refine q00 _ (hf) ?_|refine q00 _ (hk) ?_|(apply spl<;>intro h<;>try simp (disch:=omega) only[go_sem,h]))
 rw[if_neg c7] at hkn
 by_cases c14:x.s.op=14∧(lkM s x.s.name).2=false
 ·rw[hkn,if_pos c14]
  obtain ⟨c14,c14'⟩:=c14
  rw[c14'] at hl
  (repeat' first|simp (disch:=omega) only[go_sem,qa5,enter]|refine q00 _ (hf) ?_|refine q00 _ (hk) ?_|refine q00 _ (hl) ?_|(apply spl<;>intro h<;>try simp (disch:=omega) only[go_sem,h]))
 rw[if_neg c14] at hkn
 rw[hkn]
 have hkk:x.s.op=7→q2m x.s.name=true:=fun h=>by
  cases q:q2m x.s.name with
  | true=>rfl
  | false=>exact (c7 ⟨h,q⟩).elim
 have hll:x.s.op=14→(lkM s x.s.name).2=true:=fun h=>by
  cases q:(lkM s x.s.name).2 with
  | true=>rfl
  | false=>exact (c14 ⟨h,q⟩).elim
 by_cases h7:x.s.op=7
 ·rw[hkk h7] at hk
  (repeat' first|simp (disch:=omega) only[go_sem,qa5,enter,List.length_map]|refine q00 _ (hf) ?_|refine q00 _ (hk) ?_|refine q00 _ (hl) ?_|(apply spl<;>intro h<;>try simp (disch:=omega) only[go_sem,h]))
  refine q08 (α:=Nat) (fun k=>{ tmps:=q0i 55 [(7,.mref 0),(38,.tsl 17 (x.p.map q0h)),(39,.int .i64 x.p.length),(40,.int .i64 k)],heap:=[.map (q1K ((q0J x).take k))],base:=0 }) (fun k=>k≤x.p.length∧qh8 (q0J x)=q8b ((q0J x).take k) ((q0J x).drop k)) (fun k=>x.p.length-k) 0 (by first | rfl | (simp only[List.length_map]; rfl)) ⟨Nat.zero_le _,rfl⟩ ?_
  rintro k ⟨hk,hd⟩
  by_cases hlt:k<x.p.length
  ·obtain ⟨y,hy⟩:=q06 hlt
   have hy2:=q09 (g:=q0h) hy
   have hy3:=q3R hy
   rw[q0m] at hy2
   rw[q50 hy3] at hd
   obtain ⟨f1,f2⟩:=q24 y.1.key ((q0J x).take k) 0
   cases hc:((q0J x).take k).any (fun z=>z == y.1.key) with
   | true=>
    obtain ⟨j,g1,g2⟩:=f2 hc
    rw[Nat.zero_add] at g1 g2
    rw[hc,Bool.true_or] at hd
    rw[hd,if_pos rfl]
    (repeat' first|simp (disch:=omega) only[go_sem,hy2,List.length_map,g1,g2]|(apply spl<;>intro h<;>try simp (disch:=omega) only[go_sem,h]))
   | false=>
    have g1:=f1 hc
    rw[hc,Bool.false_or] at hd
    have e:q1K ((q0J x).take k)++[(.str y.1.key,.int .i64 1)]=q1K ((q0J x).take (k+1)):=by
     rw[List.take_add_one,hy3]
     simp [q1K]
    obtain ⟨j,g2,_⟩:=(q24 y.1.key ((q0J x).take (k+1)) 0).2 (by rw[List.take_add_one,hy3]; simp)
    (repeat' first|simp (disch:=omega) only[go_sem,hy2,List.length_map,g1,e,g2]|(apply spl<;>intro h<;>try simp (disch:=omega) only[go_sem,h]))
    all_goals first | omega | skip
    exact ⟨k+1,(q5K (.cons (qaj _) (.cons (q7e _ _ _) .nil))).trans rfl,⟨hlt,hd⟩,by omega⟩
  ·rw[q6y (by rw[q2t]; omega) hd,if_neg (by simp)]
   (repeat' first|simp (disch:=omega) only[go_sem,List.length_map]|(apply spl<;>intro h<;>try simp (disch:=omega) only[go_sem,h]))
 ·by_cases h14:x.s.op=14
  ·rw[hll h14] at hl
   (repeat' first|simp (disch:=omega) only[go_sem,qa5,enter,List.length_map]|refine q00 _ (hf) ?_|refine q00 _ (hk) ?_|refine q00 _ (hl) ?_|(apply spl<;>intro h<;>try simp (disch:=omega) only[go_sem,h]))
   refine q08 (α:=Nat) (fun k=>{ tmps:=q0i 55 [(7,.mref 0),(38,.tsl 17 (x.p.map q0h)),(39,.int .i64 x.p.length),(40,.int .i64 k)],heap:=[.map (q1K ((q0J x).take k))],base:=0 }) (fun k=>k≤x.p.length∧qh8 (q0J x)=q8b ((q0J x).take k) ((q0J x).drop k)) (fun k=>x.p.length-k) 0 (by first | rfl | (simp only[List.length_map]; rfl)) ⟨Nat.zero_le _,rfl⟩ ?_
   rintro k ⟨hk,hd⟩
   by_cases hlt:k<x.p.length
   ·obtain ⟨y,hy⟩:=q06 hlt
    have hy2:=q09 (g:=q0h) hy
    have hy3:=q3R hy
    rw[q0m] at hy2
    rw[q50 hy3] at hd
    obtain ⟨f1,f2⟩:=q24 y.1.key ((q0J x).take k) 0
    cases hc:((q0J x).take k).any (fun z=>z == y.1.key) with
    | true=>
     obtain ⟨j,g1,g2⟩:=f2 hc
     rw[Nat.zero_add] at g1 g2
     rw[hc,Bool.true_or] at hd
     rw[hd,if_pos rfl]
     (repeat' first|simp (disch:=omega) only[go_sem,hy2,List.length_map,g1,g2]|(apply spl<;>intro h<;>try simp (disch:=omega) only[go_sem,h]))
    | false=>
     have g1:=f1 hc
     rw[hc,Bool.false_or] at hd
     have e:q1K ((q0J x).take k)++[(.str y.1.key,.int .i64 1)]=q1K ((q0J x).take (k+1)):=by
      rw[List.take_add_one,hy3]
      simp [q1K]
     obtain ⟨j,g2,_⟩:=(q24 y.1.key ((q0J x).take (k+1)) 0).2 (by rw[List.take_add_one,hy3]; simp)
     (repeat' first|simp (disch:=omega) only[go_sem,hy2,List.length_map,g1,e,g2]|(apply spl<;>intro h<;>try simp (disch:=omega) only[go_sem,h]))
     all_goals first | omega | skip
     exact ⟨k+1,(q5K (.cons (qaj _) (.cons (q7e _ _ _) .nil))).trans rfl,⟨hlt,hd⟩,by omega⟩
   ·rw[q6y (by rw[q2t]; omega) hd,if_neg (by simp)]
    (repeat' first|simp (disch:=omega) only[go_sem,List.length_map]|(apply spl<;>intro h<;>try simp (disch:=omega) only[go_sem,h]))
  ·(repeat' first|simp (disch:=omega) only[go_sem,qa5,enter,List.length_map]|refine q00 _ (hf) ?_|refine q00 _ (hk) ?_|refine q00 _ (hl) ?_|(apply spl<;>intro h<;>try simp (disch:=omega) only[go_sem,h]))
   refine q08 (α:=Nat) (fun k=>{ tmps:=q0i 55 [(7,.mref 0),(38,.tsl 17 (x.p.map q0h)),(39,.int .i64 x.p.length),(40,.int .i64 k)],heap:=[.map (q1K ((q0J x).take k))],base:=0 }) (fun k=>k≤x.p.length∧qh8 (q0J x)=q8b ((q0J x).take k) ((q0J x).drop k)) (fun k=>x.p.length-k) 0 (by first | rfl | (simp only[List.length_map]; rfl)) ⟨Nat.zero_le _,rfl⟩ ?_
   rintro k ⟨hk,hd⟩
   by_cases hlt:k<x.p.length
   ·obtain ⟨y,hy⟩:=q06 hlt
    have hy2:=q09 (g:=q0h) hy
    have hy3:=q3R hy
    rw[q0m] at hy2
    rw[q50 hy3] at hd
    obtain ⟨f1,f2⟩:=q24 y.1.key ((q0J x).take k) 0
    cases hc:((q0J x).take k).any (fun z=>z == y.1.key) with
    | true=>
     obtain ⟨j,g1,g2⟩:=f2 hc
     rw[Nat.zero_add] at g1 g2
     rw[hc,Bool.true_or] at hd
     rw[hd,if_pos rfl]
     (repeat' first|simp (disch:=omega) only[go_sem,hy2,List.length_map,g1,g2]|(apply spl<;>intro h<;>try simp (disch:=omega) only[go_sem,h]))
    | false=>
     have g1:=f1 hc
     rw[hc,Bool.false_or] at hd
     have e:q1K ((q0J x).take k)++[(.str y.1.key,.int .i64 1)]=q1K ((q0J x).take (k+1)):=by
      rw[List.take_add_one,hy3]
      simp [q1K]
     obtain ⟨j,g2,_⟩:=(q24 y.1.key ((q0J x).take (k+1)) 0).2 (by rw[List.take_add_one,hy3]; simp)
     (repeat' first|simp (disch:=omega) only[go_sem,hy2,List.length_map,g1,e,g2]|(apply spl<;>intro h<;>try simp (disch:=omega) only[go_sem,h]))
     all_goals first | omega | skip
     exact ⟨k+1,(q5K (.cons (qaj _) (.cons (q7e _ _ _) .nil))).trans rfl,⟨hlt,hd⟩,by omega⟩
   ·rw[q6y (by rw[q2t]; omega) hd,if_neg (by simp)]
    (repeat' first|simp (disch:=omega) only[go_sem,List.length_map]|(apply spl<;>intro h<;>try simp (disch:=omega) only[go_sem,h]))
end Ago
set_option maxRecDepth 100000
set_option maxHeartbeats 16000000
namespace Ago
open Go (IntKind)
def q59:List Int→Int
 | []=>0
 | e::l=>if e=0 then q59 l else e
theorem q89 {α:Type} {f:α→Int} : ∀ {l:List α} {k:Nat} {y:α},l[k]?=some y→(l.take k).all (fun z=>f z == 0)=true→f y≠0→q59 (l.map f)=f y
 | [],_,_,h,_,_=>by simp at h
 | z::l,0,y,h,_,he=>by
  simp at h
  subst h
  simp [q59,he]
 | z::l,k+1,y,h,ha,he=>by
  simp only[List.take_succ_cons,List.all_cons,Bool.and_eq_true,beq_iff_eq] at ha
  simp only[List.map_cons,q59]
  rw[if_pos ha.1]
  exact q89 (by simpa using h) ha.2 he
theorem q5u {α:Type} {f:α→Int} : ∀ {l:List α},l.all (fun z=>f z == 0)=true→q59 (l.map f)=0
 | [],_=>rfl
 | z::l,ha=>by
  simp only[List.all_cons,Bool.and_eq_true,beq_iff_eq] at ha
  simp only[List.map_cons,q59]
  rw[if_pos ha.1]
  exact q5u ha.2
def q0I (s:Schs):Nat→Sch→Int
 | 0,_=>0
 | d+1,x=>if q63 s x=0 then q59 (x.kids.map (q0I s d)) else q63 s x
theorem q8z (s:Schs) (x:Sch):q0I s 0 x=0:=(rfl)
theorem q5o (s:Schs) (d:Nat) (x:Sch):q0I s (d+1) x=if q63 s x=0 then q59 (x.kids.map (q0I s d)) else q63 s x:=(rfl)
def q1U:Nat→Sch→Bool
 | 0,_=>true
 | d+1,x=>x.kids.any (q1U d)
theorem q6i (x:Sch):q1U 0 x=true:=(rfl)
theorem q6v (d:Nat) (x:Sch):q1U (d+1) x=x.kids.any (q1U d):=(rfl)
theorem q5y : ∀ (d:Nat) (D:Int),D=d→d<2^30→∀ x:Sch,x.bulk≤2^24→q0f CS 487 [q03 x,.int .i64 D] (.bool (q1U d x)):=by
 intro d
 induction d with
 | zero=>
  intro D hD hd x hx
  refine q04 qg8 rfl ?_
  rw[q01,q6i]
  (repeat' first|simp (disch:=omega) only[go_sem,qg8,enter,List.length_map]|(apply spl<;>intro h<;>try simp (disch:=omega) only[go_sem,h]))
  all_goals omega
 | succ d ih=>
  intro D hD hd x hx
  have hp:=q3G x hx
  have hkl:=q4S x
  rw[q6v]
  refine q04 qg8 rfl ?_
  rw[q01] at hp ⊢
  (repeat' first|simp (disch:=omega) only[go_sem,qg8,enter,List.length_map]|refine q00 _ (hp) ?_|(apply spl<;>intro h<;>try simp (disch:=omega) only[go_sem,h]))
  all_goals try omega
  refine q08 (α:=Nat) (fun k=>{ tmps:=q0i 24 [(1,.int .i64 D),(5,.tsl 15 (x.kids.map q03)),(6,.int .i64 k)],heap:=[],base:=0 }) (fun k=>k≤x.kids.length∧(x.kids.take k).any (q1U d)=false) (fun k=>x.kids.length-k) 0 rfl ⟨Nat.zero_le _,rfl⟩ ?_
  rintro k ⟨hk,ha⟩
  by_cases hlt:k<x.kids.length
  ·obtain ⟨y,hy⟩:=q06 hlt
   have hym:=List.mem_of_getElem? hy
   have hy2:=q09 (g:=q03) hy
   have hr:=ih (D-1) (by omega) (by omega) y (by have:=Sch.kids_bulk hym; omega)
   rw[q01] at hy2 hr
   cases hc:q1U d y with
   | true=>
    rw[hc] at hr
    rw[qbj hy hc]
    (repeat' first|simp (disch:=omega) only[go_sem,hy2,List.length_map]|refine q00 _ (hr) ?_|(apply spl<;>intro h<;>try simp (disch:=omega) only[go_sem,h]))
    all_goals omega
   | false=>
    rw[hc] at hr
    (repeat' first|simp (disch:=omega) only[go_sem,hy2,List.length_map]|refine q00 _ (hr) ?_|(apply spl<;>intro h<;>try simp (disch:=omega) only[go_sem,h]))
    all_goals try omega
    exact ⟨k+1,rfl,⟨hlt,q47 hy ha hc⟩,by omega⟩
  ·rw[q0C hlt hk] at ha
   rw[ha]
   (repeat' first|simp (disch:=omega) only[go_sem,List.length_map]|(apply spl<;>intro h<;>try simp (disch:=omega) only[go_sem,h]))
theorem q6Q (s:Schs) (hs:s.bulk≤2^24) : ∀ (d:Nat) (D:Int),D=d→d<2^30→∀ x:Sch,x.bulk≤2^24→q0f CS 488 [q0Z s,q03 x,.int .i64 D] (.int .i64 (q0I s d x)):=by
 intro d
 induction d with
 | zero=>
  intro D hD hd x hx
  refine q04 qcI rfl ?_
  rw[q01,q8z,q0n]
  (repeat' first|simp (disch:=omega) only[go_sem,qcI,enter,List.length_map]|(apply spl<;>intro h<;>try simp (disch:=omega) only[go_sem,h]))
  all_goals omega
 | succ d ih=>
  intro D hD hd x hx
  have hn:=qdB s x hs hx
  have hp:=q3G x hx
  have hkl:=q4S x
  rw[q5o]
  refine q04 qcI rfl ?_
  have hse:=q0n s
  rw[q01] at hp hn ⊢
  rw[q0n] at hn ⊢
  by_cases he:q63 s x=0
  ·rw[if_pos he]
   rw[he] at hn
   (repeat' first|simp (disch:=omega) only[go_sem,qcI,enter,List.length_map]|refine q00 _ (hn) ?_|refine q00 _ (hp) ?_|(apply spl<;>intro h<;>try simp (disch:=omega) only[go_sem,h]))
   all_goals try omega
   refine q08 (α:=Nat) (fun k=>{ tmps:=q0i 38 [(2,.int .i64 D),(3,.ptr 16 0 0 0),(8,.tsl 15 (x.kids.map q03)),(9,.int .i64 k)],heap:=[.row 16 [q0Z s] false true 0],base:=0 }) (fun k=>k≤x.kids.length∧(x.kids.take k).all (fun z=>q0I s d z == 0)=true) (fun k=>x.kids.length-k) 0 (by rw[q0n]; rfl) ⟨Nat.zero_le _,rfl⟩ ?_
   rintro k ⟨hk,ha⟩
   rw[q0n]
   by_cases hlt:k<x.kids.length
   ·obtain ⟨y,hy⟩:=q06 hlt
    have hym:=List.mem_of_getElem? hy
    have hy2:=q09 (g:=q03) hy
    have hr:=ih (D-1) (by omega) (by omega) y (by have:=Sch.kids_bulk hym; omega)
    rw[q01] at hy2 hr
    rw[q0n] at hr
    by_cases hc:q0I s d y=0
    ·rw[hc] at hr
     (repeat' first|simp (disch:=omega) only[go_sem,hy2,List.length_map]|refine q00 _ (hr) ?_|(apply spl<;>intro h<;>try simp (disch:=omega) only[go_sem,h]))
     all_goals try omega
     refine ⟨k+1,?_,⟨hlt,q0A hy ha (by simp [hc])⟩,by omega⟩
     first | rfl | (rw[hse]; rfl)
    ·rw[q89 hy ha hc]
     (repeat' first|simp (disch:=omega) only[go_sem,hy2,List.length_map]|refine q00 _ (hr) ?_|(apply spl<;>intro h<;>try simp (disch:=omega) only[go_sem,h]))
     all_goals omega
   ·rw[q0C hlt hk] at ha
    rw[q5u ha]
    (repeat' first|simp (disch:=omega) only[go_sem,List.length_map]|(apply spl<;>intro h<;>try simp (disch:=omega) only[go_sem,h]))
  ·rw[if_neg he]
   (repeat' first|simp (disch:=omega) only[go_sem,qcI,enter,List.length_map]|refine q00 _ (hn) ?_|refine q00 _ (hp) ?_|(apply spl<;>intro h<;>try simp (disch:=omega) only[go_sem,h]))
   all_goals omega
theorem qdX (s:Schs) (hs:s.bulk≤2^24) : ∀ (d:Nat) (D:Int),D=49-d→d≤48→∀ x:Sch,x.bulk≤2^24→q0f CS 486 [q0Z s,q03 x,.int .i64 D] (.tup [.bool (decide (q0I s d x=0) && q1U d x),.int .i64 (q0I s d x)]):=by
 intro d
 induction d with
 | zero=>
  intro D hD hd x hx
  refine q04 qcL rfl ?_
  rw[q01,q8z,q6i,q0n]
  (repeat' first|simp (disch:=omega) only[go_sem,qcL,enter,List.length_map]|(apply spl<;>intro h<;>try simp (disch:=omega) only[go_sem,h]))
  all_goals omega
 | succ d ih=>
  intro D hD hd x hx
  have hn:=qky s x hs hx
  have hp:=qbD x hx
  have hkl:=q4S x
  rw[q5o,q6v]
  refine q04 qcL rfl ?_
  have hse:=q0n s
  rw[q01] at hp hn ⊢
  rw[q0n] at hn ⊢
  by_cases he:q63 s x=0
  ·rw[if_pos he]
   rw[he] at hn
   (repeat' first|simp (disch:=omega) only[go_sem,qcL,enter,List.length_map]|refine q00 _ (hn) ?_|refine q00 _ (hp) ?_|(apply spl<;>intro h<;>try simp (disch:=omega) only[go_sem,h]))
   all_goals try omega
   refine q08 (α:=Nat) (fun k=>{ tmps:=q0i 46 [(2,.int .i64 D),(3,.ptr 16 0 0 0),(9,.bool ((x.kids.take k).any (q1U d))),(23,.tsl 15 (x.kids.map q03)),(24,.int .i64 x.kids.length),(25,.int .i64 k)],heap:=[.row 16 [q0Z s] false true 0],base:=0 }) (fun k=>k≤x.kids.length∧(x.kids.take k).all (fun z=>q0I s d z == 0)=true) (fun k=>x.kids.length-k) 0 (by rw[q0n]; rfl) ⟨Nat.zero_le _,rfl⟩ ?_
   rintro k ⟨hk,ha⟩
   rw[q0n]
   by_cases hlt:k<x.kids.length
   ·obtain ⟨y,hy⟩:=q06 hlt
    have hym:=List.mem_of_getElem? hy
    have hy2:=q09 (g:=q03) hy
    have hr:=ih (D+1) (by omega) (by omega) y (by have:=Sch.kids_bulk hym; omega)
    rw[q01] at hy2 hr
    rw[q0n] at hr
    by_cases hc:q0I s d y=0
    ·rw[hc,decide_eq_true rfl,Bool.true_and] at hr
     have hany:(x.kids.take (k+1)).any (q1U d)=((x.kids.take k).any (q1U d) || q1U d y):=by
      rw[List.take_add_one,hy]
      simp
     cases hb:(x.kids.take k).any (q1U d)
     ·rw[hb,Bool.false_or] at hany
      (repeat' first|simp (disch:=omega) only[go_sem,hy2,List.length_map]|refine q00 _ (hr) ?_|(apply spl<;>intro h<;>try simp (disch:=omega) only[go_sem,h]))
      all_goals try omega
      refine ⟨k+1,?_,⟨hlt,q0A hy ha (by simp [hc])⟩,by omega⟩
      simp only[hany]
      first | rfl | (rw[hse]; rfl)
     ·rw[hb,Bool.true_or] at hany
      (repeat' first|simp (disch:=omega) only[go_sem,hy2,List.length_map]|refine q00 _ (hr) ?_|(apply spl<;>intro h<;>try simp (disch:=omega) only[go_sem,h]))
      all_goals try omega
      refine ⟨k+1,?_,⟨hlt,q0A hy ha (by simp [hc])⟩,by omega⟩
      simp only[hany]
      first | rfl | (rw[hse]; rfl)
    ·rw[q89 hy ha hc,decide_eq_false hc,Bool.false_and]
     (repeat' first|simp (disch:=omega) only[go_sem,hy2,List.length_map]|refine q00 _ (hr) ?_|(apply spl<;>intro h<;>try simp (disch:=omega) only[go_sem,h]))
     all_goals omega
   ·rw[q0C hlt hk] at ha ⊢
    rw[q5u ha,decide_eq_true rfl,Bool.true_and]
    (repeat' first|simp (disch:=omega) only[go_sem,List.length_map]|(apply spl<;>intro h<;>try simp (disch:=omega) only[go_sem,h]))
  ·rw[if_neg he,decide_eq_false he,Bool.false_and]
   (repeat' first|simp (disch:=omega) only[go_sem,qcL,enter,List.length_map]|refine q00 _ (hn) ?_|refine q00 _ (hp) ?_|(apply spl<;>intro h<;>try simp (disch:=omega) only[go_sem,h]))
   all_goals omega
end Ago
set_option maxRecDepth 100000
set_option maxHeartbeats 16000000
namespace Ago
open Go (IntKind)
def q4w (n:List UInt8):Bool:=decide (1≤n.length∧n.length≤64) && utf n
def q7u (s:Schs):List (List UInt8 × Sch)→List (List UInt8 × Sch)→Int
 | _,[]=>0
 | pre,d::l=>if q4w d.1=false then 1 else if (pre.any fun e=>e.1 == d.1)=true then 8 else if q0I s 48 d.2=0 then q7u s (pre++[d]) l else q0I s 48 d.2
theorem q9E {s:Schs} {k:Nat} {d:List UInt8 × Sch} (hd:s.defs[k]?=some d):q7u s (s.defs.take k) (s.defs.drop k)=if q4w d.1=false then 1 else if ((s.defs.take k).any fun e=>e.1 == d.1)=true then 8 else if q0I s 48 d.2=0 then q7u s (s.defs.take (k+1)) (s.defs.drop (k+1)) else q0I s 48 d.2:=by
 rw[q70 hd]
 have:s.defs.take (k+1)=s.defs.take k++[d]:=by rw[List.take_add_one,hd]; rfl
 rw[this]
 rfl
theorem qb6 {s:Schs} {k:Nat} (h:s.defs.length≤k):q7u s (s.defs.take k) (s.defs.drop k)=0:=by
 rw[List.drop_of_length_le h]
 rfl
def q8F (l:List (List UInt8 × Sch)):Nat:=(l.map fun d=>q53 48 d.2).sum
def q3Z (l:List (List UInt8 × Sch)):Bool:=l.any fun d=>q1U 48 d.2
def q2L (s:Schs) (g:Bool):Int:=
 if q7u s [] s.defs=0 then
  (if q0I s 48 s.root=0 then
   (if (q3Z s.defs || q1U 48 s.root)=true then 9 else if 1024<q8F s.defs+q53 48 s.root∨64<s.defs.length then 10 else if g=false then 23 else 0)
  else q0I s 48 s.root)
 else q7u s [] s.defs
theorem qbb {s:Schs} {k:Nat} {d:List UInt8 × Sch} (hd:s.defs[k]?=some d):q8F (s.defs.take (k+1))=q8F (s.defs.take k)+q53 48 d.2:=q5C _ _ _ _ hd
theorem q9e {s:Schs} {k:Nat} {d:List UInt8 × Sch} (hd:s.defs[k]?=some d):q3Z (s.defs.take (k+1))=(q3Z (s.defs.take k) || q1U 48 d.2):=by
 unfold q3Z
 rw[List.take_add_one,hd]
 simp
theorem qgt (s:Schs) (k:Nat):q8F (s.defs.take k)+q53 48 s.root≤s.bulk:=by
 have h1:q8F (s.defs.take k)≤q8F s.defs:=q3h _ _ _
 have h2:q8F s.defs≤AV.bulks (s.defs.map q1C):=by
  unfold q8F
  have : ∀ l:List (List UInt8 × Sch),(l.map fun d=>q53 48 d.2).sum≤AV.bulks (l.map q1C):=by
   intro l
   induction l with
   | nil=>simp
   | cons d l ih=>
    have:=q6J 48 d.2
    have:=q8w d
    simp only[List.map_cons,List.sum_cons,AV.bulks]
    omega
  exact this _
 have:=q6J 48 s.root
 have:=s.bulk_eq
 omega
def qcs (s:Schs) (b:Bool) (n:Int):Heap:=[.row 16 [q0Z s] false true 0,.row 1 [.bool b] false true 1,.row 1 [.int .i64 n] false true 2]
theorem ql1 (s:Schs) (hs:s.bulk≤2^24) (x:Sch) (hx:x.bulk≤2^24) (b:Bool) (n:Int) (hn:0≤n) (hn2:n≤2^40):q1M CS 485 [q03 x,.ptr 16 0 0 0,.ptr 1 1 0 0,.ptr 1 2 0 0] (qcs s b n) (.int .i64 (q0I s 48 x)) (qcs s (b || (decide (q0I s 48 x=0) && q1U 48 x)) (n+q53 48 x)):=by
 have h1:=qdX s hs 48 1 rfl (by decide) x hx
 have h2:=qe7 x hx
 have hc:=q6J 48 x
 refine q1X qbU rfl ?_
 unfold qcs
 rw[q01] at h1 h2 ⊢
 rw[q0n] at h1 ⊢
 obtain ⟨m,hm⟩ : ∃ m,(decide (q0I s 48 x=0) && q1U 48 x)=m:=⟨_,rfl⟩
 rw[hm] at h1 ⊢
 cases b
 ·rw[Bool.false_or]
  (repeat' first|simp (disch:=omega) only[go_sem,qbU,enter]|refine q00 _ (h1) ?_|refine q00 _ (h2) ?_|(apply spl<;>intro h<;>try simp (disch:=omega) only[go_sem,h]))
  exact q5H (.inr rfl) (.int .i64 (q0I s 48 x)) rfl rfl rfl
 ·rw[Bool.true_or]
  (repeat' first|simp (disch:=omega) only[go_sem,qbU,enter]|refine q00 _ (h1) ?_|refine q00 _ (h2) ?_|(apply spl<;>intro h<;>try simp (disch:=omega) only[go_sem,h]))
  exact q5H (.inr rfl) (.int .i64 (q0I s 48 x)) rfl rfl rfl
theorem qjx (s:Schs) (hs:s.bulk≤2^24) (x:Sch) (hx:x.bulk≤2^24) (b:Bool) (n:Int) (hn:0≤n) (hn2:n≤2^40) (d:AV):q1M CS 485 [q03 x,.ptr 16 0 0 0,.ptr 1 1 0 0,.ptr 1 2 0 0] (qcs s b n++[.row 16 [d] false true 3]) (.int .i64 (q0I s 48 x)) (qcs s (b || (decide (q0I s 48 x=0) && q1U 48 x)) (n+q53 48 x)++[.row 16 [d] false true 3]):=by
 have h1:=qdX s hs 48 1 rfl (by decide) x hx
 have h2:=qe7 x hx
 have hc:=q6J 48 x
 refine q1X qbU rfl ?_
 unfold qcs
 rw[q01] at h1 h2 ⊢
 rw[q0n] at h1 ⊢
 obtain ⟨m,hm⟩ : ∃ m,(decide (q0I s 48 x=0) && q1U 48 x)=m:=⟨_,rfl⟩
 rw[hm] at h1 ⊢
 cases b
 ·rw[Bool.false_or]
  (repeat' first|simp (disch:=omega) only[go_sem,qbU,enter]|refine q00 _ (h1) ?_|refine q00 _ (h2) ?_|(apply spl<;>intro h<;>try simp (disch:=omega) only[go_sem,h]))
  exact q5H (.inr rfl) (.int .i64 (q0I s 48 x)) rfl rfl rfl
 ·rw[Bool.true_or]
  (repeat' first|simp (disch:=omega) only[go_sem,qbU,enter]|refine q00 _ (h1) ?_|refine q00 _ (h2) ?_|(apply spl<;>intro h<;>try simp (disch:=omega) only[go_sem,h]))
  exact q5H (.inr rfl) (.int .i64 (q0I s 48 x)) rfl rfl rfl
end Ago
set_option maxRecDepth 100000
set_option maxHeartbeats 16000000
namespace Ago
open Go (IntKind)
theorem q7i {n:List UInt8} (h : ¬ (1≤n.length∧n.length≤64)∨utf n=false):q4w n=false:=by
 unfold q4w
 rcases h with h | h
 ·rw[decide_eq_false h]; rfl
 ·rw[h,Bool.and_false]
theorem qin (s:Schs) (hs:s.bulk≤2^24) (w:List UInt8) (g:Bool) (hg:q0f CS 459 [q0Z s] (.tup [.str w,.bool g])):q0f CS 454 [q0Z s] (.int .i64 (q2L s g)):=by
 obtain ⟨hd1,hd2⟩:=Schs.dlen hs
 have hrb:s.root.bulk≤2^24:=by
  have:=s.bulk_eq
  omega
 have hse:=q0n s
 refine q04 qk0 rfl ?_
 rw[q0n] at hg ⊢
 (repeat' first|simp (disch:=omega) only[go_sem,qk0,enter,List.length_map]|(apply spl<;>intro h<;>try simp (disch:=omega) only[go_sem,h]))
 refine q08 (α:=Nat) (fun k=>{ tmps:=q0i 85 [(1,.ptr 16 0 0 0),(3,.ptr 1 1 0 0),(4,.ptr 1 2 0 0),(5,.fn 485 [.ptr 16 0 0 0,.ptr 1 1 0 0,.ptr 1 2 0 0]),(16,.tsl 16 (s.defs.map q1C)),(17,.int .i64 s.defs.length),(18,.int .i64 k)],heap:=qcs s (q3Z (s.defs.take k)) (q8F (s.defs.take k):Nat),base:=0 }) (fun k=>k≤s.defs.length∧q7u s [] s.defs=q7u s (s.defs.take k) (s.defs.drop k)) (fun k=>s.defs.length-k) 0 (by unfold qcs; rw[hse]; rfl) ⟨Nat.zero_le _,rfl⟩ ?_
 rintro k ⟨hk,he⟩
 have hsm:=qgt s k
 by_cases hlt:k<s.defs.length
 ·obtain ⟨d,hdk⟩:=q06 hlt
  have hdm:=List.mem_of_getElem? hdk
  have hde:=q09 (g:=q1C) hdk
  obtain ⟨hdb,hdn⟩:=hd2 d hdm
  rw[q9E hdk] at he
  have hu:=upS (q76 d.1 (by omega))
  rw[q1P] at hde
  by_cases c1:1≤d.1.length∧d.1.length≤64
  case neg=>
   rw[if_pos (q7i (.inl c1))] at he
   have hR:q2L s g=1:=by unfold q2L; rw[he]; rfl
   rw[hR]
   unfold qcs
   rw[hse]
   (repeat' first|simp (disch:=omega) only[go_sem,hde,List.length_map]|refine q00 _ (hu) ?_|(apply spl<;>intro h<;>try simp (disch:=omega) only[go_sem,h]))
   all_goals omega
  cases c2:utf d.1
  case false=>
   rw[if_pos (q7i (.inr c2))] at he
   have hR:q2L s g=1:=by unfold q2L; rw[he]; rfl
   rw[hR]
   rw[c2] at hu
   unfold qcs
   rw[hse]
   (repeat' first|simp (disch:=omega) only[go_sem,hde,List.length_map]|refine q00 _ (hu) ?_|(apply spl<;>intro h<;>try simp (disch:=omega) only[go_sem,h]))
   all_goals omega
  rw[c2] at hu
  have hnm:q4w d.1=true:=by unfold q4w; rw[decide_eq_true c1,c2]; rfl
  rw[if_neg (by rw[hnm]; simp)] at he
  have hlk:((s.defs.map q1C).take k).length=k:=by rw[List.length_take,List.length_map]; omega
  have hR : ∃ r,q2L s g=r:=⟨_,rfl⟩
  unfold qcs
  rw[hse]
  (repeat' first|simp (disch:=omega) only[go_sem,hde,List.length_map,hlk]|refine q00 _ (hu) ?_|(apply spl<;>intro h<;>try simp (disch:=omega) only[go_sem,h]))
  all_goals try omega
  refine q08 (α:=Nat) (fun j=>{ tmps:=q0i 85 [(1,.ptr 16 0 0 0),(3,.ptr 1 1 0 0),(4,.ptr 1 2 0 0),(5,.fn 485 [.ptr 16 0 0 0,.ptr 1 1 0 0,.ptr 1 2 0 0]),(7,.ptr 16 3 0 0),(16,.tsl 16 (s.defs.map q1C)),(17,.int .i64 s.defs.length),(18,.int .i64 k),(42,.tsl 16 ((s.defs.map q1C).take k)),(43,.int .i64 k),(44,.int .i64 j)],heap:=qcs s (q3Z (s.defs.take k)) (q8F (s.defs.take k):Nat)++[.row 16 [q1C d] false true 3],base:=0 }) (fun j=>j≤k∧((s.defs.take k).take j).any (fun e=>e.1 == d.1)=false) (fun j=>k-j) 0 (by unfold qcs; rw[hse,q1P]; rfl) ⟨Nat.zero_le _,rfl⟩ ?_
  rintro j ⟨hj,haj⟩
  have hkl:(s.defs.take k).length=k:=by rw[List.length_take]; omega
  by_cases hjl:j<k
  ·obtain ⟨e,hej⟩ : ∃ e,(s.defs.take k)[j]?=some e:=q06 (by omega)
   have hee:((s.defs.map q1C).take k)[j]?=some (q1C e):=by
    rw[←List.map_take]
    exact q09 hej
   rw[q1P] at hee
   unfold qcs
   rw[hse,q1P d]
   cases hb:e.1 == d.1 with
   | true=>
    rw[if_pos (qbj hej hb)] at he
    have hR:q2L s g=8:=by unfold q2L; rw[he]; rfl
    rw[hR]
    (repeat' first|simp (disch:=omega) only[go_sem,hee,hlk,hb,List.length_map]|(apply spl<;>intro h<;>try simp (disch:=omega) only[go_sem,h]))
   | false=>
    (repeat' first|simp (disch:=omega) only[go_sem,hee,hlk,hb,List.length_map]|(apply spl<;>intro h<;>try simp (disch:=omega) only[go_sem,h]))
    all_goals try omega
    refine ⟨j+1,?_,⟨hjl,q47 hej haj hb⟩,by omega⟩
    first | rfl | (rw[hse]; rfl)
  ·rw[q0C (by omega) (by omega)] at haj
   rw[if_neg (by rw[haj]; simp)] at he
   have hone:=qjx s hs d.2 (by omega) (q3Z (s.defs.take k)) (q8F (s.defs.take k):Nat) (by omega) (by omega) (q1C d)
   unfold qcs at hone ⊢
   rw[hse,q1P d] at hone ⊢
   rw[q01] at hone
   simp only[List.cons_append,List.nil_append] at hone
   by_cases hz:q0I s 48 d.2=0
   ·rw[if_pos hz] at he
    rw[hz,decide_eq_true rfl,Bool.true_and,←q9e hdk,←Int.natCast_add,←qbb hdk] at hone
    (repeat' first|simp (disch:=omega) only[go_sem,hlk,List.length_map]|(refine q0l _ _ hone ?_)|(apply spl<;>intro h<;>try simp (disch:=omega) only[go_sem,h]))
    all_goals try omega
    refine ⟨k+1,?_,⟨hlt,he⟩,by omega⟩
    first | rfl | (rw[hse]; rfl)
   ·rw[if_neg hz] at he
    have hR:q2L s g=q0I s 48 d.2:=by unfold q2L; rw[he,if_neg hz]
    rw[hR]
    (repeat' first|simp (disch:=omega) only[go_sem,hlk,List.length_map]|(refine q0l _ _ hone ?_)|(apply spl<;>intro h<;>try simp (disch:=omega) only[go_sem,h]))
    all_goals omega
 ·have hk2:k=s.defs.length:=by omega
  subst hk2
  rw[qb6 (Nat.le_refl _)] at he
  rw[List.take_length] at hsm ⊢
  have hone:=ql1 s hs s.root hrb (q3Z s.defs) (q8F s.defs:Nat) (by omega) (by omega)
  unfold qcs at hone ⊢
  rw[hse] at hone ⊢
  rw[q01] at hone
  have hR:q2L s g=if q0I s 48 s.root=0 then (if (q3Z s.defs || q1U 48 s.root)=true then 9 else if 1024<q8F s.defs+q53 48 s.root∨64<s.defs.length then 10 else if g=false then 23 else 0) else q0I s 48 s.root:=by
   unfold q2L
   rw[he]
   rfl
  rw[hR]
  by_cases hz:q0I s 48 s.root=0
  ·rw[if_pos hz]
   rw[hz,decide_eq_true rfl,Bool.true_and] at hone
   cases hdp:(q3Z s.defs || q1U 48 s.root)
   ·rw[hdp] at hone
    rw[if_neg (by simp)]
    by_cases hsz:1024<q8F s.defs+q53 48 s.root∨64<s.defs.length
    ·rw[if_pos hsz]
     (repeat' first|simp (disch:=omega) only[go_sem,List.length_map]|refine q00 _ (hg) ?_|(refine q0l _ _ hone ?_)|(apply spl<;>intro h<;>try simp (disch:=omega) only[go_sem,h]))
     all_goals omega
    ·rw[if_neg hsz]
     cases g
     ·rw[if_pos rfl]
      (repeat' first|simp (disch:=omega) only[go_sem,List.length_map]|refine q00 _ (hg) ?_|(refine q0l _ _ hone ?_)|(apply spl<;>intro h<;>try simp (disch:=omega) only[go_sem,h]))
      all_goals omega
     ·rw[if_neg (by simp)]
      (repeat' first|simp (disch:=omega) only[go_sem,List.length_map]|refine q00 _ (hg) ?_|(refine q0l _ _ hone ?_)|(apply spl<;>intro h<;>try simp (disch:=omega) only[go_sem,h]))
      all_goals omega
   ·rw[hdp] at hone
    rw[if_pos rfl]
    (repeat' first|simp (disch:=omega) only[go_sem,List.length_map]|refine q00 _ (hg) ?_|(refine q0l _ _ hone ?_)|(apply spl<;>intro h<;>try simp (disch:=omega) only[go_sem,h]))
    all_goals omega
  ·rw[if_neg hz]
   (repeat' first|simp (disch:=omega) only[go_sem,List.length_map]|refine q00 _ (hg) ?_|(refine q0l _ _ hone ?_)|(apply spl<;>intro h<;>try simp (disch:=omega) only[go_sem,h]))
   all_goals omega
theorem qaR (s:Schs) (hs:s.bulk≤2^24) (w:List UInt8) (g:Bool) (hg:q0f CS 460 [q0Z s] (.tup [.str w,.bool g])):q0f CS 455 [q0Z s] (.int .i64 (q2L s g)):=by
 obtain ⟨hd1,hd2⟩:=Schs.dlen hs
 have hrb:s.root.bulk≤2^24:=by
  have:=s.bulk_eq
  omega
 have hse:=q0n s
 have hr1:=q7R s.root hrb
 have hr2:=q5y 48 48 rfl (by decide) s.root hrb
 have hr3:=q6Q s hs 48 48 rfl (by decide) s.root hrb
 rw[q01] at hr1 hr2 hr3
 rw[q0n] at hr3
 refine q04 qle rfl ?_
 rw[q0n] at hg ⊢
 (repeat' first|simp (disch:=omega) only[go_sem,qle,enter,List.length_map]|refine q00 _ (hr1) ?_|refine q00 _ (hr2) ?_|(apply spl<;>intro h<;>try simp (disch:=omega) only[go_sem,h]))
 refine q08 (α:=Nat) (fun k=>{ tmps:=q0i 101 [(1,.ptr 16 0 0 0),(3,.int .i64 (q8F (s.defs.take k)+q53 48 s.root:Nat)),(4,.bool (q1U 48 s.root || q3Z (s.defs.take k))),(5,.int .i64 k)],heap:=[.row 16 [q0Z s] false true 0],base:=0 }) (fun k=>k≤s.defs.length∧q7u s [] s.defs=q7u s (s.defs.take k) (s.defs.drop k)) (fun k=>s.defs.length-k) 0 (by
  rw[hse,show q3Z (s.defs.take 0)=false from rfl,show q8F (s.defs.take 0)=0 from rfl,Bool.or_false,Nat.zero_add]
  rfl) ⟨Nat.zero_le _,rfl⟩ ?_
 rintro k ⟨hk,he⟩
 have hsm:=qgt s k
 rw[hse]
 by_cases hlt:k<s.defs.length
 ·obtain ⟨d,hdk⟩:=q06 hlt
  have hdm:=List.mem_of_getElem? hdk
  have hde:=q09 (g:=q1C) hdk
  obtain ⟨hdb,hdn⟩:=hd2 d hdm
  rw[q9E hdk] at he
  have hu:=upS (qam d.1 (by omega))
  rw[q1P] at hde
  by_cases c1:1≤d.1.length∧d.1.length≤64
  case neg=>
   rw[if_pos (q7i (.inl c1))] at he
   have hR:q2L s g=1:=by unfold q2L; rw[he]; rfl
   rw[hR]
   (repeat' first|simp (disch:=omega) only[go_sem,hde,List.length_map]|refine q00 _ (hu) ?_|(apply spl<;>intro h<;>try simp (disch:=omega) only[go_sem,h]))
   all_goals omega
  cases c2:utf d.1
  case false=>
   rw[if_pos (q7i (.inr c2))] at he
   have hR:q2L s g=1:=by unfold q2L; rw[he]; rfl
   rw[hR]
   rw[c2] at hu
   (repeat' first|simp (disch:=omega) only[go_sem,hde,List.length_map]|refine q00 _ (hu) ?_|(apply spl<;>intro h<;>try simp (disch:=omega) only[go_sem,h]))
   all_goals omega
  rw[c2] at hu
  have hnm:q4w d.1=true:=by unfold q4w; rw[decide_eq_true c1,c2]; rfl
  rw[if_neg (by rw[hnm]; simp)] at he
  obtain ⟨dp,hdp⟩ : ∃ b,(q1U 48 s.root || q3Z (s.defs.take k))=b:=⟨_,rfl⟩
  have hds:=q9e hdk
  rw[hdp]
  (repeat' first|simp (disch:=omega) only[go_sem,hde,List.length_map]|refine q00 _ (hu) ?_|(apply spl<;>intro h<;>try simp (disch:=omega) only[go_sem,h]))
  all_goals try omega
  refine q08 (α:=Nat) (fun j=>{ tmps:=q0i 101 [(1,.ptr 16 0 0 0),(3,.int .i64 (q8F (s.defs.take k)+q53 48 s.root:Nat)),(4,.bool dp),(5,.int .i64 k),(6,.ptr 16 1 0 0),(7,.int .i64 j)],heap:=[.row 16 [q0Z s] false true 0,.row 16 [q1C d] false true 1],base:=0 }) (fun j=>j≤k∧((s.defs.take k).take j).any (fun e=>e.1 == d.1)=false) (fun j=>k-j) 0 (by rw[hse,q1P]; rfl) ⟨Nat.zero_le _,rfl⟩ ?_
  rintro j ⟨hj,haj⟩
  have hkl:(s.defs.take k).length=k:=by rw[List.length_take]; omega
  rw[hse,q1P d]
  by_cases hjl:j<k
  ·obtain ⟨e,hej⟩ : ∃ e,(s.defs.take k)[j]?=some e:=q06 (by omega)
   have hej2:s.defs[j]?=some e:=by
    rw[List.getElem?_take_of_lt hjl] at hej
    exact hej
   have hee:=q09 (g:=q1C) hej2
   rw[q1P] at hee
   cases hb:e.1 == d.1 with
   | true=>
    rw[if_pos (qbj hej hb)] at he
    have hR:q2L s g=8:=by unfold q2L; rw[he]; rfl
    rw[hR]
    (repeat' first|simp (disch:=omega) only[go_sem,hee,hb,List.length_map]|(apply spl<;>intro h<;>try simp (disch:=omega) only[go_sem,h]))
    all_goals omega
   | false=>
    (repeat' first|simp (disch:=omega) only[go_sem,hee,hb,List.length_map]|(apply spl<;>intro h<;>try simp (disch:=omega) only[go_sem,h]))
    all_goals try omega
    refine ⟨j+1,?_,⟨hjl,q47 hej haj hb⟩,by omega⟩
    first | rfl | (rw[hse]; rfl)
  ·rw[q0C (by omega) (by omega)] at haj
   rw[if_neg (by rw[haj]; simp)] at he
   have q1:=q7R d.2 (by omega)
   have q2:=q5y 48 48 rfl (by decide) d.2 (by omega)
   have q3:=q6Q s hs 48 48 rfl (by decide) d.2 (by omega)
   have hcl:=q6J 48 d.2
   rw[q01] at q1 q2 q3
   rw[q0n] at q3
   have hss:=qbb hdk
   by_cases hz:q0I s 48 d.2=0
   ·rw[if_pos hz] at he
    rw[hz] at q3
    have e1:((q8F (s.defs.take k)+q53 48 s.root:Nat):Int)+(q53 48 d.2:Nat)=((q8F (s.defs.take (k+1))+q53 48 s.root:Nat):Int):=by rw[hss]; omega
    cases dp
    ·have e2:(q1U 48 s.root || q3Z (s.defs.take (k+1)))=q1U 48 d.2:=by rw[hds,←Bool.or_assoc,hdp,Bool.false_or]
     (repeat' first|simp (disch:=omega) only[go_sem,e1,List.length_map]|refine q00 _ (q1) ?_|refine q00 _ (q2) ?_|refine q00 _ (q3) ?_|(apply spl<;>intro h<;>try simp (disch:=omega) only[go_sem,h]))
     all_goals try omega
     refine ⟨k+1,?_,⟨hlt,he⟩,by omega⟩
     rw[e2]
     first | rfl | (rw[hse]; rfl)
    ·have e2:(q1U 48 s.root || q3Z (s.defs.take (k+1)))=true:=by rw[hds,←Bool.or_assoc,hdp,Bool.true_or]
     (repeat' first|simp (disch:=omega) only[go_sem,e1,List.length_map]|refine q00 _ (q1) ?_|refine q00 _ (q2) ?_|refine q00 _ (q3) ?_|(apply spl<;>intro h<;>try simp (disch:=omega) only[go_sem,h]))
     all_goals try omega
     refine ⟨k+1,?_,⟨hlt,he⟩,by omega⟩
     rw[e2]
     first | rfl | (rw[hse]; rfl)
   ·rw[if_neg hz] at he
    have hR:q2L s g=q0I s 48 d.2:=by unfold q2L; rw[he,if_neg hz]
    rw[hR]
    (repeat' first|simp (disch:=omega) only[go_sem,List.length_map]|refine q00 _ (q1) ?_|refine q00 _ (q2) ?_|refine q00 _ (q3) ?_|(apply spl<;>intro h<;>try simp (disch:=omega) only[go_sem,h]))
    all_goals omega
 ·have hk2:k=s.defs.length:=by omega
  subst hk2
  rw[qb6 (Nat.le_refl _)] at he
  rw[List.take_length] at hsm ⊢
  have hR:q2L s g=if q0I s 48 s.root=0 then (if (q3Z s.defs || q1U 48 s.root)=true then 9 else if 1024<q8F s.defs+q53 48 s.root∨64<s.defs.length then 10 else if g=false then 23 else 0) else q0I s 48 s.root:=by
   unfold q2L
   rw[he]
   rfl
  rw[hR,Bool.or_comm (q1U 48 s.root)]
  by_cases hz:q0I s 48 s.root=0
  ·rw[if_pos hz]
   rw[hz] at hr3
   cases hdp:(q3Z s.defs || q1U 48 s.root)
   ·rw[if_neg (by simp)]
    by_cases hsz:1024<q8F s.defs+q53 48 s.root∨64<s.defs.length
    ·rw[if_pos hsz]
     (repeat' first|simp (disch:=omega) only[go_sem,List.length_map]|refine q00 _ (hg) ?_|refine q00 _ (hr3) ?_|(apply spl<;>intro h<;>try simp (disch:=omega) only[go_sem,h]))
     all_goals omega
    ·rw[if_neg hsz]
     cases g
     ·rw[if_pos rfl]
      (repeat' first|simp (disch:=omega) only[go_sem,List.length_map]|refine q00 _ (hg) ?_|refine q00 _ (hr3) ?_|(apply spl<;>intro h<;>try simp (disch:=omega) only[go_sem,h]))
      all_goals omega
     ·rw[if_neg (by simp)]
      (repeat' first|simp (disch:=omega) only[go_sem,List.length_map]|refine q00 _ (hg) ?_|refine q00 _ (hr3) ?_|(apply spl<;>intro h<;>try simp (disch:=omega) only[go_sem,h]))
      all_goals omega
   ·rw[if_pos rfl]
    (repeat' first|simp (disch:=omega) only[go_sem,List.length_map]|refine q00 _ (hg) ?_|refine q00 _ (hr3) ?_|(apply spl<;>intro h<;>try simp (disch:=omega) only[go_sem,h]))
    all_goals omega
  ·rw[if_neg hz]
   (repeat' first|simp (disch:=omega) only[go_sem,List.length_map]|refine q00 _ (hg) ?_|refine q00 _ (hr3) ?_|(apply spl<;>intro h<;>try simp (disch:=omega) only[go_sem,h]))
   all_goals omega
end Ago
